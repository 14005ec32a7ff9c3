/- Functions of the program. -/
import Derived.Test.YtnabmjlpdcpaeaaAd0
section
set_option maxRecDepth 100000
set_option maxHeartbeats 4000000
set_option linter.unusedVariables false
set_option linter.unusedSimpArgs false
namespace Go.Am
open Go.Proofs
noncomputable def B_laws_eqBindingS (a0 : (Sl DBinding)) (a1 : (Sl DBinding)) : Option Bool := (if ((!decide ((a0.l.length : Int) = (a1.l.length : Int)))) = true then (some false) else ((loopO (S := Int) (R := (Unit ⊕ Bool)) (fun st1 => (if (decide (st1 < (a0.l.length : Int))) = true then ((elt a0 st1).bind fun y2 => ((elt a1 st1).bind fun y3 => ((F_laws_eqBinding y2 y3).bind fun y4 => (if (!y4) = true then (some (.inr (.inr false))) else (some (.inl (IntKind.i64.wrap (st1 + 1)))))))) else (some (.inr (.inl ()))))) 0).bind fun y1 => (Sum.elim (fun y1 => (some true)) (fun y1 => (some y1)) y1)))
theorem u_laws_eqBindingS (a0 : (Sl DBinding)) (a1 : (Sl DBinding)) (r : Bool) (h : B_laws_eqBindingS a0 a1 = some r) : F_laws_eqBindingS a0 a1 = some r := by
  unfold B_laws_eqBindingS at h
  refine semW_of E_bool_inj rfl rfl ok_51 rfl (all_cons (by kernel_rfl) (all_cons (by kernel_rfl) all_nil)) ?_
  intro σ0 s hS hH
  have hS := sub_to (L' := [(0, (Sl.t (a0 : Sl DBinding))), (1, (Sl.t (a1 : Sl DBinding)))]) hS (by kernel_rfl)
  refine c_seq ?_
  refine c_region ?_
  refine q_seg 1 [(0, (Sl.t (a0 : Sl DBinding))), (1, (Sl.t (a1 : Sl DBinding)))] hS (by kernel_rfl) ?_; intro s hS
  refine x_nil ?_
  refine sq_n ?_
  refine c_seq ?_
  refine c_seq ?_
  refine c_region ?_
  refine q_seg 5 [(0, (Sl.t (a0 : Sl DBinding))), (1, (Sl.t (a1 : Sl DBinding))), (10, .bool ((!decide ((a0.l.length : Int) = (a1.l.length : Int)))))] hS (by kernel_rfl) ?_; intro s hS
  refine x_nil ?_
  refine sq_n ?_
  by_cases hc1 : ((!decide ((a0.l.length : Int) = (a1.l.length : Int)))) = true
  · have h := it_pos hc1 h
    refine c_cond hS rfl (fun _ => ?_) (fun hf => ff_absurd hc1 hf)
    refine c_seq ?_
    refine c_region ?_
    refine q_seg 1 [(4, .bool false)] hS (by kernel_rfl) ?_; intro s hS
    refine x_nil ?_
    refine sq_n ?_
    refine c_ret ?_
    refine sq_r ?_
    injection h with h; subst h
    exact end_W hH (r_tmp (v := .bool false) hS rfl r_nil) rfl (by kernel_rfl) (by simp [pureT, pureL, E_bool])
  · have h := it_neg hc1 h
    refine c_cond hS rfl (fun hf => tt_absurd hc1 hf) (fun _ => ?_)
    refine c_skip ?_
    refine sq_n ?_
    refine c_seq ?_
    refine c_seq ?_
    refine c_region ?_
    refine q_seg 1 [(0, (Sl.t (a0 : Sl DBinding))), (1, (Sl.t (a1 : Sl DBinding))), (5, .int .i64 0)] hS (by kernel_rfl) ?_; intro s hS
    refine x_nil ?_
    refine sq_n ?_
    refine c_block ?_
    obtain ⟨y1, hy1, h⟩ := bind_some h
    refine c_loop (fun (st1 : Int) (fr : Fr) => Sub [(0, (Sl.t (a0 : Sl DBinding))), (1, (Sl.t (a1 : Sl DBinding))), (5, .int .i64 st1)] fr.s ∧ Heap σ0 fr.σ []) (fun (y1 : (Unit ⊕ Bool)) (e : AExit) (fr : Fr) => (Sum.elim (fun y => e = (.exit 0) ∧ Sub [] fr.s ∧ Heap σ0 fr.σ []) (fun y => e = .ret ∧ endW Try.prog (Try.f51.results.toList) σ0 (E_bool y) .ret fr)) y1) hy1 (And.intro (sub_to hS (by kernel_rfl)) hH) ?_ ?_
    · clear h hy1 hS hH; clear y1; intro st1 x fr h HI; obtain ⟨s, σ⟩ := fr; obtain ⟨hS, hH⟩ := HI
      refine c_seq ?_
      refine c_seq ?_
      refine c_region ?_
      refine q_seg 4 [(0, (Sl.t (a0 : Sl DBinding))), (1, (Sl.t (a1 : Sl DBinding))), (5, .int .i64 st1), (14, .bool (decide (st1 < (a0.l.length : Int))))] hS (by kernel_rfl) ?_; intro s hS
      refine x_nil ?_
      refine sq_n ?_
      by_cases hc2 : (decide (st1 < (a0.l.length : Int))) = true
      · have h := it_pos hc2 h
        refine c_cond hS rfl (fun _ => ?_) (fun hf => ff_absurd hc2 hf)
        refine c_skip ?_
        refine sq_n ?_
        refine c_seq ?_
        refine c_block ?_
        refine c_seq ?_
        refine c_draw (by kernel_rfl) hH ?_; intro mb σ hH
        refine q_seg 2 [(0, (Sl.t (a0 : Sl DBinding))), (1, (Sl.t (a1 : Sl DBinding))), (5, .int .i64 st1), (17, (Sl.t (a0 : Sl DBinding))), (18, .int .i64 st1)] hS (by kernel_rfl) ?_; intro s hS
        obtain ⟨y2, hy2, h⟩ := bind_some h
        refine q_elt (sl := a0) (e := 118) [.str y2.Name, .int .i64 y2.Value.Kind, .int .i64 y2.Value.Num, .str y2.Value.Text, .int .i64 y2.Value.Ref] rfl hS rfl rfl (by kernel_rfl) (by kernel_rfl) hy2 rfl ?_; intro rest1 s hS
        refine q_seg 3 [(0, (Sl.t (a0 : Sl DBinding))), (1, (Sl.t (a1 : Sl DBinding))), (5, .int .i64 st1), (20, .agg (DBinding.cells y2)), (21, (Sl.t (a1 : Sl DBinding))), (22, .int .i64 st1)] hS (by kernel_rfl) ?_; intro s hS
        obtain ⟨y3, hy3, h⟩ := bind_some h
        refine q_elt (sl := a1) (e := 118) [.str y3.Name, .int .i64 y3.Value.Kind, .int .i64 y3.Value.Num, .str y3.Value.Text, .int .i64 y3.Value.Ref] rfl hS rfl rfl (by kernel_rfl) (by kernel_rfl) hy3 rfl ?_; intro rest2 s hS
        refine q_seg 1 [(0, (Sl.t (a0 : Sl DBinding))), (1, (Sl.t (a1 : Sl DBinding))), (5, .int .i64 st1), (20, .agg (DBinding.cells y2)), (24, .agg (DBinding.cells y3))] hS (by kernel_rfl) ?_; intro s hS
        obtain ⟨y4, hy4, h⟩ := bind_some h
        refine q_callF (a := []) (b := []) (xs := [.agg (DBinding.cells y2), .agg (DBinding.cells y3)]) rfl hS rfl rfl hy4 ?_; intro s hS
        refine q_seg 1 [(0, (Sl.t (a0 : Sl DBinding))), (1, (Sl.t (a1 : Sl DBinding))), (5, .int .i64 st1), (26, .bool (!y4))] hS (by kernel_rfl) ?_; intro s hS
        refine x_nil ?_
        refine sq_n ?_
        by_cases hc3 : (!y4) = true
        · have h := it_pos hc3 h
          refine c_cond hS rfl (fun _ => ?_) (fun hf => ff_absurd hc3 hf)
          refine c_seq ?_
          refine c_region ?_
          refine q_seg 1 [(4, .bool false)] hS (by kernel_rfl) ?_; intro s hS
          refine x_nil ?_
          refine sq_n ?_
          refine c_ret ?_
          refine bk_r ?_
          refine sq_r ?_
          injection h with h; subst h
          exact And.intro rfl (end_W hH (r_tmp (v := .bool false) hS rfl r_nil) rfl (by kernel_rfl) (by simp [pureT, pureL, E_bool]))
        · have h := it_neg hc3 h
          refine c_cond hS rfl (fun hf => tt_absurd hc3 hf) (fun _ => ?_)
          refine c_skip ?_
          refine bk_n ?_
          refine sq_n ?_
          refine c_region ?_
          refine q_seg 3 [(0, (Sl.t (a0 : Sl DBinding))), (1, (Sl.t (a1 : Sl DBinding))), (5, .int .i64 (IntKind.i64.wrap (st1 + 1)))] hS (by kernel_rfl) ?_; intro s hS
          refine x_nil ?_
          injection h with h; subst h
          exact And.intro (sub_to hS (by kernel_rfl)) hH
      · have h := it_neg hc2 h
        refine c_cond hS rfl (fun hf => tt_absurd hc2 hf) (fun _ => ?_)
        refine c_exit ?_
        refine sq_x ?_
        injection h with h; subst h
        exact And.intro rfl (And.intro (sub_to hS (by kernel_rfl)) hH)
    · clear hS hH; intro e fr HF; obtain ⟨s, σ⟩ := fr
      rcases y1 with y1 | y1
      · obtain ⟨rfl, hS, hH⟩ := HF
        refine bk_e ?_
        refine sq_n ?_
        refine c_seq ?_
        refine c_region ?_
        refine q_seg 1 [(4, .bool true)] hS (by kernel_rfl) ?_; intro s hS
        refine x_nil ?_
        refine sq_n ?_
        refine c_ret ?_
        injection h with h; subst h
        exact end_W hH (r_tmp (v := .bool true) hS rfl r_nil) rfl (by kernel_rfl) (by simp [pureT, pureL, E_bool])
      · obtain ⟨rfl, HE⟩ := HF
        refine bk_r ?_
        refine sq_r ?_
        injection h with h; subst h; exact HE
end Go.Am
end
section
set_option maxRecDepth 100000
set_option maxHeartbeats 4000000
set_option linter.unusedVariables false
set_option linter.unusedSimpArgs false
namespace Go.Am
open Go.Proofs
noncomputable def B_laws_eqFunctionS (a0 : (Sl DFunction)) (a1 : (Sl DFunction)) : Option Bool := (if ((!decide ((a0.l.length : Int) = (a1.l.length : Int)))) = true then (some false) else ((loopO (S := Int) (R := (Unit ⊕ Bool)) (fun st1 => (if (decide (st1 < (a0.l.length : Int))) = true then ((elt a0 st1).bind fun y2 => ((elt a1 st1).bind fun y3 => ((F_laws_eqFunction y2 y3).bind fun y4 => (if (!y4) = true then (some (.inr (.inr false))) else (some (.inl (IntKind.i64.wrap (st1 + 1)))))))) else (some (.inr (.inl ()))))) 0).bind fun y1 => (Sum.elim (fun y1 => (some true)) (fun y1 => (some y1)) y1)))
theorem u_laws_eqFunctionS (a0 : (Sl DFunction)) (a1 : (Sl DFunction)) (r : Bool) (h : B_laws_eqFunctionS a0 a1 = some r) : F_laws_eqFunctionS a0 a1 = some r := by
  unfold B_laws_eqFunctionS at h
  refine semW_of E_bool_inj rfl rfl ok_52 rfl (all_cons (by kernel_rfl) (all_cons (by kernel_rfl) all_nil)) ?_
  intro σ0 s hS hH
  have hS := sub_to (L' := [(0, (Sl.t (a0 : Sl DFunction))), (1, (Sl.t (a1 : Sl DFunction)))]) hS (by kernel_rfl)
  refine c_seq ?_
  refine c_region ?_
  refine q_seg 1 [(0, (Sl.t (a0 : Sl DFunction))), (1, (Sl.t (a1 : Sl DFunction)))] hS (by kernel_rfl) ?_; intro s hS
  refine x_nil ?_
  refine sq_n ?_
  refine c_seq ?_
  refine c_seq ?_
  refine c_region ?_
  refine q_seg 5 [(0, (Sl.t (a0 : Sl DFunction))), (1, (Sl.t (a1 : Sl DFunction))), (10, .bool ((!decide ((a0.l.length : Int) = (a1.l.length : Int)))))] hS (by kernel_rfl) ?_; intro s hS
  refine x_nil ?_
  refine sq_n ?_
  by_cases hc1 : ((!decide ((a0.l.length : Int) = (a1.l.length : Int)))) = true
  · have h := it_pos hc1 h
    refine c_cond hS rfl (fun _ => ?_) (fun hf => ff_absurd hc1 hf)
    refine c_seq ?_
    refine c_region ?_
    refine q_seg 1 [(4, .bool false)] hS (by kernel_rfl) ?_; intro s hS
    refine x_nil ?_
    refine sq_n ?_
    refine c_ret ?_
    refine sq_r ?_
    injection h with h; subst h
    exact end_W hH (r_tmp (v := .bool false) hS rfl r_nil) rfl (by kernel_rfl) (by simp [pureT, pureL, E_bool])
  · have h := it_neg hc1 h
    refine c_cond hS rfl (fun hf => tt_absurd hc1 hf) (fun _ => ?_)
    refine c_skip ?_
    refine sq_n ?_
    refine c_seq ?_
    refine c_seq ?_
    refine c_region ?_
    refine q_seg 1 [(0, (Sl.t (a0 : Sl DFunction))), (1, (Sl.t (a1 : Sl DFunction))), (5, .int .i64 0)] hS (by kernel_rfl) ?_; intro s hS
    refine x_nil ?_
    refine sq_n ?_
    refine c_block ?_
    obtain ⟨y1, hy1, h⟩ := bind_some h
    refine c_loop (fun (st1 : Int) (fr : Fr) => Sub [(0, (Sl.t (a0 : Sl DFunction))), (1, (Sl.t (a1 : Sl DFunction))), (5, .int .i64 st1)] fr.s ∧ Heap σ0 fr.σ []) (fun (y1 : (Unit ⊕ Bool)) (e : AExit) (fr : Fr) => (Sum.elim (fun y => e = (.exit 0) ∧ Sub [] fr.s ∧ Heap σ0 fr.σ []) (fun y => e = .ret ∧ endW Try.prog (Try.f52.results.toList) σ0 (E_bool y) .ret fr)) y1) hy1 (And.intro (sub_to hS (by kernel_rfl)) hH) ?_ ?_
    · clear h hy1 hS hH; clear y1; intro st1 x fr h HI; obtain ⟨s, σ⟩ := fr; obtain ⟨hS, hH⟩ := HI
      refine c_seq ?_
      refine c_seq ?_
      refine c_region ?_
      refine q_seg 4 [(0, (Sl.t (a0 : Sl DFunction))), (1, (Sl.t (a1 : Sl DFunction))), (5, .int .i64 st1), (14, .bool (decide (st1 < (a0.l.length : Int))))] hS (by kernel_rfl) ?_; intro s hS
      refine x_nil ?_
      refine sq_n ?_
      by_cases hc2 : (decide (st1 < (a0.l.length : Int))) = true
      · have h := it_pos hc2 h
        refine c_cond hS rfl (fun _ => ?_) (fun hf => ff_absurd hc2 hf)
        refine c_skip ?_
        refine sq_n ?_
        refine c_seq ?_
        refine c_block ?_
        refine c_seq ?_
        refine c_draw (by kernel_rfl) hH ?_; intro mb σ hH
        refine q_seg 2 [(0, (Sl.t (a0 : Sl DFunction))), (1, (Sl.t (a1 : Sl DFunction))), (5, .int .i64 st1), (17, (Sl.t (a0 : Sl DFunction))), (18, .int .i64 st1)] hS (by kernel_rfl) ?_; intro s hS
        obtain ⟨y2, hy2, h⟩ := bind_some h
        refine q_elt (sl := a0) (e := 99) [.str y2.Name, (Sl.t (y2.Params : Sl ByteArray)), (Sl.t (y2.Locals : Sl ByteArray)), .str y2.Label] rfl hS rfl rfl (by kernel_rfl) (by kernel_rfl) hy2 rfl ?_; intro rest1 s hS
        refine q_seg 3 [(0, (Sl.t (a0 : Sl DFunction))), (1, (Sl.t (a1 : Sl DFunction))), (5, .int .i64 st1), (20, .agg (DFunction.cells y2)), (21, (Sl.t (a1 : Sl DFunction))), (22, .int .i64 st1)] hS (by kernel_rfl) ?_; intro s hS
        obtain ⟨y3, hy3, h⟩ := bind_some h
        refine q_elt (sl := a1) (e := 99) [.str y3.Name, (Sl.t (y3.Params : Sl ByteArray)), (Sl.t (y3.Locals : Sl ByteArray)), .str y3.Label] rfl hS rfl rfl (by kernel_rfl) (by kernel_rfl) hy3 rfl ?_; intro rest2 s hS
        refine q_seg 1 [(0, (Sl.t (a0 : Sl DFunction))), (1, (Sl.t (a1 : Sl DFunction))), (5, .int .i64 st1), (20, .agg (DFunction.cells y2)), (24, .agg (DFunction.cells y3))] hS (by kernel_rfl) ?_; intro s hS
        obtain ⟨y4, hy4, h⟩ := bind_some h
        refine q_callF (a := []) (b := []) (xs := [.agg (DFunction.cells y2), .agg (DFunction.cells y3)]) rfl hS rfl rfl hy4 ?_; intro s hS
        refine q_seg 1 [(0, (Sl.t (a0 : Sl DFunction))), (1, (Sl.t (a1 : Sl DFunction))), (5, .int .i64 st1), (26, .bool (!y4))] hS (by kernel_rfl) ?_; intro s hS
        refine x_nil ?_
        refine sq_n ?_
        by_cases hc3 : (!y4) = true
        · have h := it_pos hc3 h
          refine c_cond hS rfl (fun _ => ?_) (fun hf => ff_absurd hc3 hf)
          refine c_seq ?_
          refine c_region ?_
          refine q_seg 1 [(4, .bool false)] hS (by kernel_rfl) ?_; intro s hS
          refine x_nil ?_
          refine sq_n ?_
          refine c_ret ?_
          refine bk_r ?_
          refine sq_r ?_
          injection h with h; subst h
          exact And.intro rfl (end_W hH (r_tmp (v := .bool false) hS rfl r_nil) rfl (by kernel_rfl) (by simp [pureT, pureL, E_bool]))
        · have h := it_neg hc3 h
          refine c_cond hS rfl (fun hf => tt_absurd hc3 hf) (fun _ => ?_)
          refine c_skip ?_
          refine bk_n ?_
          refine sq_n ?_
          refine c_region ?_
          refine q_seg 3 [(0, (Sl.t (a0 : Sl DFunction))), (1, (Sl.t (a1 : Sl DFunction))), (5, .int .i64 (IntKind.i64.wrap (st1 + 1)))] hS (by kernel_rfl) ?_; intro s hS
          refine x_nil ?_
          injection h with h; subst h
          exact And.intro (sub_to hS (by kernel_rfl)) hH
      · have h := it_neg hc2 h
        refine c_cond hS rfl (fun hf => tt_absurd hc2 hf) (fun _ => ?_)
        refine c_exit ?_
        refine sq_x ?_
        injection h with h; subst h
        exact And.intro rfl (And.intro (sub_to hS (by kernel_rfl)) hH)
    · clear hS hH; intro e fr HF; obtain ⟨s, σ⟩ := fr
      rcases y1 with y1 | y1
      · obtain ⟨rfl, hS, hH⟩ := HF
        refine bk_e ?_
        refine sq_n ?_
        refine c_seq ?_
        refine c_region ?_
        refine q_seg 1 [(4, .bool true)] hS (by kernel_rfl) ?_; intro s hS
        refine x_nil ?_
        refine sq_n ?_
        refine c_ret ?_
        injection h with h; subst h
        exact end_W hH (r_tmp (v := .bool true) hS rfl r_nil) rfl (by kernel_rfl) (by simp [pureT, pureL, E_bool])
      · obtain ⟨rfl, HE⟩ := HF
        refine bk_r ?_
        refine sq_r ?_
        injection h with h; subst h; exact HE
end Go.Am
end
section
set_option maxRecDepth 100000
set_option maxHeartbeats 4000000
set_option linter.unusedVariables false
set_option linter.unusedSimpArgs false
namespace Go.Am
open Go.Proofs
noncomputable def B_laws_eqRecordTypeS (a0 : (Sl DRecordType)) (a1 : (Sl DRecordType)) : Option Bool := (if ((!decide ((a0.l.length : Int) = (a1.l.length : Int)))) = true then (some false) else ((loopO (S := Int) (R := (Unit ⊕ Bool)) (fun st1 => (if (decide (st1 < (a0.l.length : Int))) = true then ((elt a0 st1).bind fun y2 => ((elt a1 st1).bind fun y3 => ((F_laws_eqRecordType y2 y3).bind fun y4 => (if (!y4) = true then (some (.inr (.inr false))) else (some (.inl (IntKind.i64.wrap (st1 + 1)))))))) else (some (.inr (.inl ()))))) 0).bind fun y1 => (Sum.elim (fun y1 => (some true)) (fun y1 => (some y1)) y1)))
theorem u_laws_eqRecordTypeS (a0 : (Sl DRecordType)) (a1 : (Sl DRecordType)) (r : Bool) (h : B_laws_eqRecordTypeS a0 a1 = some r) : F_laws_eqRecordTypeS a0 a1 = some r := by
  unfold B_laws_eqRecordTypeS at h
  refine semW_of E_bool_inj rfl rfl ok_53 rfl (all_cons (by kernel_rfl) (all_cons (by kernel_rfl) all_nil)) ?_
  intro σ0 s hS hH
  have hS := sub_to (L' := [(0, (Sl.t (a0 : Sl DRecordType))), (1, (Sl.t (a1 : Sl DRecordType)))]) hS (by kernel_rfl)
  refine c_seq ?_
  refine c_region ?_
  refine q_seg 1 [(0, (Sl.t (a0 : Sl DRecordType))), (1, (Sl.t (a1 : Sl DRecordType)))] hS (by kernel_rfl) ?_; intro s hS
  refine x_nil ?_
  refine sq_n ?_
  refine c_seq ?_
  refine c_seq ?_
  refine c_region ?_
  refine q_seg 5 [(0, (Sl.t (a0 : Sl DRecordType))), (1, (Sl.t (a1 : Sl DRecordType))), (10, .bool ((!decide ((a0.l.length : Int) = (a1.l.length : Int)))))] hS (by kernel_rfl) ?_; intro s hS
  refine x_nil ?_
  refine sq_n ?_
  by_cases hc1 : ((!decide ((a0.l.length : Int) = (a1.l.length : Int)))) = true
  · have h := it_pos hc1 h
    refine c_cond hS rfl (fun _ => ?_) (fun hf => ff_absurd hc1 hf)
    refine c_seq ?_
    refine c_region ?_
    refine q_seg 1 [(4, .bool false)] hS (by kernel_rfl) ?_; intro s hS
    refine x_nil ?_
    refine sq_n ?_
    refine c_ret ?_
    refine sq_r ?_
    injection h with h; subst h
    exact end_W hH (r_tmp (v := .bool false) hS rfl r_nil) rfl (by kernel_rfl) (by simp [pureT, pureL, E_bool])
  · have h := it_neg hc1 h
    refine c_cond hS rfl (fun hf => tt_absurd hc1 hf) (fun _ => ?_)
    refine c_skip ?_
    refine sq_n ?_
    refine c_seq ?_
    refine c_seq ?_
    refine c_region ?_
    refine q_seg 1 [(0, (Sl.t (a0 : Sl DRecordType))), (1, (Sl.t (a1 : Sl DRecordType))), (5, .int .i64 0)] hS (by kernel_rfl) ?_; intro s hS
    refine x_nil ?_
    refine sq_n ?_
    refine c_block ?_
    obtain ⟨y1, hy1, h⟩ := bind_some h
    refine c_loop (fun (st1 : Int) (fr : Fr) => Sub [(0, (Sl.t (a0 : Sl DRecordType))), (1, (Sl.t (a1 : Sl DRecordType))), (5, .int .i64 st1)] fr.s ∧ Heap σ0 fr.σ []) (fun (y1 : (Unit ⊕ Bool)) (e : AExit) (fr : Fr) => (Sum.elim (fun y => e = (.exit 0) ∧ Sub [] fr.s ∧ Heap σ0 fr.σ []) (fun y => e = .ret ∧ endW Try.prog (Try.f53.results.toList) σ0 (E_bool y) .ret fr)) y1) hy1 (And.intro (sub_to hS (by kernel_rfl)) hH) ?_ ?_
    · clear h hy1 hS hH; clear y1; intro st1 x fr h HI; obtain ⟨s, σ⟩ := fr; obtain ⟨hS, hH⟩ := HI
      refine c_seq ?_
      refine c_seq ?_
      refine c_region ?_
      refine q_seg 4 [(0, (Sl.t (a0 : Sl DRecordType))), (1, (Sl.t (a1 : Sl DRecordType))), (5, .int .i64 st1), (14, .bool (decide (st1 < (a0.l.length : Int))))] hS (by kernel_rfl) ?_; intro s hS
      refine x_nil ?_
      refine sq_n ?_
      by_cases hc2 : (decide (st1 < (a0.l.length : Int))) = true
      · have h := it_pos hc2 h
        refine c_cond hS rfl (fun _ => ?_) (fun hf => ff_absurd hc2 hf)
        refine c_skip ?_
        refine sq_n ?_
        refine c_seq ?_
        refine c_block ?_
        refine c_seq ?_
        refine c_draw (by kernel_rfl) hH ?_; intro mb σ hH
        refine q_seg 2 [(0, (Sl.t (a0 : Sl DRecordType))), (1, (Sl.t (a1 : Sl DRecordType))), (5, .int .i64 st1), (17, (Sl.t (a0 : Sl DRecordType))), (18, .int .i64 st1)] hS (by kernel_rfl) ?_; intro s hS
        obtain ⟨y2, hy2, h⟩ := bind_some h
        refine q_elt (sl := a0) (e := 101) [.str y2.Name, (Sl.t (y2.Fields : Sl ByteArray))] rfl hS rfl rfl (by kernel_rfl) (by kernel_rfl) hy2 rfl ?_; intro rest1 s hS
        refine q_seg 3 [(0, (Sl.t (a0 : Sl DRecordType))), (1, (Sl.t (a1 : Sl DRecordType))), (5, .int .i64 st1), (20, .agg (DRecordType.cells y2)), (21, (Sl.t (a1 : Sl DRecordType))), (22, .int .i64 st1)] hS (by kernel_rfl) ?_; intro s hS
        obtain ⟨y3, hy3, h⟩ := bind_some h
        refine q_elt (sl := a1) (e := 101) [.str y3.Name, (Sl.t (y3.Fields : Sl ByteArray))] rfl hS rfl rfl (by kernel_rfl) (by kernel_rfl) hy3 rfl ?_; intro rest2 s hS
        refine q_seg 1 [(0, (Sl.t (a0 : Sl DRecordType))), (1, (Sl.t (a1 : Sl DRecordType))), (5, .int .i64 st1), (20, .agg (DRecordType.cells y2)), (24, .agg (DRecordType.cells y3))] hS (by kernel_rfl) ?_; intro s hS
        obtain ⟨y4, hy4, h⟩ := bind_some h
        refine q_callF (a := []) (b := []) (xs := [.agg (DRecordType.cells y2), .agg (DRecordType.cells y3)]) rfl hS rfl rfl hy4 ?_; intro s hS
        refine q_seg 1 [(0, (Sl.t (a0 : Sl DRecordType))), (1, (Sl.t (a1 : Sl DRecordType))), (5, .int .i64 st1), (26, .bool (!y4))] hS (by kernel_rfl) ?_; intro s hS
        refine x_nil ?_
        refine sq_n ?_
        by_cases hc3 : (!y4) = true
        · have h := it_pos hc3 h
          refine c_cond hS rfl (fun _ => ?_) (fun hf => ff_absurd hc3 hf)
          refine c_seq ?_
          refine c_region ?_
          refine q_seg 1 [(4, .bool false)] hS (by kernel_rfl) ?_; intro s hS
          refine x_nil ?_
          refine sq_n ?_
          refine c_ret ?_
          refine bk_r ?_
          refine sq_r ?_
          injection h with h; subst h
          exact And.intro rfl (end_W hH (r_tmp (v := .bool false) hS rfl r_nil) rfl (by kernel_rfl) (by simp [pureT, pureL, E_bool]))
        · have h := it_neg hc3 h
          refine c_cond hS rfl (fun hf => tt_absurd hc3 hf) (fun _ => ?_)
          refine c_skip ?_
          refine bk_n ?_
          refine sq_n ?_
          refine c_region ?_
          refine q_seg 3 [(0, (Sl.t (a0 : Sl DRecordType))), (1, (Sl.t (a1 : Sl DRecordType))), (5, .int .i64 (IntKind.i64.wrap (st1 + 1)))] hS (by kernel_rfl) ?_; intro s hS
          refine x_nil ?_
          injection h with h; subst h
          exact And.intro (sub_to hS (by kernel_rfl)) hH
      · have h := it_neg hc2 h
        refine c_cond hS rfl (fun hf => tt_absurd hc2 hf) (fun _ => ?_)
        refine c_exit ?_
        refine sq_x ?_
        injection h with h; subst h
        exact And.intro rfl (And.intro (sub_to hS (by kernel_rfl)) hH)
    · clear hS hH; intro e fr HF; obtain ⟨s, σ⟩ := fr
      rcases y1 with y1 | y1
      · obtain ⟨rfl, hS, hH⟩ := HF
        refine bk_e ?_
        refine sq_n ?_
        refine c_seq ?_
        refine c_region ?_
        refine q_seg 1 [(4, .bool true)] hS (by kernel_rfl) ?_; intro s hS
        refine x_nil ?_
        refine sq_n ?_
        refine c_ret ?_
        injection h with h; subst h
        exact end_W hH (r_tmp (v := .bool true) hS rfl r_nil) rfl (by kernel_rfl) (by simp [pureT, pureL, E_bool])
      · obtain ⟨rfl, HE⟩ := HF
        refine bk_r ?_
        refine sq_r ?_
        injection h with h; subst h; exact HE
end Go.Am
end
section
set_option maxRecDepth 100000
set_option maxHeartbeats 4000000
set_option linter.unusedVariables false
set_option linter.unusedSimpArgs false
namespace Go.Am
open Go.Proofs
noncomputable def B_laws_eqFileS (a0 : (Sl DFile)) (a1 : (Sl DFile)) : Option Bool := (if ((!decide ((a0.l.length : Int) = (a1.l.length : Int)))) = true then (some false) else ((loopO (S := Int) (R := (Unit ⊕ Bool)) (fun st1 => (if (decide (st1 < (a0.l.length : Int))) = true then ((elt a0 st1).bind fun y2 => ((elt a1 st1).bind fun y3 => ((F_laws_eqFile y2 y3).bind fun y4 => (if (!y4) = true then (some (.inr (.inr false))) else (some (.inl (IntKind.i64.wrap (st1 + 1)))))))) else (some (.inr (.inl ()))))) 0).bind fun y1 => (Sum.elim (fun y1 => (some true)) (fun y1 => (some y1)) y1)))
theorem u_laws_eqFileS (a0 : (Sl DFile)) (a1 : (Sl DFile)) (r : Bool) (h : B_laws_eqFileS a0 a1 = some r) : F_laws_eqFileS a0 a1 = some r := by
  unfold B_laws_eqFileS at h
  refine semW_of E_bool_inj rfl rfl ok_54 rfl (all_cons (by kernel_rfl) (all_cons (by kernel_rfl) all_nil)) ?_
  intro σ0 s hS hH
  have hS := sub_to (L' := [(0, (Sl.t (a0 : Sl DFile))), (1, (Sl.t (a1 : Sl DFile)))]) hS (by kernel_rfl)
  refine c_seq ?_
  refine c_region ?_
  refine q_seg 1 [(0, (Sl.t (a0 : Sl DFile))), (1, (Sl.t (a1 : Sl DFile)))] hS (by kernel_rfl) ?_; intro s hS
  refine x_nil ?_
  refine sq_n ?_
  refine c_seq ?_
  refine c_seq ?_
  refine c_region ?_
  refine q_seg 5 [(0, (Sl.t (a0 : Sl DFile))), (1, (Sl.t (a1 : Sl DFile))), (10, .bool ((!decide ((a0.l.length : Int) = (a1.l.length : Int)))))] hS (by kernel_rfl) ?_; intro s hS
  refine x_nil ?_
  refine sq_n ?_
  by_cases hc1 : ((!decide ((a0.l.length : Int) = (a1.l.length : Int)))) = true
  · have h := it_pos hc1 h
    refine c_cond hS rfl (fun _ => ?_) (fun hf => ff_absurd hc1 hf)
    refine c_seq ?_
    refine c_region ?_
    refine q_seg 1 [(4, .bool false)] hS (by kernel_rfl) ?_; intro s hS
    refine x_nil ?_
    refine sq_n ?_
    refine c_ret ?_
    refine sq_r ?_
    injection h with h; subst h
    exact end_W hH (r_tmp (v := .bool false) hS rfl r_nil) rfl (by kernel_rfl) (by simp [pureT, pureL, E_bool])
  · have h := it_neg hc1 h
    refine c_cond hS rfl (fun hf => tt_absurd hc1 hf) (fun _ => ?_)
    refine c_skip ?_
    refine sq_n ?_
    refine c_seq ?_
    refine c_seq ?_
    refine c_region ?_
    refine q_seg 1 [(0, (Sl.t (a0 : Sl DFile))), (1, (Sl.t (a1 : Sl DFile))), (5, .int .i64 0)] hS (by kernel_rfl) ?_; intro s hS
    refine x_nil ?_
    refine sq_n ?_
    refine c_block ?_
    obtain ⟨y1, hy1, h⟩ := bind_some h
    refine c_loop (fun (st1 : Int) (fr : Fr) => Sub [(0, (Sl.t (a0 : Sl DFile))), (1, (Sl.t (a1 : Sl DFile))), (5, .int .i64 st1)] fr.s ∧ Heap σ0 fr.σ []) (fun (y1 : (Unit ⊕ Bool)) (e : AExit) (fr : Fr) => (Sum.elim (fun y => e = (.exit 0) ∧ Sub [] fr.s ∧ Heap σ0 fr.σ []) (fun y => e = .ret ∧ endW Try.prog (Try.f54.results.toList) σ0 (E_bool y) .ret fr)) y1) hy1 (And.intro (sub_to hS (by kernel_rfl)) hH) ?_ ?_
    · clear h hy1 hS hH; clear y1; intro st1 x fr h HI; obtain ⟨s, σ⟩ := fr; obtain ⟨hS, hH⟩ := HI
      refine c_seq ?_
      refine c_seq ?_
      refine c_region ?_
      refine q_seg 4 [(0, (Sl.t (a0 : Sl DFile))), (1, (Sl.t (a1 : Sl DFile))), (5, .int .i64 st1), (14, .bool (decide (st1 < (a0.l.length : Int))))] hS (by kernel_rfl) ?_; intro s hS
      refine x_nil ?_
      refine sq_n ?_
      by_cases hc2 : (decide (st1 < (a0.l.length : Int))) = true
      · have h := it_pos hc2 h
        refine c_cond hS rfl (fun _ => ?_) (fun hf => ff_absurd hc2 hf)
        refine c_skip ?_
        refine sq_n ?_
        refine c_seq ?_
        refine c_block ?_
        refine c_seq ?_
        refine c_draw (by kernel_rfl) hH ?_; intro mb σ hH
        refine q_seg 2 [(0, (Sl.t (a0 : Sl DFile))), (1, (Sl.t (a1 : Sl DFile))), (5, .int .i64 st1), (17, (Sl.t (a0 : Sl DFile))), (18, .int .i64 st1)] hS (by kernel_rfl) ?_; intro s hS
        obtain ⟨y2, hy2, h⟩ := bind_some h
        refine q_elt (sl := a0) (e := 104) [.str y2.Name, (Sl.t (y2.Lines : Sl ByteArray)), .int .i64 y2.Mode, .int .i64 y2.At] rfl hS rfl rfl (by kernel_rfl) (by kernel_rfl) hy2 rfl ?_; intro rest1 s hS
        refine q_seg 3 [(0, (Sl.t (a0 : Sl DFile))), (1, (Sl.t (a1 : Sl DFile))), (5, .int .i64 st1), (20, .agg (DFile.cells y2)), (21, (Sl.t (a1 : Sl DFile))), (22, .int .i64 st1)] hS (by kernel_rfl) ?_; intro s hS
        obtain ⟨y3, hy3, h⟩ := bind_some h
        refine q_elt (sl := a1) (e := 104) [.str y3.Name, (Sl.t (y3.Lines : Sl ByteArray)), .int .i64 y3.Mode, .int .i64 y3.At] rfl hS rfl rfl (by kernel_rfl) (by kernel_rfl) hy3 rfl ?_; intro rest2 s hS
        refine q_seg 1 [(0, (Sl.t (a0 : Sl DFile))), (1, (Sl.t (a1 : Sl DFile))), (5, .int .i64 st1), (20, .agg (DFile.cells y2)), (24, .agg (DFile.cells y3))] hS (by kernel_rfl) ?_; intro s hS
        obtain ⟨y4, hy4, h⟩ := bind_some h
        refine q_callF (a := []) (b := []) (xs := [.agg (DFile.cells y2), .agg (DFile.cells y3)]) rfl hS rfl rfl hy4 ?_; intro s hS
        refine q_seg 1 [(0, (Sl.t (a0 : Sl DFile))), (1, (Sl.t (a1 : Sl DFile))), (5, .int .i64 st1), (26, .bool (!y4))] hS (by kernel_rfl) ?_; intro s hS
        refine x_nil ?_
        refine sq_n ?_
        by_cases hc3 : (!y4) = true
        · have h := it_pos hc3 h
          refine c_cond hS rfl (fun _ => ?_) (fun hf => ff_absurd hc3 hf)
          refine c_seq ?_
          refine c_region ?_
          refine q_seg 1 [(4, .bool false)] hS (by kernel_rfl) ?_; intro s hS
          refine x_nil ?_
          refine sq_n ?_
          refine c_ret ?_
          refine bk_r ?_
          refine sq_r ?_
          injection h with h; subst h
          exact And.intro rfl (end_W hH (r_tmp (v := .bool false) hS rfl r_nil) rfl (by kernel_rfl) (by simp [pureT, pureL, E_bool]))
        · have h := it_neg hc3 h
          refine c_cond hS rfl (fun hf => tt_absurd hc3 hf) (fun _ => ?_)
          refine c_skip ?_
          refine bk_n ?_
          refine sq_n ?_
          refine c_region ?_
          refine q_seg 3 [(0, (Sl.t (a0 : Sl DFile))), (1, (Sl.t (a1 : Sl DFile))), (5, .int .i64 (IntKind.i64.wrap (st1 + 1)))] hS (by kernel_rfl) ?_; intro s hS
          refine x_nil ?_
          injection h with h; subst h
          exact And.intro (sub_to hS (by kernel_rfl)) hH
      · have h := it_neg hc2 h
        refine c_cond hS rfl (fun hf => tt_absurd hc2 hf) (fun _ => ?_)
        refine c_exit ?_
        refine sq_x ?_
        injection h with h; subst h
        exact And.intro rfl (And.intro (sub_to hS (by kernel_rfl)) hH)
    · clear hS hH; intro e fr HF; obtain ⟨s, σ⟩ := fr
      rcases y1 with y1 | y1
      · obtain ⟨rfl, hS, hH⟩ := HF
        refine bk_e ?_
        refine sq_n ?_
        refine c_seq ?_
        refine c_region ?_
        refine q_seg 1 [(4, .bool true)] hS (by kernel_rfl) ?_; intro s hS
        refine x_nil ?_
        refine sq_n ?_
        refine c_ret ?_
        injection h with h; subst h
        exact end_W hH (r_tmp (v := .bool true) hS rfl r_nil) rfl (by kernel_rfl) (by simp [pureT, pureL, E_bool])
      · obtain ⟨rfl, HE⟩ := HF
        refine bk_r ?_
        refine sq_r ?_
        injection h with h; subst h; exact HE
end Go.Am
end
section
set_option maxRecDepth 100000
set_option maxHeartbeats 4000000
set_option linter.unusedVariables false
set_option linter.unusedSimpArgs false
namespace Go.Am
open Go.Proofs
noncomputable def B_laws_markObjectS (a0 : (Sl DObject)) (a1 : Int) : Option Int := ((loopO (S := Unit) (R := Unit) (fun st1 => (if (decide (0 < (a0.l.length : Int))) = true then none else (some (.inr ())))) ()).bind fun y1 => (some a1))
theorem u_laws_markObjectS (a0 : (Sl DObject)) (a1 : Int) (r : Int) (h : B_laws_markObjectS a0 a1 = some r) : F_laws_markObjectS a0 a1 = some r := by
  unfold B_laws_markObjectS at h
  refine semW_of E_i64_inj rfl rfl ok_55 rfl (all_cons (by kernel_rfl) (all_cons (by kernel_rfl) all_nil)) ?_
  intro σ0 s hS hH
  have hS := sub_to (L' := [(0, (Sl.t (a0 : Sl DObject))), (1, .int .i64 a1)]) hS (by kernel_rfl)
  refine c_seq ?_
  refine c_region ?_
  refine q_seg 1 [(0, (Sl.t (a0 : Sl DObject))), (1, .int .i64 a1)] hS (by kernel_rfl) ?_; intro s hS
  refine x_nil ?_
  refine sq_n ?_
  refine c_seq ?_
  refine c_seq ?_
  refine c_region ?_
  refine q_seg 1 [(0, (Sl.t (a0 : Sl DObject))), (1, .int .i64 a1), (5, .int .i64 0)] hS (by kernel_rfl) ?_; intro s hS
  refine x_nil ?_
  refine sq_n ?_
  refine c_block ?_
  obtain ⟨y1, hy1, h⟩ := bind_some h
  refine c_loop (fun (st1 : Unit) (fr : Fr) => Sub [(0, (Sl.t (a0 : Sl DObject))), (1, .int .i64 a1), (5, .int .i64 0)] fr.s ∧ Heap σ0 fr.σ []) (fun (y1 : Unit) (e : AExit) (fr : Fr) => e = (.exit 0) ∧ Sub [(1, .int .i64 a1)] fr.s ∧ Heap σ0 fr.σ []) hy1 (And.intro (sub_to hS (by kernel_rfl)) hH) ?_ ?_
  · clear h hy1 hS hH; clear y1; intro st1 x fr h HI; obtain ⟨s, σ⟩ := fr; obtain ⟨hS, hH⟩ := HI
    refine c_seq ?_
    refine c_seq ?_
    refine c_region ?_
    refine q_seg 4 [(0, (Sl.t (a0 : Sl DObject))), (1, .int .i64 a1), (5, .int .i64 0), (9, .bool (decide (0 < (a0.l.length : Int))))] hS (by kernel_rfl) ?_; intro s hS
    refine x_nil ?_
    refine sq_n ?_
    by_cases hc1 : (decide (0 < (a0.l.length : Int))) = true
    · have h := it_pos hc1 h
      refine c_cond hS rfl (fun _ => ?_) (fun hf => ff_absurd hc1 hf)
      refine c_skip ?_
      refine sq_n ?_
      refine c_seq ?_
      refine c_block ?_
      refine c_seq ?_
      cases h
    · have h := it_neg hc1 h
      refine c_cond hS rfl (fun hf => tt_absurd hc1 hf) (fun _ => ?_)
      refine c_exit ?_
      refine sq_x ?_
      injection h with h; subst h
      exact And.intro rfl (And.intro (sub_to hS (by kernel_rfl)) hH)
  · clear hS hH; intro e fr HF; obtain ⟨s, σ⟩ := fr
    obtain ⟨rfl, hS, hH⟩ := HF
    refine bk_e ?_
    refine sq_n ?_
    refine c_seq ?_
    refine c_region ?_
    refine q_seg 2 [(4, .int .i64 a1)] hS (by kernel_rfl) ?_; intro s hS
    refine x_nil ?_
    refine sq_n ?_
    refine c_ret ?_
    injection h with h; subst h
    exact end_W hH (r_tmp (v := .int .i64 a1) hS rfl r_nil) rfl (by kernel_rfl) (by simp [pureT, pureL, E_i64])
end Go.Am
end
section
set_option maxRecDepth 100000
set_option maxHeartbeats 4000000
set_option linter.unusedVariables false
set_option linter.unusedSimpArgs false
namespace Go.Am
open Go.Proofs
noncomputable def B_laws_markBindingS (a0 : (Sl DBinding)) (a1 : Int) : Option Int := ((loopO (S := Unit) (R := Unit) (fun st1 => (if (decide (0 < (a0.l.length : Int))) = true then none else (some (.inr ())))) ()).bind fun y1 => (some a1))
theorem u_laws_markBindingS (a0 : (Sl DBinding)) (a1 : Int) (r : Int) (h : B_laws_markBindingS a0 a1 = some r) : F_laws_markBindingS a0 a1 = some r := by
  unfold B_laws_markBindingS at h
  refine semW_of E_i64_inj rfl rfl ok_56 rfl (all_cons (by kernel_rfl) (all_cons (by kernel_rfl) all_nil)) ?_
  intro σ0 s hS hH
  have hS := sub_to (L' := [(0, (Sl.t (a0 : Sl DBinding))), (1, .int .i64 a1)]) hS (by kernel_rfl)
  refine c_seq ?_
  refine c_region ?_
  refine q_seg 1 [(0, (Sl.t (a0 : Sl DBinding))), (1, .int .i64 a1)] hS (by kernel_rfl) ?_; intro s hS
  refine x_nil ?_
  refine sq_n ?_
  refine c_seq ?_
  refine c_seq ?_
  refine c_region ?_
  refine q_seg 1 [(0, (Sl.t (a0 : Sl DBinding))), (1, .int .i64 a1), (5, .int .i64 0)] hS (by kernel_rfl) ?_; intro s hS
  refine x_nil ?_
  refine sq_n ?_
  refine c_block ?_
  obtain ⟨y1, hy1, h⟩ := bind_some h
  refine c_loop (fun (st1 : Unit) (fr : Fr) => Sub [(0, (Sl.t (a0 : Sl DBinding))), (1, .int .i64 a1), (5, .int .i64 0)] fr.s ∧ Heap σ0 fr.σ []) (fun (y1 : Unit) (e : AExit) (fr : Fr) => e = (.exit 0) ∧ Sub [(1, .int .i64 a1)] fr.s ∧ Heap σ0 fr.σ []) hy1 (And.intro (sub_to hS (by kernel_rfl)) hH) ?_ ?_
  · clear h hy1 hS hH; clear y1; intro st1 x fr h HI; obtain ⟨s, σ⟩ := fr; obtain ⟨hS, hH⟩ := HI
    refine c_seq ?_
    refine c_seq ?_
    refine c_region ?_
    refine q_seg 4 [(0, (Sl.t (a0 : Sl DBinding))), (1, .int .i64 a1), (5, .int .i64 0), (9, .bool (decide (0 < (a0.l.length : Int))))] hS (by kernel_rfl) ?_; intro s hS
    refine x_nil ?_
    refine sq_n ?_
    by_cases hc1 : (decide (0 < (a0.l.length : Int))) = true
    · have h := it_pos hc1 h
      refine c_cond hS rfl (fun _ => ?_) (fun hf => ff_absurd hc1 hf)
      refine c_skip ?_
      refine sq_n ?_
      refine c_seq ?_
      refine c_block ?_
      refine c_seq ?_
      cases h
    · have h := it_neg hc1 h
      refine c_cond hS rfl (fun hf => tt_absurd hc1 hf) (fun _ => ?_)
      refine c_exit ?_
      refine sq_x ?_
      injection h with h; subst h
      exact And.intro rfl (And.intro (sub_to hS (by kernel_rfl)) hH)
  · clear hS hH; intro e fr HF; obtain ⟨s, σ⟩ := fr
    obtain ⟨rfl, hS, hH⟩ := HF
    refine bk_e ?_
    refine sq_n ?_
    refine c_seq ?_
    refine c_region ?_
    refine q_seg 2 [(4, .int .i64 a1)] hS (by kernel_rfl) ?_; intro s hS
    refine x_nil ?_
    refine sq_n ?_
    refine c_ret ?_
    injection h with h; subst h
    exact end_W hH (r_tmp (v := .int .i64 a1) hS rfl r_nil) rfl (by kernel_rfl) (by simp [pureT, pureL, E_i64])
end Go.Am
end
section
set_option maxRecDepth 100000
set_option maxHeartbeats 4000000
set_option linter.unusedVariables false
set_option linter.unusedSimpArgs false
namespace Go.Am
open Go.Proofs
noncomputable def B_laws_markFunctionS (a0 : (Sl DFunction)) (a1 : Int) : Option Int := ((loopO (S := Unit) (R := Unit) (fun st1 => (if (decide (0 < (a0.l.length : Int))) = true then none else (some (.inr ())))) ()).bind fun y1 => (some a1))
theorem u_laws_markFunctionS (a0 : (Sl DFunction)) (a1 : Int) (r : Int) (h : B_laws_markFunctionS a0 a1 = some r) : F_laws_markFunctionS a0 a1 = some r := by
  unfold B_laws_markFunctionS at h
  refine semW_of E_i64_inj rfl rfl ok_57 rfl (all_cons (by kernel_rfl) (all_cons (by kernel_rfl) all_nil)) ?_
  intro σ0 s hS hH
  have hS := sub_to (L' := [(0, (Sl.t (a0 : Sl DFunction))), (1, .int .i64 a1)]) hS (by kernel_rfl)
  refine c_seq ?_
  refine c_region ?_
  refine q_seg 1 [(0, (Sl.t (a0 : Sl DFunction))), (1, .int .i64 a1)] hS (by kernel_rfl) ?_; intro s hS
  refine x_nil ?_
  refine sq_n ?_
  refine c_seq ?_
  refine c_seq ?_
  refine c_region ?_
  refine q_seg 1 [(0, (Sl.t (a0 : Sl DFunction))), (1, .int .i64 a1), (5, .int .i64 0)] hS (by kernel_rfl) ?_; intro s hS
  refine x_nil ?_
  refine sq_n ?_
  refine c_block ?_
  obtain ⟨y1, hy1, h⟩ := bind_some h
  refine c_loop (fun (st1 : Unit) (fr : Fr) => Sub [(0, (Sl.t (a0 : Sl DFunction))), (1, .int .i64 a1), (5, .int .i64 0)] fr.s ∧ Heap σ0 fr.σ []) (fun (y1 : Unit) (e : AExit) (fr : Fr) => e = (.exit 0) ∧ Sub [(1, .int .i64 a1)] fr.s ∧ Heap σ0 fr.σ []) hy1 (And.intro (sub_to hS (by kernel_rfl)) hH) ?_ ?_
  · clear h hy1 hS hH; clear y1; intro st1 x fr h HI; obtain ⟨s, σ⟩ := fr; obtain ⟨hS, hH⟩ := HI
    refine c_seq ?_
    refine c_seq ?_
    refine c_region ?_
    refine q_seg 4 [(0, (Sl.t (a0 : Sl DFunction))), (1, .int .i64 a1), (5, .int .i64 0), (9, .bool (decide (0 < (a0.l.length : Int))))] hS (by kernel_rfl) ?_; intro s hS
    refine x_nil ?_
    refine sq_n ?_
    by_cases hc1 : (decide (0 < (a0.l.length : Int))) = true
    · have h := it_pos hc1 h
      refine c_cond hS rfl (fun _ => ?_) (fun hf => ff_absurd hc1 hf)
      refine c_skip ?_
      refine sq_n ?_
      refine c_seq ?_
      refine c_block ?_
      refine c_seq ?_
      cases h
    · have h := it_neg hc1 h
      refine c_cond hS rfl (fun hf => tt_absurd hc1 hf) (fun _ => ?_)
      refine c_exit ?_
      refine sq_x ?_
      injection h with h; subst h
      exact And.intro rfl (And.intro (sub_to hS (by kernel_rfl)) hH)
  · clear hS hH; intro e fr HF; obtain ⟨s, σ⟩ := fr
    obtain ⟨rfl, hS, hH⟩ := HF
    refine bk_e ?_
    refine sq_n ?_
    refine c_seq ?_
    refine c_region ?_
    refine q_seg 2 [(4, .int .i64 a1)] hS (by kernel_rfl) ?_; intro s hS
    refine x_nil ?_
    refine sq_n ?_
    refine c_ret ?_
    injection h with h; subst h
    exact end_W hH (r_tmp (v := .int .i64 a1) hS rfl r_nil) rfl (by kernel_rfl) (by simp [pureT, pureL, E_i64])
end Go.Am
end
section
set_option maxRecDepth 100000
set_option maxHeartbeats 4000000
set_option linter.unusedVariables false
set_option linter.unusedSimpArgs false
namespace Go.Am
open Go.Proofs
noncomputable def B_laws_markRecordTypeS (a0 : (Sl DRecordType)) (a1 : Int) : Option Int := ((loopO (S := Unit) (R := Unit) (fun st1 => (if (decide (0 < (a0.l.length : Int))) = true then none else (some (.inr ())))) ()).bind fun y1 => (some a1))
theorem u_laws_markRecordTypeS (a0 : (Sl DRecordType)) (a1 : Int) (r : Int) (h : B_laws_markRecordTypeS a0 a1 = some r) : F_laws_markRecordTypeS a0 a1 = some r := by
  unfold B_laws_markRecordTypeS at h
  refine semW_of E_i64_inj rfl rfl ok_58 rfl (all_cons (by kernel_rfl) (all_cons (by kernel_rfl) all_nil)) ?_
  intro σ0 s hS hH
  have hS := sub_to (L' := [(0, (Sl.t (a0 : Sl DRecordType))), (1, .int .i64 a1)]) hS (by kernel_rfl)
  refine c_seq ?_
  refine c_region ?_
  refine q_seg 1 [(0, (Sl.t (a0 : Sl DRecordType))), (1, .int .i64 a1)] hS (by kernel_rfl) ?_; intro s hS
  refine x_nil ?_
  refine sq_n ?_
  refine c_seq ?_
  refine c_seq ?_
  refine c_region ?_
  refine q_seg 1 [(0, (Sl.t (a0 : Sl DRecordType))), (1, .int .i64 a1), (5, .int .i64 0)] hS (by kernel_rfl) ?_; intro s hS
  refine x_nil ?_
  refine sq_n ?_
  refine c_block ?_
  obtain ⟨y1, hy1, h⟩ := bind_some h
  refine c_loop (fun (st1 : Unit) (fr : Fr) => Sub [(0, (Sl.t (a0 : Sl DRecordType))), (1, .int .i64 a1), (5, .int .i64 0)] fr.s ∧ Heap σ0 fr.σ []) (fun (y1 : Unit) (e : AExit) (fr : Fr) => e = (.exit 0) ∧ Sub [(1, .int .i64 a1)] fr.s ∧ Heap σ0 fr.σ []) hy1 (And.intro (sub_to hS (by kernel_rfl)) hH) ?_ ?_
  · clear h hy1 hS hH; clear y1; intro st1 x fr h HI; obtain ⟨s, σ⟩ := fr; obtain ⟨hS, hH⟩ := HI
    refine c_seq ?_
    refine c_seq ?_
    refine c_region ?_
    refine q_seg 4 [(0, (Sl.t (a0 : Sl DRecordType))), (1, .int .i64 a1), (5, .int .i64 0), (9, .bool (decide (0 < (a0.l.length : Int))))] hS (by kernel_rfl) ?_; intro s hS
    refine x_nil ?_
    refine sq_n ?_
    by_cases hc1 : (decide (0 < (a0.l.length : Int))) = true
    · have h := it_pos hc1 h
      refine c_cond hS rfl (fun _ => ?_) (fun hf => ff_absurd hc1 hf)
      refine c_skip ?_
      refine sq_n ?_
      refine c_seq ?_
      refine c_block ?_
      refine c_seq ?_
      cases h
    · have h := it_neg hc1 h
      refine c_cond hS rfl (fun hf => tt_absurd hc1 hf) (fun _ => ?_)
      refine c_exit ?_
      refine sq_x ?_
      injection h with h; subst h
      exact And.intro rfl (And.intro (sub_to hS (by kernel_rfl)) hH)
  · clear hS hH; intro e fr HF; obtain ⟨s, σ⟩ := fr
    obtain ⟨rfl, hS, hH⟩ := HF
    refine bk_e ?_
    refine sq_n ?_
    refine c_seq ?_
    refine c_region ?_
    refine q_seg 2 [(4, .int .i64 a1)] hS (by kernel_rfl) ?_; intro s hS
    refine x_nil ?_
    refine sq_n ?_
    refine c_ret ?_
    injection h with h; subst h
    exact end_W hH (r_tmp (v := .int .i64 a1) hS rfl r_nil) rfl (by kernel_rfl) (by simp [pureT, pureL, E_i64])
end Go.Am
end
section
set_option maxRecDepth 100000
set_option maxHeartbeats 4000000
set_option linter.unusedVariables false
set_option linter.unusedSimpArgs false
namespace Go.Am
open Go.Proofs
noncomputable def B_laws_markFileS (a0 : (Sl DFile)) (a1 : Int) : Option Int := ((loopO (S := Unit) (R := Unit) (fun st1 => (if (decide (0 < (a0.l.length : Int))) = true then none else (some (.inr ())))) ()).bind fun y1 => (some a1))
theorem u_laws_markFileS (a0 : (Sl DFile)) (a1 : Int) (r : Int) (h : B_laws_markFileS a0 a1 = some r) : F_laws_markFileS a0 a1 = some r := by
  unfold B_laws_markFileS at h
  refine semW_of E_i64_inj rfl rfl ok_59 rfl (all_cons (by kernel_rfl) (all_cons (by kernel_rfl) all_nil)) ?_
  intro σ0 s hS hH
  have hS := sub_to (L' := [(0, (Sl.t (a0 : Sl DFile))), (1, .int .i64 a1)]) hS (by kernel_rfl)
  refine c_seq ?_
  refine c_region ?_
  refine q_seg 1 [(0, (Sl.t (a0 : Sl DFile))), (1, .int .i64 a1)] hS (by kernel_rfl) ?_; intro s hS
  refine x_nil ?_
  refine sq_n ?_
  refine c_seq ?_
  refine c_seq ?_
  refine c_region ?_
  refine q_seg 1 [(0, (Sl.t (a0 : Sl DFile))), (1, .int .i64 a1), (5, .int .i64 0)] hS (by kernel_rfl) ?_; intro s hS
  refine x_nil ?_
  refine sq_n ?_
  refine c_block ?_
  obtain ⟨y1, hy1, h⟩ := bind_some h
  refine c_loop (fun (st1 : Unit) (fr : Fr) => Sub [(0, (Sl.t (a0 : Sl DFile))), (1, .int .i64 a1), (5, .int .i64 0)] fr.s ∧ Heap σ0 fr.σ []) (fun (y1 : Unit) (e : AExit) (fr : Fr) => e = (.exit 0) ∧ Sub [(1, .int .i64 a1)] fr.s ∧ Heap σ0 fr.σ []) hy1 (And.intro (sub_to hS (by kernel_rfl)) hH) ?_ ?_
  · clear h hy1 hS hH; clear y1; intro st1 x fr h HI; obtain ⟨s, σ⟩ := fr; obtain ⟨hS, hH⟩ := HI
    refine c_seq ?_
    refine c_seq ?_
    refine c_region ?_
    refine q_seg 4 [(0, (Sl.t (a0 : Sl DFile))), (1, .int .i64 a1), (5, .int .i64 0), (9, .bool (decide (0 < (a0.l.length : Int))))] hS (by kernel_rfl) ?_; intro s hS
    refine x_nil ?_
    refine sq_n ?_
    by_cases hc1 : (decide (0 < (a0.l.length : Int))) = true
    · have h := it_pos hc1 h
      refine c_cond hS rfl (fun _ => ?_) (fun hf => ff_absurd hc1 hf)
      refine c_skip ?_
      refine sq_n ?_
      refine c_seq ?_
      refine c_block ?_
      refine c_seq ?_
      cases h
    · have h := it_neg hc1 h
      refine c_cond hS rfl (fun hf => tt_absurd hc1 hf) (fun _ => ?_)
      refine c_exit ?_
      refine sq_x ?_
      injection h with h; subst h
      exact And.intro rfl (And.intro (sub_to hS (by kernel_rfl)) hH)
  · clear hS hH; intro e fr HF; obtain ⟨s, σ⟩ := fr
    obtain ⟨rfl, hS, hH⟩ := HF
    refine bk_e ?_
    refine sq_n ?_
    refine c_seq ?_
    refine c_region ?_
    refine q_seg 2 [(4, .int .i64 a1)] hS (by kernel_rfl) ?_; intro s hS
    refine x_nil ?_
    refine sq_n ?_
    refine c_ret ?_
    injection h with h; subst h
    exact end_W hH (r_tmp (v := .int .i64 a1) hS rfl r_nil) rfl (by kernel_rfl) (by simp [pureT, pureL, E_i64])
end Go.Am
end
section
set_option maxRecDepth 100000
set_option maxHeartbeats 4000000
set_option linter.unusedVariables false
set_option linter.unusedSimpArgs false
namespace Go.Am
open Go.Proofs
noncomputable def B_laws_heldObjectS (a0 : (Sl DObject)) (a1 : Int) : Option Int := ((loopO (S := (Int × Int)) (R := (Int ⊕ Int)) (fun st1 => (if (decide (st1.2 < (a0.l.length : Int))) = true then ((elt a0 st1.2).bind fun y2 => (if (!decide (y2.Id = st1.1)) = true then (some (.inr (.inr (-1)))) else ((elt a0 st1.2).bind fun y3 => (if (!decide (y3.Kind = (IntKind.i64.wrap (st1.1 + 1)))) = true then (some (.inr (.inr (-1)))) else ((elt a0 st1.2).bind fun y4 => ((F_laws_markText (IntKind.i64.wrap ((IntKind.i64.wrap (st1.1 + 1)) + 1))).bind fun y5 => (if (!decide (y4.Name = y5)) = true then (some (.inr (.inr (-1)))) else ((elt a0 st1.2).bind fun y6 => (if (!decide (y6.Low = (IntKind.i64.wrap ((IntKind.i64.wrap ((IntKind.i64.wrap (st1.1 + 1)) + 1)) + 1)))) = true then (some (.inr (.inr (-1)))) else ((elt a0 st1.2).bind fun y7 => ((F_laws_heldValueS y7.Keys (IntKind.i64.wrap ((IntKind.i64.wrap ((IntKind.i64.wrap ((IntKind.i64.wrap (st1.1 + 1)) + 1)) + 1)) + 1))).bind fun y8 => (if (decide (y8 < 0)) = true then (some (.inr (.inr (-1)))) else ((elt a0 st1.2).bind fun y9 => ((F_laws_heldValueS y9.Vals y8).bind fun y10 => (if (decide (y10 < 0)) = true then (some (.inr (.inr (-1)))) else ((elt a0 st1.2).bind fun y11 => (if (!decide (y11.Default.Kind = y10)) = true then (some (.inr (.inr (-1)))) else ((elt a0 st1.2).bind fun y12 => (if (!decide (y12.Default.Num = (IntKind.i64.wrap (y10 + 1)))) = true then (some (.inr (.inr (-1)))) else ((elt a0 st1.2).bind fun y13 => ((F_laws_markText (IntKind.i64.wrap ((IntKind.i64.wrap (y10 + 1)) + 1))).bind fun y14 => (if (!decide (y13.Default.Text = y14)) = true then (some (.inr (.inr (-1)))) else ((elt a0 st1.2).bind fun y15 => (if (!decide (y15.Default.Ref = (IntKind.i64.wrap ((IntKind.i64.wrap ((IntKind.i64.wrap (y10 + 1)) + 1)) + 1)))) = true then (some (.inr (.inr (-1)))) else (some (.inl ((IntKind.i64.wrap ((IntKind.i64.wrap ((IntKind.i64.wrap ((IntKind.i64.wrap (y10 + 1)) + 1)) + 1)) + 1)), (IntKind.i64.wrap (st1.2 + 1))))))))))))))))))))))))))))) else (some (.inr (.inl st1.1))))) (a1, 0)).bind fun y1 => (Sum.elim (fun y1 => (some y1)) (fun y1 => (some y1)) y1))
theorem u_laws_heldObjectS (a0 : (Sl DObject)) (a1 : Int) (r : Int) (h : B_laws_heldObjectS a0 a1 = some r) : F_laws_heldObjectS a0 a1 = some r := by
  unfold B_laws_heldObjectS at h
  refine semW_of E_i64_inj rfl rfl ok_60 rfl (all_cons (by kernel_rfl) (all_cons (by kernel_rfl) all_nil)) ?_
  intro σ0 s hS hH
  have hS := sub_to (L' := [(0, (Sl.t (a0 : Sl DObject))), (1, .int .i64 a1)]) hS (by kernel_rfl)
  refine c_seq ?_
  refine c_region ?_
  refine q_seg 1 [(0, (Sl.t (a0 : Sl DObject))), (1, .int .i64 a1)] hS (by kernel_rfl) ?_; intro s hS
  refine x_nil ?_
  refine sq_n ?_
  refine c_seq ?_
  refine c_seq ?_
  refine c_region ?_
  refine q_seg 1 [(0, (Sl.t (a0 : Sl DObject))), (1, .int .i64 a1), (5, .int .i64 0)] hS (by kernel_rfl) ?_; intro s hS
  refine x_nil ?_
  refine sq_n ?_
  refine c_block ?_
  obtain ⟨y1, hy1, h⟩ := bind_some h
  refine c_loop (fun (st1 : (Int × Int)) (fr : Fr) => Sub [(0, (Sl.t (a0 : Sl DObject))), (1, .int .i64 st1.1), (5, .int .i64 st1.2)] fr.s ∧ Heap σ0 fr.σ []) (fun (y1 : (Int ⊕ Int)) (e : AExit) (fr : Fr) => (Sum.elim (fun y => e = (.exit 0) ∧ Sub [(1, .int .i64 y)] fr.s ∧ Heap σ0 fr.σ []) (fun y => e = .ret ∧ endW Try.prog (Try.f60.results.toList) σ0 (E_i64 y) .ret fr)) y1) hy1 (And.intro (sub_to hS (by kernel_rfl)) hH) ?_ ?_
  · clear h hy1 hS hH; clear y1; intro st1 x fr h HI; obtain ⟨s, σ⟩ := fr; obtain ⟨hS, hH⟩ := HI
    refine c_seq ?_
    refine c_seq ?_
    refine c_region ?_
    refine q_seg 4 [(0, (Sl.t (a0 : Sl DObject))), (1, .int .i64 st1.1), (5, .int .i64 st1.2), (9, .bool (decide (st1.2 < (a0.l.length : Int))))] hS (by kernel_rfl) ?_; intro s hS
    refine x_nil ?_
    refine sq_n ?_
    by_cases hc1 : (decide (st1.2 < (a0.l.length : Int))) = true
    · have h := it_pos hc1 h
      refine c_cond hS rfl (fun _ => ?_) (fun hf => ff_absurd hc1 hf)
      refine c_skip ?_
      refine sq_n ?_
      refine c_seq ?_
      refine c_block ?_
      refine c_seq ?_
      refine c_seq ?_
      refine c_region ?_
      refine q_seg 2 [(0, (Sl.t (a0 : Sl DObject))), (1, .int .i64 st1.1), (5, .int .i64 st1.2), (12, (Sl.t (a0 : Sl DObject))), (13, .int .i64 st1.2)] hS (by kernel_rfl) ?_; intro s hS
      obtain ⟨y2, hy2, h⟩ := bind_some h
      refine q_elt (sl := a0) (e := 115) [.int .i64 y2.Id, .int .i64 y2.Kind, .str y2.Name, .int .i64 y2.Low, (Sl.t (y2.Keys : Sl DValue)), (Sl.t (y2.Vals : Sl DValue)), .int .i64 y2.Default.Kind, .int .i64 y2.Default.Num, .str y2.Default.Text, .int .i64 y2.Default.Ref] rfl hS rfl rfl (by kernel_rfl) (by kernel_rfl) hy2 rfl ?_; intro rest1 s hS
      refine q_seg 4 [(0, (Sl.t (a0 : Sl DObject))), (1, .int .i64 st1.1), (5, .int .i64 st1.2), (18, .bool (!decide (y2.Id = st1.1)))] hS (by kernel_rfl) ?_; intro s hS
      refine x_nil ?_
      refine sq_n ?_
      by_cases hc2 : (!decide (y2.Id = st1.1)) = true
      · have h := it_pos hc2 h
        refine c_cond hS rfl (fun _ => ?_) (fun hf => ff_absurd hc2 hf)
        refine c_seq ?_
        refine c_region ?_
        refine q_seg 1 [(4, .int .i64 (-1))] hS (by kernel_rfl) ?_; intro s hS
        refine x_nil ?_
        refine sq_n ?_
        refine c_ret ?_
        refine sq_r ?_
        refine bk_r ?_
        refine sq_r ?_
        injection h with h; subst h
        exact And.intro rfl (end_W hH (r_tmp (v := .int .i64 (-1)) hS rfl r_nil) rfl (by kernel_rfl) (by simp [pureT, pureL, E_i64]))
      · have h := it_neg hc2 h
        refine c_cond hS rfl (fun hf => tt_absurd hc2 hf) (fun _ => ?_)
        refine c_skip ?_
        refine sq_n ?_
        refine c_seq ?_
        refine c_region ?_
        refine q_seg 3 [(0, (Sl.t (a0 : Sl DObject))), (1, .int .i64 (IntKind.i64.wrap (st1.1 + 1))), (5, .int .i64 st1.2)] hS (by kernel_rfl) ?_; intro s hS
        refine x_nil ?_
        refine sq_n ?_
        refine c_seq ?_
        refine c_seq ?_
        refine c_region ?_
        refine q_seg 2 [(0, (Sl.t (a0 : Sl DObject))), (1, .int .i64 (IntKind.i64.wrap (st1.1 + 1))), (5, .int .i64 st1.2), (21, (Sl.t (a0 : Sl DObject))), (22, .int .i64 st1.2)] hS (by kernel_rfl) ?_; intro s hS
        obtain ⟨y3, hy3, h⟩ := bind_some h
        refine q_elt (sl := a0) (e := 115) [.int .i64 y3.Id, .int .i64 y3.Kind, .str y3.Name, .int .i64 y3.Low, (Sl.t (y3.Keys : Sl DValue)), (Sl.t (y3.Vals : Sl DValue)), .int .i64 y3.Default.Kind, .int .i64 y3.Default.Num, .str y3.Default.Text, .int .i64 y3.Default.Ref] rfl hS rfl rfl (by kernel_rfl) (by kernel_rfl) hy3 rfl ?_; intro rest2 s hS
        refine q_seg 4 [(0, (Sl.t (a0 : Sl DObject))), (1, .int .i64 (IntKind.i64.wrap (st1.1 + 1))), (5, .int .i64 st1.2), (27, .bool (!decide (y3.Kind = (IntKind.i64.wrap (st1.1 + 1)))))] hS (by kernel_rfl) ?_; intro s hS
        refine x_nil ?_
        refine sq_n ?_
        by_cases hc3 : (!decide (y3.Kind = (IntKind.i64.wrap (st1.1 + 1)))) = true
        · have h := it_pos hc3 h
          refine c_cond hS rfl (fun _ => ?_) (fun hf => ff_absurd hc3 hf)
          refine c_seq ?_
          refine c_region ?_
          refine q_seg 1 [(4, .int .i64 (-1))] hS (by kernel_rfl) ?_; intro s hS
          refine x_nil ?_
          refine sq_n ?_
          refine c_ret ?_
          refine sq_r ?_
          refine bk_r ?_
          refine sq_r ?_
          injection h with h; subst h
          exact And.intro rfl (end_W hH (r_tmp (v := .int .i64 (-1)) hS rfl r_nil) rfl (by kernel_rfl) (by simp [pureT, pureL, E_i64]))
        · have h := it_neg hc3 h
          refine c_cond hS rfl (fun hf => tt_absurd hc3 hf) (fun _ => ?_)
          refine c_skip ?_
          refine sq_n ?_
          refine c_seq ?_
          refine c_region ?_
          refine q_seg 3 [(0, (Sl.t (a0 : Sl DObject))), (1, .int .i64 (IntKind.i64.wrap ((IntKind.i64.wrap (st1.1 + 1)) + 1))), (5, .int .i64 st1.2)] hS (by kernel_rfl) ?_; intro s hS
          refine x_nil ?_
          refine sq_n ?_
          refine c_seq ?_
          refine c_seq ?_
          refine c_draw (by kernel_rfl) hH ?_; intro mb σ hH
          refine q_seg 2 [(0, (Sl.t (a0 : Sl DObject))), (1, .int .i64 (IntKind.i64.wrap ((IntKind.i64.wrap (st1.1 + 1)) + 1))), (5, .int .i64 st1.2), (30, (Sl.t (a0 : Sl DObject))), (31, .int .i64 st1.2)] hS (by kernel_rfl) ?_; intro s hS
          obtain ⟨y4, hy4, h⟩ := bind_some h
          refine q_elt (sl := a0) (e := 115) [.int .i64 y4.Id, .int .i64 y4.Kind, .str y4.Name, .int .i64 y4.Low, (Sl.t (y4.Keys : Sl DValue)), (Sl.t (y4.Vals : Sl DValue)), .int .i64 y4.Default.Kind, .int .i64 y4.Default.Num, .str y4.Default.Text, .int .i64 y4.Default.Ref] rfl hS rfl rfl (by kernel_rfl) (by kernel_rfl) hy4 rfl ?_; intro rest3 s hS
          refine q_seg 3 [(0, (Sl.t (a0 : Sl DObject))), (1, .int .i64 (IntKind.i64.wrap ((IntKind.i64.wrap (st1.1 + 1)) + 1))), (5, .int .i64 st1.2), (34, .str y4.Name), (35, .int .i64 (IntKind.i64.wrap ((IntKind.i64.wrap (st1.1 + 1)) + 1)))] hS (by kernel_rfl) ?_; intro s hS
          obtain ⟨y5, hy5, h⟩ := bind_some h
          refine q_callF (a := []) (b := []) (xs := [.int .i64 (IntKind.i64.wrap ((IntKind.i64.wrap (st1.1 + 1)) + 1))]) rfl hS rfl rfl hy5 ?_; intro s hS
          refine q_seg 1 [(0, (Sl.t (a0 : Sl DObject))), (1, .int .i64 (IntKind.i64.wrap ((IntKind.i64.wrap (st1.1 + 1)) + 1))), (5, .int .i64 st1.2), (37, .bool (!decide (y4.Name = y5)))] hS (by kernel_rfl) ?_; intro s hS
          refine x_nil ?_
          refine sq_n ?_
          by_cases hc4 : (!decide (y4.Name = y5)) = true
          · have h := it_pos hc4 h
            refine c_cond hS rfl (fun _ => ?_) (fun hf => ff_absurd hc4 hf)
            refine c_seq ?_
            refine c_region ?_
            refine q_seg 1 [(4, .int .i64 (-1))] hS (by kernel_rfl) ?_; intro s hS
            refine x_nil ?_
            refine sq_n ?_
            refine c_ret ?_
            refine sq_r ?_
            refine bk_r ?_
            refine sq_r ?_
            injection h with h; subst h
            exact And.intro rfl (end_W hH (r_tmp (v := .int .i64 (-1)) hS rfl r_nil) rfl (by kernel_rfl) (by simp [pureT, pureL, E_i64]))
          · have h := it_neg hc4 h
            refine c_cond hS rfl (fun hf => tt_absurd hc4 hf) (fun _ => ?_)
            refine c_skip ?_
            refine sq_n ?_
            refine c_seq ?_
            refine c_region ?_
            refine q_seg 3 [(0, (Sl.t (a0 : Sl DObject))), (1, .int .i64 (IntKind.i64.wrap ((IntKind.i64.wrap ((IntKind.i64.wrap (st1.1 + 1)) + 1)) + 1))), (5, .int .i64 st1.2)] hS (by kernel_rfl) ?_; intro s hS
            refine x_nil ?_
            refine sq_n ?_
            refine c_seq ?_
            refine c_seq ?_
            refine c_region ?_
            refine q_seg 2 [(0, (Sl.t (a0 : Sl DObject))), (1, .int .i64 (IntKind.i64.wrap ((IntKind.i64.wrap ((IntKind.i64.wrap (st1.1 + 1)) + 1)) + 1))), (5, .int .i64 st1.2), (40, (Sl.t (a0 : Sl DObject))), (41, .int .i64 st1.2)] hS (by kernel_rfl) ?_; intro s hS
            obtain ⟨y6, hy6, h⟩ := bind_some h
            refine q_elt (sl := a0) (e := 115) [.int .i64 y6.Id, .int .i64 y6.Kind, .str y6.Name, .int .i64 y6.Low, (Sl.t (y6.Keys : Sl DValue)), (Sl.t (y6.Vals : Sl DValue)), .int .i64 y6.Default.Kind, .int .i64 y6.Default.Num, .str y6.Default.Text, .int .i64 y6.Default.Ref] rfl hS rfl rfl (by kernel_rfl) (by kernel_rfl) hy6 rfl ?_; intro rest4 s hS
            refine q_seg 4 [(0, (Sl.t (a0 : Sl DObject))), (1, .int .i64 (IntKind.i64.wrap ((IntKind.i64.wrap ((IntKind.i64.wrap (st1.1 + 1)) + 1)) + 1))), (5, .int .i64 st1.2), (46, .bool (!decide (y6.Low = (IntKind.i64.wrap ((IntKind.i64.wrap ((IntKind.i64.wrap (st1.1 + 1)) + 1)) + 1)))))] hS (by kernel_rfl) ?_; intro s hS
            refine x_nil ?_
            refine sq_n ?_
            by_cases hc5 : (!decide (y6.Low = (IntKind.i64.wrap ((IntKind.i64.wrap ((IntKind.i64.wrap (st1.1 + 1)) + 1)) + 1)))) = true
            · have h := it_pos hc5 h
              refine c_cond hS rfl (fun _ => ?_) (fun hf => ff_absurd hc5 hf)
              refine c_seq ?_
              refine c_region ?_
              refine q_seg 1 [(4, .int .i64 (-1))] hS (by kernel_rfl) ?_; intro s hS
              refine x_nil ?_
              refine sq_n ?_
              refine c_ret ?_
              refine sq_r ?_
              refine bk_r ?_
              refine sq_r ?_
              injection h with h; subst h
              exact And.intro rfl (end_W hH (r_tmp (v := .int .i64 (-1)) hS rfl r_nil) rfl (by kernel_rfl) (by simp [pureT, pureL, E_i64]))
            · have h := it_neg hc5 h
              refine c_cond hS rfl (fun hf => tt_absurd hc5 hf) (fun _ => ?_)
              refine c_skip ?_
              refine sq_n ?_
              refine c_seq ?_
              refine c_region ?_
              refine q_seg 3 [(0, (Sl.t (a0 : Sl DObject))), (1, .int .i64 (IntKind.i64.wrap ((IntKind.i64.wrap ((IntKind.i64.wrap ((IntKind.i64.wrap (st1.1 + 1)) + 1)) + 1)) + 1))), (5, .int .i64 st1.2)] hS (by kernel_rfl) ?_; intro s hS
              refine x_nil ?_
              refine sq_n ?_
              refine c_seq ?_
              refine c_region ?_
              refine q_seg 2 [(0, (Sl.t (a0 : Sl DObject))), (1, .int .i64 (IntKind.i64.wrap ((IntKind.i64.wrap ((IntKind.i64.wrap ((IntKind.i64.wrap (st1.1 + 1)) + 1)) + 1)) + 1))), (5, .int .i64 st1.2), (49, (Sl.t (a0 : Sl DObject))), (50, .int .i64 st1.2)] hS (by kernel_rfl) ?_; intro s hS
              obtain ⟨y7, hy7, h⟩ := bind_some h
              refine q_elt (sl := a0) (e := 115) [.int .i64 y7.Id, .int .i64 y7.Kind, .str y7.Name, .int .i64 y7.Low, (Sl.t (y7.Keys : Sl DValue)), (Sl.t (y7.Vals : Sl DValue)), .int .i64 y7.Default.Kind, .int .i64 y7.Default.Num, .str y7.Default.Text, .int .i64 y7.Default.Ref] rfl hS rfl rfl (by kernel_rfl) (by kernel_rfl) hy7 rfl ?_; intro rest5 s hS
              refine q_seg 3 [(0, (Sl.t (a0 : Sl DObject))), (5, .int .i64 st1.2), (53, (Sl.t (y7.Keys : Sl DValue))), (54, .int .i64 (IntKind.i64.wrap ((IntKind.i64.wrap ((IntKind.i64.wrap ((IntKind.i64.wrap (st1.1 + 1)) + 1)) + 1)) + 1)))] hS (by kernel_rfl) ?_; intro s hS
              obtain ⟨y8, hy8, h⟩ := bind_some h
              refine q_callF (a := []) (b := []) (xs := [(Sl.t (y7.Keys : Sl DValue)), .int .i64 (IntKind.i64.wrap ((IntKind.i64.wrap ((IntKind.i64.wrap ((IntKind.i64.wrap (st1.1 + 1)) + 1)) + 1)) + 1))]) rfl hS rfl rfl hy8 ?_; intro s hS
              refine q_seg 1 [(0, (Sl.t (a0 : Sl DObject))), (1, .int .i64 y8), (5, .int .i64 st1.2)] hS (by kernel_rfl) ?_; intro s hS
              refine x_nil ?_
              refine sq_n ?_
              refine c_seq ?_
              refine c_seq ?_
              refine c_region ?_
              refine q_seg 2 [(0, (Sl.t (a0 : Sl DObject))), (1, .int .i64 y8), (5, .int .i64 st1.2), (57, .bool (decide (y8 < 0)))] hS (by kernel_rfl) ?_; intro s hS
              refine x_nil ?_
              refine sq_n ?_
              by_cases hc6 : (decide (y8 < 0)) = true
              · have h := it_pos hc6 h
                refine c_cond hS rfl (fun _ => ?_) (fun hf => ff_absurd hc6 hf)
                refine c_seq ?_
                refine c_region ?_
                refine q_seg 1 [(4, .int .i64 (-1))] hS (by kernel_rfl) ?_; intro s hS
                refine x_nil ?_
                refine sq_n ?_
                refine c_ret ?_
                refine sq_r ?_
                refine bk_r ?_
                refine sq_r ?_
                injection h with h; subst h
                exact And.intro rfl (end_W hH (r_tmp (v := .int .i64 (-1)) hS rfl r_nil) rfl (by kernel_rfl) (by simp [pureT, pureL, E_i64]))
              · have h := it_neg hc6 h
                refine c_cond hS rfl (fun hf => tt_absurd hc6 hf) (fun _ => ?_)
                refine c_skip ?_
                refine sq_n ?_
                refine c_seq ?_
                refine c_region ?_
                refine q_seg 2 [(0, (Sl.t (a0 : Sl DObject))), (1, .int .i64 y8), (5, .int .i64 st1.2), (58, (Sl.t (a0 : Sl DObject))), (59, .int .i64 st1.2)] hS (by kernel_rfl) ?_; intro s hS
                obtain ⟨y9, hy9, h⟩ := bind_some h
                refine q_elt (sl := a0) (e := 115) [.int .i64 y9.Id, .int .i64 y9.Kind, .str y9.Name, .int .i64 y9.Low, (Sl.t (y9.Keys : Sl DValue)), (Sl.t (y9.Vals : Sl DValue)), .int .i64 y9.Default.Kind, .int .i64 y9.Default.Num, .str y9.Default.Text, .int .i64 y9.Default.Ref] rfl hS rfl rfl (by kernel_rfl) (by kernel_rfl) hy9 rfl ?_; intro rest6 s hS
                refine q_seg 3 [(0, (Sl.t (a0 : Sl DObject))), (5, .int .i64 st1.2), (62, (Sl.t (y9.Vals : Sl DValue))), (63, .int .i64 y8)] hS (by kernel_rfl) ?_; intro s hS
                obtain ⟨y10, hy10, h⟩ := bind_some h
                refine q_callF (a := []) (b := []) (xs := [(Sl.t (y9.Vals : Sl DValue)), .int .i64 y8]) rfl hS rfl rfl hy10 ?_; intro s hS
                refine q_seg 1 [(0, (Sl.t (a0 : Sl DObject))), (1, .int .i64 y10), (5, .int .i64 st1.2)] hS (by kernel_rfl) ?_; intro s hS
                refine x_nil ?_
                refine sq_n ?_
                refine c_seq ?_
                refine c_seq ?_
                refine c_region ?_
                refine q_seg 2 [(0, (Sl.t (a0 : Sl DObject))), (1, .int .i64 y10), (5, .int .i64 st1.2), (66, .bool (decide (y10 < 0)))] hS (by kernel_rfl) ?_; intro s hS
                refine x_nil ?_
                refine sq_n ?_
                by_cases hc7 : (decide (y10 < 0)) = true
                · have h := it_pos hc7 h
                  refine c_cond hS rfl (fun _ => ?_) (fun hf => ff_absurd hc7 hf)
                  refine c_seq ?_
                  refine c_region ?_
                  refine q_seg 1 [(4, .int .i64 (-1))] hS (by kernel_rfl) ?_; intro s hS
                  refine x_nil ?_
                  refine sq_n ?_
                  refine c_ret ?_
                  refine sq_r ?_
                  refine bk_r ?_
                  refine sq_r ?_
                  injection h with h; subst h
                  exact And.intro rfl (end_W hH (r_tmp (v := .int .i64 (-1)) hS rfl r_nil) rfl (by kernel_rfl) (by simp [pureT, pureL, E_i64]))
                · have h := it_neg hc7 h
                  refine c_cond hS rfl (fun hf => tt_absurd hc7 hf) (fun _ => ?_)
                  refine c_skip ?_
                  refine sq_n ?_
                  refine c_seq ?_
                  refine c_seq ?_
                  refine c_region ?_
                  refine q_seg 2 [(0, (Sl.t (a0 : Sl DObject))), (1, .int .i64 y10), (5, .int .i64 st1.2), (67, (Sl.t (a0 : Sl DObject))), (68, .int .i64 st1.2)] hS (by kernel_rfl) ?_; intro s hS
                  obtain ⟨y11, hy11, h⟩ := bind_some h
                  refine q_elt (sl := a0) (e := 115) [.int .i64 y11.Id, .int .i64 y11.Kind, .str y11.Name, .int .i64 y11.Low, (Sl.t (y11.Keys : Sl DValue)), (Sl.t (y11.Vals : Sl DValue)), .int .i64 y11.Default.Kind, .int .i64 y11.Default.Num, .str y11.Default.Text, .int .i64 y11.Default.Ref] rfl hS rfl rfl (by kernel_rfl) (by kernel_rfl) hy11 rfl ?_; intro rest7 s hS
                  refine q_seg 5 [(0, (Sl.t (a0 : Sl DObject))), (1, .int .i64 y10), (5, .int .i64 st1.2), (74, .bool (!decide (y11.Default.Kind = y10)))] hS (by kernel_rfl) ?_; intro s hS
                  refine x_nil ?_
                  refine sq_n ?_
                  by_cases hc8 : (!decide (y11.Default.Kind = y10)) = true
                  · have h := it_pos hc8 h
                    refine c_cond hS rfl (fun _ => ?_) (fun hf => ff_absurd hc8 hf)
                    refine c_seq ?_
                    refine c_region ?_
                    refine q_seg 1 [(4, .int .i64 (-1))] hS (by kernel_rfl) ?_; intro s hS
                    refine x_nil ?_
                    refine sq_n ?_
                    refine c_ret ?_
                    refine sq_r ?_
                    refine bk_r ?_
                    refine sq_r ?_
                    injection h with h; subst h
                    exact And.intro rfl (end_W hH (r_tmp (v := .int .i64 (-1)) hS rfl r_nil) rfl (by kernel_rfl) (by simp [pureT, pureL, E_i64]))
                  · have h := it_neg hc8 h
                    refine c_cond hS rfl (fun hf => tt_absurd hc8 hf) (fun _ => ?_)
                    refine c_skip ?_
                    refine sq_n ?_
                    refine c_seq ?_
                    refine c_region ?_
                    refine q_seg 3 [(0, (Sl.t (a0 : Sl DObject))), (1, .int .i64 (IntKind.i64.wrap (y10 + 1))), (5, .int .i64 st1.2)] hS (by kernel_rfl) ?_; intro s hS
                    refine x_nil ?_
                    refine sq_n ?_
                    refine c_seq ?_
                    refine c_seq ?_
                    refine c_region ?_
                    refine q_seg 2 [(0, (Sl.t (a0 : Sl DObject))), (1, .int .i64 (IntKind.i64.wrap (y10 + 1))), (5, .int .i64 st1.2), (77, (Sl.t (a0 : Sl DObject))), (78, .int .i64 st1.2)] hS (by kernel_rfl) ?_; intro s hS
                    obtain ⟨y12, hy12, h⟩ := bind_some h
                    refine q_elt (sl := a0) (e := 115) [.int .i64 y12.Id, .int .i64 y12.Kind, .str y12.Name, .int .i64 y12.Low, (Sl.t (y12.Keys : Sl DValue)), (Sl.t (y12.Vals : Sl DValue)), .int .i64 y12.Default.Kind, .int .i64 y12.Default.Num, .str y12.Default.Text, .int .i64 y12.Default.Ref] rfl hS rfl rfl (by kernel_rfl) (by kernel_rfl) hy12 rfl ?_; intro rest8 s hS
                    refine q_seg 5 [(0, (Sl.t (a0 : Sl DObject))), (1, .int .i64 (IntKind.i64.wrap (y10 + 1))), (5, .int .i64 st1.2), (84, .bool (!decide (y12.Default.Num = (IntKind.i64.wrap (y10 + 1)))))] hS (by kernel_rfl) ?_; intro s hS
                    refine x_nil ?_
                    refine sq_n ?_
                    by_cases hc9 : (!decide (y12.Default.Num = (IntKind.i64.wrap (y10 + 1)))) = true
                    · have h := it_pos hc9 h
                      refine c_cond hS rfl (fun _ => ?_) (fun hf => ff_absurd hc9 hf)
                      refine c_seq ?_
                      refine c_region ?_
                      refine q_seg 1 [(4, .int .i64 (-1))] hS (by kernel_rfl) ?_; intro s hS
                      refine x_nil ?_
                      refine sq_n ?_
                      refine c_ret ?_
                      refine sq_r ?_
                      refine bk_r ?_
                      refine sq_r ?_
                      injection h with h; subst h
                      exact And.intro rfl (end_W hH (r_tmp (v := .int .i64 (-1)) hS rfl r_nil) rfl (by kernel_rfl) (by simp [pureT, pureL, E_i64]))
                    · have h := it_neg hc9 h
                      refine c_cond hS rfl (fun hf => tt_absurd hc9 hf) (fun _ => ?_)
                      refine c_skip ?_
                      refine sq_n ?_
                      refine c_seq ?_
                      refine c_region ?_
                      refine q_seg 3 [(0, (Sl.t (a0 : Sl DObject))), (1, .int .i64 (IntKind.i64.wrap ((IntKind.i64.wrap (y10 + 1)) + 1))), (5, .int .i64 st1.2)] hS (by kernel_rfl) ?_; intro s hS
                      refine x_nil ?_
                      refine sq_n ?_
                      refine c_seq ?_
                      refine c_seq ?_
                      refine c_draw (by kernel_rfl) hH ?_; intro mb σ hH
                      refine q_seg 2 [(0, (Sl.t (a0 : Sl DObject))), (1, .int .i64 (IntKind.i64.wrap ((IntKind.i64.wrap (y10 + 1)) + 1))), (5, .int .i64 st1.2), (87, (Sl.t (a0 : Sl DObject))), (88, .int .i64 st1.2)] hS (by kernel_rfl) ?_; intro s hS
                      obtain ⟨y13, hy13, h⟩ := bind_some h
                      refine q_elt (sl := a0) (e := 115) [.int .i64 y13.Id, .int .i64 y13.Kind, .str y13.Name, .int .i64 y13.Low, (Sl.t (y13.Keys : Sl DValue)), (Sl.t (y13.Vals : Sl DValue)), .int .i64 y13.Default.Kind, .int .i64 y13.Default.Num, .str y13.Default.Text, .int .i64 y13.Default.Ref] rfl hS rfl rfl (by kernel_rfl) (by kernel_rfl) hy13 rfl ?_; intro rest9 s hS
                      refine q_seg 4 [(0, (Sl.t (a0 : Sl DObject))), (1, .int .i64 (IntKind.i64.wrap ((IntKind.i64.wrap (y10 + 1)) + 1))), (5, .int .i64 st1.2), (92, .str y13.Default.Text), (93, .int .i64 (IntKind.i64.wrap ((IntKind.i64.wrap (y10 + 1)) + 1)))] hS (by kernel_rfl) ?_; intro s hS
                      obtain ⟨y14, hy14, h⟩ := bind_some h
                      refine q_callF (a := []) (b := []) (xs := [.int .i64 (IntKind.i64.wrap ((IntKind.i64.wrap (y10 + 1)) + 1))]) rfl hS rfl rfl hy14 ?_; intro s hS
                      refine q_seg 1 [(0, (Sl.t (a0 : Sl DObject))), (1, .int .i64 (IntKind.i64.wrap ((IntKind.i64.wrap (y10 + 1)) + 1))), (5, .int .i64 st1.2), (95, .bool (!decide (y13.Default.Text = y14)))] hS (by kernel_rfl) ?_; intro s hS
                      refine x_nil ?_
                      refine sq_n ?_
                      by_cases hc10 : (!decide (y13.Default.Text = y14)) = true
                      · have h := it_pos hc10 h
                        refine c_cond hS rfl (fun _ => ?_) (fun hf => ff_absurd hc10 hf)
                        refine c_seq ?_
                        refine c_region ?_
                        refine q_seg 1 [(4, .int .i64 (-1))] hS (by kernel_rfl) ?_; intro s hS
                        refine x_nil ?_
                        refine sq_n ?_
                        refine c_ret ?_
                        refine sq_r ?_
                        refine bk_r ?_
                        refine sq_r ?_
                        injection h with h; subst h
                        exact And.intro rfl (end_W hH (r_tmp (v := .int .i64 (-1)) hS rfl r_nil) rfl (by kernel_rfl) (by simp [pureT, pureL, E_i64]))
                      · have h := it_neg hc10 h
                        refine c_cond hS rfl (fun hf => tt_absurd hc10 hf) (fun _ => ?_)
                        refine c_skip ?_
                        refine sq_n ?_
                        refine c_seq ?_
                        refine c_region ?_
                        refine q_seg 3 [(0, (Sl.t (a0 : Sl DObject))), (1, .int .i64 (IntKind.i64.wrap ((IntKind.i64.wrap ((IntKind.i64.wrap (y10 + 1)) + 1)) + 1))), (5, .int .i64 st1.2)] hS (by kernel_rfl) ?_; intro s hS
                        refine x_nil ?_
                        refine sq_n ?_
                        refine c_seq ?_
                        refine c_seq ?_
                        refine c_region ?_
                        refine q_seg 2 [(0, (Sl.t (a0 : Sl DObject))), (1, .int .i64 (IntKind.i64.wrap ((IntKind.i64.wrap ((IntKind.i64.wrap (y10 + 1)) + 1)) + 1))), (5, .int .i64 st1.2), (98, (Sl.t (a0 : Sl DObject))), (99, .int .i64 st1.2)] hS (by kernel_rfl) ?_; intro s hS
                        obtain ⟨y15, hy15, h⟩ := bind_some h
                        refine q_elt (sl := a0) (e := 115) [.int .i64 y15.Id, .int .i64 y15.Kind, .str y15.Name, .int .i64 y15.Low, (Sl.t (y15.Keys : Sl DValue)), (Sl.t (y15.Vals : Sl DValue)), .int .i64 y15.Default.Kind, .int .i64 y15.Default.Num, .str y15.Default.Text, .int .i64 y15.Default.Ref] rfl hS rfl rfl (by kernel_rfl) (by kernel_rfl) hy15 rfl ?_; intro rest10 s hS
                        refine q_seg 5 [(0, (Sl.t (a0 : Sl DObject))), (1, .int .i64 (IntKind.i64.wrap ((IntKind.i64.wrap ((IntKind.i64.wrap (y10 + 1)) + 1)) + 1))), (5, .int .i64 st1.2), (105, .bool (!decide (y15.Default.Ref = (IntKind.i64.wrap ((IntKind.i64.wrap ((IntKind.i64.wrap (y10 + 1)) + 1)) + 1)))))] hS (by kernel_rfl) ?_; intro s hS
                        refine x_nil ?_
                        refine sq_n ?_
                        by_cases hc11 : (!decide (y15.Default.Ref = (IntKind.i64.wrap ((IntKind.i64.wrap ((IntKind.i64.wrap (y10 + 1)) + 1)) + 1)))) = true
                        · have h := it_pos hc11 h
                          refine c_cond hS rfl (fun _ => ?_) (fun hf => ff_absurd hc11 hf)
                          refine c_seq ?_
                          refine c_region ?_
                          refine q_seg 1 [(4, .int .i64 (-1))] hS (by kernel_rfl) ?_; intro s hS
                          refine x_nil ?_
                          refine sq_n ?_
                          refine c_ret ?_
                          refine sq_r ?_
                          refine bk_r ?_
                          refine sq_r ?_
                          injection h with h; subst h
                          exact And.intro rfl (end_W hH (r_tmp (v := .int .i64 (-1)) hS rfl r_nil) rfl (by kernel_rfl) (by simp [pureT, pureL, E_i64]))
                        · have h := it_neg hc11 h
                          refine c_cond hS rfl (fun hf => tt_absurd hc11 hf) (fun _ => ?_)
                          refine c_skip ?_
                          refine sq_n ?_
                          refine c_region ?_
                          refine q_seg 3 [(0, (Sl.t (a0 : Sl DObject))), (1, .int .i64 (IntKind.i64.wrap ((IntKind.i64.wrap ((IntKind.i64.wrap ((IntKind.i64.wrap (y10 + 1)) + 1)) + 1)) + 1))), (5, .int .i64 st1.2)] hS (by kernel_rfl) ?_; intro s hS
                          refine x_nil ?_
                          refine bk_n ?_
                          refine sq_n ?_
                          refine c_region ?_
                          refine q_seg 3 [(0, (Sl.t (a0 : Sl DObject))), (1, .int .i64 (IntKind.i64.wrap ((IntKind.i64.wrap ((IntKind.i64.wrap ((IntKind.i64.wrap (y10 + 1)) + 1)) + 1)) + 1))), (5, .int .i64 (IntKind.i64.wrap (st1.2 + 1)))] hS (by kernel_rfl) ?_; intro s hS
                          refine x_nil ?_
                          injection h with h; subst h
                          exact And.intro (sub_to hS (by kernel_rfl)) hH
    · have h := it_neg hc1 h
      refine c_cond hS rfl (fun hf => tt_absurd hc1 hf) (fun _ => ?_)
      refine c_exit ?_
      refine sq_x ?_
      injection h with h; subst h
      exact And.intro rfl (And.intro (sub_to hS (by kernel_rfl)) hH)
  · clear hS hH; intro e fr HF; obtain ⟨s, σ⟩ := fr
    rcases y1 with y1 | y1
    · obtain ⟨rfl, hS, hH⟩ := HF
      refine bk_e ?_
      refine sq_n ?_
      refine c_seq ?_
      refine c_region ?_
      refine q_seg 2 [(4, .int .i64 y1)] hS (by kernel_rfl) ?_; intro s hS
      refine x_nil ?_
      refine sq_n ?_
      refine c_ret ?_
      injection h with h; subst h
      exact end_W hH (r_tmp (v := .int .i64 y1) hS rfl r_nil) rfl (by kernel_rfl) (by simp [pureT, pureL, E_i64])
    · obtain ⟨rfl, HE⟩ := HF
      refine bk_r ?_
      refine sq_r ?_
      injection h with h; subst h; exact HE
end Go.Am
end
