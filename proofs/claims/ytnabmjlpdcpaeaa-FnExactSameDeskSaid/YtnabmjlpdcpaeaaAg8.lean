/- Functions of the program. -/
import Derived.Test.YtnabmjlpdcpaeaaAd0
section
set_option maxRecDepth 100000
set_option maxHeartbeats 1000000
set_option linter.unusedVariables false
set_option linter.unusedSimpArgs false
namespace Go.Am
open Go.Proofs
noncomputable def B_slices_EqualFunc_Function (a0 : (Sl DFunction)) (a1 : (Sl DFunction)) (a2 : T) : Option Bool := (if flat1 a2 = true then (if ((!decide ((a0.l.length : Int) = (a1.l.length : Int)))) = true then (some false) else ((loopO (S := Int) (R := (Unit ⊕ Bool)) (fun st1 => (if (decide (st1 < (a0.l.length : Int))) = true then ((elt a0 st1).bind fun y2 => ((elt a1 st1).bind fun y3 => ((callV Try.prog md ext E_bool a2 [.agg (DFunction.cells y2), .agg (DFunction.cells y3)]).bind fun y4 => (if (!y4) = true then (some (.inr (.inr false))) else (some (.inl (IntKind.i64.wrap (st1 + 1)))))))) else (some (.inr (.inl ()))))) 0).bind fun y1 => (Sum.elim (fun y1 => (some true)) (fun y1 => (some y1)) y1))) else none)
theorem u_slices_EqualFunc_Function (a0 : (Sl DFunction)) (a1 : (Sl DFunction)) (a2 : T) (r : Bool) (h : B_slices_EqualFunc_Function a0 a1 a2 = some r) : F_slices_EqualFunc_Function a0 a1 a2 = some r := by
  unfold B_slices_EqualFunc_Function at h
  obtain ⟨hf_a2, h⟩ := if_some h
  refine semW_of E_bool_inj rfl rfl ok_104 rfl (all_cons (by kernel_rfl) (all_cons (by kernel_rfl) (all_cons (flat3_of hf_a2) all_nil))) ?_
  intro σ0 s hS hH
  have hS := sub_to (L' := [(0, (Sl.t (a0 : Sl DFunction))), (1, (Sl.t (a1 : Sl DFunction))), (2, a2)]) hS (by kernel_rfl)
  refine c_seq ?_
  refine c_region ?_
  refine q_seg 1 [(0, (Sl.t (a0 : Sl DFunction))), (1, (Sl.t (a1 : Sl DFunction))), (2, a2)] hS (by kernel_rfl) ?_; intro s hS
  refine x_nil ?_
  refine sq_n ?_
  refine c_seq ?_
  refine c_seq ?_
  refine c_region ?_
  refine q_seg 5 [(0, (Sl.t (a0 : Sl DFunction))), (1, (Sl.t (a1 : Sl DFunction))), (2, a2), (14, .bool ((!decide ((a0.l.length : Int) = (a1.l.length : Int)))))] hS (by kernel_rfl) ?_; intro s hS
  refine x_nil ?_
  refine sq_n ?_
  by_cases hc1 : ((!decide ((a0.l.length : Int) = (a1.l.length : Int)))) = true
  · have h := it_pos hc1 h
    refine c_cond hS rfl (fun _ => ?_) (fun hf => ff_absurd hc1 hf)
    refine c_seq ?_
    refine c_region ?_
    refine q_seg 1 [(6, .bool false)] hS (by kernel_rfl) ?_; intro s hS
    refine x_nil ?_
    refine sq_n ?_
    refine c_ret ?_
    refine sq_r ?_
    injection h with h; subst h
    exact end_W hH (r_tmp (v := .bool false) hS rfl r_nil) rfl (by kernel_rfl) (by simp [pureT, pureL, E_bool])
  · have h := it_neg hc1 h
    refine c_cond hS rfl (fun hf => tt_absurd hc1 hf) (fun _ => ?_)
    refine c_skip ?_
    refine sq_n ?_
    refine c_seq ?_
    refine c_seq ?_
    refine c_region ?_
    refine q_seg 3 [(1, (Sl.t (a1 : Sl DFunction))), (2, a2), (15, (Sl.t (a0 : Sl DFunction))), (16, .int .i64 (a0.l.length : Int)), (17, .int .i64 0)] hS (by kernel_rfl) ?_; intro s hS
    refine x_nil ?_
    refine sq_n ?_
    refine c_block ?_
    obtain ⟨y1, hy1, h⟩ := bind_some h
    refine c_loop (fun (st1 : Int) (fr : Fr) => Sub [(1, (Sl.t (a1 : Sl DFunction))), (2, a2), (15, (Sl.t (a0 : Sl DFunction))), (16, .int .i64 (a0.l.length : Int)), (17, .int .i64 st1)] fr.s ∧ Heap σ0 fr.σ []) (fun (y1 : (Unit ⊕ Bool)) (e : AExit) (fr : Fr) => (Sum.elim (fun y => e = (.exit 0) ∧ Sub [] fr.s ∧ Heap σ0 fr.σ []) (fun y => e = .ret ∧ endW Try.prog (Try.f104.results.toList) σ0 (E_bool y) .ret fr)) y1) hy1 (And.intro (sub_to hS (by kernel_rfl)) hH) ?_ ?_
    · clear h hy1 hS hH; clear y1; intro st1 x fr h HI; obtain ⟨s, σ⟩ := fr; obtain ⟨hS, hH⟩ := HI
      refine c_seq ?_
      refine c_region ?_
      refine q_seg 1 [(1, (Sl.t (a1 : Sl DFunction))), (2, a2), (15, (Sl.t (a0 : Sl DFunction))), (16, .int .i64 (a0.l.length : Int)), (17, .int .i64 st1), (18, .bool (decide (st1 < (a0.l.length : Int))))] hS (by kernel_rfl) ?_; intro s hS
      refine x_nil ?_
      refine sq_n ?_
      refine c_seq ?_
      by_cases hc2 : (decide (st1 < (a0.l.length : Int))) = true
      · have h := it_pos hc2 h
        refine c_cond hS rfl (fun _ => ?_) (fun hf => ff_absurd hc2 hf)
        refine c_skip ?_
        refine sq_n ?_
        refine c_seq ?_
        refine c_block ?_
        refine c_seq ?_
        refine c_region ?_
        refine q_seg 1 [(1, (Sl.t (a1 : Sl DFunction))), (2, a2), (15, (Sl.t (a0 : Sl DFunction))), (16, .int .i64 (a0.l.length : Int)), (17, .int .i64 st1), (19, .int .i64 st1)] hS (by kernel_rfl) ?_; intro s hS
        obtain ⟨y2, hy2, h⟩ := bind_some h
        refine q_elt (sl := a0) (e := 99) [.str y2.Name, (Sl.t (y2.Params : Sl ByteArray)), (Sl.t (y2.Locals : Sl ByteArray)), .str y2.Label] rfl hS rfl rfl (by kernel_rfl) (by kernel_rfl) hy2 rfl ?_; intro rest1 s hS
        refine q_seg 1 [(1, (Sl.t (a1 : Sl DFunction))), (2, a2), (15, (Sl.t (a0 : Sl DFunction))), (16, .int .i64 (a0.l.length : Int)), (17, .int .i64 st1), (19, .int .i64 st1), (21, .agg (DFunction.cells y2))] hS (by kernel_rfl) ?_; intro s hS
        refine q_alloc (z := [.str ⟨#[]⟩, (Sl.t (⟨true, []⟩ : Sl ByteArray)), (Sl.t (⟨true, []⟩ : Sl ByteArray)), .str ⟨#[]⟩]) rfl hS hH (by kernel_rfl) ?_; intro b1 σ s hH hS
        refine q_seg 1 [(1, (Sl.t (a1 : Sl DFunction))), (2, a2), (7, .int .i64 st1), (8, .ptr b1 0 0 4), (15, (Sl.t (a0 : Sl DFunction))), (16, .int .i64 (a0.l.length : Int)), (17, .int .i64 st1), (21, .agg (DFunction.cells y2))] hS (by kernel_rfl) ?_; intro s hS
        refine q_store (v := .agg (DFunction.cells y2)) (cs := [.str y2.Name, (Sl.t (y2.Params : Sl ByteArray)), (Sl.t (y2.Locals : Sl ByteArray)), .str y2.Label]) (cells' := [.str y2.Name, (Sl.t (y2.Params : Sl ByteArray)), (Sl.t (y2.Locals : Sl ByteArray)), .str y2.Label]) rfl hS hH rfl rfl rfl (by kernel_rfl) (by kernel_rfl) ?_; intro σ s hH hS
        refine x_nil ?_
        refine sq_n ?_
        refine c_seq ?_
        refine c_region ?_
        refine q_seg 2 [(1, (Sl.t (a1 : Sl DFunction))), (2, a2), (8, .ptr b1 0 0 4), (15, (Sl.t (a0 : Sl DFunction))), (16, .int .i64 (a0.l.length : Int)), (17, .int .i64 st1), (22, (Sl.t (a1 : Sl DFunction))), (23, .int .i64 st1)] hS (by kernel_rfl) ?_; intro s hS
        obtain ⟨y3, hy3, h⟩ := bind_some h
        refine q_elt (sl := a1) (e := 99) [.str y3.Name, (Sl.t (y3.Params : Sl ByteArray)), (Sl.t (y3.Locals : Sl ByteArray)), .str y3.Label] rfl hS rfl rfl (by kernel_rfl) (by kernel_rfl) hy3 rfl ?_; intro rest2 s hS
        refine q_seg 1 [(1, (Sl.t (a1 : Sl DFunction))), (2, a2), (8, .ptr b1 0 0 4), (15, (Sl.t (a0 : Sl DFunction))), (16, .int .i64 (a0.l.length : Int)), (17, .int .i64 st1), (25, .agg (DFunction.cells y3))] hS (by kernel_rfl) ?_; intro s hS
        refine q_alloc (z := [.str ⟨#[]⟩, (Sl.t (⟨true, []⟩ : Sl ByteArray)), (Sl.t (⟨true, []⟩ : Sl ByteArray)), .str ⟨#[]⟩]) rfl hS hH (by kernel_rfl) ?_; intro b2 σ s hH hS
        refine q_store (v := .agg (DFunction.cells y3)) (cs := [.str y3.Name, (Sl.t (y3.Params : Sl ByteArray)), (Sl.t (y3.Locals : Sl ByteArray)), .str y3.Label]) (cells' := [.str y3.Name, (Sl.t (y3.Params : Sl ByteArray)), (Sl.t (y3.Locals : Sl ByteArray)), .str y3.Label]) rfl hS hH rfl rfl rfl (by kernel_rfl) (by kernel_rfl) ?_; intro σ s hH hS
        refine x_nil ?_
        refine sq_n ?_
        refine c_seq ?_
        refine c_region ?_
        refine q_seg 1 [(1, (Sl.t (a1 : Sl DFunction))), (2, a2), (8, .ptr b1 0 0 4), (9, .ptr b2 0 0 4), (15, (Sl.t (a0 : Sl DFunction))), (16, .int .i64 (a0.l.length : Int)), (17, .int .i64 st1), (26, a2)] hS (by kernel_rfl) ?_; intro s hS
        refine q_load (v := .agg (DFunction.cells y2)) 1 trivial rfl hS hH rfl rfl (by kernel_rfl) ?_; intro s hS
        refine q_load (v := .agg (DFunction.cells y3)) 0 trivial rfl hS hH rfl rfl (by kernel_rfl) ?_; intro s hS
        obtain ⟨y4, hy4, h⟩ := bind_some h
        refine q_callP (p := a2) (xs := [.agg (DFunction.cells y2), .agg (DFunction.cells y3)]) rfl hS rfl rfl hy4 ?_; intro s hS
        refine q_seg 1 [(1, (Sl.t (a1 : Sl DFunction))), (2, a2), (15, (Sl.t (a0 : Sl DFunction))), (16, .int .i64 (a0.l.length : Int)), (17, .int .i64 st1), (30, .bool (!y4))] hS (by kernel_rfl) ?_; intro s hS
        refine x_nil ?_
        refine sq_n ?_
        by_cases hc3 : (!y4) = true
        · have h := it_pos hc3 h
          refine c_cond hS rfl (fun _ => ?_) (fun hf => ff_absurd hc3 hf)
          refine c_seq ?_
          refine c_region ?_
          refine q_seg 1 [(6, .bool false)] hS (by kernel_rfl) ?_; intro s hS
          refine x_nil ?_
          refine sq_n ?_
          refine c_ret ?_
          refine bk_r ?_
          refine sq_r ?_
          injection h with h; subst h
          exact And.intro rfl (end_W hH (r_tmp (v := .bool false) hS rfl r_nil) rfl (by kernel_rfl) (by simp [pureT, pureL, E_bool]))
        · have h := it_neg hc3 h
          refine c_cond hS rfl (fun hf => tt_absurd hc3 hf) (fun _ => ?_)
          refine c_skip ?_
          refine bk_n ?_
          refine sq_n ?_
          refine c_region ?_
          refine q_seg 2 [(1, (Sl.t (a1 : Sl DFunction))), (2, a2), (15, (Sl.t (a0 : Sl DFunction))), (16, .int .i64 (a0.l.length : Int)), (17, .int .i64 (IntKind.i64.wrap (st1 + 1)))] hS (by kernel_rfl) ?_; intro s hS
          refine x_nil ?_
          injection h with h; subst h
          exact And.intro (sub_to hS (by kernel_rfl)) (Heap.sel hH [] rfl (by kernel_rfl))
      · have h := it_neg hc2 h
        refine c_cond hS rfl (fun hf => tt_absurd hc2 hf) (fun _ => ?_)
        refine c_exit ?_
        refine sq_x ?_
        injection h with h; subst h
        exact And.intro rfl (And.intro (sub_to hS (by kernel_rfl)) hH)
    · clear hS hH; intro e fr HF; obtain ⟨s, σ⟩ := fr
      rcases y1 with y1 | y1
      · obtain ⟨rfl, hS, hH⟩ := HF
        refine bk_e ?_
        refine sq_n ?_
        refine c_seq ?_
        refine c_region ?_
        refine q_seg 1 [(6, .bool true)] hS (by kernel_rfl) ?_; intro s hS
        refine x_nil ?_
        refine sq_n ?_
        refine c_ret ?_
        injection h with h; subst h
        exact end_W hH (r_tmp (v := .bool true) hS rfl r_nil) rfl (by kernel_rfl) (by simp [pureT, pureL, E_bool])
      · obtain ⟨rfl, HE⟩ := HF
        refine bk_r ?_
        refine sq_r ?_
        injection h with h; subst h; exact HE
end Go.Am
end
section
set_option maxRecDepth 100000
set_option maxHeartbeats 1000000
set_option linter.unusedVariables false
set_option linter.unusedSimpArgs false
namespace Go.Am
open Go.Proofs
noncomputable def B_impl_sameFunction (a0 : DFunction) (a1 : DFunction) : Option Bool := (if (decide (a0.Name = a1.Name)) = true then (if (decide (a0.Label = a1.Label)) = true then ((F_slices_Equal_string a0.Params a1.Params).bind fun y1 => (if y1 = true then ((F_slices_Equal_string a0.Locals a1.Locals).bind fun y2 => (some y2)) else (some false))) else (some false)) else (some false))
theorem u_impl_sameFunction (a0 : DFunction) (a1 : DFunction) (r : Bool) (h : B_impl_sameFunction a0 a1 = some r) : F_impl_sameFunction a0 a1 = some r := by
  unfold B_impl_sameFunction at h
  refine semW_of E_bool_inj rfl rfl ok_105 rfl (all_cons (by kernel_rfl) (all_cons (by kernel_rfl) all_nil)) ?_
  intro σ0 s hS hH
  have hS := sub_to (L' := [(0, .agg (DFunction.cells a0)), (1, .agg (DFunction.cells a1))]) hS (by kernel_rfl)
  refine c_seq ?_
  refine c_region ?_
  refine q_box (v := .agg (DFunction.cells a0)) (cs := [.str a0.Name, (Sl.t (a0.Params : Sl ByteArray)), (Sl.t (a0.Locals : Sl ByteArray)), .str a0.Label]) rfl hS hH rfl rfl (by kernel_rfl) ?_; intro b1 σ s hH hS
  refine q_box (v := .agg (DFunction.cells a1)) (cs := [.str a1.Name, (Sl.t (a1.Params : Sl ByteArray)), (Sl.t (a1.Locals : Sl ByteArray)), .str a1.Label]) rfl hS hH rfl rfl (by kernel_rfl) ?_; intro b2 σ s hH hS
  refine q_seg 1 [(2, .ptr b1 0 0 4), (3, .ptr b2 0 0 4)] hS (by kernel_rfl) ?_; intro s hS
  refine x_nil ?_
  refine sq_n ?_
  refine c_seq ?_
  refine c_region ?_
  refine q_seg 1 [(2, .ptr b1 0 0 4), (3, .ptr b2 0 0 4), (5, .ptr b1 0 0 1)] hS (by kernel_rfl) ?_; intro s hS
  refine q_load (v := .str a0.Name) 1 trivial rfl hS hH rfl rfl (by kernel_rfl) ?_; intro s hS
  refine q_seg 1 [(2, .ptr b1 0 0 4), (3, .ptr b2 0 0 4), (6, .str a0.Name), (7, .ptr b2 0 0 1)] hS (by kernel_rfl) ?_; intro s hS
  refine q_load (v := .str a1.Name) 0 trivial rfl hS hH rfl rfl (by kernel_rfl) ?_; intro s hS
  refine q_seg 2 [(10, .bool (decide (a0.Name = a1.Name))), (2, .ptr b1 0 0 4), (3, .ptr b2 0 0 4)] hS (by kernel_rfl) ?_; intro s hS
  by_cases hc1 : (decide (a0.Name = a1.Name)) = true
  · have h := it_pos hc1 h
    have hS := sub_bt hS hc1
    refine q_seg 1 [(2, .ptr b1 0 0 4), (3, .ptr b2 0 0 4), (10, .bool true), (11, .ptr b1 0 3 1)] hS (by kernel_rfl) ?_; intro s hS
    refine q_load (v := .str a0.Label) 1 trivial rfl hS hH rfl rfl (by kernel_rfl) ?_; intro s hS
    refine q_seg 1 [(2, .ptr b1 0 0 4), (3, .ptr b2 0 0 4), (10, .bool true), (12, .str a0.Label), (13, .ptr b2 0 3 1)] hS (by kernel_rfl) ?_; intro s hS
    refine q_load (v := .str a1.Label) 0 trivial rfl hS hH rfl rfl (by kernel_rfl) ?_; intro s hS
    refine q_seg 3 [(17, .bool (decide (a0.Label = a1.Label))), (2, .ptr b1 0 0 4), (3, .ptr b2 0 0 4)] hS (by kernel_rfl) ?_; intro s hS
    by_cases hc2 : (decide (a0.Label = a1.Label)) = true
    · have h := it_pos hc2 h
      have hS := sub_bt hS hc2
      refine q_seg 1 [(2, .ptr b1 0 0 4), (3, .ptr b2 0 0 4), (17, .bool true), (18, .ptr b1 0 1 1)] hS (by kernel_rfl) ?_; intro s hS
      refine q_load (v := (Sl.t (a0.Params : Sl ByteArray))) 1 trivial rfl hS hH rfl rfl (by kernel_rfl) ?_; intro s hS
      refine q_seg 1 [(2, .ptr b1 0 0 4), (3, .ptr b2 0 0 4), (17, .bool true), (19, (Sl.t (a0.Params : Sl ByteArray))), (20, .ptr b2 0 1 1)] hS (by kernel_rfl) ?_; intro s hS
      refine q_load (v := (Sl.t (a1.Params : Sl ByteArray))) 0 trivial rfl hS hH rfl rfl (by kernel_rfl) ?_; intro s hS
      obtain ⟨y1, hy1, h⟩ := bind_some h
      refine q_callF (a := []) (b := []) (xs := [(Sl.t (a0.Params : Sl ByteArray)), (Sl.t (a1.Params : Sl ByteArray))]) rfl hS rfl rfl hy1 ?_; intro s hS
      refine q_seg 2 [(24, .bool y1), (2, .ptr b1 0 0 4), (3, .ptr b2 0 0 4)] hS (by kernel_rfl) ?_; intro s hS
      by_cases hc3 : y1 = true
      · have h := it_pos hc3 h
        have hS := sub_bt hS hc3
        refine q_seg 1 [(3, .ptr b2 0 0 4), (24, .bool true), (25, .ptr b1 0 2 1)] hS (by kernel_rfl) ?_; intro s hS
        refine q_load (v := (Sl.t (a0.Locals : Sl ByteArray))) 1 trivial rfl hS hH rfl rfl (by kernel_rfl) ?_; intro s hS
        refine q_seg 1 [(24, .bool true), (26, (Sl.t (a0.Locals : Sl ByteArray))), (27, .ptr b2 0 2 1)] hS (by kernel_rfl) ?_; intro s hS
        refine q_load (v := (Sl.t (a1.Locals : Sl ByteArray))) 0 trivial rfl hS hH rfl rfl (by kernel_rfl) ?_; intro s hS
        obtain ⟨y2, hy2, h⟩ := bind_some h
        refine q_callF (a := []) (b := []) (xs := [(Sl.t (a0.Locals : Sl ByteArray)), (Sl.t (a1.Locals : Sl ByteArray))]) rfl hS rfl rfl hy2 ?_; intro s hS
        refine q_seg 2 [(4, .bool y2)] hS (by kernel_rfl) ?_; intro s hS
        refine x_nil ?_
        refine sq_n ?_
        refine c_ret ?_
        injection h with h; subst h
        exact end_W hH (r_tmp (v := .bool y2) hS rfl r_nil) rfl (by kernel_rfl) (by simp [pureT, pureL, E_bool])
      · have h := it_neg hc3 h
        have hS := sub_bt hS (tt_of hc3)
        refine q_seg 7 [(4, .bool false)] hS (by kernel_rfl) ?_; intro s hS
        refine x_nil ?_
        refine sq_n ?_
        refine c_ret ?_
        injection h with h; subst h
        exact end_W hH (r_tmp (v := .bool false) hS rfl r_nil) rfl (by kernel_rfl) (by simp [pureT, pureL, E_bool])
    · have h := it_neg hc2 h
      have hS := sub_bt hS (tt_of hc2)
      refine q_seg 14 [(4, .bool false)] hS (by kernel_rfl) ?_; intro s hS
      refine x_nil ?_
      refine sq_n ?_
      refine c_ret ?_
      injection h with h; subst h
      exact end_W hH (r_tmp (v := .bool false) hS rfl r_nil) rfl (by kernel_rfl) (by simp [pureT, pureL, E_bool])
  · have h := it_neg hc1 h
    have hS := sub_bt hS (tt_of hc1)
    refine q_seg 21 [(4, .bool false)] hS (by kernel_rfl) ?_; intro s hS
    refine x_nil ?_
    refine sq_n ?_
    refine c_ret ?_
    injection h with h; subst h
    exact end_W hH (r_tmp (v := .bool false) hS rfl r_nil) rfl (by kernel_rfl) (by simp [pureT, pureL, E_bool])
end Go.Am
end
section
set_option maxRecDepth 100000
set_option maxHeartbeats 1000000
set_option linter.unusedVariables false
set_option linter.unusedSimpArgs false
namespace Go.Am
open Go.Proofs
noncomputable def B_slices_EqualFunc_RecordType (a0 : (Sl DRecordType)) (a1 : (Sl DRecordType)) (a2 : T) : Option Bool := (if flat1 a2 = true then (if ((!decide ((a0.l.length : Int) = (a1.l.length : Int)))) = true then (some false) else ((loopO (S := Int) (R := (Unit ⊕ Bool)) (fun st1 => (if (decide (st1 < (a0.l.length : Int))) = true then ((elt a0 st1).bind fun y2 => ((elt a1 st1).bind fun y3 => ((callV Try.prog md ext E_bool a2 [.agg (DRecordType.cells y2), .agg (DRecordType.cells y3)]).bind fun y4 => (if (!y4) = true then (some (.inr (.inr false))) else (some (.inl (IntKind.i64.wrap (st1 + 1)))))))) else (some (.inr (.inl ()))))) 0).bind fun y1 => (Sum.elim (fun y1 => (some true)) (fun y1 => (some y1)) y1))) else none)
theorem u_slices_EqualFunc_RecordType (a0 : (Sl DRecordType)) (a1 : (Sl DRecordType)) (a2 : T) (r : Bool) (h : B_slices_EqualFunc_RecordType a0 a1 a2 = some r) : F_slices_EqualFunc_RecordType a0 a1 a2 = some r := by
  unfold B_slices_EqualFunc_RecordType at h
  obtain ⟨hf_a2, h⟩ := if_some h
  refine semW_of E_bool_inj rfl rfl ok_106 rfl (all_cons (by kernel_rfl) (all_cons (by kernel_rfl) (all_cons (flat3_of hf_a2) all_nil))) ?_
  intro σ0 s hS hH
  have hS := sub_to (L' := [(0, (Sl.t (a0 : Sl DRecordType))), (1, (Sl.t (a1 : Sl DRecordType))), (2, a2)]) hS (by kernel_rfl)
  refine c_seq ?_
  refine c_region ?_
  refine q_seg 1 [(0, (Sl.t (a0 : Sl DRecordType))), (1, (Sl.t (a1 : Sl DRecordType))), (2, a2)] hS (by kernel_rfl) ?_; intro s hS
  refine x_nil ?_
  refine sq_n ?_
  refine c_seq ?_
  refine c_seq ?_
  refine c_region ?_
  refine q_seg 5 [(0, (Sl.t (a0 : Sl DRecordType))), (1, (Sl.t (a1 : Sl DRecordType))), (2, a2), (14, .bool ((!decide ((a0.l.length : Int) = (a1.l.length : Int)))))] hS (by kernel_rfl) ?_; intro s hS
  refine x_nil ?_
  refine sq_n ?_
  by_cases hc1 : ((!decide ((a0.l.length : Int) = (a1.l.length : Int)))) = true
  · have h := it_pos hc1 h
    refine c_cond hS rfl (fun _ => ?_) (fun hf => ff_absurd hc1 hf)
    refine c_seq ?_
    refine c_region ?_
    refine q_seg 1 [(6, .bool false)] hS (by kernel_rfl) ?_; intro s hS
    refine x_nil ?_
    refine sq_n ?_
    refine c_ret ?_
    refine sq_r ?_
    injection h with h; subst h
    exact end_W hH (r_tmp (v := .bool false) hS rfl r_nil) rfl (by kernel_rfl) (by simp [pureT, pureL, E_bool])
  · have h := it_neg hc1 h
    refine c_cond hS rfl (fun hf => tt_absurd hc1 hf) (fun _ => ?_)
    refine c_skip ?_
    refine sq_n ?_
    refine c_seq ?_
    refine c_seq ?_
    refine c_region ?_
    refine q_seg 3 [(1, (Sl.t (a1 : Sl DRecordType))), (2, a2), (15, (Sl.t (a0 : Sl DRecordType))), (16, .int .i64 (a0.l.length : Int)), (17, .int .i64 0)] hS (by kernel_rfl) ?_; intro s hS
    refine x_nil ?_
    refine sq_n ?_
    refine c_block ?_
    obtain ⟨y1, hy1, h⟩ := bind_some h
    refine c_loop (fun (st1 : Int) (fr : Fr) => Sub [(1, (Sl.t (a1 : Sl DRecordType))), (2, a2), (15, (Sl.t (a0 : Sl DRecordType))), (16, .int .i64 (a0.l.length : Int)), (17, .int .i64 st1)] fr.s ∧ Heap σ0 fr.σ []) (fun (y1 : (Unit ⊕ Bool)) (e : AExit) (fr : Fr) => (Sum.elim (fun y => e = (.exit 0) ∧ Sub [] fr.s ∧ Heap σ0 fr.σ []) (fun y => e = .ret ∧ endW Try.prog (Try.f106.results.toList) σ0 (E_bool y) .ret fr)) y1) hy1 (And.intro (sub_to hS (by kernel_rfl)) hH) ?_ ?_
    · clear h hy1 hS hH; clear y1; intro st1 x fr h HI; obtain ⟨s, σ⟩ := fr; obtain ⟨hS, hH⟩ := HI
      refine c_seq ?_
      refine c_region ?_
      refine q_seg 1 [(1, (Sl.t (a1 : Sl DRecordType))), (2, a2), (15, (Sl.t (a0 : Sl DRecordType))), (16, .int .i64 (a0.l.length : Int)), (17, .int .i64 st1), (18, .bool (decide (st1 < (a0.l.length : Int))))] hS (by kernel_rfl) ?_; intro s hS
      refine x_nil ?_
      refine sq_n ?_
      refine c_seq ?_
      by_cases hc2 : (decide (st1 < (a0.l.length : Int))) = true
      · have h := it_pos hc2 h
        refine c_cond hS rfl (fun _ => ?_) (fun hf => ff_absurd hc2 hf)
        refine c_skip ?_
        refine sq_n ?_
        refine c_seq ?_
        refine c_block ?_
        refine c_seq ?_
        refine c_region ?_
        refine q_seg 1 [(1, (Sl.t (a1 : Sl DRecordType))), (2, a2), (15, (Sl.t (a0 : Sl DRecordType))), (16, .int .i64 (a0.l.length : Int)), (17, .int .i64 st1), (19, .int .i64 st1)] hS (by kernel_rfl) ?_; intro s hS
        obtain ⟨y2, hy2, h⟩ := bind_some h
        refine q_elt (sl := a0) (e := 101) [.str y2.Name, (Sl.t (y2.Fields : Sl ByteArray))] rfl hS rfl rfl (by kernel_rfl) (by kernel_rfl) hy2 rfl ?_; intro rest1 s hS
        refine q_seg 1 [(1, (Sl.t (a1 : Sl DRecordType))), (2, a2), (15, (Sl.t (a0 : Sl DRecordType))), (16, .int .i64 (a0.l.length : Int)), (17, .int .i64 st1), (19, .int .i64 st1), (21, .agg (DRecordType.cells y2))] hS (by kernel_rfl) ?_; intro s hS
        refine q_alloc (z := [.str ⟨#[]⟩, (Sl.t (⟨true, []⟩ : Sl ByteArray))]) rfl hS hH (by kernel_rfl) ?_; intro b1 σ s hH hS
        refine q_seg 1 [(1, (Sl.t (a1 : Sl DRecordType))), (2, a2), (7, .int .i64 st1), (8, .ptr b1 0 0 2), (15, (Sl.t (a0 : Sl DRecordType))), (16, .int .i64 (a0.l.length : Int)), (17, .int .i64 st1), (21, .agg (DRecordType.cells y2))] hS (by kernel_rfl) ?_; intro s hS
        refine q_store (v := .agg (DRecordType.cells y2)) (cs := [.str y2.Name, (Sl.t (y2.Fields : Sl ByteArray))]) (cells' := [.str y2.Name, (Sl.t (y2.Fields : Sl ByteArray))]) rfl hS hH rfl rfl rfl (by kernel_rfl) (by kernel_rfl) ?_; intro σ s hH hS
        refine x_nil ?_
        refine sq_n ?_
        refine c_seq ?_
        refine c_region ?_
        refine q_seg 2 [(1, (Sl.t (a1 : Sl DRecordType))), (2, a2), (8, .ptr b1 0 0 2), (15, (Sl.t (a0 : Sl DRecordType))), (16, .int .i64 (a0.l.length : Int)), (17, .int .i64 st1), (22, (Sl.t (a1 : Sl DRecordType))), (23, .int .i64 st1)] hS (by kernel_rfl) ?_; intro s hS
        obtain ⟨y3, hy3, h⟩ := bind_some h
        refine q_elt (sl := a1) (e := 101) [.str y3.Name, (Sl.t (y3.Fields : Sl ByteArray))] rfl hS rfl rfl (by kernel_rfl) (by kernel_rfl) hy3 rfl ?_; intro rest2 s hS
        refine q_seg 1 [(1, (Sl.t (a1 : Sl DRecordType))), (2, a2), (8, .ptr b1 0 0 2), (15, (Sl.t (a0 : Sl DRecordType))), (16, .int .i64 (a0.l.length : Int)), (17, .int .i64 st1), (25, .agg (DRecordType.cells y3))] hS (by kernel_rfl) ?_; intro s hS
        refine q_alloc (z := [.str ⟨#[]⟩, (Sl.t (⟨true, []⟩ : Sl ByteArray))]) rfl hS hH (by kernel_rfl) ?_; intro b2 σ s hH hS
        refine q_store (v := .agg (DRecordType.cells y3)) (cs := [.str y3.Name, (Sl.t (y3.Fields : Sl ByteArray))]) (cells' := [.str y3.Name, (Sl.t (y3.Fields : Sl ByteArray))]) rfl hS hH rfl rfl rfl (by kernel_rfl) (by kernel_rfl) ?_; intro σ s hH hS
        refine x_nil ?_
        refine sq_n ?_
        refine c_seq ?_
        refine c_region ?_
        refine q_seg 1 [(1, (Sl.t (a1 : Sl DRecordType))), (2, a2), (8, .ptr b1 0 0 2), (9, .ptr b2 0 0 2), (15, (Sl.t (a0 : Sl DRecordType))), (16, .int .i64 (a0.l.length : Int)), (17, .int .i64 st1), (26, a2)] hS (by kernel_rfl) ?_; intro s hS
        refine q_load (v := .agg (DRecordType.cells y2)) 1 trivial rfl hS hH rfl rfl (by kernel_rfl) ?_; intro s hS
        refine q_load (v := .agg (DRecordType.cells y3)) 0 trivial rfl hS hH rfl rfl (by kernel_rfl) ?_; intro s hS
        obtain ⟨y4, hy4, h⟩ := bind_some h
        refine q_callP (p := a2) (xs := [.agg (DRecordType.cells y2), .agg (DRecordType.cells y3)]) rfl hS rfl rfl hy4 ?_; intro s hS
        refine q_seg 1 [(1, (Sl.t (a1 : Sl DRecordType))), (2, a2), (15, (Sl.t (a0 : Sl DRecordType))), (16, .int .i64 (a0.l.length : Int)), (17, .int .i64 st1), (30, .bool (!y4))] hS (by kernel_rfl) ?_; intro s hS
        refine x_nil ?_
        refine sq_n ?_
        by_cases hc3 : (!y4) = true
        · have h := it_pos hc3 h
          refine c_cond hS rfl (fun _ => ?_) (fun hf => ff_absurd hc3 hf)
          refine c_seq ?_
          refine c_region ?_
          refine q_seg 1 [(6, .bool false)] hS (by kernel_rfl) ?_; intro s hS
          refine x_nil ?_
          refine sq_n ?_
          refine c_ret ?_
          refine bk_r ?_
          refine sq_r ?_
          injection h with h; subst h
          exact And.intro rfl (end_W hH (r_tmp (v := .bool false) hS rfl r_nil) rfl (by kernel_rfl) (by simp [pureT, pureL, E_bool]))
        · have h := it_neg hc3 h
          refine c_cond hS rfl (fun hf => tt_absurd hc3 hf) (fun _ => ?_)
          refine c_skip ?_
          refine bk_n ?_
          refine sq_n ?_
          refine c_region ?_
          refine q_seg 2 [(1, (Sl.t (a1 : Sl DRecordType))), (2, a2), (15, (Sl.t (a0 : Sl DRecordType))), (16, .int .i64 (a0.l.length : Int)), (17, .int .i64 (IntKind.i64.wrap (st1 + 1)))] hS (by kernel_rfl) ?_; intro s hS
          refine x_nil ?_
          injection h with h; subst h
          exact And.intro (sub_to hS (by kernel_rfl)) (Heap.sel hH [] rfl (by kernel_rfl))
      · have h := it_neg hc2 h
        refine c_cond hS rfl (fun hf => tt_absurd hc2 hf) (fun _ => ?_)
        refine c_exit ?_
        refine sq_x ?_
        injection h with h; subst h
        exact And.intro rfl (And.intro (sub_to hS (by kernel_rfl)) hH)
    · clear hS hH; intro e fr HF; obtain ⟨s, σ⟩ := fr
      rcases y1 with y1 | y1
      · obtain ⟨rfl, hS, hH⟩ := HF
        refine bk_e ?_
        refine sq_n ?_
        refine c_seq ?_
        refine c_region ?_
        refine q_seg 1 [(6, .bool true)] hS (by kernel_rfl) ?_; intro s hS
        refine x_nil ?_
        refine sq_n ?_
        refine c_ret ?_
        injection h with h; subst h
        exact end_W hH (r_tmp (v := .bool true) hS rfl r_nil) rfl (by kernel_rfl) (by simp [pureT, pureL, E_bool])
      · obtain ⟨rfl, HE⟩ := HF
        refine bk_r ?_
        refine sq_r ?_
        injection h with h; subst h; exact HE
end Go.Am
end
section
set_option maxRecDepth 100000
set_option maxHeartbeats 1000000
set_option linter.unusedVariables false
set_option linter.unusedSimpArgs false
namespace Go.Am
open Go.Proofs
noncomputable def B_impl_sameType (a0 : DRecordType) (a1 : DRecordType) : Option Bool := (if (decide (a0.Name = a1.Name)) = true then ((F_slices_Equal_string a0.Fields a1.Fields).bind fun y1 => (some y1)) else (some false))
theorem u_impl_sameType (a0 : DRecordType) (a1 : DRecordType) (r : Bool) (h : B_impl_sameType a0 a1 = some r) : F_impl_sameType a0 a1 = some r := by
  unfold B_impl_sameType at h
  refine semW_of E_bool_inj rfl rfl ok_107 rfl (all_cons (by kernel_rfl) (all_cons (by kernel_rfl) all_nil)) ?_
  intro σ0 s hS hH
  have hS := sub_to (L' := [(0, .agg (DRecordType.cells a0)), (1, .agg (DRecordType.cells a1))]) hS (by kernel_rfl)
  refine c_seq ?_
  refine c_region ?_
  refine q_box (v := .agg (DRecordType.cells a0)) (cs := [.str a0.Name, (Sl.t (a0.Fields : Sl ByteArray))]) rfl hS hH rfl rfl (by kernel_rfl) ?_; intro b1 σ s hH hS
  refine q_box (v := .agg (DRecordType.cells a1)) (cs := [.str a1.Name, (Sl.t (a1.Fields : Sl ByteArray))]) rfl hS hH rfl rfl (by kernel_rfl) ?_; intro b2 σ s hH hS
  refine q_seg 1 [(2, .ptr b1 0 0 2), (3, .ptr b2 0 0 2)] hS (by kernel_rfl) ?_; intro s hS
  refine x_nil ?_
  refine sq_n ?_
  refine c_seq ?_
  refine c_region ?_
  refine q_seg 1 [(2, .ptr b1 0 0 2), (3, .ptr b2 0 0 2), (5, .ptr b1 0 0 1)] hS (by kernel_rfl) ?_; intro s hS
  refine q_load (v := .str a0.Name) 1 trivial rfl hS hH rfl rfl (by kernel_rfl) ?_; intro s hS
  refine q_seg 1 [(2, .ptr b1 0 0 2), (3, .ptr b2 0 0 2), (6, .str a0.Name), (7, .ptr b2 0 0 1)] hS (by kernel_rfl) ?_; intro s hS
  refine q_load (v := .str a1.Name) 0 trivial rfl hS hH rfl rfl (by kernel_rfl) ?_; intro s hS
  refine q_seg 2 [(10, .bool (decide (a0.Name = a1.Name))), (2, .ptr b1 0 0 2), (3, .ptr b2 0 0 2)] hS (by kernel_rfl) ?_; intro s hS
  by_cases hc1 : (decide (a0.Name = a1.Name)) = true
  · have h := it_pos hc1 h
    have hS := sub_bt hS hc1
    refine q_seg 1 [(3, .ptr b2 0 0 2), (10, .bool true), (11, .ptr b1 0 1 1)] hS (by kernel_rfl) ?_; intro s hS
    refine q_load (v := (Sl.t (a0.Fields : Sl ByteArray))) 1 trivial rfl hS hH rfl rfl (by kernel_rfl) ?_; intro s hS
    refine q_seg 1 [(10, .bool true), (12, (Sl.t (a0.Fields : Sl ByteArray))), (13, .ptr b2 0 1 1)] hS (by kernel_rfl) ?_; intro s hS
    refine q_load (v := (Sl.t (a1.Fields : Sl ByteArray))) 0 trivial rfl hS hH rfl rfl (by kernel_rfl) ?_; intro s hS
    obtain ⟨y1, hy1, h⟩ := bind_some h
    refine q_callF (a := []) (b := []) (xs := [(Sl.t (a0.Fields : Sl ByteArray)), (Sl.t (a1.Fields : Sl ByteArray))]) rfl hS rfl rfl hy1 ?_; intro s hS
    refine q_seg 2 [(4, .bool y1)] hS (by kernel_rfl) ?_; intro s hS
    refine x_nil ?_
    refine sq_n ?_
    refine c_ret ?_
    injection h with h; subst h
    exact end_W hH (r_tmp (v := .bool y1) hS rfl r_nil) rfl (by kernel_rfl) (by simp [pureT, pureL, E_bool])
  · have h := it_neg hc1 h
    have hS := sub_bt hS (tt_of hc1)
    refine q_seg 7 [(4, .bool false)] hS (by kernel_rfl) ?_; intro s hS
    refine x_nil ?_
    refine sq_n ?_
    refine c_ret ?_
    injection h with h; subst h
    exact end_W hH (r_tmp (v := .bool false) hS rfl r_nil) rfl (by kernel_rfl) (by simp [pureT, pureL, E_bool])
end Go.Am
end
section
set_option maxRecDepth 100000
set_option maxHeartbeats 1000000
set_option linter.unusedVariables false
set_option linter.unusedSimpArgs false
namespace Go.Am
open Go.Proofs
noncomputable def B_laws_eqValueS (a0 : (Sl DValue)) (a1 : (Sl DValue)) : Option Bool := (if ((!decide ((a0.l.length : Int) = (a1.l.length : Int)))) = true then (some false) else ((loopO (S := Int) (R := (Unit ⊕ Bool)) (fun st1 => (if (decide (st1 < (a0.l.length : Int))) = true then ((elt a0 st1).bind fun y2 => ((elt a1 st1).bind fun y3 => ((F_laws_eqValue y2 y3).bind fun y4 => (if (!y4) = true then (some (.inr (.inr false))) else (some (.inl (IntKind.i64.wrap (st1 + 1)))))))) else (some (.inr (.inl ()))))) 0).bind fun y1 => (Sum.elim (fun y1 => (some true)) (fun y1 => (some y1)) y1)))
theorem u_laws_eqValueS (a0 : (Sl DValue)) (a1 : (Sl DValue)) (r : Bool) (h : B_laws_eqValueS a0 a1 = some r) : F_laws_eqValueS a0 a1 = some r := by
  unfold B_laws_eqValueS at h
  refine semW_of E_bool_inj rfl rfl ok_108 rfl (all_cons (by kernel_rfl) (all_cons (by kernel_rfl) all_nil)) ?_
  intro σ0 s hS hH
  have hS := sub_to (L' := [(0, (Sl.t (a0 : Sl DValue))), (1, (Sl.t (a1 : Sl DValue)))]) hS (by kernel_rfl)
  refine c_seq ?_
  refine c_region ?_
  refine q_seg 1 [(0, (Sl.t (a0 : Sl DValue))), (1, (Sl.t (a1 : Sl DValue)))] hS (by kernel_rfl) ?_; intro s hS
  refine x_nil ?_
  refine sq_n ?_
  refine c_seq ?_
  refine c_seq ?_
  refine c_region ?_
  refine q_seg 5 [(0, (Sl.t (a0 : Sl DValue))), (1, (Sl.t (a1 : Sl DValue))), (10, .bool ((!decide ((a0.l.length : Int) = (a1.l.length : Int)))))] hS (by kernel_rfl) ?_; intro s hS
  refine x_nil ?_
  refine sq_n ?_
  by_cases hc1 : ((!decide ((a0.l.length : Int) = (a1.l.length : Int)))) = true
  · have h := it_pos hc1 h
    refine c_cond hS rfl (fun _ => ?_) (fun hf => ff_absurd hc1 hf)
    refine c_seq ?_
    refine c_region ?_
    refine q_seg 1 [(4, .bool false)] hS (by kernel_rfl) ?_; intro s hS
    refine x_nil ?_
    refine sq_n ?_
    refine c_ret ?_
    refine sq_r ?_
    injection h with h; subst h
    exact end_W hH (r_tmp (v := .bool false) hS rfl r_nil) rfl (by kernel_rfl) (by simp [pureT, pureL, E_bool])
  · have h := it_neg hc1 h
    refine c_cond hS rfl (fun hf => tt_absurd hc1 hf) (fun _ => ?_)
    refine c_skip ?_
    refine sq_n ?_
    refine c_seq ?_
    refine c_seq ?_
    refine c_region ?_
    refine q_seg 1 [(0, (Sl.t (a0 : Sl DValue))), (1, (Sl.t (a1 : Sl DValue))), (5, .int .i64 0)] hS (by kernel_rfl) ?_; intro s hS
    refine x_nil ?_
    refine sq_n ?_
    refine c_block ?_
    obtain ⟨y1, hy1, h⟩ := bind_some h
    refine c_loop (fun (st1 : Int) (fr : Fr) => Sub [(0, (Sl.t (a0 : Sl DValue))), (1, (Sl.t (a1 : Sl DValue))), (5, .int .i64 st1)] fr.s ∧ Heap σ0 fr.σ []) (fun (y1 : (Unit ⊕ Bool)) (e : AExit) (fr : Fr) => (Sum.elim (fun y => e = (.exit 0) ∧ Sub [] fr.s ∧ Heap σ0 fr.σ []) (fun y => e = .ret ∧ endW Try.prog (Try.f108.results.toList) σ0 (E_bool y) .ret fr)) y1) hy1 (And.intro (sub_to hS (by kernel_rfl)) hH) ?_ ?_
    · clear h hy1 hS hH; clear y1; intro st1 x fr h HI; obtain ⟨s, σ⟩ := fr; obtain ⟨hS, hH⟩ := HI
      refine c_seq ?_
      refine c_seq ?_
      refine c_region ?_
      refine q_seg 4 [(0, (Sl.t (a0 : Sl DValue))), (1, (Sl.t (a1 : Sl DValue))), (5, .int .i64 st1), (14, .bool (decide (st1 < (a0.l.length : Int))))] hS (by kernel_rfl) ?_; intro s hS
      refine x_nil ?_
      refine sq_n ?_
      by_cases hc2 : (decide (st1 < (a0.l.length : Int))) = true
      · have h := it_pos hc2 h
        refine c_cond hS rfl (fun _ => ?_) (fun hf => ff_absurd hc2 hf)
        refine c_skip ?_
        refine sq_n ?_
        refine c_seq ?_
        refine c_block ?_
        refine c_seq ?_
        refine c_draw (by kernel_rfl) hH ?_; intro mb σ hH
        refine q_seg 2 [(0, (Sl.t (a0 : Sl DValue))), (1, (Sl.t (a1 : Sl DValue))), (5, .int .i64 st1), (17, (Sl.t (a0 : Sl DValue))), (18, .int .i64 st1)] hS (by kernel_rfl) ?_; intro s hS
        obtain ⟨y2, hy2, h⟩ := bind_some h
        refine q_elt (sl := a0) (e := 113) [.int .i64 y2.Kind, .int .i64 y2.Num, .str y2.Text, .int .i64 y2.Ref] rfl hS rfl rfl (by kernel_rfl) (by kernel_rfl) hy2 rfl ?_; intro rest1 s hS
        refine q_seg 3 [(0, (Sl.t (a0 : Sl DValue))), (1, (Sl.t (a1 : Sl DValue))), (5, .int .i64 st1), (20, .agg (DValue.cells y2)), (21, (Sl.t (a1 : Sl DValue))), (22, .int .i64 st1)] hS (by kernel_rfl) ?_; intro s hS
        obtain ⟨y3, hy3, h⟩ := bind_some h
        refine q_elt (sl := a1) (e := 113) [.int .i64 y3.Kind, .int .i64 y3.Num, .str y3.Text, .int .i64 y3.Ref] rfl hS rfl rfl (by kernel_rfl) (by kernel_rfl) hy3 rfl ?_; intro rest2 s hS
        refine q_seg 1 [(0, (Sl.t (a0 : Sl DValue))), (1, (Sl.t (a1 : Sl DValue))), (5, .int .i64 st1), (20, .agg (DValue.cells y2)), (24, .agg (DValue.cells y3))] hS (by kernel_rfl) ?_; intro s hS
        obtain ⟨y4, hy4, h⟩ := bind_some h
        refine q_callF (a := []) (b := []) (xs := [.agg (DValue.cells y2), .agg (DValue.cells y3)]) rfl hS rfl rfl hy4 ?_; intro s hS
        refine q_seg 1 [(0, (Sl.t (a0 : Sl DValue))), (1, (Sl.t (a1 : Sl DValue))), (5, .int .i64 st1), (26, .bool (!y4))] hS (by kernel_rfl) ?_; intro s hS
        refine x_nil ?_
        refine sq_n ?_
        by_cases hc3 : (!y4) = true
        · have h := it_pos hc3 h
          refine c_cond hS rfl (fun _ => ?_) (fun hf => ff_absurd hc3 hf)
          refine c_seq ?_
          refine c_region ?_
          refine q_seg 1 [(4, .bool false)] hS (by kernel_rfl) ?_; intro s hS
          refine x_nil ?_
          refine sq_n ?_
          refine c_ret ?_
          refine bk_r ?_
          refine sq_r ?_
          injection h with h; subst h
          exact And.intro rfl (end_W hH (r_tmp (v := .bool false) hS rfl r_nil) rfl (by kernel_rfl) (by simp [pureT, pureL, E_bool]))
        · have h := it_neg hc3 h
          refine c_cond hS rfl (fun hf => tt_absurd hc3 hf) (fun _ => ?_)
          refine c_skip ?_
          refine bk_n ?_
          refine sq_n ?_
          refine c_region ?_
          refine q_seg 3 [(0, (Sl.t (a0 : Sl DValue))), (1, (Sl.t (a1 : Sl DValue))), (5, .int .i64 (IntKind.i64.wrap (st1 + 1)))] hS (by kernel_rfl) ?_; intro s hS
          refine x_nil ?_
          injection h with h; subst h
          exact And.intro (sub_to hS (by kernel_rfl)) hH
      · have h := it_neg hc2 h
        refine c_cond hS rfl (fun hf => tt_absurd hc2 hf) (fun _ => ?_)
        refine c_exit ?_
        refine sq_x ?_
        injection h with h; subst h
        exact And.intro rfl (And.intro (sub_to hS (by kernel_rfl)) hH)
    · clear hS hH; intro e fr HF; obtain ⟨s, σ⟩ := fr
      rcases y1 with y1 | y1
      · obtain ⟨rfl, hS, hH⟩ := HF
        refine bk_e ?_
        refine sq_n ?_
        refine c_seq ?_
        refine c_region ?_
        refine q_seg 1 [(4, .bool true)] hS (by kernel_rfl) ?_; intro s hS
        refine x_nil ?_
        refine sq_n ?_
        refine c_ret ?_
        injection h with h; subst h
        exact end_W hH (r_tmp (v := .bool true) hS rfl r_nil) rfl (by kernel_rfl) (by simp [pureT, pureL, E_bool])
      · obtain ⟨rfl, HE⟩ := HF
        refine bk_r ?_
        refine sq_r ?_
        injection h with h; subst h; exact HE
end Go.Am
end
section
set_option maxRecDepth 100000
set_option maxHeartbeats 1000000
set_option linter.unusedVariables false
set_option linter.unusedSimpArgs false
namespace Go.Am
open Go.Proofs
noncomputable def B_laws_eqValue (a0 : DValue) (a1 : DValue) : Option Bool := (if (!decide (a0.Kind = a1.Kind)) = true then (some false) else (if (!decide (a0.Num = a1.Num)) = true then (some false) else (if (!decide (a0.Text = a1.Text)) = true then (some false) else (if (!decide (a0.Ref = a1.Ref)) = true then (some false) else (some true)))))
theorem u_laws_eqValue (a0 : DValue) (a1 : DValue) (r : Bool) (h : B_laws_eqValue a0 a1 = some r) : F_laws_eqValue a0 a1 = some r := by
  unfold B_laws_eqValue at h
  refine semW_of E_bool_inj rfl rfl ok_109 rfl (all_cons (by kernel_rfl) (all_cons (by kernel_rfl) all_nil)) ?_
  intro σ0 s hS hH
  have hS := sub_to (L' := [(0, .agg (DValue.cells a0)), (1, .agg (DValue.cells a1))]) hS (by kernel_rfl)
  refine c_seq ?_
  refine c_region ?_
  refine q_box (v := .agg (DValue.cells a0)) (cs := [.int .i64 a0.Kind, .int .i64 a0.Num, .str a0.Text, .int .i64 a0.Ref]) rfl hS hH rfl rfl (by kernel_rfl) ?_; intro b1 σ s hH hS
  refine q_box (v := .agg (DValue.cells a1)) (cs := [.int .i64 a1.Kind, .int .i64 a1.Num, .str a1.Text, .int .i64 a1.Ref]) rfl hS hH rfl rfl (by kernel_rfl) ?_; intro b2 σ s hH hS
  refine q_seg 1 [(2, .ptr b1 0 0 4), (3, .ptr b2 0 0 4)] hS (by kernel_rfl) ?_; intro s hS
  refine x_nil ?_
  refine sq_n ?_
  refine c_seq ?_
  refine c_seq ?_
  refine c_region ?_
  refine q_seg 1 [(2, .ptr b1 0 0 4), (3, .ptr b2 0 0 4), (5, .ptr b1 0 0 1)] hS (by kernel_rfl) ?_; intro s hS
  refine q_load (v := .int .i64 a0.Kind) 1 trivial rfl hS hH rfl rfl (by kernel_rfl) ?_; intro s hS
  refine q_seg 1 [(2, .ptr b1 0 0 4), (3, .ptr b2 0 0 4), (6, .int .i64 a0.Kind), (7, .ptr b2 0 0 1)] hS (by kernel_rfl) ?_; intro s hS
  refine q_load (v := .int .i64 a1.Kind) 0 trivial rfl hS hH rfl rfl (by kernel_rfl) ?_; intro s hS
  refine q_seg 1 [(2, .ptr b1 0 0 4), (3, .ptr b2 0 0 4), (9, .bool (!decide (a0.Kind = a1.Kind)))] hS (by kernel_rfl) ?_; intro s hS
  refine x_nil ?_
  refine sq_n ?_
  by_cases hc1 : (!decide (a0.Kind = a1.Kind)) = true
  · have h := it_pos hc1 h
    refine c_cond hS rfl (fun _ => ?_) (fun hf => ff_absurd hc1 hf)
    refine c_seq ?_
    refine c_region ?_
    refine q_seg 1 [(4, .bool false)] hS (by kernel_rfl) ?_; intro s hS
    refine x_nil ?_
    refine sq_n ?_
    refine c_ret ?_
    refine sq_r ?_
    injection h with h; subst h
    exact end_W hH (r_tmp (v := .bool false) hS rfl r_nil) rfl (by kernel_rfl) (by simp [pureT, pureL, E_bool])
  · have h := it_neg hc1 h
    refine c_cond hS rfl (fun hf => tt_absurd hc1 hf) (fun _ => ?_)
    refine c_skip ?_
    refine sq_n ?_
    refine c_seq ?_
    refine c_seq ?_
    refine c_region ?_
    refine q_seg 1 [(2, .ptr b1 0 0 4), (3, .ptr b2 0 0 4), (10, .ptr b1 0 1 1)] hS (by kernel_rfl) ?_; intro s hS
    refine q_load (v := .int .i64 a0.Num) 1 trivial rfl hS hH rfl rfl (by kernel_rfl) ?_; intro s hS
    refine q_seg 1 [(2, .ptr b1 0 0 4), (3, .ptr b2 0 0 4), (11, .int .i64 a0.Num), (12, .ptr b2 0 1 1)] hS (by kernel_rfl) ?_; intro s hS
    refine q_load (v := .int .i64 a1.Num) 0 trivial rfl hS hH rfl rfl (by kernel_rfl) ?_; intro s hS
    refine q_seg 1 [(2, .ptr b1 0 0 4), (3, .ptr b2 0 0 4), (14, .bool (!decide (a0.Num = a1.Num)))] hS (by kernel_rfl) ?_; intro s hS
    refine x_nil ?_
    refine sq_n ?_
    by_cases hc2 : (!decide (a0.Num = a1.Num)) = true
    · have h := it_pos hc2 h
      refine c_cond hS rfl (fun _ => ?_) (fun hf => ff_absurd hc2 hf)
      refine c_seq ?_
      refine c_region ?_
      refine q_seg 1 [(4, .bool false)] hS (by kernel_rfl) ?_; intro s hS
      refine x_nil ?_
      refine sq_n ?_
      refine c_ret ?_
      refine sq_r ?_
      injection h with h; subst h
      exact end_W hH (r_tmp (v := .bool false) hS rfl r_nil) rfl (by kernel_rfl) (by simp [pureT, pureL, E_bool])
    · have h := it_neg hc2 h
      refine c_cond hS rfl (fun hf => tt_absurd hc2 hf) (fun _ => ?_)
      refine c_skip ?_
      refine sq_n ?_
      refine c_seq ?_
      refine c_seq ?_
      refine c_region ?_
      refine q_seg 1 [(2, .ptr b1 0 0 4), (3, .ptr b2 0 0 4), (15, .ptr b1 0 2 1)] hS (by kernel_rfl) ?_; intro s hS
      refine q_load (v := .str a0.Text) 1 trivial rfl hS hH rfl rfl (by kernel_rfl) ?_; intro s hS
      refine q_seg 1 [(2, .ptr b1 0 0 4), (3, .ptr b2 0 0 4), (16, .str a0.Text), (17, .ptr b2 0 2 1)] hS (by kernel_rfl) ?_; intro s hS
      refine q_load (v := .str a1.Text) 0 trivial rfl hS hH rfl rfl (by kernel_rfl) ?_; intro s hS
      refine q_seg 1 [(2, .ptr b1 0 0 4), (3, .ptr b2 0 0 4), (19, .bool (!decide (a0.Text = a1.Text)))] hS (by kernel_rfl) ?_; intro s hS
      refine x_nil ?_
      refine sq_n ?_
      by_cases hc3 : (!decide (a0.Text = a1.Text)) = true
      · have h := it_pos hc3 h
        refine c_cond hS rfl (fun _ => ?_) (fun hf => ff_absurd hc3 hf)
        refine c_seq ?_
        refine c_region ?_
        refine q_seg 1 [(4, .bool false)] hS (by kernel_rfl) ?_; intro s hS
        refine x_nil ?_
        refine sq_n ?_
        refine c_ret ?_
        refine sq_r ?_
        injection h with h; subst h
        exact end_W hH (r_tmp (v := .bool false) hS rfl r_nil) rfl (by kernel_rfl) (by simp [pureT, pureL, E_bool])
      · have h := it_neg hc3 h
        refine c_cond hS rfl (fun hf => tt_absurd hc3 hf) (fun _ => ?_)
        refine c_skip ?_
        refine sq_n ?_
        refine c_seq ?_
        refine c_seq ?_
        refine c_region ?_
        refine q_seg 1 [(3, .ptr b2 0 0 4), (20, .ptr b1 0 3 1)] hS (by kernel_rfl) ?_; intro s hS
        refine q_load (v := .int .i64 a0.Ref) 1 trivial rfl hS hH rfl rfl (by kernel_rfl) ?_; intro s hS
        refine q_seg 1 [(21, .int .i64 a0.Ref), (22, .ptr b2 0 3 1)] hS (by kernel_rfl) ?_; intro s hS
        refine q_load (v := .int .i64 a1.Ref) 0 trivial rfl hS hH rfl rfl (by kernel_rfl) ?_; intro s hS
        refine q_seg 1 [(24, .bool (!decide (a0.Ref = a1.Ref)))] hS (by kernel_rfl) ?_; intro s hS
        refine x_nil ?_
        refine sq_n ?_
        by_cases hc4 : (!decide (a0.Ref = a1.Ref)) = true
        · have h := it_pos hc4 h
          refine c_cond hS rfl (fun _ => ?_) (fun hf => ff_absurd hc4 hf)
          refine c_seq ?_
          refine c_region ?_
          refine q_seg 1 [(4, .bool false)] hS (by kernel_rfl) ?_; intro s hS
          refine x_nil ?_
          refine sq_n ?_
          refine c_ret ?_
          refine sq_r ?_
          injection h with h; subst h
          exact end_W hH (r_tmp (v := .bool false) hS rfl r_nil) rfl (by kernel_rfl) (by simp [pureT, pureL, E_bool])
        · have h := it_neg hc4 h
          refine c_cond hS rfl (fun hf => tt_absurd hc4 hf) (fun _ => ?_)
          refine c_skip ?_
          refine sq_n ?_
          refine c_seq ?_
          refine c_region ?_
          refine q_seg 1 [(4, .bool true)] hS (by kernel_rfl) ?_; intro s hS
          refine x_nil ?_
          refine sq_n ?_
          refine c_ret ?_
          injection h with h; subst h
          exact end_W hH (r_tmp (v := .bool true) hS rfl r_nil) rfl (by kernel_rfl) (by simp [pureT, pureL, E_bool])
end Go.Am
end
section
set_option maxRecDepth 100000
set_option maxHeartbeats 1000000
set_option linter.unusedVariables false
set_option linter.unusedSimpArgs false
namespace Go.Am
open Go.Proofs
noncomputable def B_laws_szValueS (a0 : (Sl DValue)) (a1 : Int) : Option Int := (if (decide ((IntKind.i64.wrap (a1 - (a0.l.length : Int))) < 0)) = true then (some (-1)) else ((loopO (S := (Int × Int)) (R := (Int ⊕ Int)) (fun st1 => (if (decide (st1.2 < (a0.l.length : Int))) = true then ((elt a0 st1.2).bind fun y2 => ((F_laws_szValue y2 st1.1).bind fun y3 => (if (decide (y3 < 0)) = true then (some (.inr (.inr (-1)))) else (some (.inl (y3, (IntKind.i64.wrap (st1.2 + 1)))))))) else (some (.inr (.inl st1.1))))) ((IntKind.i64.wrap (a1 - (a0.l.length : Int))), 0)).bind fun y1 => (Sum.elim (fun y1 => (some y1)) (fun y1 => (some y1)) y1)))
theorem u_laws_szValueS (a0 : (Sl DValue)) (a1 : Int) (r : Int) (h : B_laws_szValueS a0 a1 = some r) : F_laws_szValueS a0 a1 = some r := by
  unfold B_laws_szValueS at h
  refine semW_of E_i64_inj rfl rfl ok_110 rfl (all_cons (by kernel_rfl) (all_cons (by kernel_rfl) all_nil)) ?_
  intro σ0 s hS hH
  have hS := sub_to (L' := [(0, (Sl.t (a0 : Sl DValue))), (1, .int .i64 a1)]) hS (by kernel_rfl)
  refine c_seq ?_
  refine c_region ?_
  refine q_seg 1 [(0, (Sl.t (a0 : Sl DValue))), (1, .int .i64 a1)] hS (by kernel_rfl) ?_; intro s hS
  refine x_nil ?_
  refine sq_n ?_
  refine c_seq ?_
  refine c_region ?_
  refine q_seg 5 [(0, (Sl.t (a0 : Sl DValue))), (1, .int .i64 (IntKind.i64.wrap (a1 - (a0.l.length : Int))))] hS (by kernel_rfl) ?_; intro s hS
  refine x_nil ?_
  refine sq_n ?_
  refine c_seq ?_
  refine c_seq ?_
  refine c_region ?_
  refine q_seg 2 [(0, (Sl.t (a0 : Sl DValue))), (1, .int .i64 (IntKind.i64.wrap (a1 - (a0.l.length : Int)))), (11, .bool (decide ((IntKind.i64.wrap (a1 - (a0.l.length : Int))) < 0)))] hS (by kernel_rfl) ?_; intro s hS
  refine x_nil ?_
  refine sq_n ?_
  by_cases hc1 : (decide ((IntKind.i64.wrap (a1 - (a0.l.length : Int))) < 0)) = true
  · have h := it_pos hc1 h
    refine c_cond hS rfl (fun _ => ?_) (fun hf => ff_absurd hc1 hf)
    refine c_seq ?_
    refine c_region ?_
    refine q_seg 1 [(4, .int .i64 (-1))] hS (by kernel_rfl) ?_; intro s hS
    refine x_nil ?_
    refine sq_n ?_
    refine c_ret ?_
    refine sq_r ?_
    injection h with h; subst h
    exact end_W hH (r_tmp (v := .int .i64 (-1)) hS rfl r_nil) rfl (by kernel_rfl) (by simp [pureT, pureL, E_i64])
  · have h := it_neg hc1 h
    refine c_cond hS rfl (fun hf => tt_absurd hc1 hf) (fun _ => ?_)
    refine c_skip ?_
    refine sq_n ?_
    refine c_seq ?_
    refine c_seq ?_
    refine c_region ?_
    refine q_seg 1 [(0, (Sl.t (a0 : Sl DValue))), (1, .int .i64 (IntKind.i64.wrap (a1 - (a0.l.length : Int)))), (5, .int .i64 0)] hS (by kernel_rfl) ?_; intro s hS
    refine x_nil ?_
    refine sq_n ?_
    refine c_block ?_
    obtain ⟨y1, hy1, h⟩ := bind_some h
    refine c_loop (fun (st1 : (Int × Int)) (fr : Fr) => Sub [(0, (Sl.t (a0 : Sl DValue))), (1, .int .i64 st1.1), (5, .int .i64 st1.2)] fr.s ∧ Heap σ0 fr.σ []) (fun (y1 : (Int ⊕ Int)) (e : AExit) (fr : Fr) => (Sum.elim (fun y => e = (.exit 0) ∧ Sub [(1, .int .i64 y)] fr.s ∧ Heap σ0 fr.σ []) (fun y => e = .ret ∧ endW Try.prog (Try.f110.results.toList) σ0 (E_i64 y) .ret fr)) y1) hy1 (And.intro (sub_to hS (by kernel_rfl)) hH) ?_ ?_
    · clear h hy1 hS hH; clear y1; intro st1 x fr h HI; obtain ⟨s, σ⟩ := fr; obtain ⟨hS, hH⟩ := HI
      refine c_seq ?_
      refine c_seq ?_
      refine c_region ?_
      refine q_seg 4 [(0, (Sl.t (a0 : Sl DValue))), (1, .int .i64 st1.1), (5, .int .i64 st1.2), (15, .bool (decide (st1.2 < (a0.l.length : Int))))] hS (by kernel_rfl) ?_; intro s hS
      refine x_nil ?_
      refine sq_n ?_
      by_cases hc2 : (decide (st1.2 < (a0.l.length : Int))) = true
      · have h := it_pos hc2 h
        refine c_cond hS rfl (fun _ => ?_) (fun hf => ff_absurd hc2 hf)
        refine c_skip ?_
        refine sq_n ?_
        refine c_seq ?_
        refine c_block ?_
        refine c_seq ?_
        refine c_region ?_
        refine q_seg 2 [(0, (Sl.t (a0 : Sl DValue))), (1, .int .i64 st1.1), (5, .int .i64 st1.2), (18, (Sl.t (a0 : Sl DValue))), (19, .int .i64 st1.2)] hS (by kernel_rfl) ?_; intro s hS
        obtain ⟨y2, hy2, h⟩ := bind_some h
        refine q_elt (sl := a0) (e := 126) [.int .i64 y2.Kind, .int .i64 y2.Num, .str y2.Text, .int .i64 y2.Ref] rfl hS rfl rfl (by kernel_rfl) (by kernel_rfl) hy2 rfl ?_; intro rest1 s hS
        refine q_seg 2 [(0, (Sl.t (a0 : Sl DValue))), (5, .int .i64 st1.2), (21, .agg (DValue.cells y2)), (22, .int .i64 st1.1)] hS (by kernel_rfl) ?_; intro s hS
        obtain ⟨y3, hy3, h⟩ := bind_some h
        refine q_callF (a := []) (b := []) (xs := [.agg (DValue.cells y2), .int .i64 st1.1]) rfl hS rfl rfl hy3 ?_; intro s hS
        refine q_seg 1 [(0, (Sl.t (a0 : Sl DValue))), (1, .int .i64 y3), (5, .int .i64 st1.2)] hS (by kernel_rfl) ?_; intro s hS
        refine x_nil ?_
        refine sq_n ?_
        refine c_seq ?_
        refine c_region ?_
        refine q_seg 2 [(0, (Sl.t (a0 : Sl DValue))), (1, .int .i64 y3), (5, .int .i64 st1.2), (25, .bool (decide (y3 < 0)))] hS (by kernel_rfl) ?_; intro s hS
        refine x_nil ?_
        refine sq_n ?_
        by_cases hc3 : (decide (y3 < 0)) = true
        · have h := it_pos hc3 h
          refine c_cond hS rfl (fun _ => ?_) (fun hf => ff_absurd hc3 hf)
          refine c_seq ?_
          refine c_region ?_
          refine q_seg 1 [(4, .int .i64 (-1))] hS (by kernel_rfl) ?_; intro s hS
          refine x_nil ?_
          refine sq_n ?_
          refine c_ret ?_
          refine bk_r ?_
          refine sq_r ?_
          injection h with h; subst h
          exact And.intro rfl (end_W hH (r_tmp (v := .int .i64 (-1)) hS rfl r_nil) rfl (by kernel_rfl) (by simp [pureT, pureL, E_i64]))
        · have h := it_neg hc3 h
          refine c_cond hS rfl (fun hf => tt_absurd hc3 hf) (fun _ => ?_)
          refine c_skip ?_
          refine bk_n ?_
          refine sq_n ?_
          refine c_region ?_
          refine q_seg 3 [(0, (Sl.t (a0 : Sl DValue))), (1, .int .i64 y3), (5, .int .i64 (IntKind.i64.wrap (st1.2 + 1)))] hS (by kernel_rfl) ?_; intro s hS
          refine x_nil ?_
          injection h with h; subst h
          exact And.intro (sub_to hS (by kernel_rfl)) hH
      · have h := it_neg hc2 h
        refine c_cond hS rfl (fun hf => tt_absurd hc2 hf) (fun _ => ?_)
        refine c_exit ?_
        refine sq_x ?_
        injection h with h; subst h
        exact And.intro rfl (And.intro (sub_to hS (by kernel_rfl)) hH)
    · clear hS hH; intro e fr HF; obtain ⟨s, σ⟩ := fr
      rcases y1 with y1 | y1
      · obtain ⟨rfl, hS, hH⟩ := HF
        refine bk_e ?_
        refine sq_n ?_
        refine c_seq ?_
        refine c_region ?_
        refine q_seg 2 [(4, .int .i64 y1)] hS (by kernel_rfl) ?_; intro s hS
        refine x_nil ?_
        refine sq_n ?_
        refine c_ret ?_
        injection h with h; subst h
        exact end_W hH (r_tmp (v := .int .i64 y1) hS rfl r_nil) rfl (by kernel_rfl) (by simp [pureT, pureL, E_i64])
      · obtain ⟨rfl, HE⟩ := HF
        refine bk_r ?_
        refine sq_r ?_
        injection h with h; subst h; exact HE
end Go.Am
end
section
set_option maxRecDepth 100000
set_option maxHeartbeats 1000000
set_option linter.unusedVariables false
set_option linter.unusedSimpArgs false
namespace Go.Am
open Go.Proofs
noncomputable def B_laws_szValue (a0 : DValue) (a1 : Int) : Option Int := (if (decide ((IntKind.i64.wrap (a1 - (a0.Text.size : Int))) < 0)) = true then (some (-1)) else (some (IntKind.i64.wrap (a1 - (a0.Text.size : Int)))))
theorem u_laws_szValue (a0 : DValue) (a1 : Int) (r : Int) (h : B_laws_szValue a0 a1 = some r) : F_laws_szValue a0 a1 = some r := by
  unfold B_laws_szValue at h
  refine semW_of E_i64_inj rfl rfl ok_111 rfl (all_cons (by kernel_rfl) (all_cons (by kernel_rfl) all_nil)) ?_
  intro σ0 s hS hH
  have hS := sub_to (L' := [(0, .agg (DValue.cells a0)), (1, .int .i64 a1)]) hS (by kernel_rfl)
  refine c_seq ?_
  refine c_region ?_
  refine q_box (v := .agg (DValue.cells a0)) (cs := [.int .i64 a0.Kind, .int .i64 a0.Num, .str a0.Text, .int .i64 a0.Ref]) rfl hS hH rfl rfl (by kernel_rfl) ?_; intro b1 σ s hH hS
  refine q_seg 1 [(1, .int .i64 a1), (2, .ptr b1 0 0 4)] hS (by kernel_rfl) ?_; intro s hS
  refine x_nil ?_
  refine sq_n ?_
  refine c_seq ?_
  refine c_region ?_
  refine q_seg 2 [(5, .int .i64 a1), (6, .ptr b1 0 2 1)] hS (by kernel_rfl) ?_; intro s hS
  refine q_load (v := .str a0.Text) 0 trivial rfl hS hH rfl rfl (by kernel_rfl) ?_; intro s hS
  refine q_seg 3 [(1, .int .i64 (IntKind.i64.wrap (a1 - (a0.Text.size : Int))))] hS (by kernel_rfl) ?_; intro s hS
  refine x_nil ?_
  refine sq_n ?_
  refine c_seq ?_
  refine c_seq ?_
  refine c_region ?_
  refine q_seg 2 [(1, .int .i64 (IntKind.i64.wrap (a1 - (a0.Text.size : Int)))), (11, .bool (decide ((IntKind.i64.wrap (a1 - (a0.Text.size : Int))) < 0)))] hS (by kernel_rfl) ?_; intro s hS
  refine x_nil ?_
  refine sq_n ?_
  by_cases hc1 : (decide ((IntKind.i64.wrap (a1 - (a0.Text.size : Int))) < 0)) = true
  · have h := it_pos hc1 h
    refine c_cond hS rfl (fun _ => ?_) (fun hf => ff_absurd hc1 hf)
    refine c_seq ?_
    refine c_region ?_
    refine q_seg 1 [(4, .int .i64 (-1))] hS (by kernel_rfl) ?_; intro s hS
    refine x_nil ?_
    refine sq_n ?_
    refine c_ret ?_
    refine sq_r ?_
    injection h with h; subst h
    exact end_W hH (r_tmp (v := .int .i64 (-1)) hS rfl r_nil) rfl (by kernel_rfl) (by simp [pureT, pureL, E_i64])
  · have h := it_neg hc1 h
    refine c_cond hS rfl (fun hf => tt_absurd hc1 hf) (fun _ => ?_)
    refine c_skip ?_
    refine sq_n ?_
    refine c_seq ?_
    refine c_region ?_
    refine q_seg 2 [(4, .int .i64 (IntKind.i64.wrap (a1 - (a0.Text.size : Int))))] hS (by kernel_rfl) ?_; intro s hS
    refine x_nil ?_
    refine sq_n ?_
    refine c_ret ?_
    injection h with h; subst h
    exact end_W hH (r_tmp (v := .int .i64 (IntKind.i64.wrap (a1 - (a0.Text.size : Int)))) hS rfl r_nil) rfl (by kernel_rfl) (by simp [pureT, pureL, E_i64])
end Go.Am
end
section
set_option maxRecDepth 100000
set_option maxHeartbeats 1000000
set_option linter.unusedVariables false
set_option linter.unusedSimpArgs false
namespace Go.Am
open Go.Proofs
noncomputable def B_spec_l07SameValues (a0 : (Sl DValue)) (a1 : (Sl DValue)) : Option Bool := (if ((!decide ((a0.l.length : Int) = (a1.l.length : Int)))) = true then (some false) else ((loopO (S := Int) (R := (Unit ⊕ Bool)) (fun st1 => (if (decide (st1 < (a0.l.length : Int))) = true then ((elt a0 st1).bind fun y2 => ((elt a1 st1).bind fun y3 => (if ((!(decide (y2.Kind = y3.Kind) && (decide (y2.Num = y3.Num) && (decide (y2.Text = y3.Text) && (decide (y2.Ref = y3.Ref) && true)))))) = true then (some (.inr (.inr false))) else (some (.inl (IntKind.i64.wrap (st1 + 1))))))) else (some (.inr (.inl ()))))) 0).bind fun y1 => (Sum.elim (fun y1 => (some true)) (fun y1 => (some y1)) y1)))
theorem u_spec_l07SameValues (a0 : (Sl DValue)) (a1 : (Sl DValue)) (r : Bool) (h : B_spec_l07SameValues a0 a1 = some r) : F_spec_l07SameValues a0 a1 = some r := by
  unfold B_spec_l07SameValues at h
  refine semW_of E_bool_inj rfl rfl ok_112 rfl (all_cons (by kernel_rfl) (all_cons (by kernel_rfl) all_nil)) ?_
  intro σ0 s hS hH
  have hS := sub_to (L' := [(0, (Sl.t (a0 : Sl DValue))), (1, (Sl.t (a1 : Sl DValue)))]) hS (by kernel_rfl)
  refine c_seq ?_
  refine c_region ?_
  refine q_seg 1 [(0, (Sl.t (a0 : Sl DValue))), (1, (Sl.t (a1 : Sl DValue)))] hS (by kernel_rfl) ?_; intro s hS
  refine x_nil ?_
  refine sq_n ?_
  refine c_seq ?_
  refine c_seq ?_
  refine c_region ?_
  refine q_seg 5 [(0, (Sl.t (a0 : Sl DValue))), (1, (Sl.t (a1 : Sl DValue))), (10, .bool ((!decide ((a0.l.length : Int) = (a1.l.length : Int)))))] hS (by kernel_rfl) ?_; intro s hS
  refine x_nil ?_
  refine sq_n ?_
  by_cases hc1 : ((!decide ((a0.l.length : Int) = (a1.l.length : Int)))) = true
  · have h := it_pos hc1 h
    refine c_cond hS rfl (fun _ => ?_) (fun hf => ff_absurd hc1 hf)
    refine c_seq ?_
    refine c_region ?_
    refine q_seg 1 [(4, .bool false)] hS (by kernel_rfl) ?_; intro s hS
    refine x_nil ?_
    refine sq_n ?_
    refine c_ret ?_
    refine sq_r ?_
    injection h with h; subst h
    exact end_W hH (r_tmp (v := .bool false) hS rfl r_nil) rfl (by kernel_rfl) (by simp [pureT, pureL, E_bool])
  · have h := it_neg hc1 h
    refine c_cond hS rfl (fun hf => tt_absurd hc1 hf) (fun _ => ?_)
    refine c_skip ?_
    refine sq_n ?_
    refine c_seq ?_
    refine c_seq ?_
    refine c_region ?_
    refine q_seg 1 [(0, (Sl.t (a0 : Sl DValue))), (1, (Sl.t (a1 : Sl DValue))), (5, .int .i64 0)] hS (by kernel_rfl) ?_; intro s hS
    refine x_nil ?_
    refine sq_n ?_
    refine c_block ?_
    obtain ⟨y1, hy1, h⟩ := bind_some h
    refine c_loop (fun (st1 : Int) (fr : Fr) => Sub [(0, (Sl.t (a0 : Sl DValue))), (1, (Sl.t (a1 : Sl DValue))), (5, .int .i64 st1)] fr.s ∧ Heap σ0 fr.σ []) (fun (y1 : (Unit ⊕ Bool)) (e : AExit) (fr : Fr) => (Sum.elim (fun y => e = (.exit 0) ∧ Sub [] fr.s ∧ Heap σ0 fr.σ []) (fun y => e = .ret ∧ endW Try.prog (Try.f112.results.toList) σ0 (E_bool y) .ret fr)) y1) hy1 (And.intro (sub_to hS (by kernel_rfl)) hH) ?_ ?_
    · clear h hy1 hS hH; clear y1; intro st1 x fr h HI; obtain ⟨s, σ⟩ := fr; obtain ⟨hS, hH⟩ := HI
      refine c_seq ?_
      refine c_seq ?_
      refine c_region ?_
      refine q_seg 4 [(0, (Sl.t (a0 : Sl DValue))), (1, (Sl.t (a1 : Sl DValue))), (5, .int .i64 st1), (14, .bool (decide (st1 < (a0.l.length : Int))))] hS (by kernel_rfl) ?_; intro s hS
      refine x_nil ?_
      refine sq_n ?_
      by_cases hc2 : (decide (st1 < (a0.l.length : Int))) = true
      · have h := it_pos hc2 h
        refine c_cond hS rfl (fun _ => ?_) (fun hf => ff_absurd hc2 hf)
        refine c_skip ?_
        refine sq_n ?_
        refine c_seq ?_
        refine c_block ?_
        refine c_seq ?_
        refine c_draw (by kernel_rfl) hH ?_; intro mb σ hH
        refine q_seg 2 [(0, (Sl.t (a0 : Sl DValue))), (1, (Sl.t (a1 : Sl DValue))), (5, .int .i64 st1), (17, (Sl.t (a0 : Sl DValue))), (18, .int .i64 st1)] hS (by kernel_rfl) ?_; intro s hS
        obtain ⟨y2, hy2, h⟩ := bind_some h
        refine q_elt (sl := a0) (e := 113) [.int .i64 y2.Kind, .int .i64 y2.Num, .str y2.Text, .int .i64 y2.Ref] rfl hS rfl rfl (by kernel_rfl) (by kernel_rfl) hy2 rfl ?_; intro rest1 s hS
        refine q_seg 3 [(0, (Sl.t (a0 : Sl DValue))), (1, (Sl.t (a1 : Sl DValue))), (5, .int .i64 st1), (20, .agg (DValue.cells y2)), (21, (Sl.t (a1 : Sl DValue))), (22, .int .i64 st1)] hS (by kernel_rfl) ?_; intro s hS
        obtain ⟨y3, hy3, h⟩ := bind_some h
        refine q_elt (sl := a1) (e := 113) [.int .i64 y3.Kind, .int .i64 y3.Num, .str y3.Text, .int .i64 y3.Ref] rfl hS rfl rfl (by kernel_rfl) (by kernel_rfl) hy3 rfl ?_; intro rest2 s hS
        refine q_seg 1 [(0, (Sl.t (a0 : Sl DValue))), (1, (Sl.t (a1 : Sl DValue))), (5, .int .i64 st1), (20, .agg (DValue.cells y2)), (24, .agg (DValue.cells y3))] hS (by kernel_rfl) ?_; intro s hS
        refine q_neS (xs := [.int .i64 y2.Kind, .int .i64 y2.Num, .str y2.Text, .int .i64 y2.Ref]) (ys := [.int .i64 y3.Kind, .int .i64 y3.Num, .str y3.Text, .int .i64 y3.Ref]) (v := (decide (y2.Kind = y3.Kind) && (decide (y2.Num = y3.Num) && (decide (y2.Text = y3.Text) && (decide (y2.Ref = y3.Ref) && true))))) rfl hS rfl rfl (by kernel_rfl) (by kernel_rfl) ?_; intro s hS
        refine x_nil ?_
        refine sq_n ?_
        by_cases hc3 : ((!(decide (y2.Kind = y3.Kind) && (decide (y2.Num = y3.Num) && (decide (y2.Text = y3.Text) && (decide (y2.Ref = y3.Ref) && true)))))) = true
        · have h := it_pos hc3 h
          refine c_cond hS rfl (fun _ => ?_) (fun hf => ff_absurd hc3 hf)
          refine c_seq ?_
          refine c_region ?_
          refine q_seg 1 [(4, .bool false)] hS (by kernel_rfl) ?_; intro s hS
          refine x_nil ?_
          refine sq_n ?_
          refine c_ret ?_
          refine bk_r ?_
          refine sq_r ?_
          injection h with h; subst h
          exact And.intro rfl (end_W hH (r_tmp (v := .bool false) hS rfl r_nil) rfl (by kernel_rfl) (by simp [pureT, pureL, E_bool]))
        · have h := it_neg hc3 h
          refine c_cond hS rfl (fun hf => tt_absurd hc3 hf) (fun _ => ?_)
          refine c_skip ?_
          refine bk_n ?_
          refine sq_n ?_
          refine c_region ?_
          refine q_seg 3 [(0, (Sl.t (a0 : Sl DValue))), (1, (Sl.t (a1 : Sl DValue))), (5, .int .i64 (IntKind.i64.wrap (st1 + 1)))] hS (by kernel_rfl) ?_; intro s hS
          refine x_nil ?_
          injection h with h; subst h
          exact And.intro (sub_to hS (by kernel_rfl)) hH
      · have h := it_neg hc2 h
        refine c_cond hS rfl (fun hf => tt_absurd hc2 hf) (fun _ => ?_)
        refine c_exit ?_
        refine sq_x ?_
        injection h with h; subst h
        exact And.intro rfl (And.intro (sub_to hS (by kernel_rfl)) hH)
    · clear hS hH; intro e fr HF; obtain ⟨s, σ⟩ := fr
      rcases y1 with y1 | y1
      · obtain ⟨rfl, hS, hH⟩ := HF
        refine bk_e ?_
        refine sq_n ?_
        refine c_seq ?_
        refine c_region ?_
        refine q_seg 1 [(4, .bool true)] hS (by kernel_rfl) ?_; intro s hS
        refine x_nil ?_
        refine sq_n ?_
        refine c_ret ?_
        injection h with h; subst h
        exact end_W hH (r_tmp (v := .bool true) hS rfl r_nil) rfl (by kernel_rfl) (by simp [pureT, pureL, E_bool])
      · obtain ⟨rfl, HE⟩ := HF
        refine bk_r ?_
        refine sq_r ?_
        injection h with h; subst h; exact HE
end Go.Am
end
section
set_option maxRecDepth 100000
set_option maxHeartbeats 1000000
set_option linter.unusedVariables false
set_option linter.unusedSimpArgs false
namespace Go.Am
open Go.Proofs
noncomputable def B_laws_toValueS (a0 : (Sl DValue)) : Option (Sl DValue) := ((mkS 40 ((⟨0, 0, ⟨#[]⟩, 0⟩ : DValue) : DValue) (a0.l.length : Int) (a0.l.length : Int)).bind fun y1 => ((loopO (S := (Int × (Sl DValue))) (R := (Sl DValue)) (fun st1 => (if (decide (st1.1 < (a0.l.length : Int))) = true then ((elt a0 st1.1).bind fun y3 => ((F_laws_toValue y3).bind fun y4 => ((elt st1.2 st1.1).bind fun y5 => (some (.inl ((IntKind.i64.wrap (st1.1 + 1)), (setS st1.2 st1.1 (y4 : DValue)))))))) else (some (.inr st1.2)))) (0, y1)).bind fun y2 => (some y2)))
theorem u_laws_toValueS (a0 : (Sl DValue)) (r : (Sl DValue)) (h : B_laws_toValueS a0 = some r) : F_laws_toValueS a0 = some r := by
  unfold B_laws_toValueS at h
  refine semO_of rfl rfl ok_113 rfl (all_cons (by kernel_rfl) all_nil) ?_
  intro σ0 s hS hH
  have hS := sub_to (L' := [(0, (Sl.t (a0 : Sl DValue)))]) hS (by kernel_rfl)
  refine c_seq ?_
  refine c_region ?_
  refine q_seg 1 [(0, (Sl.t (a0 : Sl DValue)))] hS (by kernel_rfl) ?_; intro s hS
  refine x_nil ?_
  refine sq_n ?_
  refine c_seq ?_
  refine c_region ?_
  refine q_seg 2 [(0, (Sl.t (a0 : Sl DValue))), (6, .int .i64 (a0.l.length : Int))] hS (by kernel_rfl) ?_; intro s hS
  obtain ⟨y1, hy1, h⟩ := bind_some h
  refine q_make (z := true) (e := 113) (by_ := 40) (x0 := ((⟨0, 0, ⟨#[]⟩, 0⟩ : DValue) : DValue)) (fun σ d => by simp [Enc.cells, DValue.cells, Iv]) rfl hS hH rfl rfl (by kernel_rfl) (by kernel_rfl) (by kernel_rfl) (by kernel_rfl) rfl hy1 ?_; intro t1 σ s ht1 hH hS
  refine q_seg 1 [(0, (Sl.t (a0 : Sl DValue))), (3, t1)] hS (by kernel_rfl) ?_; intro s hS
  refine x_nil ?_
  refine sq_n ?_
  refine c_seq ?_
  refine c_seq ?_
  refine c_region ?_
  refine q_seg 1 [(0, (Sl.t (a0 : Sl DValue))), (3, t1), (4, .int .i64 0)] hS (by kernel_rfl) ?_; intro s hS
  refine x_nil ?_
  refine sq_n ?_
  refine c_block ?_
  obtain ⟨y2, hy2, h⟩ := bind_some h
  refine c_loop (fun (st1 : (Int × (Sl DValue))) (fr : Fr) => Sub [(0, (Sl.t (a0 : Sl DValue))), (3, t1), (4, .int .i64 st1.1)] fr.s ∧ Heap σ0 fr.σ [.own true 4 t1 (Sl.t (st1.2 : Sl DValue))]) (fun (y2 : (Sl DValue)) (e : AExit) (fr : Fr) => e = (.exit 0) ∧ Sub [(3, t1)] fr.s ∧ Heap σ0 fr.σ [.own true 4 t1 (Sl.t (y2 : Sl DValue))]) hy2 (And.intro (sub_to hS (by kernel_rfl)) hH) ?_ ?_
  · clear h hy2 hS hH; clear y2; intro st1 x fr h HI; obtain ⟨s, σ⟩ := fr; obtain ⟨hS, hH⟩ := HI
    refine c_seq ?_
    refine c_seq ?_
    refine c_region ?_
    refine q_seg 4 [(0, (Sl.t (a0 : Sl DValue))), (3, t1), (4, .int .i64 st1.1), (11, .bool (decide (st1.1 < (a0.l.length : Int))))] hS (by kernel_rfl) ?_; intro s hS
    refine x_nil ?_
    refine sq_n ?_
    by_cases hc1 : (decide (st1.1 < (a0.l.length : Int))) = true
    · have h := it_pos hc1 h
      refine c_cond hS rfl (fun _ => ?_) (fun hf => ff_absurd hc1 hf)
      refine c_skip ?_
      refine sq_n ?_
      refine c_seq ?_
      refine c_block ?_
      refine c_region ?_
      refine q_seg 4 [(0, (Sl.t (a0 : Sl DValue))), (3, t1), (4, .int .i64 st1.1), (14, t1), (15, .int .i64 st1.1), (16, (Sl.t (a0 : Sl DValue))), (17, .int .i64 st1.1)] hS (by kernel_rfl) ?_; intro s hS
      obtain ⟨y3, hy3, h⟩ := bind_some h
      refine q_elt (sl := a0) (e := 126) [.int .i64 y3.Kind, .int .i64 y3.Num, .str y3.Text, .int .i64 y3.Ref] rfl hS rfl rfl (by kernel_rfl) (by kernel_rfl) hy3 rfl ?_; intro rest1 s hS
      refine q_seg 1 [(0, (Sl.t (a0 : Sl DValue))), (3, t1), (4, .int .i64 st1.1), (14, t1), (15, .int .i64 st1.1), (19, .agg (DValue.cells y3))] hS (by kernel_rfl) ?_; intro s hS
      obtain ⟨y4, hy4, h⟩ := bind_some h
      refine q_callF (a := []) (b := []) (xs := [.agg (DValue.cells y3)]) rfl hS rfl rfl hy4 ?_; intro s hS
      obtain ⟨y5, hy5, h⟩ := bind_some h
      refine q_hidx (a := st1.2) (e := 113) rfl rfl hS hH rfl rfl (by kernel_rfl) (by kernel_rfl) hy5 ?_; intro hb1 hb1e s hl_hb1 hS
      refine q_hstore (ents := []) (a := st1.2) (j := st1.1) (y := y5) (y' := (y4 : DValue)) (off := 0) (c := [.int .i64 y5.Kind, .int .i64 y5.Num, .str y5.Text, .int .i64 y5.Ref]) (us := [.int .i64 y4.Kind, .int .i64 y4.Num, .str y4.Text, .int .i64 y4.Ref]) (vs := [.int .i64 y4.Kind, .int .i64 y4.Num, .str y4.Text, .int .i64 y4.Ref]) (v := .agg (DValue.cells y4)) rfl hS hH hl_hb1 rfl rfl rfl (by kernel_rfl) (by kernel_rfl) rfl hy5 rfl (HL.leaf (fun σ d => hold_int _ σ d _ _) (HL.leaf (fun σ d => hold_int _ σ d _ _) (HL.leaf (fun σ d => hold_str _ σ d _) (HL.leaf (fun σ d => hold_int _ σ d _ _) HL.nil)))) rfl (by kernel_rfl) ?_; intro σ s hH hS
      refine x_nil ?_
      refine bk_n ?_
      refine sq_n ?_
      refine c_region ?_
      refine q_seg 3 [(0, (Sl.t (a0 : Sl DValue))), (3, t1), (4, .int .i64 (IntKind.i64.wrap (st1.1 + 1)))] hS (by kernel_rfl) ?_; intro s hS
      refine x_nil ?_
      injection h with h; subst h
      exact And.intro (sub_to hS (by kernel_rfl)) hH
    · have h := it_neg hc1 h
      refine c_cond hS rfl (fun hf => tt_absurd hc1 hf) (fun _ => ?_)
      refine c_exit ?_
      refine sq_x ?_
      injection h with h; subst h
      exact And.intro rfl (And.intro (sub_to hS (by kernel_rfl)) hH)
  · clear hS hH; intro e fr HF; obtain ⟨s, σ⟩ := fr
    obtain ⟨rfl, hS, hH⟩ := HF
    refine bk_e ?_
    refine sq_n ?_
    refine c_seq ?_
    refine c_region ?_
    refine q_seg 2 [(2, t1)] hS (by kernel_rfl) ?_; intro s hS
    refine x_nil ?_
    refine sq_n ?_
    refine c_ret ?_
    injection h with h; subst h
    exact end_Ow [t1] [] (r_tmp (v := t1) hS rfl r_nil) (by kernel_rfl) rfl hH (by kernel_rfl)
end Go.Am
end
section
set_option maxRecDepth 100000
set_option maxHeartbeats 1000000
set_option linter.unusedVariables false
set_option linter.unusedSimpArgs false
namespace Go.Am
open Go.Proofs
noncomputable def B_laws_toValue (a0 : DValue) : Option DValue := (some a0)
theorem u_laws_toValue (a0 : DValue) (r : DValue) (h : B_laws_toValue a0 = some r) : F_laws_toValue a0 = some r := by
  unfold B_laws_toValue at h
  refine semW_of E_DValue_inj rfl rfl ok_114 rfl (all_cons (by kernel_rfl) all_nil) ?_
  intro σ0 s hS hH
  have hS := sub_to (L' := [(0, .agg (DValue.cells a0))]) hS (by kernel_rfl)
  refine c_seq ?_
  refine c_region ?_
  refine q_box (v := .agg (DValue.cells a0)) (cs := [.int .i64 a0.Kind, .int .i64 a0.Num, .str a0.Text, .int .i64 a0.Ref]) rfl hS hH rfl rfl (by kernel_rfl) ?_; intro b1 σ s hH hS
  refine q_alloc (z := [.int .i64 0, .int .i64 0, .str ⟨#[]⟩, .int .i64 0]) rfl hS hH (by kernel_rfl) ?_; intro b2 σ s hH hS
  refine x_nil ?_
  refine sq_n ?_
  refine c_seq ?_
  refine c_region ?_
  refine q_alloc (z := [.int .i64 0, .int .i64 0, .str ⟨#[]⟩, .int .i64 0]) rfl hS hH (by kernel_rfl) ?_; intro b3 σ s hH hS
  refine x_nil ?_
  refine sq_n ?_
  refine c_seq ?_
  refine c_region ?_
  refine q_seg 1 [(1, .ptr b1 0 0 4), (2, .ptr b2 0 0 4), (3, .ptr b3 0 0 4), (4, .ptr b1 0 0 1)] hS (by kernel_rfl) ?_; intro s hS
  refine q_load (v := .int .i64 a0.Kind) 2 trivial rfl hS hH rfl rfl (by kernel_rfl) ?_; intro s hS
  refine q_seg 1 [(1, .ptr b1 0 0 4), (2, .ptr b2 0 0 4), (3, .ptr b3 0 0 4), (5, .int .i64 a0.Kind), (6, .ptr b3 0 0 1)] hS (by kernel_rfl) ?_; intro s hS
  refine q_store (v := .int .i64 a0.Kind) (cs := [.int .i64 a0.Kind]) (cells' := [.int .i64 a0.Kind, .int .i64 0, .str ⟨#[]⟩, .int .i64 0]) rfl hS hH rfl rfl rfl (by kernel_rfl) (by kernel_rfl) ?_; intro σ s hH hS
  refine x_nil ?_
  refine sq_n ?_
  refine c_seq ?_
  refine c_region ?_
  refine q_seg 1 [(1, .ptr b1 0 0 4), (2, .ptr b2 0 0 4), (3, .ptr b3 0 0 4), (7, .ptr b1 0 1 1)] hS (by kernel_rfl) ?_; intro s hS
  refine q_load (v := .int .i64 a0.Num) 2 trivial rfl hS hH rfl rfl (by kernel_rfl) ?_; intro s hS
  refine q_seg 1 [(1, .ptr b1 0 0 4), (2, .ptr b2 0 0 4), (3, .ptr b3 0 0 4), (8, .int .i64 a0.Num), (9, .ptr b3 0 1 1)] hS (by kernel_rfl) ?_; intro s hS
  refine q_store (v := .int .i64 a0.Num) (cs := [.int .i64 a0.Num]) (cells' := [.int .i64 a0.Kind, .int .i64 a0.Num, .str ⟨#[]⟩, .int .i64 0]) rfl hS hH rfl rfl rfl (by kernel_rfl) (by kernel_rfl) ?_; intro σ s hH hS
  refine x_nil ?_
  refine sq_n ?_
  refine c_seq ?_
  refine c_region ?_
  refine q_seg 1 [(1, .ptr b1 0 0 4), (2, .ptr b2 0 0 4), (3, .ptr b3 0 0 4), (10, .ptr b1 0 2 1)] hS (by kernel_rfl) ?_; intro s hS
  refine q_load (v := .str a0.Text) 2 trivial rfl hS hH rfl rfl (by kernel_rfl) ?_; intro s hS
  refine q_seg 1 [(1, .ptr b1 0 0 4), (2, .ptr b2 0 0 4), (3, .ptr b3 0 0 4), (11, .str a0.Text), (12, .ptr b3 0 2 1)] hS (by kernel_rfl) ?_; intro s hS
  refine q_store (v := .str a0.Text) (cs := [.str a0.Text]) (cells' := [.int .i64 a0.Kind, .int .i64 a0.Num, .str a0.Text, .int .i64 0]) rfl hS hH rfl rfl rfl (by kernel_rfl) (by kernel_rfl) ?_; intro σ s hH hS
  refine x_nil ?_
  refine sq_n ?_
  refine c_seq ?_
  refine c_region ?_
  refine q_seg 1 [(2, .ptr b2 0 0 4), (3, .ptr b3 0 0 4), (13, .ptr b1 0 3 1)] hS (by kernel_rfl) ?_; intro s hS
  refine q_load (v := .int .i64 a0.Ref) 2 trivial rfl hS hH rfl rfl (by kernel_rfl) ?_; intro s hS
  refine q_seg 1 [(2, .ptr b2 0 0 4), (3, .ptr b3 0 0 4), (14, .int .i64 a0.Ref), (15, .ptr b3 0 3 1)] hS (by kernel_rfl) ?_; intro s hS
  refine q_store (v := .int .i64 a0.Ref) (cs := [.int .i64 a0.Ref]) (cells' := [.int .i64 a0.Kind, .int .i64 a0.Num, .str a0.Text, .int .i64 a0.Ref]) rfl hS hH rfl rfl rfl (by kernel_rfl) (by kernel_rfl) ?_; intro σ s hH hS
  refine x_nil ?_
  refine sq_n ?_
  refine c_seq ?_
  refine c_region ?_
  refine q_load (v := .agg (DValue.cells a0)) 0 trivial rfl hS hH rfl rfl (by kernel_rfl) ?_; intro s hS
  have hH : Heap σ0 σ [.box b2 [.int .i64 0, .int .i64 0, .str ⟨#[]⟩, .int .i64 0], .box b3 [.int .i64 a0.Kind, .int .i64 a0.Num, .str a0.Text, .int .i64 a0.Ref], .box b1 [.int .i64 a0.Kind, .int .i64 a0.Num, .str a0.Text, .int .i64 a0.Ref]] := hH.sel [1, 0, 2] rfl (by kernel_rfl)
  refine q_store (v := .agg (DValue.cells a0)) (cs := [.int .i64 a0.Kind, .int .i64 a0.Num, .str a0.Text, .int .i64 a0.Ref]) (cells' := [.int .i64 a0.Kind, .int .i64 a0.Num, .str a0.Text, .int .i64 a0.Ref]) rfl hS hH rfl rfl rfl (by kernel_rfl) (by kernel_rfl) ?_; intro σ s hH hS
  refine x_nil ?_
  refine sq_n ?_
  refine c_ret ?_
  injection h with h; subst h
  exact end_W hH (r_cell (v := .agg (DValue.cells a0)) hS hH rfl (by kernel_rfl) r_nil) rfl (by kernel_rfl) (by simp [pureT, pureL, E_DValue, DValue.cells])
end Go.Am
end
