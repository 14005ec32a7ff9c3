/- Functions of the program. -/
import Derived.Test.YtnabmjlpdcpaeaaAd0
section
set_option maxRecDepth 100000
set_option maxHeartbeats 1000000
set_option linter.unusedVariables false
set_option linter.unusedSimpArgs false
namespace Go.Am
open Go.Proofs
noncomputable def B_laws_szRecordTypeS (a0 : (Sl DRecordType)) (a1 : Int) : Option Int := (if (decide ((IntKind.i64.wrap (a1 - (a0.l.length : Int))) < 0)) = true then (some (-1)) else ((loopO (S := (Int × Int)) (R := (Int ⊕ Int)) (fun st1 => (if (decide (st1.2 < (a0.l.length : Int))) = true then ((elt a0 st1.2).bind fun y2 => ((F_laws_szRecordType y2 st1.1).bind fun y3 => (if (decide (y3 < 0)) = true then (some (.inr (.inr (-1)))) else (some (.inl (y3, (IntKind.i64.wrap (st1.2 + 1)))))))) else (some (.inr (.inl st1.1))))) ((IntKind.i64.wrap (a1 - (a0.l.length : Int))), 0)).bind fun y1 => (Sum.elim (fun y1 => (some y1)) (fun y1 => (some y1)) y1)))
theorem u_laws_szRecordTypeS (a0 : (Sl DRecordType)) (a1 : Int) (r : Int) (h : B_laws_szRecordTypeS a0 a1 = some r) : F_laws_szRecordTypeS a0 a1 = some r := by
  unfold B_laws_szRecordTypeS at h
  refine semW_of E_i64_inj rfl rfl ok_68 rfl (all_cons (by kernel_rfl) (all_cons (by kernel_rfl) all_nil)) ?_
  intro σ0 s hS hH
  have hS := sub_to (L' := [(0, (Sl.t (a0 : Sl DRecordType))), (1, .int .i64 a1)]) hS (by kernel_rfl)
  refine c_seq ?_
  refine c_region ?_
  refine q_seg 1 [(0, (Sl.t (a0 : Sl DRecordType))), (1, .int .i64 a1)] hS (by kernel_rfl) ?_; intro s hS
  refine x_nil ?_
  refine sq_n ?_
  refine c_seq ?_
  refine c_region ?_
  refine q_seg 5 [(0, (Sl.t (a0 : Sl DRecordType))), (1, .int .i64 (IntKind.i64.wrap (a1 - (a0.l.length : Int))))] hS (by kernel_rfl) ?_; intro s hS
  refine x_nil ?_
  refine sq_n ?_
  refine c_seq ?_
  refine c_seq ?_
  refine c_region ?_
  refine q_seg 2 [(0, (Sl.t (a0 : Sl DRecordType))), (1, .int .i64 (IntKind.i64.wrap (a1 - (a0.l.length : Int)))), (11, .bool (decide ((IntKind.i64.wrap (a1 - (a0.l.length : Int))) < 0)))] hS (by kernel_rfl) ?_; intro s hS
  refine x_nil ?_
  refine sq_n ?_
  by_cases hc1 : (decide ((IntKind.i64.wrap (a1 - (a0.l.length : Int))) < 0)) = true
  · have h := it_pos hc1 h
    refine c_cond hS rfl (fun _ => ?_) (fun hf => ff_absurd hc1 hf)
    refine c_seq ?_
    refine c_region ?_
    refine q_seg 1 [(4, .int .i64 (-1))] hS (by kernel_rfl) ?_; intro s hS
    refine x_nil ?_
    refine sq_n ?_
    refine c_ret ?_
    refine sq_r ?_
    injection h with h; subst h
    exact end_W hH (r_tmp (v := .int .i64 (-1)) hS rfl r_nil) rfl (by kernel_rfl) (by simp [pureT, pureL, E_i64])
  · have h := it_neg hc1 h
    refine c_cond hS rfl (fun hf => tt_absurd hc1 hf) (fun _ => ?_)
    refine c_skip ?_
    refine sq_n ?_
    refine c_seq ?_
    refine c_seq ?_
    refine c_region ?_
    refine q_seg 1 [(0, (Sl.t (a0 : Sl DRecordType))), (1, .int .i64 (IntKind.i64.wrap (a1 - (a0.l.length : Int)))), (5, .int .i64 0)] hS (by kernel_rfl) ?_; intro s hS
    refine x_nil ?_
    refine sq_n ?_
    refine c_block ?_
    obtain ⟨y1, hy1, h⟩ := bind_some h
    refine c_loop (fun (st1 : (Int × Int)) (fr : Fr) => Sub [(0, (Sl.t (a0 : Sl DRecordType))), (1, .int .i64 st1.1), (5, .int .i64 st1.2)] fr.s ∧ Heap σ0 fr.σ []) (fun (y1 : (Int ⊕ Int)) (e : AExit) (fr : Fr) => (Sum.elim (fun y => e = (.exit 0) ∧ Sub [(1, .int .i64 y)] fr.s ∧ Heap σ0 fr.σ []) (fun y => e = .ret ∧ endW Try.prog (Try.f68.results.toList) σ0 (E_i64 y) .ret fr)) y1) hy1 (And.intro (sub_to hS (by kernel_rfl)) hH) ?_ ?_
    · clear h hy1 hS hH; clear y1; intro st1 x fr h HI; obtain ⟨s, σ⟩ := fr; obtain ⟨hS, hH⟩ := HI
      refine c_seq ?_
      refine c_seq ?_
      refine c_region ?_
      refine q_seg 4 [(0, (Sl.t (a0 : Sl DRecordType))), (1, .int .i64 st1.1), (5, .int .i64 st1.2), (15, .bool (decide (st1.2 < (a0.l.length : Int))))] hS (by kernel_rfl) ?_; intro s hS
      refine x_nil ?_
      refine sq_n ?_
      by_cases hc2 : (decide (st1.2 < (a0.l.length : Int))) = true
      · have h := it_pos hc2 h
        refine c_cond hS rfl (fun _ => ?_) (fun hf => ff_absurd hc2 hf)
        refine c_skip ?_
        refine sq_n ?_
        refine c_seq ?_
        refine c_block ?_
        refine c_seq ?_
        refine c_region ?_
        refine q_seg 2 [(0, (Sl.t (a0 : Sl DRecordType))), (1, .int .i64 st1.1), (5, .int .i64 st1.2), (18, (Sl.t (a0 : Sl DRecordType))), (19, .int .i64 st1.2)] hS (by kernel_rfl) ?_; intro s hS
        obtain ⟨y2, hy2, h⟩ := bind_some h
        refine q_elt (sl := a0) (e := 135) [.str y2.Name, (Sl.t (y2.Fields : Sl ByteArray))] rfl hS rfl rfl (by kernel_rfl) (by kernel_rfl) hy2 rfl ?_; intro rest1 s hS
        refine q_seg 2 [(0, (Sl.t (a0 : Sl DRecordType))), (5, .int .i64 st1.2), (21, .agg (DRecordType.cells y2)), (22, .int .i64 st1.1)] hS (by kernel_rfl) ?_; intro s hS
        obtain ⟨y3, hy3, h⟩ := bind_some h
        refine q_callF (a := []) (b := []) (xs := [.agg (DRecordType.cells y2), .int .i64 st1.1]) rfl hS rfl rfl hy3 ?_; intro s hS
        refine q_seg 1 [(0, (Sl.t (a0 : Sl DRecordType))), (1, .int .i64 y3), (5, .int .i64 st1.2)] hS (by kernel_rfl) ?_; intro s hS
        refine x_nil ?_
        refine sq_n ?_
        refine c_seq ?_
        refine c_region ?_
        refine q_seg 2 [(0, (Sl.t (a0 : Sl DRecordType))), (1, .int .i64 y3), (5, .int .i64 st1.2), (25, .bool (decide (y3 < 0)))] hS (by kernel_rfl) ?_; intro s hS
        refine x_nil ?_
        refine sq_n ?_
        by_cases hc3 : (decide (y3 < 0)) = true
        · have h := it_pos hc3 h
          refine c_cond hS rfl (fun _ => ?_) (fun hf => ff_absurd hc3 hf)
          refine c_seq ?_
          refine c_region ?_
          refine q_seg 1 [(4, .int .i64 (-1))] hS (by kernel_rfl) ?_; intro s hS
          refine x_nil ?_
          refine sq_n ?_
          refine c_ret ?_
          refine bk_r ?_
          refine sq_r ?_
          injection h with h; subst h
          exact And.intro rfl (end_W hH (r_tmp (v := .int .i64 (-1)) hS rfl r_nil) rfl (by kernel_rfl) (by simp [pureT, pureL, E_i64]))
        · have h := it_neg hc3 h
          refine c_cond hS rfl (fun hf => tt_absurd hc3 hf) (fun _ => ?_)
          refine c_skip ?_
          refine bk_n ?_
          refine sq_n ?_
          refine c_region ?_
          refine q_seg 3 [(0, (Sl.t (a0 : Sl DRecordType))), (1, .int .i64 y3), (5, .int .i64 (IntKind.i64.wrap (st1.2 + 1)))] hS (by kernel_rfl) ?_; intro s hS
          refine x_nil ?_
          injection h with h; subst h
          exact And.intro (sub_to hS (by kernel_rfl)) hH
      · have h := it_neg hc2 h
        refine c_cond hS rfl (fun hf => tt_absurd hc2 hf) (fun _ => ?_)
        refine c_exit ?_
        refine sq_x ?_
        injection h with h; subst h
        exact And.intro rfl (And.intro (sub_to hS (by kernel_rfl)) hH)
    · clear hS hH; intro e fr HF; obtain ⟨s, σ⟩ := fr
      rcases y1 with y1 | y1
      · obtain ⟨rfl, hS, hH⟩ := HF
        refine bk_e ?_
        refine sq_n ?_
        refine c_seq ?_
        refine c_region ?_
        refine q_seg 2 [(4, .int .i64 y1)] hS (by kernel_rfl) ?_; intro s hS
        refine x_nil ?_
        refine sq_n ?_
        refine c_ret ?_
        injection h with h; subst h
        exact end_W hH (r_tmp (v := .int .i64 y1) hS rfl r_nil) rfl (by kernel_rfl) (by simp [pureT, pureL, E_i64])
      · obtain ⟨rfl, HE⟩ := HF
        refine bk_r ?_
        refine sq_r ?_
        injection h with h; subst h; exact HE
end Go.Am
end
section
set_option maxRecDepth 100000
set_option maxHeartbeats 1000000
set_option linter.unusedVariables false
set_option linter.unusedSimpArgs false
namespace Go.Am
open Go.Proofs
noncomputable def B_laws_szFileS (a0 : (Sl DFile)) (a1 : Int) : Option Int := (if (decide ((IntKind.i64.wrap (a1 - (a0.l.length : Int))) < 0)) = true then (some (-1)) else ((loopO (S := (Int × Int)) (R := (Int ⊕ Int)) (fun st1 => (if (decide (st1.2 < (a0.l.length : Int))) = true then ((elt a0 st1.2).bind fun y2 => ((F_laws_szFile y2 st1.1).bind fun y3 => (if (decide (y3 < 0)) = true then (some (.inr (.inr (-1)))) else (some (.inl (y3, (IntKind.i64.wrap (st1.2 + 1)))))))) else (some (.inr (.inl st1.1))))) ((IntKind.i64.wrap (a1 - (a0.l.length : Int))), 0)).bind fun y1 => (Sum.elim (fun y1 => (some y1)) (fun y1 => (some y1)) y1)))
theorem u_laws_szFileS (a0 : (Sl DFile)) (a1 : Int) (r : Int) (h : B_laws_szFileS a0 a1 = some r) : F_laws_szFileS a0 a1 = some r := by
  unfold B_laws_szFileS at h
  refine semW_of E_i64_inj rfl rfl ok_69 rfl (all_cons (by kernel_rfl) (all_cons (by kernel_rfl) all_nil)) ?_
  intro σ0 s hS hH
  have hS := sub_to (L' := [(0, (Sl.t (a0 : Sl DFile))), (1, .int .i64 a1)]) hS (by kernel_rfl)
  refine c_seq ?_
  refine c_region ?_
  refine q_seg 1 [(0, (Sl.t (a0 : Sl DFile))), (1, .int .i64 a1)] hS (by kernel_rfl) ?_; intro s hS
  refine x_nil ?_
  refine sq_n ?_
  refine c_seq ?_
  refine c_region ?_
  refine q_seg 5 [(0, (Sl.t (a0 : Sl DFile))), (1, .int .i64 (IntKind.i64.wrap (a1 - (a0.l.length : Int))))] hS (by kernel_rfl) ?_; intro s hS
  refine x_nil ?_
  refine sq_n ?_
  refine c_seq ?_
  refine c_seq ?_
  refine c_region ?_
  refine q_seg 2 [(0, (Sl.t (a0 : Sl DFile))), (1, .int .i64 (IntKind.i64.wrap (a1 - (a0.l.length : Int)))), (11, .bool (decide ((IntKind.i64.wrap (a1 - (a0.l.length : Int))) < 0)))] hS (by kernel_rfl) ?_; intro s hS
  refine x_nil ?_
  refine sq_n ?_
  by_cases hc1 : (decide ((IntKind.i64.wrap (a1 - (a0.l.length : Int))) < 0)) = true
  · have h := it_pos hc1 h
    refine c_cond hS rfl (fun _ => ?_) (fun hf => ff_absurd hc1 hf)
    refine c_seq ?_
    refine c_region ?_
    refine q_seg 1 [(4, .int .i64 (-1))] hS (by kernel_rfl) ?_; intro s hS
    refine x_nil ?_
    refine sq_n ?_
    refine c_ret ?_
    refine sq_r ?_
    injection h with h; subst h
    exact end_W hH (r_tmp (v := .int .i64 (-1)) hS rfl r_nil) rfl (by kernel_rfl) (by simp [pureT, pureL, E_i64])
  · have h := it_neg hc1 h
    refine c_cond hS rfl (fun hf => tt_absurd hc1 hf) (fun _ => ?_)
    refine c_skip ?_
    refine sq_n ?_
    refine c_seq ?_
    refine c_seq ?_
    refine c_region ?_
    refine q_seg 1 [(0, (Sl.t (a0 : Sl DFile))), (1, .int .i64 (IntKind.i64.wrap (a1 - (a0.l.length : Int)))), (5, .int .i64 0)] hS (by kernel_rfl) ?_; intro s hS
    refine x_nil ?_
    refine sq_n ?_
    refine c_block ?_
    obtain ⟨y1, hy1, h⟩ := bind_some h
    refine c_loop (fun (st1 : (Int × Int)) (fr : Fr) => Sub [(0, (Sl.t (a0 : Sl DFile))), (1, .int .i64 st1.1), (5, .int .i64 st1.2)] fr.s ∧ Heap σ0 fr.σ []) (fun (y1 : (Int ⊕ Int)) (e : AExit) (fr : Fr) => (Sum.elim (fun y => e = (.exit 0) ∧ Sub [(1, .int .i64 y)] fr.s ∧ Heap σ0 fr.σ []) (fun y => e = .ret ∧ endW Try.prog (Try.f69.results.toList) σ0 (E_i64 y) .ret fr)) y1) hy1 (And.intro (sub_to hS (by kernel_rfl)) hH) ?_ ?_
    · clear h hy1 hS hH; clear y1; intro st1 x fr h HI; obtain ⟨s, σ⟩ := fr; obtain ⟨hS, hH⟩ := HI
      refine c_seq ?_
      refine c_seq ?_
      refine c_region ?_
      refine q_seg 4 [(0, (Sl.t (a0 : Sl DFile))), (1, .int .i64 st1.1), (5, .int .i64 st1.2), (15, .bool (decide (st1.2 < (a0.l.length : Int))))] hS (by kernel_rfl) ?_; intro s hS
      refine x_nil ?_
      refine sq_n ?_
      by_cases hc2 : (decide (st1.2 < (a0.l.length : Int))) = true
      · have h := it_pos hc2 h
        refine c_cond hS rfl (fun _ => ?_) (fun hf => ff_absurd hc2 hf)
        refine c_skip ?_
        refine sq_n ?_
        refine c_seq ?_
        refine c_block ?_
        refine c_seq ?_
        refine c_region ?_
        refine q_seg 2 [(0, (Sl.t (a0 : Sl DFile))), (1, .int .i64 st1.1), (5, .int .i64 st1.2), (18, (Sl.t (a0 : Sl DFile))), (19, .int .i64 st1.2)] hS (by kernel_rfl) ?_; intro s hS
        obtain ⟨y2, hy2, h⟩ := bind_some h
        refine q_elt (sl := a0) (e := 137) [.str y2.Name, (Sl.t (y2.Lines : Sl ByteArray)), .int .i64 y2.Mode, .int .i64 y2.At] rfl hS rfl rfl (by kernel_rfl) (by kernel_rfl) hy2 rfl ?_; intro rest1 s hS
        refine q_seg 2 [(0, (Sl.t (a0 : Sl DFile))), (5, .int .i64 st1.2), (21, .agg (DFile.cells y2)), (22, .int .i64 st1.1)] hS (by kernel_rfl) ?_; intro s hS
        obtain ⟨y3, hy3, h⟩ := bind_some h
        refine q_callF (a := []) (b := []) (xs := [.agg (DFile.cells y2), .int .i64 st1.1]) rfl hS rfl rfl hy3 ?_; intro s hS
        refine q_seg 1 [(0, (Sl.t (a0 : Sl DFile))), (1, .int .i64 y3), (5, .int .i64 st1.2)] hS (by kernel_rfl) ?_; intro s hS
        refine x_nil ?_
        refine sq_n ?_
        refine c_seq ?_
        refine c_region ?_
        refine q_seg 2 [(0, (Sl.t (a0 : Sl DFile))), (1, .int .i64 y3), (5, .int .i64 st1.2), (25, .bool (decide (y3 < 0)))] hS (by kernel_rfl) ?_; intro s hS
        refine x_nil ?_
        refine sq_n ?_
        by_cases hc3 : (decide (y3 < 0)) = true
        · have h := it_pos hc3 h
          refine c_cond hS rfl (fun _ => ?_) (fun hf => ff_absurd hc3 hf)
          refine c_seq ?_
          refine c_region ?_
          refine q_seg 1 [(4, .int .i64 (-1))] hS (by kernel_rfl) ?_; intro s hS
          refine x_nil ?_
          refine sq_n ?_
          refine c_ret ?_
          refine bk_r ?_
          refine sq_r ?_
          injection h with h; subst h
          exact And.intro rfl (end_W hH (r_tmp (v := .int .i64 (-1)) hS rfl r_nil) rfl (by kernel_rfl) (by simp [pureT, pureL, E_i64]))
        · have h := it_neg hc3 h
          refine c_cond hS rfl (fun hf => tt_absurd hc3 hf) (fun _ => ?_)
          refine c_skip ?_
          refine bk_n ?_
          refine sq_n ?_
          refine c_region ?_
          refine q_seg 3 [(0, (Sl.t (a0 : Sl DFile))), (1, .int .i64 y3), (5, .int .i64 (IntKind.i64.wrap (st1.2 + 1)))] hS (by kernel_rfl) ?_; intro s hS
          refine x_nil ?_
          injection h with h; subst h
          exact And.intro (sub_to hS (by kernel_rfl)) hH
      · have h := it_neg hc2 h
        refine c_cond hS rfl (fun hf => tt_absurd hc2 hf) (fun _ => ?_)
        refine c_exit ?_
        refine sq_x ?_
        injection h with h; subst h
        exact And.intro rfl (And.intro (sub_to hS (by kernel_rfl)) hH)
    · clear hS hH; intro e fr HF; obtain ⟨s, σ⟩ := fr
      rcases y1 with y1 | y1
      · obtain ⟨rfl, hS, hH⟩ := HF
        refine bk_e ?_
        refine sq_n ?_
        refine c_seq ?_
        refine c_region ?_
        refine q_seg 2 [(4, .int .i64 y1)] hS (by kernel_rfl) ?_; intro s hS
        refine x_nil ?_
        refine sq_n ?_
        refine c_ret ?_
        injection h with h; subst h
        exact end_W hH (r_tmp (v := .int .i64 y1) hS rfl r_nil) rfl (by kernel_rfl) (by simp [pureT, pureL, E_i64])
      · obtain ⟨rfl, HE⟩ := HF
        refine bk_r ?_
        refine sq_r ?_
        injection h with h; subst h; exact HE
end Go.Am
end
section
set_option maxRecDepth 100000
set_option maxHeartbeats 1000000
set_option linter.unusedVariables false
set_option linter.unusedSimpArgs false
namespace Go.Am
open Go.Proofs
noncomputable def B_spec_l07Same (a0 : DHeap) (a1 : DHeap) : Option Bool := (if (!decide (a0.Next = a1.Next)) = true then (some false) else (if ((!decide ((a0.Objects.l.length : Int) = (a1.Objects.l.length : Int)))) = true then (some false) else ((loopO (S := Int) (R := (Unit ⊕ Bool)) (fun st1 => (if (decide (st1 < (a0.Objects.l.length : Int))) = true then ((elt a0.Objects st1).bind fun y2 => ((elt a1.Objects st1).bind fun y3 => ((F_spec_l07SameObject y2 y3).bind fun y4 => (if (!y4) = true then (some (.inr (.inr false))) else (some (.inl (IntKind.i64.wrap (st1 + 1)))))))) else (some (.inr (.inl ()))))) 0).bind fun y1 => (Sum.elim (fun y1 => (some true)) (fun y1 => (some y1)) y1))))
theorem u_spec_l07Same (a0 : DHeap) (a1 : DHeap) (r : Bool) (h : B_spec_l07Same a0 a1 = some r) : F_spec_l07Same a0 a1 = some r := by
  unfold B_spec_l07Same at h
  refine semL_of E_bool_inj rfl rfl ok_70 (fun bs hb => by obtain ⟨bp0, bp1, rfl⟩ := bl2 hb; exact rfl) (fun bs hb => by obtain ⟨bp0, bp1, rfl⟩ := bl2 hb; exact (all_cons rfl (all_cons rfl all_nil))) ?_
  intro σ0 bs s hL hS hH
  obtain ⟨bp0, bp1, rfl, hL_bp0, hL_bp1⟩ := lent2 hL
  clear hL
  have hS := sub_to (L' := [(0, .ptr bp0 0 0 2), (1, .ptr bp1 0 0 2)]) hS (by kernel_rfl)
  refine c_seq ?_
  refine c_region ?_
  refine q_seg 1 [(0, .ptr bp0 0 0 2), (1, .ptr bp1 0 0 2)] hS (by kernel_rfl) ?_; intro s hS
  refine x_nil ?_
  refine sq_n ?_
  refine c_seq ?_
  refine c_seq ?_
  refine c_draw (by kernel_rfl) hH ?_; intro mb σ hH
  refine q_seg 3 [(0, .ptr bp0 0 0 2), (1, .ptr bp1 0 0 2), (8, .ptr bp0 0 0 1)] hS (by kernel_rfl) ?_; intro s hS
  refine q_loadL (v := .int .i64 a0.Next) trivial rfl hS hH hL_bp0 rfl (by kernel_rfl) ?_; intro s hS
  refine q_seg 3 [(0, .ptr bp0 0 0 2), (1, .ptr bp1 0 0 2), (9, .int .i64 a0.Next), (12, .ptr bp1 0 0 1)] hS (by kernel_rfl) ?_; intro s hS
  refine q_loadL (v := .int .i64 a1.Next) trivial rfl hS hH hL_bp1 rfl (by kernel_rfl) ?_; intro s hS
  refine q_seg 2 [(15, .bool (!decide (a0.Next = a1.Next))), (0, .ptr bp0 0 0 2), (1, .ptr bp1 0 0 2)] hS (by kernel_rfl) ?_; intro s hS
  by_cases hc1 : (!decide (a0.Next = a1.Next)) = true
  · have h := it_pos hc1 h
    have hS := sub_bt hS hc1
    refine q_seg 12 [(0, .ptr bp0 0 0 2), (1, .ptr bp1 0 0 2), (27, .bool true)] hS (by kernel_rfl) ?_; intro s hS
    refine x_nil ?_
    refine sq_n ?_
    refine c_cond (t := true) hS rfl (fun _ => ?_) (fun hf => by cases hf)
    refine c_seq ?_
    refine c_region ?_
    refine q_seg 1 [(4, .bool false)] hS (by kernel_rfl) ?_; intro s hS
    refine x_nil ?_
    refine sq_n ?_
    refine c_ret ?_
    refine sq_r ?_
    injection h with h; subst h
    exact end_W hH (r_tmp (v := .bool false) hS rfl r_nil) rfl (by kernel_rfl) (by simp [pureT, pureL, E_bool])
  · have h := it_neg hc1 h
    have hS := sub_bt hS (tt_of hc1)
    refine q_seg 3 [(0, .ptr bp0 0 0 2), (1, .ptr bp1 0 0 2), (15, .bool false), (18, .ptr bp0 0 1 1)] hS (by kernel_rfl) ?_; intro s hS
    refine q_loadL (v := (Sl.t (a0.Objects : Sl DObject))) trivial rfl hS hH hL_bp0 rfl (by kernel_rfl) ?_; intro s hS
    refine q_seg 4 [(0, .ptr bp0 0 0 2), (1, .ptr bp1 0 0 2), (15, .bool false), (20, .int .i64 (a0.Objects.l.length : Int)), (23, .ptr bp1 0 1 1)] hS (by kernel_rfl) ?_; intro s hS
    refine q_loadL (v := (Sl.t (a1.Objects : Sl DObject))) trivial rfl hS hH hL_bp1 rfl (by kernel_rfl) ?_; intro s hS
    refine q_seg 3 [(0, .ptr bp0 0 0 2), (1, .ptr bp1 0 0 2), (27, .bool ((!decide ((a0.Objects.l.length : Int) = (a1.Objects.l.length : Int)))))] hS (by kernel_rfl) ?_; intro s hS
    refine x_nil ?_
    refine sq_n ?_
    by_cases hc2 : ((!decide ((a0.Objects.l.length : Int) = (a1.Objects.l.length : Int)))) = true
    · have h := it_pos hc2 h
      refine c_cond hS rfl (fun _ => ?_) (fun hf => ff_absurd hc2 hf)
      refine c_seq ?_
      refine c_region ?_
      refine q_seg 1 [(4, .bool false)] hS (by kernel_rfl) ?_; intro s hS
      refine x_nil ?_
      refine sq_n ?_
      refine c_ret ?_
      refine sq_r ?_
      injection h with h; subst h
      exact end_W hH (r_tmp (v := .bool false) hS rfl r_nil) rfl (by kernel_rfl) (by simp [pureT, pureL, E_bool])
    · have h := it_neg hc2 h
      refine c_cond hS rfl (fun hf => tt_absurd hc2 hf) (fun _ => ?_)
      refine c_skip ?_
      refine sq_n ?_
      refine c_seq ?_
      refine c_seq ?_
      refine c_region ?_
      refine q_seg 1 [(0, .ptr bp0 0 0 2), (1, .ptr bp1 0 0 2), (5, .int .i64 0)] hS (by kernel_rfl) ?_; intro s hS
      refine x_nil ?_
      refine sq_n ?_
      refine c_block ?_
      obtain ⟨y1, hy1, h⟩ := bind_some h
      refine c_loop (fun (st1 : Int) (fr : Fr) => Sub [(0, .ptr bp0 0 0 2), (1, .ptr bp1 0 0 2), (5, .int .i64 st1)] fr.s ∧ Heap σ0 fr.σ []) (fun (y1 : (Unit ⊕ Bool)) (e : AExit) (fr : Fr) => (Sum.elim (fun y => e = (.exit 0) ∧ Sub [] fr.s ∧ Heap σ0 fr.σ []) (fun y => e = .ret ∧ endW Try.prog (Try.f70.results.toList) σ0 (E_bool y) .ret fr)) y1) hy1 (And.intro (sub_to hS (by kernel_rfl)) hH) ?_ ?_
      · clear h hy1 hS hH; clear y1; intro st1 x fr h HI; obtain ⟨s, σ⟩ := fr; obtain ⟨hS, hH⟩ := HI
        refine c_seq ?_
        refine c_seq ?_
        refine c_region ?_
        refine q_seg 4 [(0, .ptr bp0 0 0 2), (1, .ptr bp1 0 0 2), (5, .int .i64 st1), (28, .int .i64 st1), (31, .ptr bp0 0 1 1)] hS (by kernel_rfl) ?_; intro s hS
        refine q_loadL (v := (Sl.t (a0.Objects : Sl DObject))) trivial rfl hS hH hL_bp0 rfl (by kernel_rfl) ?_; intro s hS
        refine q_seg 2 [(0, .ptr bp0 0 0 2), (1, .ptr bp1 0 0 2), (5, .int .i64 st1), (34, .bool (decide (st1 < (a0.Objects.l.length : Int))))] hS (by kernel_rfl) ?_; intro s hS
        refine x_nil ?_
        refine sq_n ?_
        by_cases hc3 : (decide (st1 < (a0.Objects.l.length : Int))) = true
        · have h := it_pos hc3 h
          refine c_cond hS rfl (fun _ => ?_) (fun hf => ff_absurd hc3 hf)
          refine c_skip ?_
          refine sq_n ?_
          refine c_seq ?_
          refine c_block ?_
          refine c_seq ?_
          refine c_draw (by kernel_rfl) hH ?_; intro mb σ hH
          refine q_seg 3 [(0, .ptr bp0 0 0 2), (1, .ptr bp1 0 0 2), (5, .int .i64 st1), (39, .ptr bp0 0 1 1)] hS (by kernel_rfl) ?_; intro s hS
          refine q_loadL (v := (Sl.t (a0.Objects : Sl DObject))) trivial rfl hS hH hL_bp0 rfl (by kernel_rfl) ?_; intro s hS
          refine q_seg 1 [(0, .ptr bp0 0 0 2), (1, .ptr bp1 0 0 2), (5, .int .i64 st1), (40, (Sl.t (a0.Objects : Sl DObject))), (41, .int .i64 st1)] hS (by kernel_rfl) ?_; intro s hS
          obtain ⟨y2, hy2, h⟩ := bind_some h
          refine q_elt (sl := a0.Objects) (e := 115) [.int .i64 y2.Id, .int .i64 y2.Kind, .str y2.Name, .int .i64 y2.Low, (Sl.t (y2.Keys : Sl DValue)), (Sl.t (y2.Vals : Sl DValue)), .int .i64 y2.Default.Kind, .int .i64 y2.Default.Num, .str y2.Default.Text, .int .i64 y2.Default.Ref] rfl hS rfl rfl (by kernel_rfl) (by kernel_rfl) hy2 rfl ?_; intro rest1 s hS
          refine q_seg 4 [(0, .ptr bp0 0 0 2), (1, .ptr bp1 0 0 2), (5, .int .i64 st1), (43, .agg (DObject.cells y2)), (46, .ptr bp1 0 1 1)] hS (by kernel_rfl) ?_; intro s hS
          refine q_loadL (v := (Sl.t (a1.Objects : Sl DObject))) trivial rfl hS hH hL_bp1 rfl (by kernel_rfl) ?_; intro s hS
          refine q_seg 1 [(0, .ptr bp0 0 0 2), (1, .ptr bp1 0 0 2), (5, .int .i64 st1), (43, .agg (DObject.cells y2)), (47, (Sl.t (a1.Objects : Sl DObject))), (48, .int .i64 st1)] hS (by kernel_rfl) ?_; intro s hS
          obtain ⟨y3, hy3, h⟩ := bind_some h
          refine q_elt (sl := a1.Objects) (e := 115) [.int .i64 y3.Id, .int .i64 y3.Kind, .str y3.Name, .int .i64 y3.Low, (Sl.t (y3.Keys : Sl DValue)), (Sl.t (y3.Vals : Sl DValue)), .int .i64 y3.Default.Kind, .int .i64 y3.Default.Num, .str y3.Default.Text, .int .i64 y3.Default.Ref] rfl hS rfl rfl (by kernel_rfl) (by kernel_rfl) hy3 rfl ?_; intro rest2 s hS
          refine q_seg 1 [(0, .ptr bp0 0 0 2), (1, .ptr bp1 0 0 2), (5, .int .i64 st1), (43, .agg (DObject.cells y2)), (50, .agg (DObject.cells y3))] hS (by kernel_rfl) ?_; intro s hS
          obtain ⟨y4, hy4, h⟩ := bind_some h
          refine q_callF (a := []) (b := []) (xs := [.agg (DObject.cells y2), .agg (DObject.cells y3)]) rfl hS rfl rfl hy4 ?_; intro s hS
          refine q_seg 1 [(0, .ptr bp0 0 0 2), (1, .ptr bp1 0 0 2), (5, .int .i64 st1), (52, .bool (!y4))] hS (by kernel_rfl) ?_; intro s hS
          refine x_nil ?_
          refine sq_n ?_
          by_cases hc4 : (!y4) = true
          · have h := it_pos hc4 h
            refine c_cond hS rfl (fun _ => ?_) (fun hf => ff_absurd hc4 hf)
            refine c_seq ?_
            refine c_region ?_
            refine q_seg 1 [(4, .bool false)] hS (by kernel_rfl) ?_; intro s hS
            refine x_nil ?_
            refine sq_n ?_
            refine c_ret ?_
            refine bk_r ?_
            refine sq_r ?_
            injection h with h; subst h
            exact And.intro rfl (end_W hH (r_tmp (v := .bool false) hS rfl r_nil) rfl (by kernel_rfl) (by simp [pureT, pureL, E_bool]))
          · have h := it_neg hc4 h
            refine c_cond hS rfl (fun hf => tt_absurd hc4 hf) (fun _ => ?_)
            refine c_skip ?_
            refine bk_n ?_
            refine sq_n ?_
            refine c_region ?_
            refine q_seg 3 [(0, .ptr bp0 0 0 2), (1, .ptr bp1 0 0 2), (5, .int .i64 (IntKind.i64.wrap (st1 + 1)))] hS (by kernel_rfl) ?_; intro s hS
            refine x_nil ?_
            injection h with h; subst h
            exact And.intro (sub_to hS (by kernel_rfl)) hH
        · have h := it_neg hc3 h
          refine c_cond hS rfl (fun hf => tt_absurd hc3 hf) (fun _ => ?_)
          refine c_exit ?_
          refine sq_x ?_
          injection h with h; subst h
          exact And.intro rfl (And.intro (sub_to hS (by kernel_rfl)) hH)
      · clear hS hH; intro e fr HF; obtain ⟨s, σ⟩ := fr
        rcases y1 with y1 | y1
        · obtain ⟨rfl, hS, hH⟩ := HF
          refine bk_e ?_
          refine sq_n ?_
          refine c_seq ?_
          refine c_region ?_
          refine q_seg 1 [(4, .bool true)] hS (by kernel_rfl) ?_; intro s hS
          refine x_nil ?_
          refine sq_n ?_
          refine c_ret ?_
          injection h with h; subst h
          exact end_W hH (r_tmp (v := .bool true) hS rfl r_nil) rfl (by kernel_rfl) (by simp [pureT, pureL, E_bool])
        · obtain ⟨rfl, HE⟩ := HF
          refine bk_r ?_
          refine sq_r ?_
          injection h with h; subst h; exact HE
end Go.Am
end
section
set_option maxRecDepth 100000
set_option maxHeartbeats 1000000
set_option linter.unusedVariables false
set_option linter.unusedSimpArgs false
namespace Go.Am
open Go.Proofs
noncomputable def B_spec_l18SameBindings (a0 : (Sl DBinding)) (a1 : (Sl DBinding)) : Option Bool := (if ((!decide ((a0.l.length : Int) = (a1.l.length : Int)))) = true then (some false) else ((loopO (S := Int) (R := (Unit ⊕ Bool)) (fun st1 => (if (decide (st1 < (a0.l.length : Int))) = true then ((elt a0 st1).bind fun y2 => ((elt a1 st1).bind fun y3 => (if ((!(decide (y2.Name = y3.Name) && (decide (y2.Value.Kind = y3.Value.Kind) && (decide (y2.Value.Num = y3.Value.Num) && (decide (y2.Value.Text = y3.Value.Text) && (decide (y2.Value.Ref = y3.Value.Ref) && true))))))) = true then (some (.inr (.inr false))) else (some (.inl (IntKind.i64.wrap (st1 + 1))))))) else (some (.inr (.inl ()))))) 0).bind fun y1 => (Sum.elim (fun y1 => (some true)) (fun y1 => (some y1)) y1)))
theorem u_spec_l18SameBindings (a0 : (Sl DBinding)) (a1 : (Sl DBinding)) (r : Bool) (h : B_spec_l18SameBindings a0 a1 = some r) : F_spec_l18SameBindings a0 a1 = some r := by
  unfold B_spec_l18SameBindings at h
  refine semW_of E_bool_inj rfl rfl ok_71 rfl (all_cons (by kernel_rfl) (all_cons (by kernel_rfl) all_nil)) ?_
  intro σ0 s hS hH
  have hS := sub_to (L' := [(0, (Sl.t (a0 : Sl DBinding))), (1, (Sl.t (a1 : Sl DBinding)))]) hS (by kernel_rfl)
  refine c_seq ?_
  refine c_region ?_
  refine q_seg 1 [(0, (Sl.t (a0 : Sl DBinding))), (1, (Sl.t (a1 : Sl DBinding)))] hS (by kernel_rfl) ?_; intro s hS
  refine x_nil ?_
  refine sq_n ?_
  refine c_seq ?_
  refine c_seq ?_
  refine c_region ?_
  refine q_seg 5 [(0, (Sl.t (a0 : Sl DBinding))), (1, (Sl.t (a1 : Sl DBinding))), (10, .bool ((!decide ((a0.l.length : Int) = (a1.l.length : Int)))))] hS (by kernel_rfl) ?_; intro s hS
  refine x_nil ?_
  refine sq_n ?_
  by_cases hc1 : ((!decide ((a0.l.length : Int) = (a1.l.length : Int)))) = true
  · have h := it_pos hc1 h
    refine c_cond hS rfl (fun _ => ?_) (fun hf => ff_absurd hc1 hf)
    refine c_seq ?_
    refine c_region ?_
    refine q_seg 1 [(4, .bool false)] hS (by kernel_rfl) ?_; intro s hS
    refine x_nil ?_
    refine sq_n ?_
    refine c_ret ?_
    refine sq_r ?_
    injection h with h; subst h
    exact end_W hH (r_tmp (v := .bool false) hS rfl r_nil) rfl (by kernel_rfl) (by simp [pureT, pureL, E_bool])
  · have h := it_neg hc1 h
    refine c_cond hS rfl (fun hf => tt_absurd hc1 hf) (fun _ => ?_)
    refine c_skip ?_
    refine sq_n ?_
    refine c_seq ?_
    refine c_seq ?_
    refine c_region ?_
    refine q_seg 1 [(0, (Sl.t (a0 : Sl DBinding))), (1, (Sl.t (a1 : Sl DBinding))), (5, .int .i64 0)] hS (by kernel_rfl) ?_; intro s hS
    refine x_nil ?_
    refine sq_n ?_
    refine c_block ?_
    obtain ⟨y1, hy1, h⟩ := bind_some h
    refine c_loop (fun (st1 : Int) (fr : Fr) => Sub [(0, (Sl.t (a0 : Sl DBinding))), (1, (Sl.t (a1 : Sl DBinding))), (5, .int .i64 st1)] fr.s ∧ Heap σ0 fr.σ []) (fun (y1 : (Unit ⊕ Bool)) (e : AExit) (fr : Fr) => (Sum.elim (fun y => e = (.exit 0) ∧ Sub [] fr.s ∧ Heap σ0 fr.σ []) (fun y => e = .ret ∧ endW Try.prog (Try.f71.results.toList) σ0 (E_bool y) .ret fr)) y1) hy1 (And.intro (sub_to hS (by kernel_rfl)) hH) ?_ ?_
    · clear h hy1 hS hH; clear y1; intro st1 x fr h HI; obtain ⟨s, σ⟩ := fr; obtain ⟨hS, hH⟩ := HI
      refine c_seq ?_
      refine c_seq ?_
      refine c_region ?_
      refine q_seg 4 [(0, (Sl.t (a0 : Sl DBinding))), (1, (Sl.t (a1 : Sl DBinding))), (5, .int .i64 st1), (14, .bool (decide (st1 < (a0.l.length : Int))))] hS (by kernel_rfl) ?_; intro s hS
      refine x_nil ?_
      refine sq_n ?_
      by_cases hc2 : (decide (st1 < (a0.l.length : Int))) = true
      · have h := it_pos hc2 h
        refine c_cond hS rfl (fun _ => ?_) (fun hf => ff_absurd hc2 hf)
        refine c_skip ?_
        refine sq_n ?_
        refine c_seq ?_
        refine c_block ?_
        refine c_seq ?_
        refine c_draw (by kernel_rfl) hH ?_; intro mb σ hH
        refine q_seg 2 [(0, (Sl.t (a0 : Sl DBinding))), (1, (Sl.t (a1 : Sl DBinding))), (5, .int .i64 st1), (17, (Sl.t (a0 : Sl DBinding))), (18, .int .i64 st1)] hS (by kernel_rfl) ?_; intro s hS
        obtain ⟨y2, hy2, h⟩ := bind_some h
        refine q_elt (sl := a0) (e := 118) [.str y2.Name, .int .i64 y2.Value.Kind, .int .i64 y2.Value.Num, .str y2.Value.Text, .int .i64 y2.Value.Ref] rfl hS rfl rfl (by kernel_rfl) (by kernel_rfl) hy2 rfl ?_; intro rest1 s hS
        refine q_seg 3 [(0, (Sl.t (a0 : Sl DBinding))), (1, (Sl.t (a1 : Sl DBinding))), (5, .int .i64 st1), (20, .agg (DBinding.cells y2)), (21, (Sl.t (a1 : Sl DBinding))), (22, .int .i64 st1)] hS (by kernel_rfl) ?_; intro s hS
        obtain ⟨y3, hy3, h⟩ := bind_some h
        refine q_elt (sl := a1) (e := 118) [.str y3.Name, .int .i64 y3.Value.Kind, .int .i64 y3.Value.Num, .str y3.Value.Text, .int .i64 y3.Value.Ref] rfl hS rfl rfl (by kernel_rfl) (by kernel_rfl) hy3 rfl ?_; intro rest2 s hS
        refine q_seg 1 [(0, (Sl.t (a0 : Sl DBinding))), (1, (Sl.t (a1 : Sl DBinding))), (5, .int .i64 st1), (20, .agg (DBinding.cells y2)), (24, .agg (DBinding.cells y3))] hS (by kernel_rfl) ?_; intro s hS
        refine q_neS (xs := [.str y2.Name, .int .i64 y2.Value.Kind, .int .i64 y2.Value.Num, .str y2.Value.Text, .int .i64 y2.Value.Ref]) (ys := [.str y3.Name, .int .i64 y3.Value.Kind, .int .i64 y3.Value.Num, .str y3.Value.Text, .int .i64 y3.Value.Ref]) (v := (decide (y2.Name = y3.Name) && (decide (y2.Value.Kind = y3.Value.Kind) && (decide (y2.Value.Num = y3.Value.Num) && (decide (y2.Value.Text = y3.Value.Text) && (decide (y2.Value.Ref = y3.Value.Ref) && true)))))) rfl hS rfl rfl (by kernel_rfl) (by kernel_rfl) ?_; intro s hS
        refine x_nil ?_
        refine sq_n ?_
        by_cases hc3 : ((!(decide (y2.Name = y3.Name) && (decide (y2.Value.Kind = y3.Value.Kind) && (decide (y2.Value.Num = y3.Value.Num) && (decide (y2.Value.Text = y3.Value.Text) && (decide (y2.Value.Ref = y3.Value.Ref) && true))))))) = true
        · have h := it_pos hc3 h
          refine c_cond hS rfl (fun _ => ?_) (fun hf => ff_absurd hc3 hf)
          refine c_seq ?_
          refine c_region ?_
          refine q_seg 1 [(4, .bool false)] hS (by kernel_rfl) ?_; intro s hS
          refine x_nil ?_
          refine sq_n ?_
          refine c_ret ?_
          refine bk_r ?_
          refine sq_r ?_
          injection h with h; subst h
          exact And.intro rfl (end_W hH (r_tmp (v := .bool false) hS rfl r_nil) rfl (by kernel_rfl) (by simp [pureT, pureL, E_bool]))
        · have h := it_neg hc3 h
          refine c_cond hS rfl (fun hf => tt_absurd hc3 hf) (fun _ => ?_)
          refine c_skip ?_
          refine bk_n ?_
          refine sq_n ?_
          refine c_region ?_
          refine q_seg 3 [(0, (Sl.t (a0 : Sl DBinding))), (1, (Sl.t (a1 : Sl DBinding))), (5, .int .i64 (IntKind.i64.wrap (st1 + 1)))] hS (by kernel_rfl) ?_; intro s hS
          refine x_nil ?_
          injection h with h; subst h
          exact And.intro (sub_to hS (by kernel_rfl)) hH
      · have h := it_neg hc2 h
        refine c_cond hS rfl (fun hf => tt_absurd hc2 hf) (fun _ => ?_)
        refine c_exit ?_
        refine sq_x ?_
        injection h with h; subst h
        exact And.intro rfl (And.intro (sub_to hS (by kernel_rfl)) hH)
    · clear hS hH; intro e fr HF; obtain ⟨s, σ⟩ := fr
      rcases y1 with y1 | y1
      · obtain ⟨rfl, hS, hH⟩ := HF
        refine bk_e ?_
        refine sq_n ?_
        refine c_seq ?_
        refine c_region ?_
        refine q_seg 1 [(4, .bool true)] hS (by kernel_rfl) ?_; intro s hS
        refine x_nil ?_
        refine sq_n ?_
        refine c_ret ?_
        injection h with h; subst h
        exact end_W hH (r_tmp (v := .bool true) hS rfl r_nil) rfl (by kernel_rfl) (by simp [pureT, pureL, E_bool])
      · obtain ⟨rfl, HE⟩ := HF
        refine bk_r ?_
        refine sq_r ?_
        injection h with h; subst h; exact HE
end Go.Am
end
section
set_option maxRecDepth 100000
set_option maxHeartbeats 1000000
set_option linter.unusedVariables false
set_option linter.unusedSimpArgs false
namespace Go.Am
open Go.Proofs
noncomputable def B_spec_l18SameTexts (a0 : (Sl ByteArray)) (a1 : (Sl ByteArray)) : Option Bool := (if ((!decide ((a0.l.length : Int) = (a1.l.length : Int)))) = true then (some false) else ((loopO (S := Int) (R := (Unit ⊕ Bool)) (fun st1 => (if (decide (st1 < (a0.l.length : Int))) = true then ((elt a0 st1).bind fun y2 => ((elt a1 st1).bind fun y3 => (if (!decide (y2 = y3)) = true then (some (.inr (.inr false))) else (some (.inl (IntKind.i64.wrap (st1 + 1))))))) else (some (.inr (.inl ()))))) 0).bind fun y1 => (Sum.elim (fun y1 => (some true)) (fun y1 => (some y1)) y1)))
theorem u_spec_l18SameTexts (a0 : (Sl ByteArray)) (a1 : (Sl ByteArray)) (r : Bool) (h : B_spec_l18SameTexts a0 a1 = some r) : F_spec_l18SameTexts a0 a1 = some r := by
  unfold B_spec_l18SameTexts at h
  refine semW_of E_bool_inj rfl rfl ok_72 rfl (all_cons (by kernel_rfl) (all_cons (by kernel_rfl) all_nil)) ?_
  intro σ0 s hS hH
  have hS := sub_to (L' := [(0, (Sl.t (a0 : Sl ByteArray))), (1, (Sl.t (a1 : Sl ByteArray)))]) hS (by kernel_rfl)
  refine c_seq ?_
  refine c_region ?_
  refine q_seg 1 [(0, (Sl.t (a0 : Sl ByteArray))), (1, (Sl.t (a1 : Sl ByteArray)))] hS (by kernel_rfl) ?_; intro s hS
  refine x_nil ?_
  refine sq_n ?_
  refine c_seq ?_
  refine c_seq ?_
  refine c_region ?_
  refine q_seg 5 [(0, (Sl.t (a0 : Sl ByteArray))), (1, (Sl.t (a1 : Sl ByteArray))), (10, .bool ((!decide ((a0.l.length : Int) = (a1.l.length : Int)))))] hS (by kernel_rfl) ?_; intro s hS
  refine x_nil ?_
  refine sq_n ?_
  by_cases hc1 : ((!decide ((a0.l.length : Int) = (a1.l.length : Int)))) = true
  · have h := it_pos hc1 h
    refine c_cond hS rfl (fun _ => ?_) (fun hf => ff_absurd hc1 hf)
    refine c_seq ?_
    refine c_region ?_
    refine q_seg 1 [(4, .bool false)] hS (by kernel_rfl) ?_; intro s hS
    refine x_nil ?_
    refine sq_n ?_
    refine c_ret ?_
    refine sq_r ?_
    injection h with h; subst h
    exact end_W hH (r_tmp (v := .bool false) hS rfl r_nil) rfl (by kernel_rfl) (by simp [pureT, pureL, E_bool])
  · have h := it_neg hc1 h
    refine c_cond hS rfl (fun hf => tt_absurd hc1 hf) (fun _ => ?_)
    refine c_skip ?_
    refine sq_n ?_
    refine c_seq ?_
    refine c_seq ?_
    refine c_region ?_
    refine q_seg 1 [(0, (Sl.t (a0 : Sl ByteArray))), (1, (Sl.t (a1 : Sl ByteArray))), (5, .int .i64 0)] hS (by kernel_rfl) ?_; intro s hS
    refine x_nil ?_
    refine sq_n ?_
    refine c_block ?_
    obtain ⟨y1, hy1, h⟩ := bind_some h
    refine c_loop (fun (st1 : Int) (fr : Fr) => Sub [(0, (Sl.t (a0 : Sl ByteArray))), (1, (Sl.t (a1 : Sl ByteArray))), (5, .int .i64 st1)] fr.s ∧ Heap σ0 fr.σ []) (fun (y1 : (Unit ⊕ Bool)) (e : AExit) (fr : Fr) => (Sum.elim (fun y => e = (.exit 0) ∧ Sub [] fr.s ∧ Heap σ0 fr.σ []) (fun y => e = .ret ∧ endW Try.prog (Try.f72.results.toList) σ0 (E_bool y) .ret fr)) y1) hy1 (And.intro (sub_to hS (by kernel_rfl)) hH) ?_ ?_
    · clear h hy1 hS hH; clear y1; intro st1 x fr h HI; obtain ⟨s, σ⟩ := fr; obtain ⟨hS, hH⟩ := HI
      refine c_seq ?_
      refine c_seq ?_
      refine c_region ?_
      refine q_seg 4 [(0, (Sl.t (a0 : Sl ByteArray))), (1, (Sl.t (a1 : Sl ByteArray))), (5, .int .i64 st1), (14, .bool (decide (st1 < (a0.l.length : Int))))] hS (by kernel_rfl) ?_; intro s hS
      refine x_nil ?_
      refine sq_n ?_
      by_cases hc2 : (decide (st1 < (a0.l.length : Int))) = true
      · have h := it_pos hc2 h
        refine c_cond hS rfl (fun _ => ?_) (fun hf => ff_absurd hc2 hf)
        refine c_skip ?_
        refine sq_n ?_
        refine c_seq ?_
        refine c_block ?_
        refine c_seq ?_
        refine c_draw (by kernel_rfl) hH ?_; intro mb σ hH
        refine q_seg 2 [(0, (Sl.t (a0 : Sl ByteArray))), (1, (Sl.t (a1 : Sl ByteArray))), (5, .int .i64 st1), (17, (Sl.t (a0 : Sl ByteArray))), (18, .int .i64 st1)] hS (by kernel_rfl) ?_; intro s hS
        obtain ⟨y2, hy2, h⟩ := bind_some h
        refine q_elt (sl := a0) (e := 9) [.str y2] rfl hS rfl rfl (by kernel_rfl) (by kernel_rfl) hy2 rfl ?_; intro rest1 s hS
        refine q_seg 3 [(0, (Sl.t (a0 : Sl ByteArray))), (1, (Sl.t (a1 : Sl ByteArray))), (5, .int .i64 st1), (20, .str y2), (21, (Sl.t (a1 : Sl ByteArray))), (22, .int .i64 st1)] hS (by kernel_rfl) ?_; intro s hS
        obtain ⟨y3, hy3, h⟩ := bind_some h
        refine q_elt (sl := a1) (e := 9) [.str y3] rfl hS rfl rfl (by kernel_rfl) (by kernel_rfl) hy3 rfl ?_; intro rest2 s hS
        refine q_seg 2 [(0, (Sl.t (a0 : Sl ByteArray))), (1, (Sl.t (a1 : Sl ByteArray))), (5, .int .i64 st1), (25, .bool (!decide (y2 = y3)))] hS (by kernel_rfl) ?_; intro s hS
        refine x_nil ?_
        refine sq_n ?_
        by_cases hc3 : (!decide (y2 = y3)) = true
        · have h := it_pos hc3 h
          refine c_cond hS rfl (fun _ => ?_) (fun hf => ff_absurd hc3 hf)
          refine c_seq ?_
          refine c_region ?_
          refine q_seg 1 [(4, .bool false)] hS (by kernel_rfl) ?_; intro s hS
          refine x_nil ?_
          refine sq_n ?_
          refine c_ret ?_
          refine bk_r ?_
          refine sq_r ?_
          injection h with h; subst h
          exact And.intro rfl (end_W hH (r_tmp (v := .bool false) hS rfl r_nil) rfl (by kernel_rfl) (by simp [pureT, pureL, E_bool]))
        · have h := it_neg hc3 h
          refine c_cond hS rfl (fun hf => tt_absurd hc3 hf) (fun _ => ?_)
          refine c_skip ?_
          refine bk_n ?_
          refine sq_n ?_
          refine c_region ?_
          refine q_seg 3 [(0, (Sl.t (a0 : Sl ByteArray))), (1, (Sl.t (a1 : Sl ByteArray))), (5, .int .i64 (IntKind.i64.wrap (st1 + 1)))] hS (by kernel_rfl) ?_; intro s hS
          refine x_nil ?_
          injection h with h; subst h
          exact And.intro (sub_to hS (by kernel_rfl)) hH
      · have h := it_neg hc2 h
        refine c_cond hS rfl (fun hf => tt_absurd hc2 hf) (fun _ => ?_)
        refine c_exit ?_
        refine sq_x ?_
        injection h with h; subst h
        exact And.intro rfl (And.intro (sub_to hS (by kernel_rfl)) hH)
    · clear hS hH; intro e fr HF; obtain ⟨s, σ⟩ := fr
      rcases y1 with y1 | y1
      · obtain ⟨rfl, hS, hH⟩ := HF
        refine bk_e ?_
        refine sq_n ?_
        refine c_seq ?_
        refine c_region ?_
        refine q_seg 1 [(4, .bool true)] hS (by kernel_rfl) ?_; intro s hS
        refine x_nil ?_
        refine sq_n ?_
        refine c_ret ?_
        injection h with h; subst h
        exact end_W hH (r_tmp (v := .bool true) hS rfl r_nil) rfl (by kernel_rfl) (by simp [pureT, pureL, E_bool])
      · obtain ⟨rfl, HE⟩ := HF
        refine bk_r ?_
        refine sq_r ?_
        injection h with h; subst h; exact HE
end Go.Am
end
section
set_option maxRecDepth 100000
set_option maxHeartbeats 1000000
set_option linter.unusedVariables false
set_option linter.unusedSimpArgs false
namespace Go.Am
open Go.Proofs
noncomputable def B_spec_l21SameFile (a0 : DFile) (a1 : DFile) : Option Bool := (if (decide (a0.Name = a1.Name)) = true then ((F_spec_l21SameTexts a0.Lines a1.Lines).bind fun y1 => (if y1 = true then (if (decide (a0.Mode = a1.Mode)) = true then (some (decide (a0.At = a1.At))) else (some false)) else (some false))) else (some false))
theorem u_spec_l21SameFile (a0 : DFile) (a1 : DFile) (r : Bool) (h : B_spec_l21SameFile a0 a1 = some r) : F_spec_l21SameFile a0 a1 = some r := by
  unfold B_spec_l21SameFile at h
  refine semW_of E_bool_inj rfl rfl ok_73 rfl (all_cons (by kernel_rfl) (all_cons (by kernel_rfl) all_nil)) ?_
  intro σ0 s hS hH
  have hS := sub_to (L' := [(0, .agg (DFile.cells a0)), (1, .agg (DFile.cells a1))]) hS (by kernel_rfl)
  refine c_seq ?_
  refine c_region ?_
  refine q_box (v := .agg (DFile.cells a0)) (cs := [.str a0.Name, (Sl.t (a0.Lines : Sl ByteArray)), .int .i64 a0.Mode, .int .i64 a0.At]) rfl hS hH rfl rfl (by kernel_rfl) ?_; intro b1 σ s hH hS
  refine q_box (v := .agg (DFile.cells a1)) (cs := [.str a1.Name, (Sl.t (a1.Lines : Sl ByteArray)), .int .i64 a1.Mode, .int .i64 a1.At]) rfl hS hH rfl rfl (by kernel_rfl) ?_; intro b2 σ s hH hS
  refine q_seg 1 [(2, .ptr b1 0 0 4), (3, .ptr b2 0 0 4)] hS (by kernel_rfl) ?_; intro s hS
  refine x_nil ?_
  refine sq_n ?_
  refine c_seq ?_
  refine c_region ?_
  refine q_seg 1 [(2, .ptr b1 0 0 4), (3, .ptr b2 0 0 4), (5, .ptr b1 0 0 1)] hS (by kernel_rfl) ?_; intro s hS
  refine q_load (v := .str a0.Name) 1 trivial rfl hS hH rfl rfl (by kernel_rfl) ?_; intro s hS
  refine q_seg 1 [(2, .ptr b1 0 0 4), (3, .ptr b2 0 0 4), (6, .str a0.Name), (7, .ptr b2 0 0 1)] hS (by kernel_rfl) ?_; intro s hS
  refine q_load (v := .str a1.Name) 0 trivial rfl hS hH rfl rfl (by kernel_rfl) ?_; intro s hS
  refine q_seg 2 [(10, .bool (decide (a0.Name = a1.Name))), (2, .ptr b1 0 0 4), (3, .ptr b2 0 0 4)] hS (by kernel_rfl) ?_; intro s hS
  by_cases hc1 : (decide (a0.Name = a1.Name)) = true
  · have h := it_pos hc1 h
    have hS := sub_bt hS hc1
    refine q_seg 1 [(2, .ptr b1 0 0 4), (3, .ptr b2 0 0 4), (10, .bool true), (11, .ptr b1 0 1 1)] hS (by kernel_rfl) ?_; intro s hS
    refine q_load (v := (Sl.t (a0.Lines : Sl ByteArray))) 1 trivial rfl hS hH rfl rfl (by kernel_rfl) ?_; intro s hS
    refine q_seg 1 [(2, .ptr b1 0 0 4), (3, .ptr b2 0 0 4), (10, .bool true), (12, (Sl.t (a0.Lines : Sl ByteArray))), (13, .ptr b2 0 1 1)] hS (by kernel_rfl) ?_; intro s hS
    refine q_load (v := (Sl.t (a1.Lines : Sl ByteArray))) 0 trivial rfl hS hH rfl rfl (by kernel_rfl) ?_; intro s hS
    obtain ⟨y1, hy1, h⟩ := bind_some h
    refine q_callF (a := []) (b := []) (xs := [(Sl.t (a0.Lines : Sl ByteArray)), (Sl.t (a1.Lines : Sl ByteArray))]) rfl hS rfl rfl hy1 ?_; intro s hS
    refine q_seg 2 [(17, .bool y1), (2, .ptr b1 0 0 4), (3, .ptr b2 0 0 4)] hS (by kernel_rfl) ?_; intro s hS
    by_cases hc2 : y1 = true
    · have h := it_pos hc2 h
      have hS := sub_bt hS hc2
      refine q_seg 1 [(2, .ptr b1 0 0 4), (3, .ptr b2 0 0 4), (17, .bool true), (18, .ptr b1 0 2 1)] hS (by kernel_rfl) ?_; intro s hS
      refine q_load (v := .int .i64 a0.Mode) 1 trivial rfl hS hH rfl rfl (by kernel_rfl) ?_; intro s hS
      refine q_seg 1 [(2, .ptr b1 0 0 4), (3, .ptr b2 0 0 4), (17, .bool true), (19, .int .i64 a0.Mode), (20, .ptr b2 0 2 1)] hS (by kernel_rfl) ?_; intro s hS
      refine q_load (v := .int .i64 a1.Mode) 0 trivial rfl hS hH rfl rfl (by kernel_rfl) ?_; intro s hS
      refine q_seg 3 [(24, .bool (decide (a0.Mode = a1.Mode))), (2, .ptr b1 0 0 4), (3, .ptr b2 0 0 4)] hS (by kernel_rfl) ?_; intro s hS
      by_cases hc3 : (decide (a0.Mode = a1.Mode)) = true
      · have h := it_pos hc3 h
        have hS := sub_bt hS hc3
        refine q_seg 1 [(3, .ptr b2 0 0 4), (24, .bool true), (25, .ptr b1 0 3 1)] hS (by kernel_rfl) ?_; intro s hS
        refine q_load (v := .int .i64 a0.At) 1 trivial rfl hS hH rfl rfl (by kernel_rfl) ?_; intro s hS
        refine q_seg 1 [(24, .bool true), (26, .int .i64 a0.At), (27, .ptr b2 0 3 1)] hS (by kernel_rfl) ?_; intro s hS
        refine q_load (v := .int .i64 a1.At) 0 trivial rfl hS hH rfl rfl (by kernel_rfl) ?_; intro s hS
        refine q_seg 3 [(4, .bool (decide (a0.At = a1.At)))] hS (by kernel_rfl) ?_; intro s hS
        refine x_nil ?_
        refine sq_n ?_
        refine c_ret ?_
        injection h with h; subst h
        exact end_W hH (r_tmp (v := .bool (decide (a0.At = a1.At))) hS rfl r_nil) rfl (by kernel_rfl) (by simp [pureT, pureL, E_bool])
      · have h := it_neg hc3 h
        have hS := sub_bt hS (tt_of hc3)
        refine q_seg 7 [(4, .bool false)] hS (by kernel_rfl) ?_; intro s hS
        refine x_nil ?_
        refine sq_n ?_
        refine c_ret ?_
        injection h with h; subst h
        exact end_W hH (r_tmp (v := .bool false) hS rfl r_nil) rfl (by kernel_rfl) (by simp [pureT, pureL, E_bool])
    · have h := it_neg hc2 h
      have hS := sub_bt hS (tt_of hc2)
      refine q_seg 14 [(4, .bool false)] hS (by kernel_rfl) ?_; intro s hS
      refine x_nil ?_
      refine sq_n ?_
      refine c_ret ?_
      injection h with h; subst h
      exact end_W hH (r_tmp (v := .bool false) hS rfl r_nil) rfl (by kernel_rfl) (by simp [pureT, pureL, E_bool])
  · have h := it_neg hc1 h
    have hS := sub_bt hS (tt_of hc1)
    refine q_seg 21 [(4, .bool false)] hS (by kernel_rfl) ?_; intro s hS
    refine x_nil ?_
    refine sq_n ?_
    refine c_ret ?_
    injection h with h; subst h
    exact end_W hH (r_tmp (v := .bool false) hS rfl r_nil) rfl (by kernel_rfl) (by simp [pureT, pureL, E_bool])
end Go.Am
end
section
set_option maxRecDepth 100000
set_option maxHeartbeats 1000000
set_option linter.unusedVariables false
set_option linter.unusedSimpArgs false
namespace Go.Am
open Go.Proofs
noncomputable def B_laws_toObjectS (a0 : (Sl DObject)) : Option (Sl DObject) := ((mkS 128 ((⟨0, 0, ⟨#[]⟩, 0, ⟨true, []⟩, ⟨true, []⟩, (⟨0, 0, ⟨#[]⟩, 0⟩ : DValue)⟩ : DObject) : DObject) (a0.l.length : Int) (a0.l.length : Int)).bind fun y1 => ((loopO (S := (Int × (Sl DObject))) (R := (Sl DObject)) (fun st1 => (if (decide (st1.1 < (a0.l.length : Int))) = true then ((elt a0 st1.1).bind fun y3 => ((F_laws_toObject y3).bind fun y4 => ((elt st1.2 st1.1).bind fun y5 => (some (.inl ((IntKind.i64.wrap (st1.1 + 1)), (setS st1.2 st1.1 (y4 : DObject)))))))) else (some (.inr st1.2)))) (0, y1)).bind fun y2 => (some y2)))
theorem u_laws_toObjectS (a0 : (Sl DObject)) (r : (Sl DObject)) (h : B_laws_toObjectS a0 = some r) : F_laws_toObjectS a0 = some r := by
  unfold B_laws_toObjectS at h
  refine semO_of rfl rfl ok_74 rfl (all_cons (by kernel_rfl) all_nil) ?_
  intro σ0 s hS hH
  have hS := sub_to (L' := [(0, (Sl.t (a0 : Sl DObject)))]) hS (by kernel_rfl)
  refine c_seq ?_
  refine c_region ?_
  refine q_seg 1 [(0, (Sl.t (a0 : Sl DObject)))] hS (by kernel_rfl) ?_; intro s hS
  refine x_nil ?_
  refine sq_n ?_
  refine c_seq ?_
  refine c_region ?_
  refine q_seg 2 [(0, (Sl.t (a0 : Sl DObject))), (6, .int .i64 (a0.l.length : Int))] hS (by kernel_rfl) ?_; intro s hS
  obtain ⟨y1, hy1, h⟩ := bind_some h
  refine q_make (z := true) (e := 115) (by_ := 128) (x0 := ((⟨0, 0, ⟨#[]⟩, 0, ⟨true, []⟩, ⟨true, []⟩, (⟨0, 0, ⟨#[]⟩, 0⟩ : DValue)⟩ : DObject) : DObject)) (fun σ d => by simp [Enc.cells, DObject.cells, Iv]) rfl hS hH rfl rfl (by kernel_rfl) (by kernel_rfl) (by kernel_rfl) (by kernel_rfl) rfl hy1 ?_; intro t1 σ s ht1 hH hS
  refine q_seg 1 [(0, (Sl.t (a0 : Sl DObject))), (3, t1)] hS (by kernel_rfl) ?_; intro s hS
  refine x_nil ?_
  refine sq_n ?_
  refine c_seq ?_
  refine c_seq ?_
  refine c_region ?_
  refine q_seg 1 [(0, (Sl.t (a0 : Sl DObject))), (3, t1), (4, .int .i64 0)] hS (by kernel_rfl) ?_; intro s hS
  refine x_nil ?_
  refine sq_n ?_
  refine c_block ?_
  obtain ⟨y2, hy2, h⟩ := bind_some h
  refine c_loop (fun (st1 : (Int × (Sl DObject))) (fr : Fr) => Sub [(0, (Sl.t (a0 : Sl DObject))), (3, t1), (4, .int .i64 st1.1)] fr.s ∧ Heap σ0 fr.σ [.own true 10 t1 (Sl.t (st1.2 : Sl DObject))]) (fun (y2 : (Sl DObject)) (e : AExit) (fr : Fr) => e = (.exit 0) ∧ Sub [(3, t1)] fr.s ∧ Heap σ0 fr.σ [.own true 10 t1 (Sl.t (y2 : Sl DObject))]) hy2 (And.intro (sub_to hS (by kernel_rfl)) hH) ?_ ?_
  · clear h hy2 hS hH; clear y2; intro st1 x fr h HI; obtain ⟨s, σ⟩ := fr; obtain ⟨hS, hH⟩ := HI
    refine c_seq ?_
    refine c_seq ?_
    refine c_region ?_
    refine q_seg 4 [(0, (Sl.t (a0 : Sl DObject))), (3, t1), (4, .int .i64 st1.1), (11, .bool (decide (st1.1 < (a0.l.length : Int))))] hS (by kernel_rfl) ?_; intro s hS
    refine x_nil ?_
    refine sq_n ?_
    by_cases hc1 : (decide (st1.1 < (a0.l.length : Int))) = true
    · have h := it_pos hc1 h
      refine c_cond hS rfl (fun _ => ?_) (fun hf => ff_absurd hc1 hf)
      refine c_skip ?_
      refine sq_n ?_
      refine c_seq ?_
      refine c_block ?_
      refine c_region ?_
      refine q_seg 4 [(0, (Sl.t (a0 : Sl DObject))), (3, t1), (4, .int .i64 st1.1), (14, t1), (15, .int .i64 st1.1), (16, (Sl.t (a0 : Sl DObject))), (17, .int .i64 st1.1)] hS (by kernel_rfl) ?_; intro s hS
      obtain ⟨y3, hy3, h⟩ := bind_some h
      refine q_elt (sl := a0) (e := 128) [.int .i64 y3.Id, .int .i64 y3.Kind, .str y3.Name, .int .i64 y3.Low, (Sl.t (y3.Keys : Sl DValue)), (Sl.t (y3.Vals : Sl DValue)), .int .i64 y3.Default.Kind, .int .i64 y3.Default.Num, .str y3.Default.Text, .int .i64 y3.Default.Ref] rfl hS rfl rfl (by kernel_rfl) (by kernel_rfl) hy3 rfl ?_; intro rest1 s hS
      refine q_seg 1 [(0, (Sl.t (a0 : Sl DObject))), (3, t1), (4, .int .i64 st1.1), (14, t1), (15, .int .i64 st1.1), (19, .agg (DObject.cells y3))] hS (by kernel_rfl) ?_; intro s hS
      obtain ⟨y4, hy4, h⟩ := bind_some h
      refine q_callO (ents := []) (z := false) (ts := [.agg (DObject.cells y3)]) (vs := [.agg (DObject.cells y3)]) rfl rfl hS rfl rfl rfl hH (HL.agg (es1 := []) (es2 := []) (HL.leaf (fun σ d => hold_int _ σ d _ _) (HL.leaf (fun σ d => hold_int _ σ d _ _) (HL.leaf (fun σ d => hold_str _ σ d _) (HL.leaf (fun σ d => hold_int _ σ d _ _) (HL.leaf (fun σ d => hold_pure σ d _) (HL.leaf (fun σ d => hold_pure σ d _) (HL.leaf (fun σ d => hold_int _ σ d _ _) (HL.leaf (fun σ d => hold_int _ σ d _ _) (HL.leaf (fun σ d => hold_str _ σ d _) (HL.leaf (fun σ d => hold_int _ σ d _ _) HL.nil)))))))))) HL.nil) hy4 ?_; intro hs σ s hl hH hS
      obtain ⟨t2, t3, rfl⟩ := len2 hl
      have hH : Heap σ0 σ [.own true 4 t2 (Sl.t (y4.Keys : Sl DValue)), .own true 4 t3 (Sl.t (y4.Vals : Sl DValue)), .own true 10 t1 (Sl.t (st1.2 : Sl DObject))] := hH
      have ht2 : IsOne t2 := Heap.one hH
      have ht3 : IsOne t3 := Heap.one (hH.at 1 rfl)
      have hH : Heap σ0 σ [.own true 10 t1 (Sl.t (st1.2 : Sl DObject)), .own true 4 t2 (Sl.t (y4.Keys : Sl DValue)), .own true 4 t3 (Sl.t (y4.Vals : Sl DValue))] := hH.sel [2, 0, 1] rfl (by kernel_rfl)
      obtain ⟨y5, hy5, h⟩ := bind_some h
      refine q_hidx (a := st1.2) (e := 115) rfl rfl hS hH rfl rfl (by kernel_rfl) (by kernel_rfl) hy5 ?_; intro hb1 hb1e s hl_hb1 hS
      refine q_hstore (ents := [.own true 4 t2 (Sl.t (y4.Keys : Sl DValue)), .own true 4 t3 (Sl.t (y4.Vals : Sl DValue))]) (a := st1.2) (j := st1.1) (y := y5) (y' := (y4 : DObject)) (off := 0) (c := [.int .i64 y5.Id, .int .i64 y5.Kind, .str y5.Name, .int .i64 y5.Low, (Sl.t (y5.Keys : Sl DValue)), (Sl.t (y5.Vals : Sl DValue)), .int .i64 y5.Default.Kind, .int .i64 y5.Default.Num, .str y5.Default.Text, .int .i64 y5.Default.Ref]) (us := [.int .i64 y4.Id, .int .i64 y4.Kind, .str y4.Name, .int .i64 y4.Low, t2, t3, .int .i64 y4.Default.Kind, .int .i64 y4.Default.Num, .str y4.Default.Text, .int .i64 y4.Default.Ref]) (vs := [.int .i64 y4.Id, .int .i64 y4.Kind, .str y4.Name, .int .i64 y4.Low, (Sl.t (y4.Keys : Sl DValue)), (Sl.t (y4.Vals : Sl DValue)), .int .i64 y4.Default.Kind, .int .i64 y4.Default.Num, .str y4.Default.Text, .int .i64 y4.Default.Ref]) (v := .agg [.int .i64 y4.Id, .int .i64 y4.Kind, .str y4.Name, .int .i64 y4.Low, t2, t3, .int .i64 y4.Default.Kind, .int .i64 y4.Default.Num, .str y4.Default.Text, .int .i64 y4.Default.Ref]) rfl hS hH hl_hb1 rfl rfl rfl (by simp [ht2.1, ht2.2, ht3.1, ht3.2]) (by kernel_rfl) rfl hy5 rfl (HL.leaf (fun σ d => hold_int _ σ d _ _) (HL.leaf (fun σ d => hold_int _ σ d _ _) (HL.leaf (fun σ d => hold_str _ σ d _) (HL.leaf (fun σ d => hold_int _ σ d _ _) (HL.own rfl (HL.own rfl (HL.leaf (fun σ d => hold_int _ σ d _ _) (HL.leaf (fun σ d => hold_int _ σ d _ _) (HL.leaf (fun σ d => hold_str _ σ d _) (HL.leaf (fun σ d => hold_int _ σ d _ _) HL.nil)))))))))) rfl (by kernel_rfl) ?_; intro σ s hH hS
      refine x_nil ?_
      refine bk_n ?_
      refine sq_n ?_
      refine c_region ?_
      refine q_seg 3 [(0, (Sl.t (a0 : Sl DObject))), (3, t1), (4, .int .i64 (IntKind.i64.wrap (st1.1 + 1)))] hS (by kernel_rfl) ?_; intro s hS
      refine x_nil ?_
      injection h with h; subst h
      exact And.intro (sub_to hS (by kernel_rfl)) hH
    · have h := it_neg hc1 h
      refine c_cond hS rfl (fun hf => tt_absurd hc1 hf) (fun _ => ?_)
      refine c_exit ?_
      refine sq_x ?_
      injection h with h; subst h
      exact And.intro rfl (And.intro (sub_to hS (by kernel_rfl)) hH)
  · clear hS hH; intro e fr HF; obtain ⟨s, σ⟩ := fr
    obtain ⟨rfl, hS, hH⟩ := HF
    refine bk_e ?_
    refine sq_n ?_
    refine c_seq ?_
    refine c_region ?_
    refine q_seg 2 [(2, t1)] hS (by kernel_rfl) ?_; intro s hS
    refine x_nil ?_
    refine sq_n ?_
    refine c_ret ?_
    injection h with h; subst h
    exact end_Ow [t1] [] (r_tmp (v := t1) hS rfl r_nil) (by kernel_rfl) rfl hH (by kernel_rfl)
end Go.Am
end
section
set_option maxRecDepth 100000
set_option maxHeartbeats 1000000
set_option linter.unusedVariables false
set_option linter.unusedSimpArgs false
namespace Go.Am
open Go.Proofs
noncomputable def B_laws_toBindingS (a0 : (Sl DBinding)) : Option (Sl DBinding) := ((mkS 56 ((⟨⟨#[]⟩, (⟨0, 0, ⟨#[]⟩, 0⟩ : DValue)⟩ : DBinding) : DBinding) (a0.l.length : Int) (a0.l.length : Int)).bind fun y1 => ((loopO (S := (Int × (Sl DBinding))) (R := (Sl DBinding)) (fun st1 => (if (decide (st1.1 < (a0.l.length : Int))) = true then ((elt a0 st1.1).bind fun y3 => ((F_laws_toBinding y3).bind fun y4 => ((elt st1.2 st1.1).bind fun y5 => (some (.inl ((IntKind.i64.wrap (st1.1 + 1)), (setS st1.2 st1.1 (y4 : DBinding)))))))) else (some (.inr st1.2)))) (0, y1)).bind fun y2 => (some y2)))
theorem u_laws_toBindingS (a0 : (Sl DBinding)) (r : (Sl DBinding)) (h : B_laws_toBindingS a0 = some r) : F_laws_toBindingS a0 = some r := by
  unfold B_laws_toBindingS at h
  refine semO_of rfl rfl ok_75 rfl (all_cons (by kernel_rfl) all_nil) ?_
  intro σ0 s hS hH
  have hS := sub_to (L' := [(0, (Sl.t (a0 : Sl DBinding)))]) hS (by kernel_rfl)
  refine c_seq ?_
  refine c_region ?_
  refine q_seg 1 [(0, (Sl.t (a0 : Sl DBinding)))] hS (by kernel_rfl) ?_; intro s hS
  refine x_nil ?_
  refine sq_n ?_
  refine c_seq ?_
  refine c_region ?_
  refine q_seg 2 [(0, (Sl.t (a0 : Sl DBinding))), (6, .int .i64 (a0.l.length : Int))] hS (by kernel_rfl) ?_; intro s hS
  obtain ⟨y1, hy1, h⟩ := bind_some h
  refine q_make (z := true) (e := 118) (by_ := 56) (x0 := ((⟨⟨#[]⟩, (⟨0, 0, ⟨#[]⟩, 0⟩ : DValue)⟩ : DBinding) : DBinding)) (fun σ d => by simp [Enc.cells, DBinding.cells, Iv]) rfl hS hH rfl rfl (by kernel_rfl) (by kernel_rfl) (by kernel_rfl) (by kernel_rfl) rfl hy1 ?_; intro t1 σ s ht1 hH hS
  refine q_seg 1 [(0, (Sl.t (a0 : Sl DBinding))), (3, t1)] hS (by kernel_rfl) ?_; intro s hS
  refine x_nil ?_
  refine sq_n ?_
  refine c_seq ?_
  refine c_seq ?_
  refine c_region ?_
  refine q_seg 1 [(0, (Sl.t (a0 : Sl DBinding))), (3, t1), (4, .int .i64 0)] hS (by kernel_rfl) ?_; intro s hS
  refine x_nil ?_
  refine sq_n ?_
  refine c_block ?_
  obtain ⟨y2, hy2, h⟩ := bind_some h
  refine c_loop (fun (st1 : (Int × (Sl DBinding))) (fr : Fr) => Sub [(0, (Sl.t (a0 : Sl DBinding))), (3, t1), (4, .int .i64 st1.1)] fr.s ∧ Heap σ0 fr.σ [.own true 5 t1 (Sl.t (st1.2 : Sl DBinding))]) (fun (y2 : (Sl DBinding)) (e : AExit) (fr : Fr) => e = (.exit 0) ∧ Sub [(3, t1)] fr.s ∧ Heap σ0 fr.σ [.own true 5 t1 (Sl.t (y2 : Sl DBinding))]) hy2 (And.intro (sub_to hS (by kernel_rfl)) hH) ?_ ?_
  · clear h hy2 hS hH; clear y2; intro st1 x fr h HI; obtain ⟨s, σ⟩ := fr; obtain ⟨hS, hH⟩ := HI
    refine c_seq ?_
    refine c_seq ?_
    refine c_region ?_
    refine q_seg 4 [(0, (Sl.t (a0 : Sl DBinding))), (3, t1), (4, .int .i64 st1.1), (11, .bool (decide (st1.1 < (a0.l.length : Int))))] hS (by kernel_rfl) ?_; intro s hS
    refine x_nil ?_
    refine sq_n ?_
    by_cases hc1 : (decide (st1.1 < (a0.l.length : Int))) = true
    · have h := it_pos hc1 h
      refine c_cond hS rfl (fun _ => ?_) (fun hf => ff_absurd hc1 hf)
      refine c_skip ?_
      refine sq_n ?_
      refine c_seq ?_
      refine c_block ?_
      refine c_region ?_
      refine q_seg 4 [(0, (Sl.t (a0 : Sl DBinding))), (3, t1), (4, .int .i64 st1.1), (14, t1), (15, .int .i64 st1.1), (16, (Sl.t (a0 : Sl DBinding))), (17, .int .i64 st1.1)] hS (by kernel_rfl) ?_; intro s hS
      obtain ⟨y3, hy3, h⟩ := bind_some h
      refine q_elt (sl := a0) (e := 131) [.str y3.Name, .int .i64 y3.Value.Kind, .int .i64 y3.Value.Num, .str y3.Value.Text, .int .i64 y3.Value.Ref] rfl hS rfl rfl (by kernel_rfl) (by kernel_rfl) hy3 rfl ?_; intro rest1 s hS
      refine q_seg 1 [(0, (Sl.t (a0 : Sl DBinding))), (3, t1), (4, .int .i64 st1.1), (14, t1), (15, .int .i64 st1.1), (19, .agg (DBinding.cells y3))] hS (by kernel_rfl) ?_; intro s hS
      obtain ⟨y4, hy4, h⟩ := bind_some h
      refine q_callF (a := []) (b := []) (xs := [.agg (DBinding.cells y3)]) rfl hS rfl rfl hy4 ?_; intro s hS
      obtain ⟨y5, hy5, h⟩ := bind_some h
      refine q_hidx (a := st1.2) (e := 118) rfl rfl hS hH rfl rfl (by kernel_rfl) (by kernel_rfl) hy5 ?_; intro hb1 hb1e s hl_hb1 hS
      refine q_hstore (ents := []) (a := st1.2) (j := st1.1) (y := y5) (y' := (y4 : DBinding)) (off := 0) (c := [.str y5.Name, .int .i64 y5.Value.Kind, .int .i64 y5.Value.Num, .str y5.Value.Text, .int .i64 y5.Value.Ref]) (us := [.str y4.Name, .int .i64 y4.Value.Kind, .int .i64 y4.Value.Num, .str y4.Value.Text, .int .i64 y4.Value.Ref]) (vs := [.str y4.Name, .int .i64 y4.Value.Kind, .int .i64 y4.Value.Num, .str y4.Value.Text, .int .i64 y4.Value.Ref]) (v := .agg (DBinding.cells y4)) rfl hS hH hl_hb1 rfl rfl rfl (by kernel_rfl) (by kernel_rfl) rfl hy5 rfl (HL.leaf (fun σ d => hold_str _ σ d _) (HL.leaf (fun σ d => hold_int _ σ d _ _) (HL.leaf (fun σ d => hold_int _ σ d _ _) (HL.leaf (fun σ d => hold_str _ σ d _) (HL.leaf (fun σ d => hold_int _ σ d _ _) HL.nil))))) rfl (by kernel_rfl) ?_; intro σ s hH hS
      refine x_nil ?_
      refine bk_n ?_
      refine sq_n ?_
      refine c_region ?_
      refine q_seg 3 [(0, (Sl.t (a0 : Sl DBinding))), (3, t1), (4, .int .i64 (IntKind.i64.wrap (st1.1 + 1)))] hS (by kernel_rfl) ?_; intro s hS
      refine x_nil ?_
      injection h with h; subst h
      exact And.intro (sub_to hS (by kernel_rfl)) hH
    · have h := it_neg hc1 h
      refine c_cond hS rfl (fun hf => tt_absurd hc1 hf) (fun _ => ?_)
      refine c_exit ?_
      refine sq_x ?_
      injection h with h; subst h
      exact And.intro rfl (And.intro (sub_to hS (by kernel_rfl)) hH)
  · clear hS hH; intro e fr HF; obtain ⟨s, σ⟩ := fr
    obtain ⟨rfl, hS, hH⟩ := HF
    refine bk_e ?_
    refine sq_n ?_
    refine c_seq ?_
    refine c_region ?_
    refine q_seg 2 [(2, t1)] hS (by kernel_rfl) ?_; intro s hS
    refine x_nil ?_
    refine sq_n ?_
    refine c_ret ?_
    injection h with h; subst h
    exact end_Ow [t1] [] (r_tmp (v := t1) hS rfl r_nil) (by kernel_rfl) rfl hH (by kernel_rfl)
end Go.Am
end
section
set_option maxRecDepth 100000
set_option maxHeartbeats 1000000
set_option linter.unusedVariables false
set_option linter.unusedSimpArgs false
namespace Go.Am
open Go.Proofs
noncomputable def B_laws_toFunctionS (a0 : (Sl DFunction)) : Option (Sl DFunction) := ((mkS 80 ((⟨⟨#[]⟩, ⟨true, []⟩, ⟨true, []⟩, ⟨#[]⟩⟩ : DFunction) : DFunction) (a0.l.length : Int) (a0.l.length : Int)).bind fun y1 => ((loopO (S := (Int × (Sl DFunction))) (R := (Sl DFunction)) (fun st1 => (if (decide (st1.1 < (a0.l.length : Int))) = true then ((elt a0 st1.1).bind fun y3 => ((F_laws_toFunction y3).bind fun y4 => ((elt st1.2 st1.1).bind fun y5 => (some (.inl ((IntKind.i64.wrap (st1.1 + 1)), (setS st1.2 st1.1 (y4 : DFunction)))))))) else (some (.inr st1.2)))) (0, y1)).bind fun y2 => (some y2)))
theorem u_laws_toFunctionS (a0 : (Sl DFunction)) (r : (Sl DFunction)) (h : B_laws_toFunctionS a0 = some r) : F_laws_toFunctionS a0 = some r := by
  unfold B_laws_toFunctionS at h
  refine semO_of rfl rfl ok_76 rfl (all_cons (by kernel_rfl) all_nil) ?_
  intro σ0 s hS hH
  have hS := sub_to (L' := [(0, (Sl.t (a0 : Sl DFunction)))]) hS (by kernel_rfl)
  refine c_seq ?_
  refine c_region ?_
  refine q_seg 1 [(0, (Sl.t (a0 : Sl DFunction)))] hS (by kernel_rfl) ?_; intro s hS
  refine x_nil ?_
  refine sq_n ?_
  refine c_seq ?_
  refine c_region ?_
  refine q_seg 2 [(0, (Sl.t (a0 : Sl DFunction))), (6, .int .i64 (a0.l.length : Int))] hS (by kernel_rfl) ?_; intro s hS
  obtain ⟨y1, hy1, h⟩ := bind_some h
  refine q_make (z := true) (e := 99) (by_ := 80) (x0 := ((⟨⟨#[]⟩, ⟨true, []⟩, ⟨true, []⟩, ⟨#[]⟩⟩ : DFunction) : DFunction)) (fun σ d => by simp [Enc.cells, DFunction.cells, Iv]) rfl hS hH rfl rfl (by kernel_rfl) (by kernel_rfl) (by kernel_rfl) (by kernel_rfl) rfl hy1 ?_; intro t1 σ s ht1 hH hS
  refine q_seg 1 [(0, (Sl.t (a0 : Sl DFunction))), (3, t1)] hS (by kernel_rfl) ?_; intro s hS
  refine x_nil ?_
  refine sq_n ?_
  refine c_seq ?_
  refine c_seq ?_
  refine c_region ?_
  refine q_seg 1 [(0, (Sl.t (a0 : Sl DFunction))), (3, t1), (4, .int .i64 0)] hS (by kernel_rfl) ?_; intro s hS
  refine x_nil ?_
  refine sq_n ?_
  refine c_block ?_
  obtain ⟨y2, hy2, h⟩ := bind_some h
  refine c_loop (fun (st1 : (Int × (Sl DFunction))) (fr : Fr) => Sub [(0, (Sl.t (a0 : Sl DFunction))), (3, t1), (4, .int .i64 st1.1)] fr.s ∧ Heap σ0 fr.σ [.own true 4 t1 (Sl.t (st1.2 : Sl DFunction))]) (fun (y2 : (Sl DFunction)) (e : AExit) (fr : Fr) => e = (.exit 0) ∧ Sub [(3, t1)] fr.s ∧ Heap σ0 fr.σ [.own true 4 t1 (Sl.t (y2 : Sl DFunction))]) hy2 (And.intro (sub_to hS (by kernel_rfl)) hH) ?_ ?_
  · clear h hy2 hS hH; clear y2; intro st1 x fr h HI; obtain ⟨s, σ⟩ := fr; obtain ⟨hS, hH⟩ := HI
    refine c_seq ?_
    refine c_seq ?_
    refine c_region ?_
    refine q_seg 4 [(0, (Sl.t (a0 : Sl DFunction))), (3, t1), (4, .int .i64 st1.1), (11, .bool (decide (st1.1 < (a0.l.length : Int))))] hS (by kernel_rfl) ?_; intro s hS
    refine x_nil ?_
    refine sq_n ?_
    by_cases hc1 : (decide (st1.1 < (a0.l.length : Int))) = true
    · have h := it_pos hc1 h
      refine c_cond hS rfl (fun _ => ?_) (fun hf => ff_absurd hc1 hf)
      refine c_skip ?_
      refine sq_n ?_
      refine c_seq ?_
      refine c_block ?_
      refine c_region ?_
      refine q_seg 4 [(0, (Sl.t (a0 : Sl DFunction))), (3, t1), (4, .int .i64 st1.1), (14, t1), (15, .int .i64 st1.1), (16, (Sl.t (a0 : Sl DFunction))), (17, .int .i64 st1.1)] hS (by kernel_rfl) ?_; intro s hS
      obtain ⟨y3, hy3, h⟩ := bind_some h
      refine q_elt (sl := a0) (e := 133) [.str y3.Name, (Sl.t (y3.Params : Sl ByteArray)), (Sl.t (y3.Locals : Sl ByteArray)), .str y3.Label] rfl hS rfl rfl (by kernel_rfl) (by kernel_rfl) hy3 rfl ?_; intro rest1 s hS
      refine q_seg 1 [(0, (Sl.t (a0 : Sl DFunction))), (3, t1), (4, .int .i64 st1.1), (14, t1), (15, .int .i64 st1.1), (19, .agg (DFunction.cells y3))] hS (by kernel_rfl) ?_; intro s hS
      obtain ⟨y4, hy4, h⟩ := bind_some h
      refine q_callO (ents := []) (z := false) (ts := [.agg (DFunction.cells y3)]) (vs := [.agg (DFunction.cells y3)]) rfl rfl hS rfl rfl rfl hH (HL.agg (es1 := []) (es2 := []) (HL.leaf (fun σ d => hold_str _ σ d _) (HL.leaf (fun σ d => hold_pure σ d _) (HL.leaf (fun σ d => hold_pure σ d _) (HL.leaf (fun σ d => hold_str _ σ d _) HL.nil)))) HL.nil) hy4 ?_; intro hs σ s hl hH hS
      obtain ⟨t2, t3, rfl⟩ := len2 hl
      have hH : Heap σ0 σ [.own true 1 t2 (Sl.t (y4.Params : Sl ByteArray)), .own true 1 t3 (Sl.t (y4.Locals : Sl ByteArray)), .own true 4 t1 (Sl.t (st1.2 : Sl DFunction))] := hH
      have ht2 : IsOne t2 := Heap.one hH
      have ht3 : IsOne t3 := Heap.one (hH.at 1 rfl)
      have hH : Heap σ0 σ [.own true 4 t1 (Sl.t (st1.2 : Sl DFunction)), .own true 1 t2 (Sl.t (y4.Params : Sl ByteArray)), .own true 1 t3 (Sl.t (y4.Locals : Sl ByteArray))] := hH.sel [2, 0, 1] rfl (by kernel_rfl)
      obtain ⟨y5, hy5, h⟩ := bind_some h
      refine q_hidx (a := st1.2) (e := 99) rfl rfl hS hH rfl rfl (by kernel_rfl) (by kernel_rfl) hy5 ?_; intro hb1 hb1e s hl_hb1 hS
      refine q_hstore (ents := [.own true 1 t2 (Sl.t (y4.Params : Sl ByteArray)), .own true 1 t3 (Sl.t (y4.Locals : Sl ByteArray))]) (a := st1.2) (j := st1.1) (y := y5) (y' := (y4 : DFunction)) (off := 0) (c := [.str y5.Name, (Sl.t (y5.Params : Sl ByteArray)), (Sl.t (y5.Locals : Sl ByteArray)), .str y5.Label]) (us := [.str y4.Name, t2, t3, .str y4.Label]) (vs := [.str y4.Name, (Sl.t (y4.Params : Sl ByteArray)), (Sl.t (y4.Locals : Sl ByteArray)), .str y4.Label]) (v := .agg [.str y4.Name, t2, t3, .str y4.Label]) rfl hS hH hl_hb1 rfl rfl rfl (by simp [ht2.1, ht2.2, ht3.1, ht3.2]) (by kernel_rfl) rfl hy5 rfl (HL.leaf (fun σ d => hold_str _ σ d _) (HL.own rfl (HL.own rfl (HL.leaf (fun σ d => hold_str _ σ d _) HL.nil)))) rfl (by kernel_rfl) ?_; intro σ s hH hS
      refine x_nil ?_
      refine bk_n ?_
      refine sq_n ?_
      refine c_region ?_
      refine q_seg 3 [(0, (Sl.t (a0 : Sl DFunction))), (3, t1), (4, .int .i64 (IntKind.i64.wrap (st1.1 + 1)))] hS (by kernel_rfl) ?_; intro s hS
      refine x_nil ?_
      injection h with h; subst h
      exact And.intro (sub_to hS (by kernel_rfl)) hH
    · have h := it_neg hc1 h
      refine c_cond hS rfl (fun hf => tt_absurd hc1 hf) (fun _ => ?_)
      refine c_exit ?_
      refine sq_x ?_
      injection h with h; subst h
      exact And.intro rfl (And.intro (sub_to hS (by kernel_rfl)) hH)
  · clear hS hH; intro e fr HF; obtain ⟨s, σ⟩ := fr
    obtain ⟨rfl, hS, hH⟩ := HF
    refine bk_e ?_
    refine sq_n ?_
    refine c_seq ?_
    refine c_region ?_
    refine q_seg 2 [(2, t1)] hS (by kernel_rfl) ?_; intro s hS
    refine x_nil ?_
    refine sq_n ?_
    refine c_ret ?_
    injection h with h; subst h
    exact end_Ow [t1] [] (r_tmp (v := t1) hS rfl r_nil) (by kernel_rfl) rfl hH (by kernel_rfl)
end Go.Am
end
section
set_option maxRecDepth 100000
set_option maxHeartbeats 1000000
set_option linter.unusedVariables false
set_option linter.unusedSimpArgs false
namespace Go.Am
open Go.Proofs
noncomputable def B_laws_toRecordTypeS (a0 : (Sl DRecordType)) : Option (Sl DRecordType) := ((mkS 40 ((⟨⟨#[]⟩, ⟨true, []⟩⟩ : DRecordType) : DRecordType) (a0.l.length : Int) (a0.l.length : Int)).bind fun y1 => ((loopO (S := (Int × (Sl DRecordType))) (R := (Sl DRecordType)) (fun st1 => (if (decide (st1.1 < (a0.l.length : Int))) = true then ((elt a0 st1.1).bind fun y3 => ((F_laws_toRecordType y3).bind fun y4 => ((elt st1.2 st1.1).bind fun y5 => (some (.inl ((IntKind.i64.wrap (st1.1 + 1)), (setS st1.2 st1.1 (y4 : DRecordType)))))))) else (some (.inr st1.2)))) (0, y1)).bind fun y2 => (some y2)))
theorem u_laws_toRecordTypeS (a0 : (Sl DRecordType)) (r : (Sl DRecordType)) (h : B_laws_toRecordTypeS a0 = some r) : F_laws_toRecordTypeS a0 = some r := by
  unfold B_laws_toRecordTypeS at h
  refine semO_of rfl rfl ok_77 rfl (all_cons (by kernel_rfl) all_nil) ?_
  intro σ0 s hS hH
  have hS := sub_to (L' := [(0, (Sl.t (a0 : Sl DRecordType)))]) hS (by kernel_rfl)
  refine c_seq ?_
  refine c_region ?_
  refine q_seg 1 [(0, (Sl.t (a0 : Sl DRecordType)))] hS (by kernel_rfl) ?_; intro s hS
  refine x_nil ?_
  refine sq_n ?_
  refine c_seq ?_
  refine c_region ?_
  refine q_seg 2 [(0, (Sl.t (a0 : Sl DRecordType))), (6, .int .i64 (a0.l.length : Int))] hS (by kernel_rfl) ?_; intro s hS
  obtain ⟨y1, hy1, h⟩ := bind_some h
  refine q_make (z := true) (e := 101) (by_ := 40) (x0 := ((⟨⟨#[]⟩, ⟨true, []⟩⟩ : DRecordType) : DRecordType)) (fun σ d => by simp [Enc.cells, DRecordType.cells, Iv]) rfl hS hH rfl rfl (by kernel_rfl) (by kernel_rfl) (by kernel_rfl) (by kernel_rfl) rfl hy1 ?_; intro t1 σ s ht1 hH hS
  refine q_seg 1 [(0, (Sl.t (a0 : Sl DRecordType))), (3, t1)] hS (by kernel_rfl) ?_; intro s hS
  refine x_nil ?_
  refine sq_n ?_
  refine c_seq ?_
  refine c_seq ?_
  refine c_region ?_
  refine q_seg 1 [(0, (Sl.t (a0 : Sl DRecordType))), (3, t1), (4, .int .i64 0)] hS (by kernel_rfl) ?_; intro s hS
  refine x_nil ?_
  refine sq_n ?_
  refine c_block ?_
  obtain ⟨y2, hy2, h⟩ := bind_some h
  refine c_loop (fun (st1 : (Int × (Sl DRecordType))) (fr : Fr) => Sub [(0, (Sl.t (a0 : Sl DRecordType))), (3, t1), (4, .int .i64 st1.1)] fr.s ∧ Heap σ0 fr.σ [.own true 2 t1 (Sl.t (st1.2 : Sl DRecordType))]) (fun (y2 : (Sl DRecordType)) (e : AExit) (fr : Fr) => e = (.exit 0) ∧ Sub [(3, t1)] fr.s ∧ Heap σ0 fr.σ [.own true 2 t1 (Sl.t (y2 : Sl DRecordType))]) hy2 (And.intro (sub_to hS (by kernel_rfl)) hH) ?_ ?_
  · clear h hy2 hS hH; clear y2; intro st1 x fr h HI; obtain ⟨s, σ⟩ := fr; obtain ⟨hS, hH⟩ := HI
    refine c_seq ?_
    refine c_seq ?_
    refine c_region ?_
    refine q_seg 4 [(0, (Sl.t (a0 : Sl DRecordType))), (3, t1), (4, .int .i64 st1.1), (11, .bool (decide (st1.1 < (a0.l.length : Int))))] hS (by kernel_rfl) ?_; intro s hS
    refine x_nil ?_
    refine sq_n ?_
    by_cases hc1 : (decide (st1.1 < (a0.l.length : Int))) = true
    · have h := it_pos hc1 h
      refine c_cond hS rfl (fun _ => ?_) (fun hf => ff_absurd hc1 hf)
      refine c_skip ?_
      refine sq_n ?_
      refine c_seq ?_
      refine c_block ?_
      refine c_region ?_
      refine q_seg 4 [(0, (Sl.t (a0 : Sl DRecordType))), (3, t1), (4, .int .i64 st1.1), (14, t1), (15, .int .i64 st1.1), (16, (Sl.t (a0 : Sl DRecordType))), (17, .int .i64 st1.1)] hS (by kernel_rfl) ?_; intro s hS
      obtain ⟨y3, hy3, h⟩ := bind_some h
      refine q_elt (sl := a0) (e := 135) [.str y3.Name, (Sl.t (y3.Fields : Sl ByteArray))] rfl hS rfl rfl (by kernel_rfl) (by kernel_rfl) hy3 rfl ?_; intro rest1 s hS
      refine q_seg 1 [(0, (Sl.t (a0 : Sl DRecordType))), (3, t1), (4, .int .i64 st1.1), (14, t1), (15, .int .i64 st1.1), (19, .agg (DRecordType.cells y3))] hS (by kernel_rfl) ?_; intro s hS
      obtain ⟨y4, hy4, h⟩ := bind_some h
      refine q_callO (ents := []) (z := false) (ts := [.agg (DRecordType.cells y3)]) (vs := [.agg (DRecordType.cells y3)]) rfl rfl hS rfl rfl rfl hH (HL.agg (es1 := []) (es2 := []) (HL.leaf (fun σ d => hold_str _ σ d _) (HL.leaf (fun σ d => hold_pure σ d _) HL.nil)) HL.nil) hy4 ?_; intro hs σ s hl hH hS
      obtain ⟨t2, rfl⟩ := len1 hl
      have hH : Heap σ0 σ [.own true 1 t2 (Sl.t (y4.Fields : Sl ByteArray)), .own true 2 t1 (Sl.t (st1.2 : Sl DRecordType))] := hH
      have ht2 : IsOne t2 := Heap.one hH
      have hH : Heap σ0 σ [.own true 2 t1 (Sl.t (st1.2 : Sl DRecordType)), .own true 1 t2 (Sl.t (y4.Fields : Sl ByteArray))] := hH.sel [1, 0] rfl (by kernel_rfl)
      obtain ⟨y5, hy5, h⟩ := bind_some h
      refine q_hidx (a := st1.2) (e := 101) rfl rfl hS hH rfl rfl (by kernel_rfl) (by kernel_rfl) hy5 ?_; intro hb1 hb1e s hl_hb1 hS
      refine q_hstore (ents := [.own true 1 t2 (Sl.t (y4.Fields : Sl ByteArray))]) (a := st1.2) (j := st1.1) (y := y5) (y' := (y4 : DRecordType)) (off := 0) (c := [.str y5.Name, (Sl.t (y5.Fields : Sl ByteArray))]) (us := [.str y4.Name, t2]) (vs := [.str y4.Name, (Sl.t (y4.Fields : Sl ByteArray))]) (v := .agg [.str y4.Name, t2]) rfl hS hH hl_hb1 rfl rfl rfl (by simp [ht2.1, ht2.2]) (by kernel_rfl) rfl hy5 rfl (HL.leaf (fun σ d => hold_str _ σ d _) (HL.own rfl HL.nil)) rfl (by kernel_rfl) ?_; intro σ s hH hS
      refine x_nil ?_
      refine bk_n ?_
      refine sq_n ?_
      refine c_region ?_
      refine q_seg 3 [(0, (Sl.t (a0 : Sl DRecordType))), (3, t1), (4, .int .i64 (IntKind.i64.wrap (st1.1 + 1)))] hS (by kernel_rfl) ?_; intro s hS
      refine x_nil ?_
      injection h with h; subst h
      exact And.intro (sub_to hS (by kernel_rfl)) hH
    · have h := it_neg hc1 h
      refine c_cond hS rfl (fun hf => tt_absurd hc1 hf) (fun _ => ?_)
      refine c_exit ?_
      refine sq_x ?_
      injection h with h; subst h
      exact And.intro rfl (And.intro (sub_to hS (by kernel_rfl)) hH)
  · clear hS hH; intro e fr HF; obtain ⟨s, σ⟩ := fr
    obtain ⟨rfl, hS, hH⟩ := HF
    refine bk_e ?_
    refine sq_n ?_
    refine c_seq ?_
    refine c_region ?_
    refine q_seg 2 [(2, t1)] hS (by kernel_rfl) ?_; intro s hS
    refine x_nil ?_
    refine sq_n ?_
    refine c_ret ?_
    injection h with h; subst h
    exact end_Ow [t1] [] (r_tmp (v := t1) hS rfl r_nil) (by kernel_rfl) rfl hH (by kernel_rfl)
end Go.Am
end
section
set_option maxRecDepth 100000
set_option maxHeartbeats 1000000
set_option linter.unusedVariables false
set_option linter.unusedSimpArgs false
namespace Go.Am
open Go.Proofs
noncomputable def B_laws_toFileS (a0 : (Sl DFile)) : Option (Sl DFile) := ((mkS 56 ((⟨⟨#[]⟩, ⟨true, []⟩, 0, 0⟩ : DFile) : DFile) (a0.l.length : Int) (a0.l.length : Int)).bind fun y1 => ((loopO (S := (Int × (Sl DFile))) (R := (Sl DFile)) (fun st1 => (if (decide (st1.1 < (a0.l.length : Int))) = true then ((elt a0 st1.1).bind fun y3 => ((F_laws_toFile y3).bind fun y4 => ((elt st1.2 st1.1).bind fun y5 => (some (.inl ((IntKind.i64.wrap (st1.1 + 1)), (setS st1.2 st1.1 (y4 : DFile)))))))) else (some (.inr st1.2)))) (0, y1)).bind fun y2 => (some y2)))
theorem u_laws_toFileS (a0 : (Sl DFile)) (r : (Sl DFile)) (h : B_laws_toFileS a0 = some r) : F_laws_toFileS a0 = some r := by
  unfold B_laws_toFileS at h
  refine semO_of rfl rfl ok_78 rfl (all_cons (by kernel_rfl) all_nil) ?_
  intro σ0 s hS hH
  have hS := sub_to (L' := [(0, (Sl.t (a0 : Sl DFile)))]) hS (by kernel_rfl)
  refine c_seq ?_
  refine c_region ?_
  refine q_seg 1 [(0, (Sl.t (a0 : Sl DFile)))] hS (by kernel_rfl) ?_; intro s hS
  refine x_nil ?_
  refine sq_n ?_
  refine c_seq ?_
  refine c_region ?_
  refine q_seg 2 [(0, (Sl.t (a0 : Sl DFile))), (6, .int .i64 (a0.l.length : Int))] hS (by kernel_rfl) ?_; intro s hS
  obtain ⟨y1, hy1, h⟩ := bind_some h
  refine q_make (z := true) (e := 104) (by_ := 56) (x0 := ((⟨⟨#[]⟩, ⟨true, []⟩, 0, 0⟩ : DFile) : DFile)) (fun σ d => by simp [Enc.cells, DFile.cells, Iv]) rfl hS hH rfl rfl (by kernel_rfl) (by kernel_rfl) (by kernel_rfl) (by kernel_rfl) rfl hy1 ?_; intro t1 σ s ht1 hH hS
  refine q_seg 1 [(0, (Sl.t (a0 : Sl DFile))), (3, t1)] hS (by kernel_rfl) ?_; intro s hS
  refine x_nil ?_
  refine sq_n ?_
  refine c_seq ?_
  refine c_seq ?_
  refine c_region ?_
  refine q_seg 1 [(0, (Sl.t (a0 : Sl DFile))), (3, t1), (4, .int .i64 0)] hS (by kernel_rfl) ?_; intro s hS
  refine x_nil ?_
  refine sq_n ?_
  refine c_block ?_
  obtain ⟨y2, hy2, h⟩ := bind_some h
  refine c_loop (fun (st1 : (Int × (Sl DFile))) (fr : Fr) => Sub [(0, (Sl.t (a0 : Sl DFile))), (3, t1), (4, .int .i64 st1.1)] fr.s ∧ Heap σ0 fr.σ [.own true 4 t1 (Sl.t (st1.2 : Sl DFile))]) (fun (y2 : (Sl DFile)) (e : AExit) (fr : Fr) => e = (.exit 0) ∧ Sub [(3, t1)] fr.s ∧ Heap σ0 fr.σ [.own true 4 t1 (Sl.t (y2 : Sl DFile))]) hy2 (And.intro (sub_to hS (by kernel_rfl)) hH) ?_ ?_
  · clear h hy2 hS hH; clear y2; intro st1 x fr h HI; obtain ⟨s, σ⟩ := fr; obtain ⟨hS, hH⟩ := HI
    refine c_seq ?_
    refine c_seq ?_
    refine c_region ?_
    refine q_seg 4 [(0, (Sl.t (a0 : Sl DFile))), (3, t1), (4, .int .i64 st1.1), (11, .bool (decide (st1.1 < (a0.l.length : Int))))] hS (by kernel_rfl) ?_; intro s hS
    refine x_nil ?_
    refine sq_n ?_
    by_cases hc1 : (decide (st1.1 < (a0.l.length : Int))) = true
    · have h := it_pos hc1 h
      refine c_cond hS rfl (fun _ => ?_) (fun hf => ff_absurd hc1 hf)
      refine c_skip ?_
      refine sq_n ?_
      refine c_seq ?_
      refine c_block ?_
      refine c_region ?_
      refine q_seg 4 [(0, (Sl.t (a0 : Sl DFile))), (3, t1), (4, .int .i64 st1.1), (14, t1), (15, .int .i64 st1.1), (16, (Sl.t (a0 : Sl DFile))), (17, .int .i64 st1.1)] hS (by kernel_rfl) ?_; intro s hS
      obtain ⟨y3, hy3, h⟩ := bind_some h
      refine q_elt (sl := a0) (e := 137) [.str y3.Name, (Sl.t (y3.Lines : Sl ByteArray)), .int .i64 y3.Mode, .int .i64 y3.At] rfl hS rfl rfl (by kernel_rfl) (by kernel_rfl) hy3 rfl ?_; intro rest1 s hS
      refine q_seg 1 [(0, (Sl.t (a0 : Sl DFile))), (3, t1), (4, .int .i64 st1.1), (14, t1), (15, .int .i64 st1.1), (19, .agg (DFile.cells y3))] hS (by kernel_rfl) ?_; intro s hS
      obtain ⟨y4, hy4, h⟩ := bind_some h
      refine q_callO (ents := []) (z := false) (ts := [.agg (DFile.cells y3)]) (vs := [.agg (DFile.cells y3)]) rfl rfl hS rfl rfl rfl hH (HL.agg (es1 := []) (es2 := []) (HL.leaf (fun σ d => hold_str _ σ d _) (HL.leaf (fun σ d => hold_pure σ d _) (HL.leaf (fun σ d => hold_int _ σ d _ _) (HL.leaf (fun σ d => hold_int _ σ d _ _) HL.nil)))) HL.nil) hy4 ?_; intro hs σ s hl hH hS
      obtain ⟨t2, rfl⟩ := len1 hl
      have hH : Heap σ0 σ [.own true 1 t2 (Sl.t (y4.Lines : Sl ByteArray)), .own true 4 t1 (Sl.t (st1.2 : Sl DFile))] := hH
      have ht2 : IsOne t2 := Heap.one hH
      have hH : Heap σ0 σ [.own true 4 t1 (Sl.t (st1.2 : Sl DFile)), .own true 1 t2 (Sl.t (y4.Lines : Sl ByteArray))] := hH.sel [1, 0] rfl (by kernel_rfl)
      obtain ⟨y5, hy5, h⟩ := bind_some h
      refine q_hidx (a := st1.2) (e := 104) rfl rfl hS hH rfl rfl (by kernel_rfl) (by kernel_rfl) hy5 ?_; intro hb1 hb1e s hl_hb1 hS
      refine q_hstore (ents := [.own true 1 t2 (Sl.t (y4.Lines : Sl ByteArray))]) (a := st1.2) (j := st1.1) (y := y5) (y' := (y4 : DFile)) (off := 0) (c := [.str y5.Name, (Sl.t (y5.Lines : Sl ByteArray)), .int .i64 y5.Mode, .int .i64 y5.At]) (us := [.str y4.Name, t2, .int .i64 y4.Mode, .int .i64 y4.At]) (vs := [.str y4.Name, (Sl.t (y4.Lines : Sl ByteArray)), .int .i64 y4.Mode, .int .i64 y4.At]) (v := .agg [.str y4.Name, t2, .int .i64 y4.Mode, .int .i64 y4.At]) rfl hS hH hl_hb1 rfl rfl rfl (by simp [ht2.1, ht2.2]) (by kernel_rfl) rfl hy5 rfl (HL.leaf (fun σ d => hold_str _ σ d _) (HL.own rfl (HL.leaf (fun σ d => hold_int _ σ d _ _) (HL.leaf (fun σ d => hold_int _ σ d _ _) HL.nil)))) rfl (by kernel_rfl) ?_; intro σ s hH hS
      refine x_nil ?_
      refine bk_n ?_
      refine sq_n ?_
      refine c_region ?_
      refine q_seg 3 [(0, (Sl.t (a0 : Sl DFile))), (3, t1), (4, .int .i64 (IntKind.i64.wrap (st1.1 + 1)))] hS (by kernel_rfl) ?_; intro s hS
      refine x_nil ?_
      injection h with h; subst h
      exact And.intro (sub_to hS (by kernel_rfl)) hH
    · have h := it_neg hc1 h
      refine c_cond hS rfl (fun hf => tt_absurd hc1 hf) (fun _ => ?_)
      refine c_exit ?_
      refine sq_x ?_
      injection h with h; subst h
      exact And.intro rfl (And.intro (sub_to hS (by kernel_rfl)) hH)
  · clear hS hH; intro e fr HF; obtain ⟨s, σ⟩ := fr
    obtain ⟨rfl, hS, hH⟩ := HF
    refine bk_e ?_
    refine sq_n ?_
    refine c_seq ?_
    refine c_region ?_
    refine q_seg 2 [(2, t1)] hS (by kernel_rfl) ?_; intro s hS
    refine x_nil ?_
    refine sq_n ?_
    refine c_ret ?_
    injection h with h; subst h
    exact end_Ow [t1] [] (r_tmp (v := t1) hS rfl r_nil) (by kernel_rfl) rfl hH (by kernel_rfl)
end Go.Am
end
