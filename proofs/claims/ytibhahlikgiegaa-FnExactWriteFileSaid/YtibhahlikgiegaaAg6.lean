/- Functions of the program. -/
import Derived.Test.YtibhahlikgiegaaAd0
section
set_option maxRecDepth 100000
set_option maxHeartbeats 4000000
set_option linter.unusedVariables false
set_option linter.unusedSimpArgs false
namespace Go.Am
open Go.Proofs
noncomputable def B_impl_ValidConsole_1 (a0 : ByteArray) : Option Bool := (some (decide ((a0.size : Int) ≤ 1300)))
theorem u_impl_ValidConsole_1 (a0 : ByteArray) (r : Bool) (h : B_impl_ValidConsole_1 a0 = some r) : F_impl_ValidConsole_1 a0 = some r := by
  unfold B_impl_ValidConsole_1 at h
  refine semW_of E_bool_inj rfl rfl ok_87 rfl (all_cons (by kernel_rfl) all_nil) ?_
  intro σ0 s hS hH
  have hS := sub_to (L' := [(0, .str a0)]) hS (by kernel_rfl)
  refine c_seq ?_
  refine c_region ?_
  refine q_seg 1 [(0, .str a0)] hS (by kernel_rfl) ?_; intro s hS
  refine x_nil ?_
  refine sq_n ?_
  refine c_seq ?_
  refine c_region ?_
  refine q_seg 4 [(2, .bool (decide ((a0.size : Int) ≤ 1300)))] hS (by kernel_rfl) ?_; intro s hS
  refine x_nil ?_
  refine sq_n ?_
  refine c_ret ?_
  injection h with h; subst h
  exact end_W hH (r_tmp (v := .bool (decide ((a0.size : Int) ≤ 1300))) hS rfl r_nil) rfl (by kernel_rfl) (by simp [pureT, pureL, E_bool])
end Go.Am
end
section
set_option maxRecDepth 100000
set_option maxHeartbeats 4000000
set_option linter.unusedVariables false
set_option linter.unusedSimpArgs false
namespace Go.Am
open Go.Proofs
noncomputable def B_impl_areAll_string (a0 : (Sl ByteArray)) (a1 : T) : Option Bool := (if flat1 a1 = true then ((loopO (S := Int) (R := (Unit ⊕ Bool)) (fun st1 => (if (decide (st1 < (a0.l.length : Int))) = true then ((elt a0 st1).bind fun y2 => ((callV Try.prog md ext E_bool a1 [.str y2]).bind fun y3 => (if (!y3) = true then (some (.inr (.inr false))) else (some (.inl (IntKind.i64.wrap (st1 + 1))))))) else (some (.inr (.inl ()))))) 0).bind fun y1 => (Sum.elim (fun y1 => (some true)) (fun y1 => (some y1)) y1)) else none)
theorem u_impl_areAll_string (a0 : (Sl ByteArray)) (a1 : T) (r : Bool) (h : B_impl_areAll_string a0 a1 = some r) : F_impl_areAll_string a0 a1 = some r := by
  unfold B_impl_areAll_string at h
  obtain ⟨hf_a1, h⟩ := if_some h
  refine semW_of E_bool_inj rfl rfl ok_88 rfl (all_cons (by kernel_rfl) (all_cons (flat3_of hf_a1) all_nil)) ?_
  intro σ0 s hS hH
  have hS := sub_to (L' := [(0, (Sl.t (a0 : Sl ByteArray))), (1, a1)]) hS (by kernel_rfl)
  refine c_seq ?_
  refine c_region ?_
  refine q_seg 1 [(0, (Sl.t (a0 : Sl ByteArray))), (1, a1)] hS (by kernel_rfl) ?_; intro s hS
  refine x_nil ?_
  refine sq_n ?_
  refine c_seq ?_
  refine c_seq ?_
  refine c_region ?_
  refine q_seg 3 [(1, a1), (7, (Sl.t (a0 : Sl ByteArray))), (8, .int .i64 (a0.l.length : Int)), (9, .int .i64 0)] hS (by kernel_rfl) ?_; intro s hS
  refine x_nil ?_
  refine sq_n ?_
  refine c_block ?_
  obtain ⟨y1, hy1, h⟩ := bind_some h
  refine c_loop (fun (st1 : Int) (fr : Fr) => Sub [(1, a1), (7, (Sl.t (a0 : Sl ByteArray))), (8, .int .i64 (a0.l.length : Int)), (9, .int .i64 st1)] fr.s ∧ Heap σ0 fr.σ []) (fun (y1 : (Unit ⊕ Bool)) (e : AExit) (fr : Fr) => (Sum.elim (fun y => e = (.exit 0) ∧ Sub [] fr.s ∧ Heap σ0 fr.σ []) (fun y => e = .ret ∧ endW Try.prog (Try.f88.results.toList) σ0 (E_bool y) .ret fr)) y1) hy1 (And.intro (sub_to hS (by kernel_rfl)) hH) ?_ ?_
  · clear h hy1 hS hH; clear y1; intro st1 x fr h HI; obtain ⟨s, σ⟩ := fr; obtain ⟨hS, hH⟩ := HI
    refine c_seq ?_
    refine c_region ?_
    refine q_seg 1 [(1, a1), (7, (Sl.t (a0 : Sl ByteArray))), (8, .int .i64 (a0.l.length : Int)), (9, .int .i64 st1), (10, .bool (decide (st1 < (a0.l.length : Int))))] hS (by kernel_rfl) ?_; intro s hS
    refine x_nil ?_
    refine sq_n ?_
    refine c_seq ?_
    by_cases hc1 : (decide (st1 < (a0.l.length : Int))) = true
    · have h := it_pos hc1 h
      refine c_cond hS rfl (fun _ => ?_) (fun hf => ff_absurd hc1 hf)
      refine c_skip ?_
      refine sq_n ?_
      refine c_seq ?_
      refine c_block ?_
      refine c_seq ?_
      refine c_region ?_
      obtain ⟨y2, hy2, h⟩ := bind_some h
      refine q_elt (sl := a0) (e := 9) [.str y2] rfl hS rfl rfl (by kernel_rfl) (by kernel_rfl) hy2 rfl ?_; intro rest1 s hS
      refine q_seg 2 [(1, a1), (6, .str y2), (7, (Sl.t (a0 : Sl ByteArray))), (8, .int .i64 (a0.l.length : Int)), (9, .int .i64 st1)] hS (by kernel_rfl) ?_; intro s hS
      refine x_nil ?_
      refine sq_n ?_
      refine c_seq ?_
      refine c_region ?_
      refine q_seg 2 [(1, a1), (7, (Sl.t (a0 : Sl ByteArray))), (8, .int .i64 (a0.l.length : Int)), (9, .int .i64 st1), (13, a1), (14, .str y2)] hS (by kernel_rfl) ?_; intro s hS
      obtain ⟨y3, hy3, h⟩ := bind_some h
      refine q_callP (p := a1) (xs := [.str y2]) rfl hS rfl rfl hy3 ?_; intro s hS
      refine q_seg 1 [(1, a1), (7, (Sl.t (a0 : Sl ByteArray))), (8, .int .i64 (a0.l.length : Int)), (9, .int .i64 st1), (16, .bool (!y3))] hS (by kernel_rfl) ?_; intro s hS
      refine x_nil ?_
      refine sq_n ?_
      by_cases hc2 : (!y3) = true
      · have h := it_pos hc2 h
        refine c_cond hS rfl (fun _ => ?_) (fun hf => ff_absurd hc2 hf)
        refine c_seq ?_
        refine c_region ?_
        refine q_seg 1 [(4, .bool false)] hS (by kernel_rfl) ?_; intro s hS
        refine x_nil ?_
        refine sq_n ?_
        refine c_ret ?_
        refine bk_r ?_
        refine sq_r ?_
        injection h with h; subst h
        exact And.intro rfl (end_W hH (r_tmp (v := .bool false) hS rfl r_nil) rfl (by kernel_rfl) (by simp [pureT, pureL, E_bool]))
      · have h := it_neg hc2 h
        refine c_cond hS rfl (fun hf => tt_absurd hc2 hf) (fun _ => ?_)
        refine c_skip ?_
        refine bk_n ?_
        refine sq_n ?_
        refine c_region ?_
        refine q_seg 2 [(1, a1), (7, (Sl.t (a0 : Sl ByteArray))), (8, .int .i64 (a0.l.length : Int)), (9, .int .i64 (IntKind.i64.wrap (st1 + 1)))] hS (by kernel_rfl) ?_; intro s hS
        refine x_nil ?_
        injection h with h; subst h
        exact And.intro (sub_to hS (by kernel_rfl)) hH
    · have h := it_neg hc1 h
      refine c_cond hS rfl (fun hf => tt_absurd hc1 hf) (fun _ => ?_)
      refine c_exit ?_
      refine sq_x ?_
      injection h with h; subst h
      exact And.intro rfl (And.intro (sub_to hS (by kernel_rfl)) hH)
  · clear hS hH; intro e fr HF; obtain ⟨s, σ⟩ := fr
    rcases y1 with y1 | y1
    · obtain ⟨rfl, hS, hH⟩ := HF
      refine bk_e ?_
      refine sq_n ?_
      refine c_seq ?_
      refine c_region ?_
      refine q_seg 1 [(4, .bool true)] hS (by kernel_rfl) ?_; intro s hS
      refine x_nil ?_
      refine sq_n ?_
      refine c_ret ?_
      injection h with h; subst h
      exact end_W hH (r_tmp (v := .bool true) hS rfl r_nil) rfl (by kernel_rfl) (by simp [pureT, pureL, E_bool])
    · obtain ⟨rfl, HE⟩ := HF
      refine bk_r ?_
      refine sq_r ?_
      injection h with h; subst h; exact HE
end Go.Am
end
section
set_option maxRecDepth 100000
set_option maxHeartbeats 4000000
set_option linter.unusedVariables false
set_option linter.unusedSimpArgs false
namespace Go.Am
open Go.Proofs
noncomputable def B_impl_within (a0 : Int) (a1 : Int) (a2 : Int) : Option Bool := (if (decide (a1 ≤ a0)) = true then (some (decide (a0 ≤ a2))) else (some false))
theorem u_impl_within (a0 : Int) (a1 : Int) (a2 : Int) (r : Bool) (h : B_impl_within a0 a1 a2 = some r) : F_impl_within a0 a1 a2 = some r := by
  unfold B_impl_within at h
  refine semW_of E_bool_inj rfl rfl ok_89 rfl (all_cons (by kernel_rfl) (all_cons (by kernel_rfl) (all_cons (by kernel_rfl) all_nil))) ?_
  intro σ0 s hS hH
  have hS := sub_to (L' := [(0, .int .i64 a0), (1, .int .i64 a1), (2, .int .i64 a2)]) hS (by kernel_rfl)
  refine c_seq ?_
  refine c_region ?_
  refine q_seg 1 [(0, .int .i64 a0), (1, .int .i64 a1), (2, .int .i64 a2)] hS (by kernel_rfl) ?_; intro s hS
  refine x_nil ?_
  refine sq_n ?_
  refine c_seq ?_
  refine c_region ?_
  refine q_seg 4 [(10, .bool (decide (a1 ≤ a0))), (0, .int .i64 a0), (2, .int .i64 a2)] hS (by kernel_rfl) ?_; intro s hS
  by_cases hc1 : (decide (a1 ≤ a0)) = true
  · have h := it_pos hc1 h
    have hS := sub_bt hS hc1
    refine q_seg 5 [(6, .bool (decide (a0 ≤ a2)))] hS (by kernel_rfl) ?_; intro s hS
    refine x_nil ?_
    refine sq_n ?_
    refine c_ret ?_
    injection h with h; subst h
    exact end_W hH (r_tmp (v := .bool (decide (a0 ≤ a2))) hS rfl r_nil) rfl (by kernel_rfl) (by simp [pureT, pureL, E_bool])
  · have h := it_neg hc1 h
    have hS := sub_bt hS (tt_of hc1)
    refine q_seg 5 [(6, .bool false)] hS (by kernel_rfl) ?_; intro s hS
    refine x_nil ?_
    refine sq_n ?_
    refine c_ret ?_
    injection h with h; subst h
    exact end_W hH (r_tmp (v := .bool false) hS rfl r_nil) rfl (by kernel_rfl) (by simp [pureT, pureL, E_bool])
end Go.Am
end
section
set_option maxRecDepth 100000
set_option maxHeartbeats 4000000
set_option linter.unusedVariables false
set_option linter.unusedSimpArgs false
namespace Go.Am
open Go.Proofs
noncomputable def B_impl_areAll_File (a0 : (Sl DFile)) (a1 : T) : Option Bool := (if flat1 a1 = true then ((loopO (S := Int) (R := (Unit ⊕ Bool)) (fun st1 => (if (decide (st1 < (a0.l.length : Int))) = true then ((elt a0 st1).bind fun y2 => ((callV Try.prog md ext E_bool a1 [.agg (DFile.cells y2)]).bind fun y3 => (if (!y3) = true then (some (.inr (.inr false))) else (some (.inl (IntKind.i64.wrap (st1 + 1))))))) else (some (.inr (.inl ()))))) 0).bind fun y1 => (Sum.elim (fun y1 => (some true)) (fun y1 => (some y1)) y1)) else none)
theorem u_impl_areAll_File (a0 : (Sl DFile)) (a1 : T) (r : Bool) (h : B_impl_areAll_File a0 a1 = some r) : F_impl_areAll_File a0 a1 = some r := by
  unfold B_impl_areAll_File at h
  obtain ⟨hf_a1, h⟩ := if_some h
  refine semW_of E_bool_inj rfl rfl ok_90 rfl (all_cons (by kernel_rfl) (all_cons (flat3_of hf_a1) all_nil)) ?_
  intro σ0 s hS hH
  have hS := sub_to (L' := [(0, (Sl.t (a0 : Sl DFile))), (1, a1)]) hS (by kernel_rfl)
  refine c_seq ?_
  refine c_region ?_
  refine q_seg 1 [(0, (Sl.t (a0 : Sl DFile))), (1, a1)] hS (by kernel_rfl) ?_; intro s hS
  refine x_nil ?_
  refine sq_n ?_
  refine c_seq ?_
  refine c_seq ?_
  refine c_region ?_
  refine q_seg 3 [(1, a1), (7, (Sl.t (a0 : Sl DFile))), (8, .int .i64 (a0.l.length : Int)), (9, .int .i64 0)] hS (by kernel_rfl) ?_; intro s hS
  refine x_nil ?_
  refine sq_n ?_
  refine c_block ?_
  obtain ⟨y1, hy1, h⟩ := bind_some h
  refine c_loop (fun (st1 : Int) (fr : Fr) => Sub [(1, a1), (7, (Sl.t (a0 : Sl DFile))), (8, .int .i64 (a0.l.length : Int)), (9, .int .i64 st1)] fr.s ∧ Heap σ0 fr.σ []) (fun (y1 : (Unit ⊕ Bool)) (e : AExit) (fr : Fr) => (Sum.elim (fun y => e = (.exit 0) ∧ Sub [] fr.s ∧ Heap σ0 fr.σ []) (fun y => e = .ret ∧ endW Try.prog (Try.f90.results.toList) σ0 (E_bool y) .ret fr)) y1) hy1 (And.intro (sub_to hS (by kernel_rfl)) hH) ?_ ?_
  · clear h hy1 hS hH; clear y1; intro st1 x fr h HI; obtain ⟨s, σ⟩ := fr; obtain ⟨hS, hH⟩ := HI
    refine c_seq ?_
    refine c_region ?_
    refine q_seg 1 [(1, a1), (7, (Sl.t (a0 : Sl DFile))), (8, .int .i64 (a0.l.length : Int)), (9, .int .i64 st1), (10, .bool (decide (st1 < (a0.l.length : Int))))] hS (by kernel_rfl) ?_; intro s hS
    refine x_nil ?_
    refine sq_n ?_
    refine c_seq ?_
    by_cases hc1 : (decide (st1 < (a0.l.length : Int))) = true
    · have h := it_pos hc1 h
      refine c_cond hS rfl (fun _ => ?_) (fun hf => ff_absurd hc1 hf)
      refine c_skip ?_
      refine sq_n ?_
      refine c_seq ?_
      refine c_block ?_
      refine c_seq ?_
      refine c_region ?_
      obtain ⟨y2, hy2, h⟩ := bind_some h
      refine q_elt (sl := a0) (e := 52) [.str y2.Name, (Sl.t (y2.Lines : Sl ByteArray)), .int .i64 y2.Mode, .int .i64 y2.At] rfl hS rfl rfl (by kernel_rfl) (by kernel_rfl) hy2 rfl ?_; intro rest1 s hS
      refine q_seg 1 [(1, a1), (7, (Sl.t (a0 : Sl DFile))), (8, .int .i64 (a0.l.length : Int)), (9, .int .i64 st1), (12, .agg (DFile.cells y2))] hS (by kernel_rfl) ?_; intro s hS
      refine q_alloc (z := [.str ⟨#[]⟩, (Sl.t (⟨true, []⟩ : Sl ByteArray)), .int .i64 0, .int .i64 0]) rfl hS hH (by kernel_rfl) ?_; intro b1 σ s hH hS
      refine q_store (v := .agg (DFile.cells y2)) (cs := [.str y2.Name, (Sl.t (y2.Lines : Sl ByteArray)), .int .i64 y2.Mode, .int .i64 y2.At]) (cells' := [.str y2.Name, (Sl.t (y2.Lines : Sl ByteArray)), .int .i64 y2.Mode, .int .i64 y2.At]) rfl hS hH rfl rfl rfl (by kernel_rfl) (by kernel_rfl) ?_; intro σ s hH hS
      refine x_nil ?_
      refine sq_n ?_
      refine c_seq ?_
      refine c_region ?_
      refine q_seg 1 [(1, a1), (6, .ptr b1 0 0 4), (7, (Sl.t (a0 : Sl DFile))), (8, .int .i64 (a0.l.length : Int)), (9, .int .i64 st1), (13, a1)] hS (by kernel_rfl) ?_; intro s hS
      refine q_load (v := .agg (DFile.cells y2)) 0 trivial rfl hS hH rfl rfl (by kernel_rfl) ?_; intro s hS
      obtain ⟨y3, hy3, h⟩ := bind_some h
      refine q_callP (p := a1) (xs := [.agg (DFile.cells y2)]) rfl hS rfl rfl hy3 ?_; intro s hS
      refine q_seg 1 [(1, a1), (7, (Sl.t (a0 : Sl DFile))), (8, .int .i64 (a0.l.length : Int)), (9, .int .i64 st1), (16, .bool (!y3))] hS (by kernel_rfl) ?_; intro s hS
      refine x_nil ?_
      refine sq_n ?_
      by_cases hc2 : (!y3) = true
      · have h := it_pos hc2 h
        refine c_cond hS rfl (fun _ => ?_) (fun hf => ff_absurd hc2 hf)
        refine c_seq ?_
        refine c_region ?_
        refine q_seg 1 [(4, .bool false)] hS (by kernel_rfl) ?_; intro s hS
        refine x_nil ?_
        refine sq_n ?_
        refine c_ret ?_
        refine bk_r ?_
        refine sq_r ?_
        injection h with h; subst h
        exact And.intro rfl (end_W hH (r_tmp (v := .bool false) hS rfl r_nil) rfl (by kernel_rfl) (by simp [pureT, pureL, E_bool]))
      · have h := it_neg hc2 h
        refine c_cond hS rfl (fun hf => tt_absurd hc2 hf) (fun _ => ?_)
        refine c_skip ?_
        refine bk_n ?_
        refine sq_n ?_
        refine c_region ?_
        refine q_seg 2 [(1, a1), (7, (Sl.t (a0 : Sl DFile))), (8, .int .i64 (a0.l.length : Int)), (9, .int .i64 (IntKind.i64.wrap (st1 + 1)))] hS (by kernel_rfl) ?_; intro s hS
        refine x_nil ?_
        injection h with h; subst h
        exact And.intro (sub_to hS (by kernel_rfl)) (Heap.sel hH [] rfl (by kernel_rfl))
    · have h := it_neg hc1 h
      refine c_cond hS rfl (fun hf => tt_absurd hc1 hf) (fun _ => ?_)
      refine c_exit ?_
      refine sq_x ?_
      injection h with h; subst h
      exact And.intro rfl (And.intro (sub_to hS (by kernel_rfl)) hH)
  · clear hS hH; intro e fr HF; obtain ⟨s, σ⟩ := fr
    rcases y1 with y1 | y1
    · obtain ⟨rfl, hS, hH⟩ := HF
      refine bk_e ?_
      refine sq_n ?_
      refine c_seq ?_
      refine c_region ?_
      refine q_seg 1 [(4, .bool true)] hS (by kernel_rfl) ?_; intro s hS
      refine x_nil ?_
      refine sq_n ?_
      refine c_ret ?_
      injection h with h; subst h
      exact end_W hH (r_tmp (v := .bool true) hS rfl r_nil) rfl (by kernel_rfl) (by simp [pureT, pureL, E_bool])
    · obtain ⟨rfl, HE⟩ := HF
      refine bk_r ?_
      refine sq_r ?_
      injection h with h; subst h; exact HE
end Go.Am
end
section
set_option maxRecDepth 100000
set_option maxHeartbeats 4000000
set_option linter.unusedVariables false
set_option linter.unusedSimpArgs false
namespace Go.Am
open Go.Proofs
noncomputable def B_impl_File_isValid (a0 : DFile) : Option Bool := (((if (decide ((a0.Lines.l.length : Int) ≤ 40)) = true then ((F_impl_areAll_string a0.Lines (T.fn 45 [] [])).bind fun y6 => (some y6)) else (some false)) : Option Bool).bind fun y1 => ((((F_impl_within a0.At 0 (a0.Lines.l.length : Int)).bind fun y5 => (if y5 = true then (if (decide (a0.At = 0)) = true then (some true) else (some (decide (a0.Mode = 1)))) else (some false))) : Option Bool).bind fun y2 => ((F_impl_IsName a0.Name).bind fun y3 => (if y3 = true then (if y1 = true then (if y2 = true then (if (decide (a0.Mode = 0)) = true then (some true) else ((F_impl_isMode a0.Mode).bind fun y4 => (some y4))) else (some false)) else (some false)) else (some false)))))
theorem u_impl_File_isValid (a0 : DFile) (r : Bool) (h : B_impl_File_isValid a0 = some r) : F_impl_File_isValid a0 = some r := by
  unfold B_impl_File_isValid at h
  refine semW_of E_bool_inj rfl rfl ok_91 rfl (all_cons (by kernel_rfl) all_nil) ?_
  intro σ0 s hS hH
  have hS := sub_to (L' := [(0, .agg (DFile.cells a0))]) hS (by kernel_rfl)
  refine c_seq ?_
  refine c_region ?_
  refine q_box (v := .agg (DFile.cells a0)) (cs := [.str a0.Name, (Sl.t (a0.Lines : Sl ByteArray)), .int .i64 a0.Mode, .int .i64 a0.At]) rfl hS hH rfl rfl (by kernel_rfl) ?_; intro b1 σ s hH hS
  refine q_seg 1 [(1, .ptr b1 0 0 4)] hS (by kernel_rfl) ?_; intro s hS
  refine x_nil ?_
  refine sq_n ?_
  refine c_seq ?_
  obtain ⟨y1, hy1, h⟩ := bind_some h
  refine codeQ_mono (Q := fun e fr => e = .normal ∧ Sub [(1, .ptr b1 0 0 4), (3, .bool y1)] fr.s ∧ Heap σ0 fr.σ [.box b1 [.str a0.Name, (Sl.t (a0.Lines : Sl ByteArray)), .int .i64 a0.Mode, .int .i64 a0.At]]) ?_ ?_
  · intro e fr HF; obtain ⟨s, σ⟩ := fr
    obtain ⟨rfl, hS, hH⟩ := HF
    refine sq_n ?_
    refine c_seq ?_
    obtain ⟨y2, hy2, h⟩ := bind_some h
    refine codeQ_mono (Q := fun e fr => e = .normal ∧ Sub [(1, .ptr b1 0 0 4), (3, .bool y1), (4, .bool y2)] fr.s ∧ Heap σ0 fr.σ [.box b1 [.str a0.Name, (Sl.t (a0.Lines : Sl ByteArray)), .int .i64 a0.Mode, .int .i64 a0.At]]) ?_ ?_
    · intro e fr HF; obtain ⟨s, σ⟩ := fr
      obtain ⟨rfl, hS, hH⟩ := HF
      refine sq_n ?_
      refine c_seq ?_
      refine c_region ?_
      refine q_seg 1 [(1, .ptr b1 0 0 4), (3, .bool y1), (4, .bool y2), (30, .ptr b1 0 0 1)] hS (by kernel_rfl) ?_; intro s hS
      refine q_load (v := .str a0.Name) 0 trivial rfl hS hH rfl rfl (by kernel_rfl) ?_; intro s hS
      obtain ⟨y3, hy3, h⟩ := bind_some h
      refine q_callF (a := []) (b := []) (xs := [.str a0.Name]) rfl hS rfl rfl hy3 ?_; intro s hS
      refine q_seg 1 [(33, .bool y3), (1, .ptr b1 0 0 4), (3, .bool y1), (4, .bool y2)] hS (by kernel_rfl) ?_; intro s hS
      by_cases hc1 : y3 = true
      · have h := it_pos hc1 h
        have hS := sub_bt hS hc1
        refine q_seg 3 [(36, .bool y1), (1, .ptr b1 0 0 4), (4, .bool y2)] hS (by kernel_rfl) ?_; intro s hS
        by_cases hc2 : y1 = true
        · have h := it_pos hc2 h
          have hS := sub_bt hS hc2
          refine q_seg 3 [(39, .bool y2), (1, .ptr b1 0 0 4)] hS (by kernel_rfl) ?_; intro s hS
          by_cases hc3 : y2 = true
          · have h := it_pos hc3 h
            have hS := sub_bt hS hc3
            refine q_seg 1 [(1, .ptr b1 0 0 4), (39, .bool true), (40, .ptr b1 0 2 1)] hS (by kernel_rfl) ?_; intro s hS
            refine q_load (v := .int .i64 a0.Mode) 0 trivial rfl hS hH rfl rfl (by kernel_rfl) ?_; intro s hS
            refine q_seg 2 [(43, .bool (decide (a0.Mode = 0))), (1, .ptr b1 0 0 4), (39, .bool true)] hS (by kernel_rfl) ?_; intro s hS
            by_cases hc4 : (decide (a0.Mode = 0)) = true
            · have h := it_pos hc4 h
              have hS := sub_bt hS hc4
              refine q_seg 6 [(2, .bool true)] hS (by kernel_rfl) ?_; intro s hS
              refine x_nil ?_
              refine sq_n ?_
              refine c_ret ?_
              injection h with h; subst h
              exact end_W hH (r_tmp (v := .bool true) hS rfl r_nil) rfl (by kernel_rfl) (by simp [pureT, pureL, E_bool])
            · have h := it_neg hc4 h
              have hS := sub_bt hS (tt_of hc4)
              refine q_seg 1 [(39, .bool true), (43, .bool false), (44, .ptr b1 0 2 1)] hS (by kernel_rfl) ?_; intro s hS
              refine q_load (v := .int .i64 a0.Mode) 0 trivial rfl hS hH rfl rfl (by kernel_rfl) ?_; intro s hS
              obtain ⟨y4, hy4, h⟩ := bind_some h
              refine q_callF (a := []) (b := []) (xs := [.int .i64 a0.Mode]) rfl hS rfl rfl hy4 ?_; intro s hS
              refine q_seg 3 [(2, .bool y4)] hS (by kernel_rfl) ?_; intro s hS
              refine x_nil ?_
              refine sq_n ?_
              refine c_ret ?_
              injection h with h; subst h
              exact end_W hH (r_tmp (v := .bool y4) hS rfl r_nil) rfl (by kernel_rfl) (by simp [pureT, pureL, E_bool])
          · have h := it_neg hc3 h
            have hS := sub_bt hS (tt_of hc3)
            refine q_seg 10 [(2, .bool false)] hS (by kernel_rfl) ?_; intro s hS
            refine x_nil ?_
            refine sq_n ?_
            refine c_ret ?_
            injection h with h; subst h
            exact end_W hH (r_tmp (v := .bool false) hS rfl r_nil) rfl (by kernel_rfl) (by simp [pureT, pureL, E_bool])
        · have h := it_neg hc2 h
          have hS := sub_bt hS (tt_of hc2)
          refine q_seg 13 [(2, .bool false)] hS (by kernel_rfl) ?_; intro s hS
          refine x_nil ?_
          refine sq_n ?_
          refine c_ret ?_
          injection h with h; subst h
          exact end_W hH (r_tmp (v := .bool false) hS rfl r_nil) rfl (by kernel_rfl) (by simp [pureT, pureL, E_bool])
      · have h := it_neg hc1 h
        have hS := sub_bt hS (tt_of hc1)
        refine q_seg 16 [(2, .bool false)] hS (by kernel_rfl) ?_; intro s hS
        refine x_nil ?_
        refine sq_n ?_
        refine c_ret ?_
        injection h with h; subst h
        exact end_W hH (r_tmp (v := .bool false) hS rfl r_nil) rfl (by kernel_rfl) (by simp [pureT, pureL, E_bool])
    · clear h; have h := hy2
      refine c_region ?_
      refine q_seg 1 [(1, .ptr b1 0 0 4), (3, .bool y1), (14, .ptr b1 0 3 1)] hS (by kernel_rfl) ?_; intro s hS
      refine q_load (v := .int .i64 a0.At) 0 trivial rfl hS hH rfl rfl (by kernel_rfl) ?_; intro s hS
      refine q_seg 1 [(1, .ptr b1 0 0 4), (3, .bool y1), (15, .int .i64 a0.At), (16, .ptr b1 0 1 1)] hS (by kernel_rfl) ?_; intro s hS
      refine q_load (v := (Sl.t (a0.Lines : Sl ByteArray))) 0 trivial rfl hS hH rfl rfl (by kernel_rfl) ?_; intro s hS
      refine q_seg 1 [(1, .ptr b1 0 0 4), (3, .bool y1), (15, .int .i64 a0.At), (18, .int .i64 (a0.Lines.l.length : Int))] hS (by kernel_rfl) ?_; intro s hS
      obtain ⟨y5, hy5, h⟩ := bind_some h
      refine q_callF (a := []) (b := []) (xs := [.int .i64 a0.At, .int .i64 0, .int .i64 (a0.Lines.l.length : Int)]) rfl hS rfl rfl hy5 ?_; intro s hS
      refine q_seg 1 [(20, .bool y5), (1, .ptr b1 0 0 4), (3, .bool y1)] hS (by kernel_rfl) ?_; intro s hS
      by_cases hc5 : y5 = true
      · have h := it_pos hc5 h
        have hS := sub_bt hS hc5
        refine q_seg 1 [(1, .ptr b1 0 0 4), (3, .bool y1), (20, .bool true), (21, .ptr b1 0 3 1)] hS (by kernel_rfl) ?_; intro s hS
        refine q_load (v := .int .i64 a0.At) 0 trivial rfl hS hH rfl rfl (by kernel_rfl) ?_; intro s hS
        refine q_seg 2 [(24, .bool (decide (a0.At = 0))), (1, .ptr b1 0 0 4), (3, .bool y1), (20, .bool true)] hS (by kernel_rfl) ?_; intro s hS
        by_cases hc6 : (decide (a0.At = 0)) = true
        · have h := it_pos hc6 h
          have hS := sub_bt hS hc6
          refine q_seg 6 [(1, .ptr b1 0 0 4), (3, .bool y1), (4, .bool true)] hS (by kernel_rfl) ?_; intro s hS
          refine x_nil ?_
          injection h with h; subst h
          exact And.intro rfl (And.intro (sub_to hS (by kernel_rfl)) hH)
        · have h := it_neg hc6 h
          have hS := sub_bt hS (tt_of hc6)
          refine q_seg 1 [(1, .ptr b1 0 0 4), (3, .bool y1), (20, .bool true), (24, .bool false), (25, .ptr b1 0 2 1)] hS (by kernel_rfl) ?_; intro s hS
          refine q_load (v := .int .i64 a0.Mode) 0 trivial rfl hS hH rfl rfl (by kernel_rfl) ?_; intro s hS
          refine q_seg 4 [(1, .ptr b1 0 0 4), (3, .bool y1), (4, .bool (decide (a0.Mode = 1)))] hS (by kernel_rfl) ?_; intro s hS
          refine x_nil ?_
          injection h with h; subst h
          exact And.intro rfl (And.intro (sub_to hS (by kernel_rfl)) hH)
      · have h := it_neg hc5 h
        have hS := sub_bt hS (tt_of hc5)
        refine q_seg 10 [(1, .ptr b1 0 0 4), (3, .bool y1), (4, .bool false)] hS (by kernel_rfl) ?_; intro s hS
        refine x_nil ?_
        injection h with h; subst h
        exact And.intro rfl (And.intro (sub_to hS (by kernel_rfl)) hH)
  · clear h; have h := hy1
    refine c_region ?_
    refine q_seg 1 [(1, .ptr b1 0 0 4), (5, .ptr b1 0 1 1)] hS (by kernel_rfl) ?_; intro s hS
    refine q_load (v := (Sl.t (a0.Lines : Sl ByteArray))) 0 trivial rfl hS hH rfl rfl (by kernel_rfl) ?_; intro s hS
    refine q_seg 3 [(9, .bool (decide ((a0.Lines.l.length : Int) ≤ 40))), (1, .ptr b1 0 0 4)] hS (by kernel_rfl) ?_; intro s hS
    by_cases hc7 : (decide ((a0.Lines.l.length : Int) ≤ 40)) = true
    · have h := it_pos hc7 h
      have hS := sub_bt hS hc7
      refine q_seg 1 [(1, .ptr b1 0 0 4), (9, .bool true), (10, .ptr b1 0 1 1)] hS (by kernel_rfl) ?_; intro s hS
      refine q_load (v := (Sl.t (a0.Lines : Sl ByteArray))) 0 trivial rfl hS hH rfl rfl (by kernel_rfl) ?_; intro s hS
      obtain ⟨y6, hy6, h⟩ := bind_some h
      refine q_callF (a := []) (b := []) (xs := [(Sl.t (a0.Lines : Sl ByteArray)), T.fn 45 [] []]) rfl hS rfl rfl hy6 ?_; intro s hS
      refine q_seg 2 [(1, .ptr b1 0 0 4), (3, .bool y6)] hS (by kernel_rfl) ?_; intro s hS
      refine x_nil ?_
      injection h with h; subst h
      exact And.intro rfl (And.intro (sub_to hS (by kernel_rfl)) hH)
    · have h := it_neg hc7 h
      have hS := sub_bt hS (tt_of hc7)
      refine q_seg 5 [(1, .ptr b1 0 0 4), (3, .bool false)] hS (by kernel_rfl) ?_; intro s hS
      refine x_nil ?_
      injection h with h; subst h
      exact And.intro rfl (And.intro (sub_to hS (by kernel_rfl)) hH)
end Go.Am
end
section
set_option maxRecDepth 100000
set_option maxHeartbeats 4000000
set_option linter.unusedVariables false
set_option linter.unusedSimpArgs false
namespace Go.Am
open Go.Proofs
noncomputable def B_impl_isSorted_File (a0 : (Sl DFile)) (a1 : T) : Option Bool := (if flat1 a1 = true then ((loopO (S := Int) (R := (Unit ⊕ Bool)) (fun st1 => (if (decide (st1 < (a0.l.length : Int))) = true then ((elt a0 (IntKind.i64.wrap (st1 - 1))).bind fun y2 => ((callV Try.prog md ext E_str a1 [.agg (DFile.cells y2)]).bind fun y3 => ((elt a0 st1).bind fun y4 => ((callV Try.prog md ext E_str a1 [.agg (DFile.cells y4)]).bind fun y5 => (if (!Op.bytesLess y3.toList y5.toList) = true then (some (.inr (.inr false))) else (some (.inl (IntKind.i64.wrap (st1 + 1))))))))) else (some (.inr (.inl ()))))) 1).bind fun y1 => (Sum.elim (fun y1 => (some true)) (fun y1 => (some y1)) y1)) else none)
theorem u_impl_isSorted_File (a0 : (Sl DFile)) (a1 : T) (r : Bool) (h : B_impl_isSorted_File a0 a1 = some r) : F_impl_isSorted_File a0 a1 = some r := by
  unfold B_impl_isSorted_File at h
  obtain ⟨hf_a1, h⟩ := if_some h
  refine semW_of E_bool_inj rfl rfl ok_92 rfl (all_cons (by kernel_rfl) (all_cons (flat3_of hf_a1) all_nil)) ?_
  intro σ0 s hS hH
  have hS := sub_to (L' := [(0, (Sl.t (a0 : Sl DFile))), (1, a1)]) hS (by kernel_rfl)
  refine c_seq ?_
  refine c_region ?_
  refine q_seg 1 [(0, (Sl.t (a0 : Sl DFile))), (1, a1)] hS (by kernel_rfl) ?_; intro s hS
  refine x_nil ?_
  refine sq_n ?_
  refine c_seq ?_
  refine c_seq ?_
  refine c_region ?_
  refine q_seg 1 [(0, (Sl.t (a0 : Sl DFile))), (1, a1), (5, .int .i64 1)] hS (by kernel_rfl) ?_; intro s hS
  refine x_nil ?_
  refine sq_n ?_
  refine c_block ?_
  obtain ⟨y1, hy1, h⟩ := bind_some h
  refine c_loop (fun (st1 : Int) (fr : Fr) => Sub [(0, (Sl.t (a0 : Sl DFile))), (1, a1), (5, .int .i64 st1)] fr.s ∧ Heap σ0 fr.σ []) (fun (y1 : (Unit ⊕ Bool)) (e : AExit) (fr : Fr) => (Sum.elim (fun y => e = (.exit 0) ∧ Sub [] fr.s ∧ Heap σ0 fr.σ []) (fun y => e = .ret ∧ endW Try.prog (Try.f92.results.toList) σ0 (E_bool y) .ret fr)) y1) hy1 (And.intro (sub_to hS (by kernel_rfl)) hH) ?_ ?_
  · clear h hy1 hS hH; clear y1; intro st1 x fr h HI; obtain ⟨s, σ⟩ := fr; obtain ⟨hS, hH⟩ := HI
    refine c_seq ?_
    refine c_seq ?_
    refine c_region ?_
    refine q_seg 4 [(0, (Sl.t (a0 : Sl DFile))), (1, a1), (5, .int .i64 st1), (9, .bool (decide (st1 < (a0.l.length : Int))))] hS (by kernel_rfl) ?_; intro s hS
    refine x_nil ?_
    refine sq_n ?_
    by_cases hc1 : (decide (st1 < (a0.l.length : Int))) = true
    · have h := it_pos hc1 h
      refine c_cond hS rfl (fun _ => ?_) (fun hf => ff_absurd hc1 hf)
      refine c_skip ?_
      refine sq_n ?_
      refine c_seq ?_
      refine c_block ?_
      refine c_seq ?_
      refine c_draw (by kernel_rfl) hH ?_; intro mb σ hH
      refine q_seg 4 [(0, (Sl.t (a0 : Sl DFile))), (1, a1), (5, .int .i64 st1), (12, a1), (13, (Sl.t (a0 : Sl DFile))), (15, .int .i64 (IntKind.i64.wrap (st1 - 1)))] hS (by kernel_rfl) ?_; intro s hS
      obtain ⟨y2, hy2, h⟩ := bind_some h
      refine q_elt (sl := a0) (e := 52) [.str y2.Name, (Sl.t (y2.Lines : Sl ByteArray)), .int .i64 y2.Mode, .int .i64 y2.At] rfl hS rfl rfl (by kernel_rfl) (by kernel_rfl) hy2 rfl ?_; intro rest1 s hS
      refine q_seg 1 [(0, (Sl.t (a0 : Sl DFile))), (1, a1), (5, .int .i64 st1), (12, a1), (17, .agg (DFile.cells y2))] hS (by kernel_rfl) ?_; intro s hS
      obtain ⟨y3, hy3, h⟩ := bind_some h
      refine q_callP (p := a1) (xs := [.agg (DFile.cells y2)]) rfl hS rfl rfl hy3 ?_; intro s hS
      refine q_seg 3 [(0, (Sl.t (a0 : Sl DFile))), (1, a1), (5, .int .i64 st1), (18, .str y3), (19, a1), (20, (Sl.t (a0 : Sl DFile))), (21, .int .i64 st1)] hS (by kernel_rfl) ?_; intro s hS
      obtain ⟨y4, hy4, h⟩ := bind_some h
      refine q_elt (sl := a0) (e := 52) [.str y4.Name, (Sl.t (y4.Lines : Sl ByteArray)), .int .i64 y4.Mode, .int .i64 y4.At] rfl hS rfl rfl (by kernel_rfl) (by kernel_rfl) hy4 rfl ?_; intro rest2 s hS
      refine q_seg 1 [(0, (Sl.t (a0 : Sl DFile))), (1, a1), (5, .int .i64 st1), (18, .str y3), (19, a1), (23, .agg (DFile.cells y4))] hS (by kernel_rfl) ?_; intro s hS
      obtain ⟨y5, hy5, h⟩ := bind_some h
      refine q_callP (p := a1) (xs := [.agg (DFile.cells y4)]) rfl hS rfl rfl hy5 ?_; intro s hS
      refine q_seg 1 [(0, (Sl.t (a0 : Sl DFile))), (1, a1), (5, .int .i64 st1), (25, .bool (!Op.bytesLess y3.toList y5.toList))] hS (by kernel_rfl) ?_; intro s hS
      refine x_nil ?_
      refine sq_n ?_
      by_cases hc2 : (!Op.bytesLess y3.toList y5.toList) = true
      · have h := it_pos hc2 h
        refine c_cond hS rfl (fun _ => ?_) (fun hf => ff_absurd hc2 hf)
        refine c_seq ?_
        refine c_region ?_
        refine q_seg 1 [(4, .bool false)] hS (by kernel_rfl) ?_; intro s hS
        refine x_nil ?_
        refine sq_n ?_
        refine c_ret ?_
        refine bk_r ?_
        refine sq_r ?_
        injection h with h; subst h
        exact And.intro rfl (end_W hH (r_tmp (v := .bool false) hS rfl r_nil) rfl (by kernel_rfl) (by simp [pureT, pureL, E_bool]))
      · have h := it_neg hc2 h
        refine c_cond hS rfl (fun hf => tt_absurd hc2 hf) (fun _ => ?_)
        refine c_skip ?_
        refine bk_n ?_
        refine sq_n ?_
        refine c_region ?_
        refine q_seg 3 [(0, (Sl.t (a0 : Sl DFile))), (1, a1), (5, .int .i64 (IntKind.i64.wrap (st1 + 1)))] hS (by kernel_rfl) ?_; intro s hS
        refine x_nil ?_
        injection h with h; subst h
        exact And.intro (sub_to hS (by kernel_rfl)) hH
    · have h := it_neg hc1 h
      refine c_cond hS rfl (fun hf => tt_absurd hc1 hf) (fun _ => ?_)
      refine c_exit ?_
      refine sq_x ?_
      injection h with h; subst h
      exact And.intro rfl (And.intro (sub_to hS (by kernel_rfl)) hH)
  · clear hS hH; intro e fr HF; obtain ⟨s, σ⟩ := fr
    rcases y1 with y1 | y1
    · obtain ⟨rfl, hS, hH⟩ := HF
      refine bk_e ?_
      refine sq_n ?_
      refine c_seq ?_
      refine c_region ?_
      refine q_seg 1 [(4, .bool true)] hS (by kernel_rfl) ?_; intro s hS
      refine x_nil ?_
      refine sq_n ?_
      refine c_ret ?_
      injection h with h; subst h
      exact end_W hH (r_tmp (v := .bool true) hS rfl r_nil) rfl (by kernel_rfl) (by simp [pureT, pureL, E_bool])
    · obtain ⟨rfl, HE⟩ := HF
      refine bk_r ?_
      refine sq_r ?_
      injection h with h; subst h; exact HE
end Go.Am
end
section
set_option maxRecDepth 100000
set_option maxHeartbeats 4000000
set_option linter.unusedVariables false
set_option linter.unusedSimpArgs false
namespace Go.Am
open Go.Proofs
noncomputable def B_slices_Clone_string (a0 : (Sl ByteArray)) : Option (Sl ByteArray) := (if a0.z = true then (some ⟨true, []⟩) else ((appS 16 (⟨false, []⟩ : Sl ByteArray) a0).bind fun y1 => (some y1)))
theorem u_slices_Clone_string (a0 : (Sl ByteArray)) (r : (Sl ByteArray)) (h : B_slices_Clone_string a0 = some r) : F_slices_Clone_string a0 = some r := by
  unfold B_slices_Clone_string at h
  refine semO_of rfl rfl ok_93 rfl (all_cons (by kernel_rfl) all_nil) ?_
  intro σ0 s hS hH
  have hS := sub_to (L' := [(0, (Sl.t (a0 : Sl ByteArray)))]) hS (by kernel_rfl)
  refine c_seq ?_
  refine c_region ?_
  refine q_seg 1 [(0, (Sl.t (a0 : Sl ByteArray)))] hS (by kernel_rfl) ?_; intro s hS
  refine x_nil ?_
  refine sq_n ?_
  refine c_seq ?_
  refine c_seq ?_
  refine c_region ?_
  refine q_seg 2 [(0, (Sl.t (a0 : Sl ByteArray))), (4, .bool a0.z)] hS (by kernel_rfl) ?_; intro s hS
  refine x_nil ?_
  refine sq_n ?_
  by_cases hc1 : a0.z = true
  · have h := it_pos hc1 h
    refine c_cond hS rfl (fun _ => ?_) (fun hf => ff_absurd hc1 hf)
    refine c_seq ?_
    refine c_region ?_
    refine q_seg 1 [(2, (Sl.t (⟨true, []⟩ : Sl ByteArray)))] hS (by kernel_rfl) ?_; intro s hS
    refine x_nil ?_
    refine sq_n ?_
    refine c_ret ?_
    refine sq_r ?_
    injection h with h; subst h
    have hH := Heap.addNil hH true 1
    exact end_Ow [(T.row true 0 [])] [] (r_tmp (v := (Sl.t (⟨true, []⟩ : Sl ByteArray))) hS rfl r_nil) (by kernel_rfl) rfl hH (by kernel_rfl)
  · have h := it_neg hc1 h
    refine c_cond hS rfl (fun hf => tt_absurd hc1 hf) (fun _ => ?_)
    refine c_skip ?_
    refine sq_n ?_
    refine c_seq ?_
    refine c_region ?_
    refine q_bs0 (e := 9) (sz := 1) (z := true) (zc := [.str ⟨#[]⟩]) rfl (by exact trivial) rfl hS hH (by kernel_rfl) (by kernel_rfl) (by kernel_rfl) (by kernel_rfl) ?_; intro t1 σ s ht1 hH hS
    have hH : Heap σ0 σ [.own true 1 t1 (Sl.t (⟨false, []⟩ : Sl ByteArray))] := hH
    refine q_seg 1 [(5, t1), (6, (Sl.t (a0 : Sl ByteArray)))] hS (by kernel_rfl) ?_; intro s hS
    obtain ⟨y1, hy1, h⟩ := bind_some h
    refine q_appR (z := true) (t1 := t1) (a := (⟨false, []⟩ : Sl ByteArray)) (b := a0) (e := 9) (by_ := 16) (zc := [.str ⟨#[]⟩]) rfl hS hH rfl rfl (by kernel_rfl) (by kernel_rfl) (by kernel_rfl) (by kernel_rfl) (by kernel_rfl) (by kernel_rfl) hy1 ?_; intro t2 σ s ht2 hH hS
    refine q_seg 1 [(2, t2)] hS (by kernel_rfl) ?_; intro s hS
    refine x_nil ?_
    refine sq_n ?_
    refine c_ret ?_
    injection h with h; subst h
    exact end_Ow [t2] [] (r_tmp (v := t2) hS rfl r_nil) (by kernel_rfl) rfl hH (by kernel_rfl)
end Go.Am
end
section
set_option maxRecDepth 100000
set_option maxHeartbeats 4000000
set_option linter.unusedVariables false
set_option linter.unusedSimpArgs false
namespace Go.Am
open Go.Proofs
noncomputable def B_laws_szFile (a0 : DFile) (a1 : Int) : Option Int := (if (decide ((IntKind.i64.wrap (a1 - (a0.Name.size : Int))) < 0)) = true then (some (-1)) else ((F_laws_szStringS a0.Lines (IntKind.i64.wrap (a1 - (a0.Name.size : Int)))).bind fun y1 => (if (decide (y1 < 0)) = true then (some (-1)) else (some y1))))
theorem u_laws_szFile (a0 : DFile) (a1 : Int) (r : Int) (h : B_laws_szFile a0 a1 = some r) : F_laws_szFile a0 a1 = some r := by
  unfold B_laws_szFile at h
  refine semW_of E_i64_inj rfl rfl ok_94 rfl (all_cons (by kernel_rfl) (all_cons (by kernel_rfl) all_nil)) ?_
  intro σ0 s hS hH
  have hS := sub_to (L' := [(0, .agg (DFile.cells a0)), (1, .int .i64 a1)]) hS (by kernel_rfl)
  refine c_seq ?_
  refine c_region ?_
  refine q_box (v := .agg (DFile.cells a0)) (cs := [.str a0.Name, (Sl.t (a0.Lines : Sl ByteArray)), .int .i64 a0.Mode, .int .i64 a0.At]) rfl hS hH rfl rfl (by kernel_rfl) ?_; intro b1 σ s hH hS
  refine q_seg 1 [(1, .int .i64 a1), (2, .ptr b1 0 0 4)] hS (by kernel_rfl) ?_; intro s hS
  refine x_nil ?_
  refine sq_n ?_
  refine c_seq ?_
  refine c_region ?_
  refine q_seg 2 [(2, .ptr b1 0 0 4), (5, .int .i64 a1), (6, .ptr b1 0 0 1)] hS (by kernel_rfl) ?_; intro s hS
  refine q_load (v := .str a0.Name) 0 trivial rfl hS hH rfl rfl (by kernel_rfl) ?_; intro s hS
  refine q_seg 3 [(1, .int .i64 (IntKind.i64.wrap (a1 - (a0.Name.size : Int)))), (2, .ptr b1 0 0 4)] hS (by kernel_rfl) ?_; intro s hS
  refine x_nil ?_
  refine sq_n ?_
  refine c_seq ?_
  refine c_seq ?_
  refine c_region ?_
  refine q_seg 2 [(1, .int .i64 (IntKind.i64.wrap (a1 - (a0.Name.size : Int)))), (2, .ptr b1 0 0 4), (11, .bool (decide ((IntKind.i64.wrap (a1 - (a0.Name.size : Int))) < 0)))] hS (by kernel_rfl) ?_; intro s hS
  refine x_nil ?_
  refine sq_n ?_
  by_cases hc1 : (decide ((IntKind.i64.wrap (a1 - (a0.Name.size : Int))) < 0)) = true
  · have h := it_pos hc1 h
    refine c_cond hS rfl (fun _ => ?_) (fun hf => ff_absurd hc1 hf)
    refine c_seq ?_
    refine c_region ?_
    refine q_seg 1 [(4, .int .i64 (-1))] hS (by kernel_rfl) ?_; intro s hS
    refine x_nil ?_
    refine sq_n ?_
    refine c_ret ?_
    refine sq_r ?_
    injection h with h; subst h
    exact end_W hH (r_tmp (v := .int .i64 (-1)) hS rfl r_nil) rfl (by kernel_rfl) (by simp [pureT, pureL, E_i64])
  · have h := it_neg hc1 h
    refine c_cond hS rfl (fun hf => tt_absurd hc1 hf) (fun _ => ?_)
    refine c_skip ?_
    refine sq_n ?_
    refine c_seq ?_
    refine c_region ?_
    refine q_seg 1 [(1, .int .i64 (IntKind.i64.wrap (a1 - (a0.Name.size : Int)))), (12, .ptr b1 0 1 1)] hS (by kernel_rfl) ?_; intro s hS
    refine q_load (v := (Sl.t (a0.Lines : Sl ByteArray))) 0 trivial rfl hS hH rfl rfl (by kernel_rfl) ?_; intro s hS
    refine q_seg 1 [(13, (Sl.t (a0.Lines : Sl ByteArray))), (14, .int .i64 (IntKind.i64.wrap (a1 - (a0.Name.size : Int))))] hS (by kernel_rfl) ?_; intro s hS
    obtain ⟨y1, hy1, h⟩ := bind_some h
    refine q_callF (a := []) (b := []) (xs := [(Sl.t (a0.Lines : Sl ByteArray)), .int .i64 (IntKind.i64.wrap (a1 - (a0.Name.size : Int)))]) rfl hS rfl rfl hy1 ?_; intro s hS
    refine q_seg 1 [(1, .int .i64 y1)] hS (by kernel_rfl) ?_; intro s hS
    refine x_nil ?_
    refine sq_n ?_
    refine c_seq ?_
    refine c_seq ?_
    refine c_region ?_
    refine q_seg 2 [(1, .int .i64 y1), (17, .bool (decide (y1 < 0)))] hS (by kernel_rfl) ?_; intro s hS
    refine x_nil ?_
    refine sq_n ?_
    by_cases hc2 : (decide (y1 < 0)) = true
    · have h := it_pos hc2 h
      refine c_cond hS rfl (fun _ => ?_) (fun hf => ff_absurd hc2 hf)
      refine c_seq ?_
      refine c_region ?_
      refine q_seg 1 [(4, .int .i64 (-1))] hS (by kernel_rfl) ?_; intro s hS
      refine x_nil ?_
      refine sq_n ?_
      refine c_ret ?_
      refine sq_r ?_
      injection h with h; subst h
      exact end_W hH (r_tmp (v := .int .i64 (-1)) hS rfl r_nil) rfl (by kernel_rfl) (by simp [pureT, pureL, E_i64])
    · have h := it_neg hc2 h
      refine c_cond hS rfl (fun hf => tt_absurd hc2 hf) (fun _ => ?_)
      refine c_skip ?_
      refine sq_n ?_
      refine c_seq ?_
      refine c_region ?_
      refine q_seg 2 [(4, .int .i64 y1)] hS (by kernel_rfl) ?_; intro s hS
      refine x_nil ?_
      refine sq_n ?_
      refine c_ret ?_
      injection h with h; subst h
      exact end_W hH (r_tmp (v := .int .i64 y1) hS rfl r_nil) rfl (by kernel_rfl) (by simp [pureT, pureL, E_i64])
end Go.Am
end
section
set_option maxRecDepth 100000
set_option maxHeartbeats 4000000
set_option linter.unusedVariables false
set_option linter.unusedSimpArgs false
namespace Go.Am
open Go.Proofs
noncomputable def B_spec_l21Texts (a0 : (Sl ByteArray)) : Option (Sl ByteArray) := ((appS 16 (⟨false, []⟩ : Sl ByteArray) a0).bind fun y1 => (some y1))
theorem u_spec_l21Texts (a0 : (Sl ByteArray)) (r : (Sl ByteArray)) (h : B_spec_l21Texts a0 = some r) : F_spec_l21Texts a0 = some r := by
  unfold B_spec_l21Texts at h
  refine semO_of rfl rfl ok_95 rfl (all_cons (by kernel_rfl) all_nil) ?_
  intro σ0 s hS hH
  have hS := sub_to (L' := [(0, (Sl.t (a0 : Sl ByteArray)))]) hS (by kernel_rfl)
  refine c_seq ?_
  refine c_region ?_
  refine q_seg 1 [(0, (Sl.t (a0 : Sl ByteArray)))] hS (by kernel_rfl) ?_; intro s hS
  refine x_nil ?_
  refine sq_n ?_
  refine c_seq ?_
  refine c_region ?_
  refine q_bs0 (e := 9) (sz := 1) (z := true) (zc := [.str ⟨#[]⟩]) rfl (by exact trivial) rfl hS hH (by kernel_rfl) (by kernel_rfl) (by kernel_rfl) (by kernel_rfl) ?_; intro t1 σ s ht1 hH hS
  have hH : Heap σ0 σ [.own true 1 t1 (Sl.t (⟨false, []⟩ : Sl ByteArray))] := hH
  refine q_seg 1 [(3, t1), (4, (Sl.t (a0 : Sl ByteArray)))] hS (by kernel_rfl) ?_; intro s hS
  obtain ⟨y1, hy1, h⟩ := bind_some h
  refine q_appR (z := true) (t1 := t1) (a := (⟨false, []⟩ : Sl ByteArray)) (b := a0) (e := 9) (by_ := 16) (zc := [.str ⟨#[]⟩]) rfl hS hH rfl rfl (by kernel_rfl) (by kernel_rfl) (by kernel_rfl) (by kernel_rfl) (by kernel_rfl) (by kernel_rfl) hy1 ?_; intro t2 σ s ht2 hH hS
  refine q_seg 1 [(2, t2)] hS (by kernel_rfl) ?_; intro s hS
  refine x_nil ?_
  refine sq_n ?_
  refine c_ret ?_
  injection h with h; subst h
  exact end_Ow [t2] [] (r_tmp (v := t2) hS rfl r_nil) (by kernel_rfl) rfl hH (by kernel_rfl)
end Go.Am
end
section
set_option maxRecDepth 100000
set_option maxHeartbeats 4000000
set_option linter.unusedVariables false
set_option linter.unusedSimpArgs false
namespace Go.Am
open Go.Proofs
noncomputable def B_laws_toFile (a0 : DFile) : Option DFile := ((F_laws_toStringS a0.Lines).bind fun y1 => (some (⟨a0.Name, y1, a0.Mode, a0.At⟩ : DFile)))
theorem u_laws_toFile (a0 : DFile) (r : DFile) (h : B_laws_toFile a0 = some r) : F_laws_toFile a0 = some r := by
  unfold B_laws_toFile at h
  refine semO_of rfl rfl ok_96 rfl (all_cons (by kernel_rfl) all_nil) ?_
  intro σ0 s hS hH
  have hS := sub_to (L' := [(0, .agg (DFile.cells a0))]) hS (by kernel_rfl)
  refine c_seq ?_
  refine c_region ?_
  refine q_box (v := .agg (DFile.cells a0)) (cs := [.str a0.Name, (Sl.t (a0.Lines : Sl ByteArray)), .int .i64 a0.Mode, .int .i64 a0.At]) rfl hS hH rfl rfl (by kernel_rfl) ?_; intro b1 σ s hH hS
  refine q_alloc (z := [.str ⟨#[]⟩, (Sl.t (⟨true, []⟩ : Sl ByteArray)), .int .i64 0, .int .i64 0]) rfl hS hH (by kernel_rfl) ?_; intro b2 σ s hH hS
  refine x_nil ?_
  refine sq_n ?_
  refine c_seq ?_
  refine c_region ?_
  refine q_alloc (z := [.str ⟨#[]⟩, (Sl.t (⟨true, []⟩ : Sl ByteArray)), .int .i64 0, .int .i64 0]) rfl hS hH (by kernel_rfl) ?_; intro b3 σ s hH hS
  refine x_nil ?_
  refine sq_n ?_
  refine c_seq ?_
  refine c_region ?_
  refine q_seg 1 [(1, .ptr b1 0 0 4), (2, .ptr b2 0 0 4), (3, .ptr b3 0 0 4), (4, .ptr b1 0 0 1)] hS (by kernel_rfl) ?_; intro s hS
  refine q_load (v := .str a0.Name) 2 trivial rfl hS hH rfl rfl (by kernel_rfl) ?_; intro s hS
  refine q_seg 1 [(1, .ptr b1 0 0 4), (2, .ptr b2 0 0 4), (3, .ptr b3 0 0 4), (5, .str a0.Name), (6, .ptr b3 0 0 1)] hS (by kernel_rfl) ?_; intro s hS
  refine q_store (v := .str a0.Name) (cs := [.str a0.Name]) (cells' := [.str a0.Name, (Sl.t (⟨true, []⟩ : Sl ByteArray)), .int .i64 0, .int .i64 0]) rfl hS hH rfl rfl rfl (by kernel_rfl) (by kernel_rfl) ?_; intro σ s hH hS
  refine x_nil ?_
  refine sq_n ?_
  refine c_seq ?_
  refine c_region ?_
  refine q_seg 1 [(1, .ptr b1 0 0 4), (2, .ptr b2 0 0 4), (3, .ptr b3 0 0 4), (7, .ptr b1 0 1 1)] hS (by kernel_rfl) ?_; intro s hS
  refine q_load (v := (Sl.t (a0.Lines : Sl ByteArray))) 2 trivial rfl hS hH rfl rfl (by kernel_rfl) ?_; intro s hS
  obtain ⟨y1, hy1, h⟩ := bind_some h
  refine q_callO (ents := []) (z := false) (ts := [(Sl.t (a0.Lines : Sl ByteArray))]) (vs := [(Sl.t (a0.Lines : Sl ByteArray))]) rfl rfl hS rfl rfl rfl hH (HL.leaf (fun σ d => hold_pure σ d _) HL.nil) hy1 ?_; intro hs σ s hl hH hS
  obtain ⟨t1, rfl⟩ := len1 hl
  have hH : Heap σ0 σ [.own true 1 t1 (Sl.t (y1 : Sl ByteArray)), .box b3 [.str a0.Name, (Sl.t (⟨true, []⟩ : Sl ByteArray)), .int .i64 0, .int .i64 0], .box b2 [.str ⟨#[]⟩, (Sl.t (⟨true, []⟩ : Sl ByteArray)), .int .i64 0, .int .i64 0], .box b1 [.str a0.Name, (Sl.t (a0.Lines : Sl ByteArray)), .int .i64 a0.Mode, .int .i64 a0.At]] := hH
  have ht1 : IsOne t1 := Heap.one hH
  refine q_seg 1 [(1, .ptr b1 0 0 4), (2, .ptr b2 0 0 4), (3, .ptr b3 0 0 4), (9, t1), (10, .ptr b3 0 1 1)] hS (by kernel_rfl) ?_; intro s hS
  have hH : Heap σ0 σ [.box b3 [.str a0.Name, (Sl.t (⟨true, []⟩ : Sl ByteArray)), .int .i64 0, .int .i64 0], .own true 1 t1 (Sl.t (y1 : Sl ByteArray)), .box b2 [.str ⟨#[]⟩, (Sl.t (⟨true, []⟩ : Sl ByteArray)), .int .i64 0, .int .i64 0], .box b1 [.str a0.Name, (Sl.t (a0.Lines : Sl ByteArray)), .int .i64 a0.Mode, .int .i64 a0.At]] := hH.sel [1, 0, 2, 3] rfl (by kernel_rfl)
  refine q_store (v := t1) (cs := [t1]) (cells' := [.str a0.Name, t1, .int .i64 0, .int .i64 0]) rfl hS hH rfl rfl (by simp [ht1.1, ht1.2]) (by simp [ht1.1, ht1.2]) (by kernel_rfl) ?_; intro σ s hH hS
  refine x_nil ?_
  refine sq_n ?_
  refine c_seq ?_
  refine c_region ?_
  refine q_seg 1 [(1, .ptr b1 0 0 4), (2, .ptr b2 0 0 4), (3, .ptr b3 0 0 4), (11, .ptr b1 0 2 1)] hS (by kernel_rfl) ?_; intro s hS
  refine q_load (v := .int .i64 a0.Mode) 3 trivial rfl hS hH rfl rfl (by kernel_rfl) ?_; intro s hS
  refine q_seg 1 [(1, .ptr b1 0 0 4), (2, .ptr b2 0 0 4), (3, .ptr b3 0 0 4), (12, .int .i64 a0.Mode), (13, .ptr b3 0 2 1)] hS (by kernel_rfl) ?_; intro s hS
  refine q_store (v := .int .i64 a0.Mode) (cs := [.int .i64 a0.Mode]) (cells' := [.str a0.Name, t1, .int .i64 a0.Mode, .int .i64 0]) rfl hS hH rfl rfl rfl (by kernel_rfl) (by kernel_rfl) ?_; intro σ s hH hS
  refine x_nil ?_
  refine sq_n ?_
  refine c_seq ?_
  refine c_region ?_
  refine q_seg 1 [(2, .ptr b2 0 0 4), (3, .ptr b3 0 0 4), (14, .ptr b1 0 3 1)] hS (by kernel_rfl) ?_; intro s hS
  refine q_load (v := .int .i64 a0.At) 3 trivial rfl hS hH rfl rfl (by kernel_rfl) ?_; intro s hS
  refine q_seg 1 [(2, .ptr b2 0 0 4), (3, .ptr b3 0 0 4), (15, .int .i64 a0.At), (16, .ptr b3 0 3 1)] hS (by kernel_rfl) ?_; intro s hS
  refine q_store (v := .int .i64 a0.At) (cs := [.int .i64 a0.At]) (cells' := [.str a0.Name, t1, .int .i64 a0.Mode, .int .i64 a0.At]) rfl hS hH rfl rfl rfl (by kernel_rfl) (by kernel_rfl) ?_; intro σ s hH hS
  refine x_nil ?_
  refine sq_n ?_
  refine c_seq ?_
  refine c_region ?_
  refine q_load (v := .agg [.str a0.Name, t1, .int .i64 a0.Mode, .int .i64 a0.At]) 0 trivial rfl hS hH rfl rfl (by kernel_rfl) ?_; intro s hS
  have hH : Heap σ0 σ [.box b2 [.str ⟨#[]⟩, (Sl.t (⟨true, []⟩ : Sl ByteArray)), .int .i64 0, .int .i64 0], .box b3 [.str a0.Name, t1, .int .i64 a0.Mode, .int .i64 a0.At], .own true 1 t1 (Sl.t (y1 : Sl ByteArray)), .box b1 [.str a0.Name, (Sl.t (a0.Lines : Sl ByteArray)), .int .i64 a0.Mode, .int .i64 a0.At]] := hH.sel [2, 0, 1, 3] rfl (by kernel_rfl)
  refine q_store (v := .agg [.str a0.Name, t1, .int .i64 a0.Mode, .int .i64 a0.At]) (cs := [.str a0.Name, t1, .int .i64 a0.Mode, .int .i64 a0.At]) (cells' := [.str a0.Name, t1, .int .i64 a0.Mode, .int .i64 a0.At]) rfl hS hH rfl rfl rfl (by simp [ht1.1, ht1.2]) (by kernel_rfl) ?_; intro σ s hH hS
  refine x_nil ?_
  refine sq_n ?_
  refine c_ret ?_
  injection h with h; subst h
  have hH : Heap σ0 σ [.own true 1 t1 (Sl.t (y1 : Sl ByteArray)), .box b2 [.str a0.Name, t1, .int .i64 a0.Mode, .int .i64 a0.At], .box b3 [.str a0.Name, t1, .int .i64 a0.Mode, .int .i64 a0.At], .box b1 [.str a0.Name, (Sl.t (a0.Lines : Sl ByteArray)), .int .i64 a0.Mode, .int .i64 a0.At]] := hH.sel [2, 0, 1, 3] rfl (by kernel_rfl)
  exact end_Ow [t1] [.box b2 [.str a0.Name, t1, .int .i64 a0.Mode, .int .i64 a0.At], .box b3 [.str a0.Name, t1, .int .i64 a0.Mode, .int .i64 a0.At], .box b1 [.str a0.Name, (Sl.t (a0.Lines : Sl ByteArray)), .int .i64 a0.Mode, .int .i64 a0.At]] (r_cell (v := .agg [.str a0.Name, t1, .int .i64 a0.Mode, .int .i64 a0.At]) hS (hH.at 1 rfl) rfl (by kernel_rfl) r_nil) (by kernel_rfl) rfl hH (by kernel_rfl)
end Go.Am
end
section
set_option maxRecDepth 100000
set_option maxHeartbeats 4000000
set_option linter.unusedVariables false
set_option linter.unusedSimpArgs false
namespace Go.Am
open Go.Proofs
noncomputable def B_laws_eqFile (a0 : DFile) (a1 : DFile) : Option Bool := (if (!decide (a0.Name = a1.Name)) = true then (some false) else ((F_laws_eqStringS a0.Lines a1.Lines).bind fun y1 => (if (!y1) = true then (some false) else (if (!decide (a0.Mode = a1.Mode)) = true then (some false) else (if (!decide (a0.At = a1.At)) = true then (some false) else (some true))))))
theorem u_laws_eqFile (a0 : DFile) (a1 : DFile) (r : Bool) (h : B_laws_eqFile a0 a1 = some r) : F_laws_eqFile a0 a1 = some r := by
  unfold B_laws_eqFile at h
  refine semW_of E_bool_inj rfl rfl ok_97 rfl (all_cons (by kernel_rfl) (all_cons (by kernel_rfl) all_nil)) ?_
  intro σ0 s hS hH
  have hS := sub_to (L' := [(0, .agg (DFile.cells a0)), (1, .agg (DFile.cells a1))]) hS (by kernel_rfl)
  refine c_seq ?_
  refine c_region ?_
  refine q_box (v := .agg (DFile.cells a0)) (cs := [.str a0.Name, (Sl.t (a0.Lines : Sl ByteArray)), .int .i64 a0.Mode, .int .i64 a0.At]) rfl hS hH rfl rfl (by kernel_rfl) ?_; intro b1 σ s hH hS
  refine q_box (v := .agg (DFile.cells a1)) (cs := [.str a1.Name, (Sl.t (a1.Lines : Sl ByteArray)), .int .i64 a1.Mode, .int .i64 a1.At]) rfl hS hH rfl rfl (by kernel_rfl) ?_; intro b2 σ s hH hS
  refine q_seg 1 [(2, .ptr b1 0 0 4), (3, .ptr b2 0 0 4)] hS (by kernel_rfl) ?_; intro s hS
  refine x_nil ?_
  refine sq_n ?_
  refine c_seq ?_
  refine c_seq ?_
  refine c_region ?_
  refine q_seg 1 [(2, .ptr b1 0 0 4), (3, .ptr b2 0 0 4), (5, .ptr b1 0 0 1)] hS (by kernel_rfl) ?_; intro s hS
  refine q_load (v := .str a0.Name) 1 trivial rfl hS hH rfl rfl (by kernel_rfl) ?_; intro s hS
  refine q_seg 1 [(2, .ptr b1 0 0 4), (3, .ptr b2 0 0 4), (6, .str a0.Name), (7, .ptr b2 0 0 1)] hS (by kernel_rfl) ?_; intro s hS
  refine q_load (v := .str a1.Name) 0 trivial rfl hS hH rfl rfl (by kernel_rfl) ?_; intro s hS
  refine q_seg 1 [(2, .ptr b1 0 0 4), (3, .ptr b2 0 0 4), (9, .bool (!decide (a0.Name = a1.Name)))] hS (by kernel_rfl) ?_; intro s hS
  refine x_nil ?_
  refine sq_n ?_
  by_cases hc1 : (!decide (a0.Name = a1.Name)) = true
  · have h := it_pos hc1 h
    refine c_cond hS rfl (fun _ => ?_) (fun hf => ff_absurd hc1 hf)
    refine c_seq ?_
    refine c_region ?_
    refine q_seg 1 [(4, .bool false)] hS (by kernel_rfl) ?_; intro s hS
    refine x_nil ?_
    refine sq_n ?_
    refine c_ret ?_
    refine sq_r ?_
    injection h with h; subst h
    exact end_W hH (r_tmp (v := .bool false) hS rfl r_nil) rfl (by kernel_rfl) (by simp [pureT, pureL, E_bool])
  · have h := it_neg hc1 h
    refine c_cond hS rfl (fun hf => tt_absurd hc1 hf) (fun _ => ?_)
    refine c_skip ?_
    refine sq_n ?_
    refine c_seq ?_
    refine c_seq ?_
    refine c_region ?_
    refine q_seg 1 [(2, .ptr b1 0 0 4), (3, .ptr b2 0 0 4), (10, .ptr b1 0 1 1)] hS (by kernel_rfl) ?_; intro s hS
    refine q_load (v := (Sl.t (a0.Lines : Sl ByteArray))) 1 trivial rfl hS hH rfl rfl (by kernel_rfl) ?_; intro s hS
    refine q_seg 1 [(2, .ptr b1 0 0 4), (3, .ptr b2 0 0 4), (11, (Sl.t (a0.Lines : Sl ByteArray))), (12, .ptr b2 0 1 1)] hS (by kernel_rfl) ?_; intro s hS
    refine q_load (v := (Sl.t (a1.Lines : Sl ByteArray))) 0 trivial rfl hS hH rfl rfl (by kernel_rfl) ?_; intro s hS
    obtain ⟨y1, hy1, h⟩ := bind_some h
    refine q_callF (a := []) (b := []) (xs := [(Sl.t (a0.Lines : Sl ByteArray)), (Sl.t (a1.Lines : Sl ByteArray))]) rfl hS rfl rfl hy1 ?_; intro s hS
    refine q_seg 1 [(2, .ptr b1 0 0 4), (3, .ptr b2 0 0 4), (15, .bool (!y1))] hS (by kernel_rfl) ?_; intro s hS
    refine x_nil ?_
    refine sq_n ?_
    by_cases hc2 : (!y1) = true
    · have h := it_pos hc2 h
      refine c_cond hS rfl (fun _ => ?_) (fun hf => ff_absurd hc2 hf)
      refine c_seq ?_
      refine c_region ?_
      refine q_seg 1 [(4, .bool false)] hS (by kernel_rfl) ?_; intro s hS
      refine x_nil ?_
      refine sq_n ?_
      refine c_ret ?_
      refine sq_r ?_
      injection h with h; subst h
      exact end_W hH (r_tmp (v := .bool false) hS rfl r_nil) rfl (by kernel_rfl) (by simp [pureT, pureL, E_bool])
    · have h := it_neg hc2 h
      refine c_cond hS rfl (fun hf => tt_absurd hc2 hf) (fun _ => ?_)
      refine c_skip ?_
      refine sq_n ?_
      refine c_seq ?_
      refine c_seq ?_
      refine c_region ?_
      refine q_seg 1 [(2, .ptr b1 0 0 4), (3, .ptr b2 0 0 4), (16, .ptr b1 0 2 1)] hS (by kernel_rfl) ?_; intro s hS
      refine q_load (v := .int .i64 a0.Mode) 1 trivial rfl hS hH rfl rfl (by kernel_rfl) ?_; intro s hS
      refine q_seg 1 [(2, .ptr b1 0 0 4), (3, .ptr b2 0 0 4), (17, .int .i64 a0.Mode), (18, .ptr b2 0 2 1)] hS (by kernel_rfl) ?_; intro s hS
      refine q_load (v := .int .i64 a1.Mode) 0 trivial rfl hS hH rfl rfl (by kernel_rfl) ?_; intro s hS
      refine q_seg 1 [(2, .ptr b1 0 0 4), (3, .ptr b2 0 0 4), (20, .bool (!decide (a0.Mode = a1.Mode)))] hS (by kernel_rfl) ?_; intro s hS
      refine x_nil ?_
      refine sq_n ?_
      by_cases hc3 : (!decide (a0.Mode = a1.Mode)) = true
      · have h := it_pos hc3 h
        refine c_cond hS rfl (fun _ => ?_) (fun hf => ff_absurd hc3 hf)
        refine c_seq ?_
        refine c_region ?_
        refine q_seg 1 [(4, .bool false)] hS (by kernel_rfl) ?_; intro s hS
        refine x_nil ?_
        refine sq_n ?_
        refine c_ret ?_
        refine sq_r ?_
        injection h with h; subst h
        exact end_W hH (r_tmp (v := .bool false) hS rfl r_nil) rfl (by kernel_rfl) (by simp [pureT, pureL, E_bool])
      · have h := it_neg hc3 h
        refine c_cond hS rfl (fun hf => tt_absurd hc3 hf) (fun _ => ?_)
        refine c_skip ?_
        refine sq_n ?_
        refine c_seq ?_
        refine c_seq ?_
        refine c_region ?_
        refine q_seg 1 [(3, .ptr b2 0 0 4), (21, .ptr b1 0 3 1)] hS (by kernel_rfl) ?_; intro s hS
        refine q_load (v := .int .i64 a0.At) 1 trivial rfl hS hH rfl rfl (by kernel_rfl) ?_; intro s hS
        refine q_seg 1 [(22, .int .i64 a0.At), (23, .ptr b2 0 3 1)] hS (by kernel_rfl) ?_; intro s hS
        refine q_load (v := .int .i64 a1.At) 0 trivial rfl hS hH rfl rfl (by kernel_rfl) ?_; intro s hS
        refine q_seg 1 [(25, .bool (!decide (a0.At = a1.At)))] hS (by kernel_rfl) ?_; intro s hS
        refine x_nil ?_
        refine sq_n ?_
        by_cases hc4 : (!decide (a0.At = a1.At)) = true
        · have h := it_pos hc4 h
          refine c_cond hS rfl (fun _ => ?_) (fun hf => ff_absurd hc4 hf)
          refine c_seq ?_
          refine c_region ?_
          refine q_seg 1 [(4, .bool false)] hS (by kernel_rfl) ?_; intro s hS
          refine x_nil ?_
          refine sq_n ?_
          refine c_ret ?_
          refine sq_r ?_
          injection h with h; subst h
          exact end_W hH (r_tmp (v := .bool false) hS rfl r_nil) rfl (by kernel_rfl) (by simp [pureT, pureL, E_bool])
        · have h := it_neg hc4 h
          refine c_cond hS rfl (fun hf => tt_absurd hc4 hf) (fun _ => ?_)
          refine c_skip ?_
          refine sq_n ?_
          refine c_seq ?_
          refine c_region ?_
          refine q_seg 1 [(4, .bool true)] hS (by kernel_rfl) ?_; intro s hS
          refine x_nil ?_
          refine sq_n ?_
          refine c_ret ?_
          injection h with h; subst h
          exact end_W hH (r_tmp (v := .bool true) hS rfl r_nil) rfl (by kernel_rfl) (by simp [pureT, pureL, E_bool])
end Go.Am
end
section
set_option maxRecDepth 100000
set_option maxHeartbeats 4000000
set_option linter.unusedVariables false
set_option linter.unusedSimpArgs false
namespace Go.Am
open Go.Proofs
noncomputable def B_laws_markText (a0 : Int) : Option ByteArray := (if (decide (a0 ≤ 0)) = true then (some ⟨#[109, 48]⟩) else ((loopO (S := (Int × ByteArray)) (R := ByteArray) (fun st1 => (if (decide (0 < st1.1)) = true then ((strS ((⟨false, [⟨(IntKind.u8.wrap (IntKind.i64.wrap (48 + (st1.1.tmod 10))))⟩]⟩ : Sl (Iv .u8)))).bind fun y2 => ((catB y2 st1.2).bind fun y3 => (some (.inl ((IntKind.i64.wrap (st1.1.tdiv 10)), y3))))) else (some (.inr st1.2)))) (a0, ⟨#[]⟩)).bind fun y1 => ((catB ⟨#[109]⟩ y1).bind fun y4 => (some y4))))
theorem u_laws_markText (a0 : Int) (r : ByteArray) (h : B_laws_markText a0 = some r) : F_laws_markText a0 = some r := by
  unfold B_laws_markText at h
  refine semW_of E_str_inj rfl rfl ok_98 rfl (all_cons (by kernel_rfl) all_nil) ?_
  intro σ0 s hS hH
  have hS := sub_to (L' := [(0, .int .i64 a0)]) hS (by kernel_rfl)
  refine c_seq ?_
  refine c_region ?_
  refine q_seg 1 [(0, .int .i64 a0)] hS (by kernel_rfl) ?_; intro s hS
  refine x_nil ?_
  refine sq_n ?_
  refine c_seq ?_
  refine c_seq ?_
  refine c_region ?_
  refine q_seg 2 [(0, .int .i64 a0), (5, .bool (decide (a0 ≤ 0)))] hS (by kernel_rfl) ?_; intro s hS
  refine x_nil ?_
  refine sq_n ?_
  by_cases hc1 : (decide (a0 ≤ 0)) = true
  · have h := it_pos hc1 h
    refine c_cond hS rfl (fun _ => ?_) (fun hf => ff_absurd hc1 hf)
    refine c_seq ?_
    refine c_region ?_
    refine q_seg 1 [(2, .str ⟨#[109, 48]⟩)] hS (by kernel_rfl) ?_; intro s hS
    refine x_nil ?_
    refine sq_n ?_
    refine c_ret ?_
    refine sq_r ?_
    injection h with h; subst h
    exact end_W hH (r_tmp (v := .str ⟨#[109, 48]⟩) hS rfl r_nil) rfl (by kernel_rfl) (by simp [pureT, pureL, E_str])
  · have h := it_neg hc1 h
    refine c_cond hS rfl (fun hf => tt_absurd hc1 hf) (fun _ => ?_)
    refine c_skip ?_
    refine sq_n ?_
    refine c_seq ?_
    refine c_region ?_
    refine q_seg 1 [(0, .int .i64 a0), (3, .str ⟨#[]⟩)] hS (by kernel_rfl) ?_; intro s hS
    refine x_nil ?_
    refine sq_n ?_
    refine c_seq ?_
    refine c_block ?_
    obtain ⟨y1, hy1, h⟩ := bind_some h
    refine c_loop (fun (st1 : (Int × ByteArray)) (fr : Fr) => Sub [(0, .int .i64 st1.1), (3, .str st1.2)] fr.s ∧ Heap σ0 fr.σ []) (fun (y1 : ByteArray) (e : AExit) (fr : Fr) => e = (.exit 0) ∧ Sub [(3, .str y1)] fr.s ∧ Heap σ0 fr.σ []) hy1 (And.intro (sub_to hS (by kernel_rfl)) hH) ?_ ?_
    · clear h hy1 hS hH; clear y1; intro st1 x fr h HI; obtain ⟨s, σ⟩ := fr; obtain ⟨hS, hH⟩ := HI
      refine c_seq ?_
      refine c_seq ?_
      refine c_region ?_
      refine q_seg 2 [(0, .int .i64 st1.1), (3, .str st1.2), (7, .bool (decide (0 < st1.1)))] hS (by kernel_rfl) ?_; intro s hS
      refine x_nil ?_
      refine sq_n ?_
      by_cases hc2 : (decide (0 < st1.1)) = true
      · have h := it_pos hc2 h
        refine c_cond hS rfl (fun _ => ?_) (fun hf => ff_absurd hc2 hf)
        refine c_skip ?_
        refine sq_n ?_
        refine c_block ?_
        refine c_seq ?_
        refine c_region ?_
        refine q_seg 4 [(0, .int .i64 st1.1), (3, .str st1.2), (11, .int .u8 (IntKind.u8.wrap (IntKind.i64.wrap (48 + (st1.1.tmod 10)))))] hS (by kernel_rfl) ?_; intro s hS
        refine q_bs (ents := []) (e := 5) (sz := 1) (z := true) (vs := [.int .u8 (IntKind.u8.wrap (IntKind.i64.wrap (48 + (st1.1.tmod 10))))]) (zc := [.int .u8 0]) (cs := [.int .u8 (IntKind.u8.wrap (IntKind.i64.wrap (48 + (st1.1.tmod 10))))]) (us := [.int .u8 (IntKind.u8.wrap (IntKind.i64.wrap (48 + (st1.1.tmod 10))))]) (v := Sl.t (⟨false, [⟨(IntKind.u8.wrap (IntKind.i64.wrap (48 + (st1.1.tmod 10))))⟩]⟩ : Sl (Iv .u8))) rfl hS hH (by kernel_rfl) (by kernel_rfl) (by kernel_rfl) (by kernel_rfl) (by kernel_rfl) (And.intro (by kernel_rfl) (And.intro (by kernel_rfl) trivial)) (by kernel_rfl) (HL.leaf (fun σ d => hold_int _ σ d _ _) HL.nil) (by kernel_rfl) ?_; intro t1 σ s ht1 hH hS
        obtain ⟨y2, hy2, h⟩ := bind_some h
        refine q_b2s (a := (⟨false, [⟨(IntKind.u8.wrap (IntKind.i64.wrap (48 + (st1.1.tmod 10))))⟩]⟩ : Sl (Iv .u8))) (e := 5) rfl hS hH rfl (by kernel_rfl) (by kernel_rfl) (by kernel_rfl) hy2 ?_; intro s hS
        refine q_seg 1 [(0, .int .i64 st1.1), (13, .str y2), (14, .str st1.2)] hS (by kernel_rfl) ?_; intro s hS
        obtain ⟨y3, hy3, h⟩ := bind_some h
        refine q_catO rfl hS rfl rfl hy3 ?_; intro s hS
        refine q_seg 1 [(0, .int .i64 st1.1), (3, .str y3)] hS (by kernel_rfl) ?_; intro s hS
        refine x_nil ?_
        refine sq_n ?_
        refine c_region ?_
        refine q_seg 3 [(0, .int .i64 (IntKind.i64.wrap (st1.1.tdiv 10))), (3, .str y3)] hS (by kernel_rfl) ?_; intro s hS
        refine x_nil ?_
        refine bk_n ?_
        injection h with h; subst h
        exact And.intro (sub_to hS (by kernel_rfl)) (Heap.sel hH [] rfl (by kernel_rfl))
      · have h := it_neg hc2 h
        refine c_cond hS rfl (fun hf => tt_absurd hc2 hf) (fun _ => ?_)
        refine c_exit ?_
        refine sq_x ?_
        injection h with h; subst h
        exact And.intro rfl (And.intro (sub_to hS (by kernel_rfl)) hH)
    · clear hS hH; intro e fr HF; obtain ⟨s, σ⟩ := fr
      obtain ⟨rfl, hS, hH⟩ := HF
      refine bk_e ?_
      refine sq_n ?_
      refine c_seq ?_
      refine c_region ?_
      refine q_seg 1 [(18, .str y1)] hS (by kernel_rfl) ?_; intro s hS
      obtain ⟨y4, hy4, h⟩ := bind_some h
      refine q_catO rfl hS rfl rfl hy4 ?_; intro s hS
      refine q_seg 1 [(2, .str y4)] hS (by kernel_rfl) ?_; intro s hS
      refine x_nil ?_
      refine sq_n ?_
      refine c_ret ?_
      injection h with h; subst h
      exact end_W hH (r_tmp (v := .str y4) hS rfl r_nil) rfl (by kernel_rfl) (by simp [pureT, pureL, E_str])
end Go.Am
end
section
set_option maxRecDepth 100000
set_option maxHeartbeats 4000000
set_option linter.unusedVariables false
set_option linter.unusedSimpArgs false
namespace Go.Am
open Go.Proofs
noncomputable def B_impl_isLetter (a0 : Int) : Option Bool := (if (decide (65 ≤ a0)) = true then (if (decide (a0 ≤ 90)) = true then (some true) else (if (decide (97 ≤ a0)) = true then (some (decide (a0 ≤ 122))) else (some false))) else (if (decide (97 ≤ a0)) = true then (some (decide (a0 ≤ 122))) else (some false)))
theorem u_impl_isLetter (a0 : Int) (r : Bool) (h : B_impl_isLetter a0 = some r) : F_impl_isLetter a0 = some r := by
  unfold B_impl_isLetter at h
  refine semW_of E_bool_inj rfl rfl ok_101 rfl (all_cons (by kernel_rfl) all_nil) ?_
  intro σ0 s hS hH
  have hS := sub_to (L' := [(0, .int .u8 a0)]) hS (by kernel_rfl)
  refine c_seq ?_
  refine c_region ?_
  refine q_seg 1 [(0, .int .u8 a0)] hS (by kernel_rfl) ?_; intro s hS
  refine x_nil ?_
  refine sq_n ?_
  refine c_seq ?_
  refine c_region ?_
  refine q_seg 3 [(5, .bool (decide (65 ≤ a0))), (0, .int .u8 a0)] hS (by kernel_rfl) ?_; intro s hS
  by_cases hc1 : (decide (65 ≤ a0)) = true
  · have h := it_pos hc1 h
    have hS := sub_bt hS hc1
    refine q_seg 4 [(9, .bool (decide (a0 ≤ 90))), (0, .int .u8 a0)] hS (by kernel_rfl) ?_; intro s hS
    by_cases hc2 : (decide (a0 ≤ 90)) = true
    · have h := it_pos hc2 h
      have hS := sub_bt hS hc2
      refine q_seg 8 [(2, .bool true)] hS (by kernel_rfl) ?_; intro s hS
      refine x_nil ?_
      refine sq_n ?_
      refine c_ret ?_
      injection h with h; subst h
      exact end_W hH (r_tmp (v := .bool true) hS rfl r_nil) rfl (by kernel_rfl) (by simp [pureT, pureL, E_bool])
    · have h := it_neg hc2 h
      have hS := sub_bt hS (tt_of hc2)
      refine q_seg 3 [(12, .bool (decide (97 ≤ a0))), (0, .int .u8 a0), (9, .bool false)] hS (by kernel_rfl) ?_; intro s hS
      by_cases hc3 : (decide (97 ≤ a0)) = true
      · have h := it_pos hc3 h
        have hS := sub_bt hS hc3
        refine q_seg 5 [(2, .bool (decide (a0 ≤ 122)))] hS (by kernel_rfl) ?_; intro s hS
        refine x_nil ?_
        refine sq_n ?_
        refine c_ret ?_
        injection h with h; subst h
        exact end_W hH (r_tmp (v := .bool (decide (a0 ≤ 122))) hS rfl r_nil) rfl (by kernel_rfl) (by simp [pureT, pureL, E_bool])
      · have h := it_neg hc3 h
        have hS := sub_bt hS (tt_of hc3)
        refine q_seg 5 [(2, .bool false)] hS (by kernel_rfl) ?_; intro s hS
        refine x_nil ?_
        refine sq_n ?_
        refine c_ret ?_
        injection h with h; subst h
        exact end_W hH (r_tmp (v := .bool false) hS rfl r_nil) rfl (by kernel_rfl) (by simp [pureT, pureL, E_bool])
  · have h := it_neg hc1 h
    have hS := sub_bt hS (tt_of hc1)
    refine q_seg 7 [(12, .bool (decide (97 ≤ a0))), (0, .int .u8 a0), (9, .bool false)] hS (by kernel_rfl) ?_; intro s hS
    by_cases hc4 : (decide (97 ≤ a0)) = true
    · have h := it_pos hc4 h
      have hS := sub_bt hS hc4
      refine q_seg 5 [(2, .bool (decide (a0 ≤ 122)))] hS (by kernel_rfl) ?_; intro s hS
      refine x_nil ?_
      refine sq_n ?_
      refine c_ret ?_
      injection h with h; subst h
      exact end_W hH (r_tmp (v := .bool (decide (a0 ≤ 122))) hS rfl r_nil) rfl (by kernel_rfl) (by simp [pureT, pureL, E_bool])
    · have h := it_neg hc4 h
      have hS := sub_bt hS (tt_of hc4)
      refine q_seg 5 [(2, .bool false)] hS (by kernel_rfl) ?_; intro s hS
      refine x_nil ?_
      refine sq_n ?_
      refine c_ret ?_
      injection h with h; subst h
      exact end_W hH (r_tmp (v := .bool false) hS rfl r_nil) rfl (by kernel_rfl) (by simp [pureT, pureL, E_bool])
end Go.Am
end
section
set_option maxRecDepth 100000
set_option maxHeartbeats 4000000
set_option linter.unusedVariables false
set_option linter.unusedSimpArgs false
namespace Go.Am
open Go.Proofs
noncomputable def B_impl_areAll_byte (a0 : (Sl (Iv .u8))) (a1 : T) : Option Bool := (if flat1 a1 = true then ((loopO (S := Int) (R := (Unit ⊕ Bool)) (fun st1 => (if (decide (st1 < (a0.l.length : Int))) = true then ((elt a0 st1).bind fun y2 => ((callV Try.prog md ext E_bool a1 [.int .u8 y2.v]).bind fun y3 => (if (!y3) = true then (some (.inr (.inr false))) else (some (.inl (IntKind.i64.wrap (st1 + 1))))))) else (some (.inr (.inl ()))))) 0).bind fun y1 => (Sum.elim (fun y1 => (some true)) (fun y1 => (some y1)) y1)) else none)
theorem u_impl_areAll_byte (a0 : (Sl (Iv .u8))) (a1 : T) (r : Bool) (h : B_impl_areAll_byte a0 a1 = some r) : F_impl_areAll_byte a0 a1 = some r := by
  unfold B_impl_areAll_byte at h
  obtain ⟨hf_a1, h⟩ := if_some h
  refine semW_of E_bool_inj rfl rfl ok_102 rfl (all_cons (by kernel_rfl) (all_cons (flat3_of hf_a1) all_nil)) ?_
  intro σ0 s hS hH
  have hS := sub_to (L' := [(0, (Sl.t (a0 : Sl (Iv .u8)))), (1, a1)]) hS (by kernel_rfl)
  refine c_seq ?_
  refine c_region ?_
  refine q_seg 1 [(0, (Sl.t (a0 : Sl (Iv .u8)))), (1, a1)] hS (by kernel_rfl) ?_; intro s hS
  refine x_nil ?_
  refine sq_n ?_
  refine c_seq ?_
  refine c_seq ?_
  refine c_region ?_
  refine q_seg 3 [(1, a1), (7, (Sl.t (a0 : Sl (Iv .u8)))), (8, .int .i64 (a0.l.length : Int)), (9, .int .i64 0)] hS (by kernel_rfl) ?_; intro s hS
  refine x_nil ?_
  refine sq_n ?_
  refine c_block ?_
  obtain ⟨y1, hy1, h⟩ := bind_some h
  refine c_loop (fun (st1 : Int) (fr : Fr) => Sub [(1, a1), (7, (Sl.t (a0 : Sl (Iv .u8)))), (8, .int .i64 (a0.l.length : Int)), (9, .int .i64 st1)] fr.s ∧ Heap σ0 fr.σ []) (fun (y1 : (Unit ⊕ Bool)) (e : AExit) (fr : Fr) => (Sum.elim (fun y => e = (.exit 0) ∧ Sub [] fr.s ∧ Heap σ0 fr.σ []) (fun y => e = .ret ∧ endW Try.prog (Try.f102.results.toList) σ0 (E_bool y) .ret fr)) y1) hy1 (And.intro (sub_to hS (by kernel_rfl)) hH) ?_ ?_
  · clear h hy1 hS hH; clear y1; intro st1 x fr h HI; obtain ⟨s, σ⟩ := fr; obtain ⟨hS, hH⟩ := HI
    refine c_seq ?_
    refine c_region ?_
    refine q_seg 1 [(1, a1), (7, (Sl.t (a0 : Sl (Iv .u8)))), (8, .int .i64 (a0.l.length : Int)), (9, .int .i64 st1), (10, .bool (decide (st1 < (a0.l.length : Int))))] hS (by kernel_rfl) ?_; intro s hS
    refine x_nil ?_
    refine sq_n ?_
    refine c_seq ?_
    by_cases hc1 : (decide (st1 < (a0.l.length : Int))) = true
    · have h := it_pos hc1 h
      refine c_cond hS rfl (fun _ => ?_) (fun hf => ff_absurd hc1 hf)
      refine c_skip ?_
      refine sq_n ?_
      refine c_seq ?_
      refine c_block ?_
      refine c_seq ?_
      refine c_region ?_
      obtain ⟨y2, hy2, h⟩ := bind_some h
      refine q_elt (sl := a0) (e := 5) [.int .u8 y2.v] rfl hS rfl rfl (by kernel_rfl) (by kernel_rfl) hy2 rfl ?_; intro rest1 s hS
      refine q_seg 2 [(1, a1), (6, .int .u8 y2.v), (7, (Sl.t (a0 : Sl (Iv .u8)))), (8, .int .i64 (a0.l.length : Int)), (9, .int .i64 st1)] hS (by kernel_rfl) ?_; intro s hS
      refine x_nil ?_
      refine sq_n ?_
      refine c_seq ?_
      refine c_region ?_
      refine q_seg 2 [(1, a1), (7, (Sl.t (a0 : Sl (Iv .u8)))), (8, .int .i64 (a0.l.length : Int)), (9, .int .i64 st1), (13, a1), (14, .int .u8 y2.v)] hS (by kernel_rfl) ?_; intro s hS
      obtain ⟨y3, hy3, h⟩ := bind_some h
      refine q_callP (p := a1) (xs := [.int .u8 y2.v]) rfl hS rfl rfl hy3 ?_; intro s hS
      refine q_seg 1 [(1, a1), (7, (Sl.t (a0 : Sl (Iv .u8)))), (8, .int .i64 (a0.l.length : Int)), (9, .int .i64 st1), (16, .bool (!y3))] hS (by kernel_rfl) ?_; intro s hS
      refine x_nil ?_
      refine sq_n ?_
      by_cases hc2 : (!y3) = true
      · have h := it_pos hc2 h
        refine c_cond hS rfl (fun _ => ?_) (fun hf => ff_absurd hc2 hf)
        refine c_seq ?_
        refine c_region ?_
        refine q_seg 1 [(4, .bool false)] hS (by kernel_rfl) ?_; intro s hS
        refine x_nil ?_
        refine sq_n ?_
        refine c_ret ?_
        refine bk_r ?_
        refine sq_r ?_
        injection h with h; subst h
        exact And.intro rfl (end_W hH (r_tmp (v := .bool false) hS rfl r_nil) rfl (by kernel_rfl) (by simp [pureT, pureL, E_bool]))
      · have h := it_neg hc2 h
        refine c_cond hS rfl (fun hf => tt_absurd hc2 hf) (fun _ => ?_)
        refine c_skip ?_
        refine bk_n ?_
        refine sq_n ?_
        refine c_region ?_
        refine q_seg 2 [(1, a1), (7, (Sl.t (a0 : Sl (Iv .u8)))), (8, .int .i64 (a0.l.length : Int)), (9, .int .i64 (IntKind.i64.wrap (st1 + 1)))] hS (by kernel_rfl) ?_; intro s hS
        refine x_nil ?_
        injection h with h; subst h
        exact And.intro (sub_to hS (by kernel_rfl)) hH
    · have h := it_neg hc1 h
      refine c_cond hS rfl (fun hf => tt_absurd hc1 hf) (fun _ => ?_)
      refine c_exit ?_
      refine sq_x ?_
      injection h with h; subst h
      exact And.intro rfl (And.intro (sub_to hS (by kernel_rfl)) hH)
  · clear hS hH; intro e fr HF; obtain ⟨s, σ⟩ := fr
    rcases y1 with y1 | y1
    · obtain ⟨rfl, hS, hH⟩ := HF
      refine bk_e ?_
      refine sq_n ?_
      refine c_seq ?_
      refine c_region ?_
      refine q_seg 1 [(4, .bool true)] hS (by kernel_rfl) ?_; intro s hS
      refine x_nil ?_
      refine sq_n ?_
      refine c_ret ?_
      injection h with h; subst h
      exact end_W hH (r_tmp (v := .bool true) hS rfl r_nil) rfl (by kernel_rfl) (by simp [pureT, pureL, E_bool])
    · obtain ⟨rfl, HE⟩ := HF
      refine bk_r ?_
      refine sq_r ?_
      injection h with h; subst h; exact HE
end Go.Am
end
section
set_option maxRecDepth 100000
set_option maxHeartbeats 4000000
set_option linter.unusedVariables false
set_option linter.unusedSimpArgs false
namespace Go.Am
open Go.Proofs
noncomputable def B_impl_isNameByte (a0 : Int) : Option Bool := ((F_impl_isLetter a0).bind fun y1 => (if y1 = true then (some true) else ((F_impl_isDigit a0).bind fun y2 => (if y2 = true then (some true) else (some (decide (a0 = 95)))))))
theorem u_impl_isNameByte (a0 : Int) (r : Bool) (h : B_impl_isNameByte a0 = some r) : F_impl_isNameByte a0 = some r := by
  unfold B_impl_isNameByte at h
  refine semW_of E_bool_inj rfl rfl ok_103 rfl (all_cons (by kernel_rfl) all_nil) ?_
  intro σ0 s hS hH
  have hS := sub_to (L' := [(0, .int .u8 a0)]) hS (by kernel_rfl)
  refine c_seq ?_
  refine c_region ?_
  refine q_seg 1 [(0, .int .u8 a0)] hS (by kernel_rfl) ?_; intro s hS
  refine x_nil ?_
  refine sq_n ?_
  refine c_seq ?_
  refine c_region ?_
  refine q_seg 1 [(0, .int .u8 a0), (3, .int .u8 a0)] hS (by kernel_rfl) ?_; intro s hS
  obtain ⟨y1, hy1, h⟩ := bind_some h
  refine q_callF (a := []) (b := []) (xs := [.int .u8 a0]) rfl hS rfl rfl hy1 ?_; intro s hS
  refine q_seg 1 [(5, .bool y1), (0, .int .u8 a0)] hS (by kernel_rfl) ?_; intro s hS
  by_cases hc1 : y1 = true
  · have h := it_pos hc1 h
    have hS := sub_bt hS hc1
    refine q_seg 8 [(2, .bool true)] hS (by kernel_rfl) ?_; intro s hS
    refine x_nil ?_
    refine sq_n ?_
    refine c_ret ?_
    injection h with h; subst h
    exact end_W hH (r_tmp (v := .bool true) hS rfl r_nil) rfl (by kernel_rfl) (by simp [pureT, pureL, E_bool])
  · have h := it_neg hc1 h
    have hS := sub_bt hS (tt_of hc1)
    refine q_seg 1 [(0, .int .u8 a0), (5, .bool false), (6, .int .u8 a0)] hS (by kernel_rfl) ?_; intro s hS
    obtain ⟨y2, hy2, h⟩ := bind_some h
    refine q_callF (a := []) (b := []) (xs := [.int .u8 a0]) rfl hS rfl rfl hy2 ?_; intro s hS
    refine q_seg 2 [(9, .bool y2), (0, .int .u8 a0)] hS (by kernel_rfl) ?_; intro s hS
    by_cases hc2 : y2 = true
    · have h := it_pos hc2 h
      have hS := sub_bt hS hc2
      refine q_seg 4 [(2, .bool true)] hS (by kernel_rfl) ?_; intro s hS
      refine x_nil ?_
      refine sq_n ?_
      refine c_ret ?_
      injection h with h; subst h
      exact end_W hH (r_tmp (v := .bool true) hS rfl r_nil) rfl (by kernel_rfl) (by simp [pureT, pureL, E_bool])
    · have h := it_neg hc2 h
      have hS := sub_bt hS (tt_of hc2)
      refine q_seg 4 [(2, .bool (decide (a0 = 95)))] hS (by kernel_rfl) ?_; intro s hS
      refine x_nil ?_
      refine sq_n ?_
      refine c_ret ?_
      injection h with h; subst h
      exact end_W hH (r_tmp (v := .bool (decide (a0 = 95))) hS rfl r_nil) rfl (by kernel_rfl) (by simp [pureT, pureL, E_bool])
end Go.Am
end
section
set_option maxRecDepth 100000
set_option maxHeartbeats 4000000
set_option linter.unusedVariables false
set_option linter.unusedSimpArgs false
namespace Go.Am
open Go.Proofs
noncomputable def B_cmp_Compare_string (a0 : ByteArray) (a1 : ByteArray) : Option Int := ((F_cmp_isNaN_string a0).bind fun y1 => ((F_cmp_isNaN_string a1).bind fun y2 => (if y1 = true then (if y2 = true then (some 0) else (some (-1))) else (if y2 = true then (some 1) else (if (Op.bytesLess a0.toList a1.toList) = true then (some (-1)) else (if (!(Op.bytesLess a0.toList a1.toList || decide (a0 = a1))) = true then (some 1) else (some 0)))))))
theorem u_cmp_Compare_string (a0 : ByteArray) (a1 : ByteArray) (r : Int) (h : B_cmp_Compare_string a0 a1 = some r) : F_cmp_Compare_string a0 a1 = some r := by
  unfold B_cmp_Compare_string at h
  refine semW_of E_i64_inj rfl rfl ok_106 rfl (all_cons (by kernel_rfl) (all_cons (by kernel_rfl) all_nil)) ?_
  intro σ0 s hS hH
  have hS := sub_to (L' := [(0, .str a0), (1, .str a1)]) hS (by kernel_rfl)
  refine c_seq ?_
  refine c_region ?_
  refine q_seg 1 [(0, .str a0), (1, .str a1)] hS (by kernel_rfl) ?_; intro s hS
  refine x_nil ?_
  refine sq_n ?_
  refine c_seq ?_
  refine c_region ?_
  refine q_seg 1 [(0, .str a0), (1, .str a1), (7, .str a0)] hS (by kernel_rfl) ?_; intro s hS
  obtain ⟨y1, hy1, h⟩ := bind_some h
  refine q_callF (a := []) (b := []) (xs := [.str a0]) rfl hS rfl rfl hy1 ?_; intro s hS
  refine q_seg 1 [(0, .str a0), (1, .str a1), (5, .bool y1)] hS (by kernel_rfl) ?_; intro s hS
  refine x_nil ?_
  refine sq_n ?_
  refine c_seq ?_
  refine c_region ?_
  refine q_seg 1 [(0, .str a0), (1, .str a1), (5, .bool y1), (9, .str a1)] hS (by kernel_rfl) ?_; intro s hS
  obtain ⟨y2, hy2, h⟩ := bind_some h
  refine q_callF (a := []) (b := []) (xs := [.str a1]) rfl hS rfl rfl hy2 ?_; intro s hS
  refine q_seg 1 [(0, .str a0), (1, .str a1), (5, .bool y1), (6, .bool y2)] hS (by kernel_rfl) ?_; intro s hS
  refine x_nil ?_
  refine sq_n ?_
  refine c_seq ?_
  refine c_seq ?_
  refine c_region ?_
  refine q_seg 1 [(0, .str a0), (1, .str a1), (6, .bool y2), (11, .bool y1)] hS (by kernel_rfl) ?_; intro s hS
  refine x_nil ?_
  refine sq_n ?_
  by_cases hc1 : y1 = true
  · have h := it_pos hc1 h
    refine c_cond hS rfl (fun _ => ?_) (fun hf => ff_absurd hc1 hf)
    refine c_seq ?_
    refine c_seq ?_
    refine c_region ?_
    refine q_seg 1 [(12, .bool y2)] hS (by kernel_rfl) ?_; intro s hS
    refine x_nil ?_
    refine sq_n ?_
    by_cases hc2 : y2 = true
    · have h := it_pos hc2 h
      refine c_cond hS rfl (fun _ => ?_) (fun hf => ff_absurd hc2 hf)
      refine c_seq ?_
      refine c_region ?_
      refine q_seg 1 [(4, .int .i64 0)] hS (by kernel_rfl) ?_; intro s hS
      refine x_nil ?_
      refine sq_n ?_
      refine c_ret ?_
      refine sq_r ?_
      refine sq_r ?_
      injection h with h; subst h
      exact end_W hH (r_tmp (v := .int .i64 0) hS rfl r_nil) rfl (by kernel_rfl) (by simp [pureT, pureL, E_i64])
    · have h := it_neg hc2 h
      refine c_cond hS rfl (fun hf => tt_absurd hc2 hf) (fun _ => ?_)
      refine c_skip ?_
      refine sq_n ?_
      refine c_seq ?_
      refine c_region ?_
      refine q_seg 1 [(4, .int .i64 (-1))] hS (by kernel_rfl) ?_; intro s hS
      refine x_nil ?_
      refine sq_n ?_
      refine c_ret ?_
      refine sq_r ?_
      injection h with h; subst h
      exact end_W hH (r_tmp (v := .int .i64 (-1)) hS rfl r_nil) rfl (by kernel_rfl) (by simp [pureT, pureL, E_i64])
  · have h := it_neg hc1 h
    refine c_cond hS rfl (fun hf => tt_absurd hc1 hf) (fun _ => ?_)
    refine c_skip ?_
    refine sq_n ?_
    refine c_seq ?_
    refine c_seq ?_
    refine c_region ?_
    refine q_seg 1 [(0, .str a0), (1, .str a1), (13, .bool y2)] hS (by kernel_rfl) ?_; intro s hS
    refine x_nil ?_
    refine sq_n ?_
    by_cases hc3 : y2 = true
    · have h := it_pos hc3 h
      refine c_cond hS rfl (fun _ => ?_) (fun hf => ff_absurd hc3 hf)
      refine c_seq ?_
      refine c_region ?_
      refine q_seg 1 [(4, .int .i64 1)] hS (by kernel_rfl) ?_; intro s hS
      refine x_nil ?_
      refine sq_n ?_
      refine c_ret ?_
      refine sq_r ?_
      injection h with h; subst h
      exact end_W hH (r_tmp (v := .int .i64 1) hS rfl r_nil) rfl (by kernel_rfl) (by simp [pureT, pureL, E_i64])
    · have h := it_neg hc3 h
      refine c_cond hS rfl (fun hf => tt_absurd hc3 hf) (fun _ => ?_)
      refine c_skip ?_
      refine sq_n ?_
      refine c_seq ?_
      refine c_seq ?_
      refine c_region ?_
      refine q_seg 3 [(0, .str a0), (1, .str a1), (16, .bool (Op.bytesLess a0.toList a1.toList))] hS (by kernel_rfl) ?_; intro s hS
      refine x_nil ?_
      refine sq_n ?_
      by_cases hc4 : (Op.bytesLess a0.toList a1.toList) = true
      · have h := it_pos hc4 h
        refine c_cond hS rfl (fun _ => ?_) (fun hf => ff_absurd hc4 hf)
        refine c_seq ?_
        refine c_region ?_
        refine q_seg 1 [(4, .int .i64 (-1))] hS (by kernel_rfl) ?_; intro s hS
        refine x_nil ?_
        refine sq_n ?_
        refine c_ret ?_
        refine sq_r ?_
        injection h with h; subst h
        exact end_W hH (r_tmp (v := .int .i64 (-1)) hS rfl r_nil) rfl (by kernel_rfl) (by simp [pureT, pureL, E_i64])
      · have h := it_neg hc4 h
        refine c_cond hS rfl (fun hf => tt_absurd hc4 hf) (fun _ => ?_)
        refine c_skip ?_
        refine sq_n ?_
        refine c_seq ?_
        refine c_seq ?_
        refine c_region ?_
        refine q_seg 3 [(19, .bool (!(Op.bytesLess a0.toList a1.toList || decide (a0 = a1))))] hS (by kernel_rfl) ?_; intro s hS
        refine x_nil ?_
        refine sq_n ?_
        by_cases hc5 : (!(Op.bytesLess a0.toList a1.toList || decide (a0 = a1))) = true
        · have h := it_pos hc5 h
          refine c_cond hS rfl (fun _ => ?_) (fun hf => ff_absurd hc5 hf)
          refine c_seq ?_
          refine c_region ?_
          refine q_seg 1 [(4, .int .i64 1)] hS (by kernel_rfl) ?_; intro s hS
          refine x_nil ?_
          refine sq_n ?_
          refine c_ret ?_
          refine sq_r ?_
          injection h with h; subst h
          exact end_W hH (r_tmp (v := .int .i64 1) hS rfl r_nil) rfl (by kernel_rfl) (by simp [pureT, pureL, E_i64])
        · have h := it_neg hc5 h
          refine c_cond hS rfl (fun hf => tt_absurd hc5 hf) (fun _ => ?_)
          refine c_skip ?_
          refine sq_n ?_
          refine c_seq ?_
          refine c_region ?_
          refine q_seg 1 [(4, .int .i64 0)] hS (by kernel_rfl) ?_; intro s hS
          refine x_nil ?_
          refine sq_n ?_
          refine c_ret ?_
          injection h with h; subst h
          exact end_W hH (r_tmp (v := .int .i64 0) hS rfl r_nil) rfl (by kernel_rfl) (by simp [pureT, pureL, E_i64])
end Go.Am
end
