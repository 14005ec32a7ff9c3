/- Functions of the program. -/
import Derived.Test.YtnabmjlpdcpaeaaAd0
section
set_option maxRecDepth 100000
set_option maxHeartbeats 1000000
set_option linter.unusedVariables false
set_option linter.unusedSimpArgs false
namespace Go.Am
open Go.Proofs
noncomputable def B_laws_szScope (a0 : DScope) (a1 : Int) : Option Int := ((F_laws_szBindingS a0.Vars a1).bind fun y1 => (if (decide (y1 < 0)) = true then (some (-1)) else ((F_laws_szFunctionS a0.Functions y1).bind fun y2 => (if (decide (y2 < 0)) = true then (some (-1)) else ((F_laws_szRecordTypeS a0.Types y2).bind fun y3 => (if (decide (y3 < 0)) = true then (some (-1)) else (some y3)))))))
theorem u_laws_szScope (a0 : DScope) (a1 : Int) (r : Int) (h : B_laws_szScope a0 a1 = some r) : F_laws_szScope a0 a1 = some r := by
  unfold B_laws_szScope at h
  refine semW_of E_i64_inj rfl rfl ok_39 rfl (all_cons (by kernel_rfl) (all_cons (by kernel_rfl) all_nil)) ?_
  intro σ0 s hS hH
  have hS := sub_to (L' := [(0, .agg (DScope.cells a0)), (1, .int .i64 a1)]) hS (by kernel_rfl)
  refine c_seq ?_
  refine c_region ?_
  refine q_box (v := .agg (DScope.cells a0)) (cs := [(Sl.t (a0.Vars : Sl DBinding)), (Sl.t (a0.Functions : Sl DFunction)), (Sl.t (a0.Types : Sl DRecordType))]) rfl hS hH rfl rfl (by kernel_rfl) ?_; intro b1 σ s hH hS
  refine q_seg 1 [(1, .int .i64 a1), (2, .ptr b1 0 0 3)] hS (by kernel_rfl) ?_; intro s hS
  refine x_nil ?_
  refine sq_n ?_
  refine c_seq ?_
  refine c_region ?_
  refine q_seg 1 [(1, .int .i64 a1), (2, .ptr b1 0 0 3), (5, .ptr b1 0 0 1)] hS (by kernel_rfl) ?_; intro s hS
  refine q_load (v := (Sl.t (a0.Vars : Sl DBinding))) 0 trivial rfl hS hH rfl rfl (by kernel_rfl) ?_; intro s hS
  refine q_seg 1 [(2, .ptr b1 0 0 3), (6, (Sl.t (a0.Vars : Sl DBinding))), (7, .int .i64 a1)] hS (by kernel_rfl) ?_; intro s hS
  obtain ⟨y1, hy1, h⟩ := bind_some h
  refine q_callF (a := []) (b := []) (xs := [(Sl.t (a0.Vars : Sl DBinding)), .int .i64 a1]) rfl hS rfl rfl hy1 ?_; intro s hS
  refine q_seg 1 [(1, .int .i64 y1), (2, .ptr b1 0 0 3)] hS (by kernel_rfl) ?_; intro s hS
  refine x_nil ?_
  refine sq_n ?_
  refine c_seq ?_
  refine c_seq ?_
  refine c_region ?_
  refine q_seg 2 [(1, .int .i64 y1), (2, .ptr b1 0 0 3), (10, .bool (decide (y1 < 0)))] hS (by kernel_rfl) ?_; intro s hS
  refine x_nil ?_
  refine sq_n ?_
  by_cases hc1 : (decide (y1 < 0)) = true
  · have h := it_pos hc1 h
    refine c_cond hS rfl (fun _ => ?_) (fun hf => ff_absurd hc1 hf)
    refine c_seq ?_
    refine c_region ?_
    refine q_seg 1 [(4, .int .i64 (-1))] hS (by kernel_rfl) ?_; intro s hS
    refine x_nil ?_
    refine sq_n ?_
    refine c_ret ?_
    refine sq_r ?_
    injection h with h; subst h
    exact end_W hH (r_tmp (v := .int .i64 (-1)) hS rfl r_nil) rfl (by kernel_rfl) (by simp [pureT, pureL, E_i64])
  · have h := it_neg hc1 h
    refine c_cond hS rfl (fun hf => tt_absurd hc1 hf) (fun _ => ?_)
    refine c_skip ?_
    refine sq_n ?_
    refine c_seq ?_
    refine c_region ?_
    refine q_seg 1 [(1, .int .i64 y1), (2, .ptr b1 0 0 3), (11, .ptr b1 0 1 1)] hS (by kernel_rfl) ?_; intro s hS
    refine q_load (v := (Sl.t (a0.Functions : Sl DFunction))) 0 trivial rfl hS hH rfl rfl (by kernel_rfl) ?_; intro s hS
    refine q_seg 1 [(2, .ptr b1 0 0 3), (12, (Sl.t (a0.Functions : Sl DFunction))), (13, .int .i64 y1)] hS (by kernel_rfl) ?_; intro s hS
    obtain ⟨y2, hy2, h⟩ := bind_some h
    refine q_callF (a := []) (b := []) (xs := [(Sl.t (a0.Functions : Sl DFunction)), .int .i64 y1]) rfl hS rfl rfl hy2 ?_; intro s hS
    refine q_seg 1 [(1, .int .i64 y2), (2, .ptr b1 0 0 3)] hS (by kernel_rfl) ?_; intro s hS
    refine x_nil ?_
    refine sq_n ?_
    refine c_seq ?_
    refine c_seq ?_
    refine c_region ?_
    refine q_seg 2 [(1, .int .i64 y2), (2, .ptr b1 0 0 3), (16, .bool (decide (y2 < 0)))] hS (by kernel_rfl) ?_; intro s hS
    refine x_nil ?_
    refine sq_n ?_
    by_cases hc2 : (decide (y2 < 0)) = true
    · have h := it_pos hc2 h
      refine c_cond hS rfl (fun _ => ?_) (fun hf => ff_absurd hc2 hf)
      refine c_seq ?_
      refine c_region ?_
      refine q_seg 1 [(4, .int .i64 (-1))] hS (by kernel_rfl) ?_; intro s hS
      refine x_nil ?_
      refine sq_n ?_
      refine c_ret ?_
      refine sq_r ?_
      injection h with h; subst h
      exact end_W hH (r_tmp (v := .int .i64 (-1)) hS rfl r_nil) rfl (by kernel_rfl) (by simp [pureT, pureL, E_i64])
    · have h := it_neg hc2 h
      refine c_cond hS rfl (fun hf => tt_absurd hc2 hf) (fun _ => ?_)
      refine c_skip ?_
      refine sq_n ?_
      refine c_seq ?_
      refine c_region ?_
      refine q_seg 1 [(1, .int .i64 y2), (17, .ptr b1 0 2 1)] hS (by kernel_rfl) ?_; intro s hS
      refine q_load (v := (Sl.t (a0.Types : Sl DRecordType))) 0 trivial rfl hS hH rfl rfl (by kernel_rfl) ?_; intro s hS
      refine q_seg 1 [(18, (Sl.t (a0.Types : Sl DRecordType))), (19, .int .i64 y2)] hS (by kernel_rfl) ?_; intro s hS
      obtain ⟨y3, hy3, h⟩ := bind_some h
      refine q_callF (a := []) (b := []) (xs := [(Sl.t (a0.Types : Sl DRecordType)), .int .i64 y2]) rfl hS rfl rfl hy3 ?_; intro s hS
      refine q_seg 1 [(1, .int .i64 y3)] hS (by kernel_rfl) ?_; intro s hS
      refine x_nil ?_
      refine sq_n ?_
      refine c_seq ?_
      refine c_seq ?_
      refine c_region ?_
      refine q_seg 2 [(1, .int .i64 y3), (22, .bool (decide (y3 < 0)))] hS (by kernel_rfl) ?_; intro s hS
      refine x_nil ?_
      refine sq_n ?_
      by_cases hc3 : (decide (y3 < 0)) = true
      · have h := it_pos hc3 h
        refine c_cond hS rfl (fun _ => ?_) (fun hf => ff_absurd hc3 hf)
        refine c_seq ?_
        refine c_region ?_
        refine q_seg 1 [(4, .int .i64 (-1))] hS (by kernel_rfl) ?_; intro s hS
        refine x_nil ?_
        refine sq_n ?_
        refine c_ret ?_
        refine sq_r ?_
        injection h with h; subst h
        exact end_W hH (r_tmp (v := .int .i64 (-1)) hS rfl r_nil) rfl (by kernel_rfl) (by simp [pureT, pureL, E_i64])
      · have h := it_neg hc3 h
        refine c_cond hS rfl (fun hf => tt_absurd hc3 hf) (fun _ => ?_)
        refine c_skip ?_
        refine sq_n ?_
        refine c_seq ?_
        refine c_region ?_
        refine q_seg 2 [(4, .int .i64 y3)] hS (by kernel_rfl) ?_; intro s hS
        refine x_nil ?_
        refine sq_n ?_
        refine c_ret ?_
        injection h with h; subst h
        exact end_W hH (r_tmp (v := .int .i64 y3) hS rfl r_nil) rfl (by kernel_rfl) (by simp [pureT, pureL, E_i64])
end Go.Am
end
section
set_option maxRecDepth 100000
set_option maxHeartbeats 1000000
set_option linter.unusedVariables false
set_option linter.unusedSimpArgs false
namespace Go.Am
open Go.Proofs
noncomputable def B_laws_szConsole (a0 : DConsole) (a1 : Int) : Option Int := ((F_laws_szStringS a0.Input a1).bind fun y1 => (if (decide (y1 < 0)) = true then (some (-1)) else ((F_laws_szStringS a0.Output y1).bind fun y2 => (if (decide (y2 < 0)) = true then (some (-1)) else ((F_laws_szFileS a0.Files y2).bind fun y3 => (if (decide (y3 < 0)) = true then (some (-1)) else ((F_laws_szStringS a0.Trace y3).bind fun y4 => (if (decide (y4 < 0)) = true then (some (-1)) else (some y4)))))))))
theorem u_laws_szConsole (a0 : DConsole) (a1 : Int) (r : Int) (h : B_laws_szConsole a0 a1 = some r) : F_laws_szConsole a0 a1 = some r := by
  unfold B_laws_szConsole at h
  refine semW_of E_i64_inj rfl rfl ok_40 rfl (all_cons (by kernel_rfl) (all_cons (by kernel_rfl) all_nil)) ?_
  intro σ0 s hS hH
  have hS := sub_to (L' := [(0, .agg (DConsole.cells a0)), (1, .int .i64 a1)]) hS (by kernel_rfl)
  refine c_seq ?_
  refine c_region ?_
  refine q_box (v := .agg (DConsole.cells a0)) (cs := [(Sl.t (a0.Input : Sl ByteArray)), .int .i64 a0.At, (Sl.t (a0.Output : Sl ByteArray)), (Sl.t (a0.Files : Sl DFile)), (Sl.t (a0.Trace : Sl ByteArray))]) rfl hS hH rfl rfl (by kernel_rfl) ?_; intro b1 σ s hH hS
  refine q_seg 1 [(1, .int .i64 a1), (2, .ptr b1 0 0 5)] hS (by kernel_rfl) ?_; intro s hS
  refine x_nil ?_
  refine sq_n ?_
  refine c_seq ?_
  refine c_region ?_
  refine q_seg 1 [(1, .int .i64 a1), (2, .ptr b1 0 0 5), (5, .ptr b1 0 0 1)] hS (by kernel_rfl) ?_; intro s hS
  refine q_load (v := (Sl.t (a0.Input : Sl ByteArray))) 0 trivial rfl hS hH rfl rfl (by kernel_rfl) ?_; intro s hS
  refine q_seg 1 [(2, .ptr b1 0 0 5), (6, (Sl.t (a0.Input : Sl ByteArray))), (7, .int .i64 a1)] hS (by kernel_rfl) ?_; intro s hS
  obtain ⟨y1, hy1, h⟩ := bind_some h
  refine q_callF (a := []) (b := []) (xs := [(Sl.t (a0.Input : Sl ByteArray)), .int .i64 a1]) rfl hS rfl rfl hy1 ?_; intro s hS
  refine q_seg 1 [(1, .int .i64 y1), (2, .ptr b1 0 0 5)] hS (by kernel_rfl) ?_; intro s hS
  refine x_nil ?_
  refine sq_n ?_
  refine c_seq ?_
  refine c_seq ?_
  refine c_region ?_
  refine q_seg 2 [(1, .int .i64 y1), (2, .ptr b1 0 0 5), (10, .bool (decide (y1 < 0)))] hS (by kernel_rfl) ?_; intro s hS
  refine x_nil ?_
  refine sq_n ?_
  by_cases hc1 : (decide (y1 < 0)) = true
  · have h := it_pos hc1 h
    refine c_cond hS rfl (fun _ => ?_) (fun hf => ff_absurd hc1 hf)
    refine c_seq ?_
    refine c_region ?_
    refine q_seg 1 [(4, .int .i64 (-1))] hS (by kernel_rfl) ?_; intro s hS
    refine x_nil ?_
    refine sq_n ?_
    refine c_ret ?_
    refine sq_r ?_
    injection h with h; subst h
    exact end_W hH (r_tmp (v := .int .i64 (-1)) hS rfl r_nil) rfl (by kernel_rfl) (by simp [pureT, pureL, E_i64])
  · have h := it_neg hc1 h
    refine c_cond hS rfl (fun hf => tt_absurd hc1 hf) (fun _ => ?_)
    refine c_skip ?_
    refine sq_n ?_
    refine c_seq ?_
    refine c_region ?_
    refine q_seg 1 [(1, .int .i64 y1), (2, .ptr b1 0 0 5), (11, .ptr b1 0 2 1)] hS (by kernel_rfl) ?_; intro s hS
    refine q_load (v := (Sl.t (a0.Output : Sl ByteArray))) 0 trivial rfl hS hH rfl rfl (by kernel_rfl) ?_; intro s hS
    refine q_seg 1 [(2, .ptr b1 0 0 5), (12, (Sl.t (a0.Output : Sl ByteArray))), (13, .int .i64 y1)] hS (by kernel_rfl) ?_; intro s hS
    obtain ⟨y2, hy2, h⟩ := bind_some h
    refine q_callF (a := []) (b := []) (xs := [(Sl.t (a0.Output : Sl ByteArray)), .int .i64 y1]) rfl hS rfl rfl hy2 ?_; intro s hS
    refine q_seg 1 [(1, .int .i64 y2), (2, .ptr b1 0 0 5)] hS (by kernel_rfl) ?_; intro s hS
    refine x_nil ?_
    refine sq_n ?_
    refine c_seq ?_
    refine c_seq ?_
    refine c_region ?_
    refine q_seg 2 [(1, .int .i64 y2), (2, .ptr b1 0 0 5), (16, .bool (decide (y2 < 0)))] hS (by kernel_rfl) ?_; intro s hS
    refine x_nil ?_
    refine sq_n ?_
    by_cases hc2 : (decide (y2 < 0)) = true
    · have h := it_pos hc2 h
      refine c_cond hS rfl (fun _ => ?_) (fun hf => ff_absurd hc2 hf)
      refine c_seq ?_
      refine c_region ?_
      refine q_seg 1 [(4, .int .i64 (-1))] hS (by kernel_rfl) ?_; intro s hS
      refine x_nil ?_
      refine sq_n ?_
      refine c_ret ?_
      refine sq_r ?_
      injection h with h; subst h
      exact end_W hH (r_tmp (v := .int .i64 (-1)) hS rfl r_nil) rfl (by kernel_rfl) (by simp [pureT, pureL, E_i64])
    · have h := it_neg hc2 h
      refine c_cond hS rfl (fun hf => tt_absurd hc2 hf) (fun _ => ?_)
      refine c_skip ?_
      refine sq_n ?_
      refine c_seq ?_
      refine c_region ?_
      refine q_seg 1 [(1, .int .i64 y2), (2, .ptr b1 0 0 5), (17, .ptr b1 0 3 1)] hS (by kernel_rfl) ?_; intro s hS
      refine q_load (v := (Sl.t (a0.Files : Sl DFile))) 0 trivial rfl hS hH rfl rfl (by kernel_rfl) ?_; intro s hS
      refine q_seg 1 [(2, .ptr b1 0 0 5), (18, (Sl.t (a0.Files : Sl DFile))), (19, .int .i64 y2)] hS (by kernel_rfl) ?_; intro s hS
      obtain ⟨y3, hy3, h⟩ := bind_some h
      refine q_callF (a := []) (b := []) (xs := [(Sl.t (a0.Files : Sl DFile)), .int .i64 y2]) rfl hS rfl rfl hy3 ?_; intro s hS
      refine q_seg 1 [(1, .int .i64 y3), (2, .ptr b1 0 0 5)] hS (by kernel_rfl) ?_; intro s hS
      refine x_nil ?_
      refine sq_n ?_
      refine c_seq ?_
      refine c_seq ?_
      refine c_region ?_
      refine q_seg 2 [(1, .int .i64 y3), (2, .ptr b1 0 0 5), (22, .bool (decide (y3 < 0)))] hS (by kernel_rfl) ?_; intro s hS
      refine x_nil ?_
      refine sq_n ?_
      by_cases hc3 : (decide (y3 < 0)) = true
      · have h := it_pos hc3 h
        refine c_cond hS rfl (fun _ => ?_) (fun hf => ff_absurd hc3 hf)
        refine c_seq ?_
        refine c_region ?_
        refine q_seg 1 [(4, .int .i64 (-1))] hS (by kernel_rfl) ?_; intro s hS
        refine x_nil ?_
        refine sq_n ?_
        refine c_ret ?_
        refine sq_r ?_
        injection h with h; subst h
        exact end_W hH (r_tmp (v := .int .i64 (-1)) hS rfl r_nil) rfl (by kernel_rfl) (by simp [pureT, pureL, E_i64])
      · have h := it_neg hc3 h
        refine c_cond hS rfl (fun hf => tt_absurd hc3 hf) (fun _ => ?_)
        refine c_skip ?_
        refine sq_n ?_
        refine c_seq ?_
        refine c_region ?_
        refine q_seg 1 [(1, .int .i64 y3), (23, .ptr b1 0 4 1)] hS (by kernel_rfl) ?_; intro s hS
        refine q_load (v := (Sl.t (a0.Trace : Sl ByteArray))) 0 trivial rfl hS hH rfl rfl (by kernel_rfl) ?_; intro s hS
        refine q_seg 1 [(24, (Sl.t (a0.Trace : Sl ByteArray))), (25, .int .i64 y3)] hS (by kernel_rfl) ?_; intro s hS
        obtain ⟨y4, hy4, h⟩ := bind_some h
        refine q_callF (a := []) (b := []) (xs := [(Sl.t (a0.Trace : Sl ByteArray)), .int .i64 y3]) rfl hS rfl rfl hy4 ?_; intro s hS
        refine q_seg 1 [(1, .int .i64 y4)] hS (by kernel_rfl) ?_; intro s hS
        refine x_nil ?_
        refine sq_n ?_
        refine c_seq ?_
        refine c_seq ?_
        refine c_region ?_
        refine q_seg 2 [(1, .int .i64 y4), (28, .bool (decide (y4 < 0)))] hS (by kernel_rfl) ?_; intro s hS
        refine x_nil ?_
        refine sq_n ?_
        by_cases hc4 : (decide (y4 < 0)) = true
        · have h := it_pos hc4 h
          refine c_cond hS rfl (fun _ => ?_) (fun hf => ff_absurd hc4 hf)
          refine c_seq ?_
          refine c_region ?_
          refine q_seg 1 [(4, .int .i64 (-1))] hS (by kernel_rfl) ?_; intro s hS
          refine x_nil ?_
          refine sq_n ?_
          refine c_ret ?_
          refine sq_r ?_
          injection h with h; subst h
          exact end_W hH (r_tmp (v := .int .i64 (-1)) hS rfl r_nil) rfl (by kernel_rfl) (by simp [pureT, pureL, E_i64])
        · have h := it_neg hc4 h
          refine c_cond hS rfl (fun hf => tt_absurd hc4 hf) (fun _ => ?_)
          refine c_skip ?_
          refine sq_n ?_
          refine c_seq ?_
          refine c_region ?_
          refine q_seg 2 [(4, .int .i64 y4)] hS (by kernel_rfl) ?_; intro s hS
          refine x_nil ?_
          refine sq_n ?_
          refine c_ret ?_
          injection h with h; subst h
          exact end_W hH (r_tmp (v := .int .i64 y4) hS rfl r_nil) rfl (by kernel_rfl) (by simp [pureT, pureL, E_i64])
end Go.Am
end
section
set_option maxRecDepth 100000
set_option maxHeartbeats 1000000
set_option linter.unusedVariables false
set_option linter.unusedSimpArgs false
namespace Go.Am
open Go.Proofs
noncomputable def B_spec_SameHeap (a0 : DHeap) (a1 : DHeap) : Option Bool := ((F_spec_l07Same a0 a1).bind fun y1 => (some y1))
theorem u_spec_SameHeap (a0 : DHeap) (a1 : DHeap) (r : Bool) (h : B_spec_SameHeap a0 a1 = some r) : F_spec_SameHeap a0 a1 = some r := by
  unfold B_spec_SameHeap at h
  refine semW_of E_bool_inj rfl rfl ok_41 rfl (all_cons (by kernel_rfl) (all_cons (by kernel_rfl) all_nil)) ?_
  intro σ0 s hS hH
  have hS := sub_to (L' := [(0, .agg (DHeap.cells a0)), (1, .agg (DHeap.cells a1))]) hS (by kernel_rfl)
  refine c_seq ?_
  refine c_region ?_
  refine q_box (v := .agg (DHeap.cells a0)) (cs := [.int .i64 a0.Next, (Sl.t (a0.Objects : Sl DObject))]) rfl hS hH rfl rfl (by kernel_rfl) ?_; intro b1 σ s hH hS
  refine q_box (v := .agg (DHeap.cells a1)) (cs := [.int .i64 a1.Next, (Sl.t (a1.Objects : Sl DObject))]) rfl hS hH rfl rfl (by kernel_rfl) ?_; intro b2 σ s hH hS
  refine q_seg 1 [(2, .ptr b1 0 0 2), (3, .ptr b2 0 0 2)] hS (by kernel_rfl) ?_; intro s hS
  refine x_nil ?_
  refine sq_n ?_
  refine c_seq ?_
  refine c_region ?_
  obtain ⟨y1, hy1, h⟩ := bind_some h
  refine q_callL (xs := [.ptr b1 0 0 2, .ptr b2 0 0 2]) (cs := [[.int .i64 a0.Next, (Sl.t (a0.Objects : Sl DObject))], [.int .i64 a1.Next, (Sl.t (a1.Objects : Sl DObject))]]) [b1, b2] rfl hS rfl rfl rfl (And.intro (Heap.lent (hH.at 1 rfl)) (And.intro (Heap.lent hH) trivial)) hy1 ?_; intro s hS
  refine q_seg 1 [(4, .bool y1)] hS (by kernel_rfl) ?_; intro s hS
  refine x_nil ?_
  refine sq_n ?_
  refine c_ret ?_
  injection h with h; subst h
  exact end_W hH (r_tmp (v := .bool y1) hS rfl r_nil) rfl (by kernel_rfl) (by simp [pureT, pureL, E_bool])
end Go.Am
end
section
set_option maxRecDepth 100000
set_option maxHeartbeats 1000000
set_option linter.unusedVariables false
set_option linter.unusedSimpArgs false
namespace Go.Am
open Go.Proofs
noncomputable def B_spec_SameScope (a0 : DScope) (a1 : DScope) : Option Bool := ((F_spec_l18SameBindings a0.Vars a1.Vars).bind fun y1 => (if (!y1) = true then (some false) else (if ((!decide ((a0.Functions.l.length : Int) = (a1.Functions.l.length : Int)))) = true then (some false) else (if ((!decide ((a0.Types.l.length : Int) = (a1.Types.l.length : Int)))) = true then (some false) else ((loopO (S := Int) (R := (Unit ⊕ Bool)) (fun st1 => (if (decide (st1 < (a0.Functions.l.length : Int))) = true then ((elt a0.Functions st1).bind fun y3 => ((elt a1.Functions st1).bind fun y4 => (if (!decide (y3.Name = y4.Name)) = true then (some (.inr (.inr false))) else (if (!decide (y3.Label = y4.Label)) = true then (some (.inr (.inr false))) else ((F_spec_l18SameTexts y3.Params y4.Params).bind fun y5 => (if (!y5) = true then (some (.inr (.inr false))) else ((F_spec_l18SameTexts y3.Locals y4.Locals).bind fun y6 => (if (!y6) = true then (some (.inr (.inr false))) else (some (.inl (IntKind.i64.wrap (st1 + 1)))))))))))) else (some (.inr (.inl ()))))) 0).bind fun y2 => (Sum.elim (fun y2 => ((loopO (S := Int) (R := (Unit ⊕ Bool)) (fun st2 => (if (decide (st2 < (a0.Types.l.length : Int))) = true then ((elt a0.Types st2).bind fun y8 => ((elt a1.Types st2).bind fun y9 => (if (!decide (y8.Name = y9.Name)) = true then (some (.inr (.inr false))) else ((elt a0.Types st2).bind fun y10 => ((elt a1.Types st2).bind fun y11 => ((F_spec_l18SameTexts y10.Fields y11.Fields).bind fun y12 => (if (!y12) = true then (some (.inr (.inr false))) else (some (.inl (IntKind.i64.wrap (st2 + 1))))))))))) else (some (.inr (.inl ()))))) 0).bind fun y7 => (Sum.elim (fun y7 => (some true)) (fun y7 => (some y7)) y7))) (fun y2 => (some y2)) y2))))))
theorem u_spec_SameScope (a0 : DScope) (a1 : DScope) (r : Bool) (h : B_spec_SameScope a0 a1 = some r) : F_spec_SameScope a0 a1 = some r := by
  unfold B_spec_SameScope at h
  refine semW_of E_bool_inj rfl rfl ok_42 rfl (all_cons (by kernel_rfl) (all_cons (by kernel_rfl) all_nil)) ?_
  intro σ0 s hS hH
  have hS := sub_to (L' := [(0, .agg (DScope.cells a0)), (1, .agg (DScope.cells a1))]) hS (by kernel_rfl)
  refine c_seq ?_
  refine c_region ?_
  refine q_box (v := .agg (DScope.cells a0)) (cs := [(Sl.t (a0.Vars : Sl DBinding)), (Sl.t (a0.Functions : Sl DFunction)), (Sl.t (a0.Types : Sl DRecordType))]) rfl hS hH rfl rfl (by kernel_rfl) ?_; intro b1 σ s hH hS
  refine q_box (v := .agg (DScope.cells a1)) (cs := [(Sl.t (a1.Vars : Sl DBinding)), (Sl.t (a1.Functions : Sl DFunction)), (Sl.t (a1.Types : Sl DRecordType))]) rfl hS hH rfl rfl (by kernel_rfl) ?_; intro b2 σ s hH hS
  refine q_seg 1 [(2, .ptr b1 0 0 3), (3, .ptr b2 0 0 3)] hS (by kernel_rfl) ?_; intro s hS
  refine x_nil ?_
  refine sq_n ?_
  refine c_seq ?_
  refine c_seq ?_
  refine c_region ?_
  refine q_seg 1 [(2, .ptr b1 0 0 3), (3, .ptr b2 0 0 3), (9, .ptr b1 0 0 1)] hS (by kernel_rfl) ?_; intro s hS
  refine q_load (v := (Sl.t (a0.Vars : Sl DBinding))) 1 trivial rfl hS hH rfl rfl (by kernel_rfl) ?_; intro s hS
  refine q_seg 1 [(2, .ptr b1 0 0 3), (3, .ptr b2 0 0 3), (10, (Sl.t (a0.Vars : Sl DBinding))), (11, .ptr b2 0 0 1)] hS (by kernel_rfl) ?_; intro s hS
  refine q_load (v := (Sl.t (a1.Vars : Sl DBinding))) 0 trivial rfl hS hH rfl rfl (by kernel_rfl) ?_; intro s hS
  obtain ⟨y1, hy1, h⟩ := bind_some h
  refine q_callF (a := []) (b := []) (xs := [(Sl.t (a0.Vars : Sl DBinding)), (Sl.t (a1.Vars : Sl DBinding))]) rfl hS rfl rfl hy1 ?_; intro s hS
  refine q_seg 2 [(15, .bool (!y1)), (2, .ptr b1 0 0 3), (3, .ptr b2 0 0 3)] hS (by kernel_rfl) ?_; intro s hS
  by_cases hc1 : (!y1) = true
  · have h := it_pos hc1 h
    have hS := sub_bt hS hc1
    refine q_seg 17 [(2, .ptr b1 0 0 3), (3, .ptr b2 0 0 3), (32, .bool true)] hS (by kernel_rfl) ?_; intro s hS
    refine x_nil ?_
    refine sq_n ?_
    refine c_cond (t := true) hS rfl (fun _ => ?_) (fun hf => by cases hf)
    refine c_seq ?_
    refine c_region ?_
    refine q_seg 1 [(4, .bool false)] hS (by kernel_rfl) ?_; intro s hS
    refine x_nil ?_
    refine sq_n ?_
    refine c_ret ?_
    refine sq_r ?_
    injection h with h; subst h
    exact end_W hH (r_tmp (v := .bool false) hS rfl r_nil) rfl (by kernel_rfl) (by simp [pureT, pureL, E_bool])
  · have h := it_neg hc1 h
    have hS := sub_bt hS (tt_of hc1)
    refine q_seg 1 [(2, .ptr b1 0 0 3), (3, .ptr b2 0 0 3), (15, .bool false), (16, .ptr b1 0 1 1)] hS (by kernel_rfl) ?_; intro s hS
    refine q_load (v := (Sl.t (a0.Functions : Sl DFunction))) 1 trivial rfl hS hH rfl rfl (by kernel_rfl) ?_; intro s hS
    refine q_seg 2 [(2, .ptr b1 0 0 3), (3, .ptr b2 0 0 3), (15, .bool false), (18, .int .i64 (a0.Functions.l.length : Int)), (19, .ptr b2 0 1 1)] hS (by kernel_rfl) ?_; intro s hS
    refine q_load (v := (Sl.t (a1.Functions : Sl DFunction))) 0 trivial rfl hS hH rfl rfl (by kernel_rfl) ?_; intro s hS
    refine q_seg 4 [(24, .bool ((!decide ((a0.Functions.l.length : Int) = (a1.Functions.l.length : Int))))), (2, .ptr b1 0 0 3), (3, .ptr b2 0 0 3)] hS (by kernel_rfl) ?_; intro s hS
    by_cases hc2 : ((!decide ((a0.Functions.l.length : Int) = (a1.Functions.l.length : Int)))) = true
    · have h := it_pos hc2 h
      have hS := sub_bt hS hc2
      refine q_seg 8 [(2, .ptr b1 0 0 3), (3, .ptr b2 0 0 3), (32, .bool true)] hS (by kernel_rfl) ?_; intro s hS
      refine x_nil ?_
      refine sq_n ?_
      refine c_cond (t := true) hS rfl (fun _ => ?_) (fun hf => by cases hf)
      refine c_seq ?_
      refine c_region ?_
      refine q_seg 1 [(4, .bool false)] hS (by kernel_rfl) ?_; intro s hS
      refine x_nil ?_
      refine sq_n ?_
      refine c_ret ?_
      refine sq_r ?_
      injection h with h; subst h
      exact end_W hH (r_tmp (v := .bool false) hS rfl r_nil) rfl (by kernel_rfl) (by simp [pureT, pureL, E_bool])
    · have h := it_neg hc2 h
      have hS := sub_bt hS (tt_of hc2)
      refine q_seg 1 [(2, .ptr b1 0 0 3), (3, .ptr b2 0 0 3), (24, .bool false), (25, .ptr b1 0 2 1)] hS (by kernel_rfl) ?_; intro s hS
      refine q_load (v := (Sl.t (a0.Types : Sl DRecordType))) 1 trivial rfl hS hH rfl rfl (by kernel_rfl) ?_; intro s hS
      refine q_seg 2 [(2, .ptr b1 0 0 3), (3, .ptr b2 0 0 3), (24, .bool false), (27, .int .i64 (a0.Types.l.length : Int)), (28, .ptr b2 0 2 1)] hS (by kernel_rfl) ?_; intro s hS
      refine q_load (v := (Sl.t (a1.Types : Sl DRecordType))) 0 trivial rfl hS hH rfl rfl (by kernel_rfl) ?_; intro s hS
      refine q_seg 3 [(2, .ptr b1 0 0 3), (3, .ptr b2 0 0 3), (32, .bool ((!decide ((a0.Types.l.length : Int) = (a1.Types.l.length : Int)))))] hS (by kernel_rfl) ?_; intro s hS
      refine x_nil ?_
      refine sq_n ?_
      by_cases hc3 : ((!decide ((a0.Types.l.length : Int) = (a1.Types.l.length : Int)))) = true
      · have h := it_pos hc3 h
        refine c_cond hS rfl (fun _ => ?_) (fun hf => ff_absurd hc3 hf)
        refine c_seq ?_
        refine c_region ?_
        refine q_seg 1 [(4, .bool false)] hS (by kernel_rfl) ?_; intro s hS
        refine x_nil ?_
        refine sq_n ?_
        refine c_ret ?_
        refine sq_r ?_
        injection h with h; subst h
        exact end_W hH (r_tmp (v := .bool false) hS rfl r_nil) rfl (by kernel_rfl) (by simp [pureT, pureL, E_bool])
      · have h := it_neg hc3 h
        refine c_cond hS rfl (fun hf => tt_absurd hc3 hf) (fun _ => ?_)
        refine c_skip ?_
        refine sq_n ?_
        refine c_seq ?_
        refine c_seq ?_
        refine c_region ?_
        refine q_seg 1 [(2, .ptr b1 0 0 3), (3, .ptr b2 0 0 3), (5, .int .i64 0)] hS (by kernel_rfl) ?_; intro s hS
        refine x_nil ?_
        refine sq_n ?_
        refine c_block ?_
        obtain ⟨y2, hy2, h⟩ := bind_some h
        refine c_loop (fun (st1 : Int) (fr : Fr) => Sub [(2, .ptr b1 0 0 3), (3, .ptr b2 0 0 3), (5, .int .i64 st1)] fr.s ∧ Heap σ0 fr.σ [.box b2 [(Sl.t (a1.Vars : Sl DBinding)), (Sl.t (a1.Functions : Sl DFunction)), (Sl.t (a1.Types : Sl DRecordType))], .box b1 [(Sl.t (a0.Vars : Sl DBinding)), (Sl.t (a0.Functions : Sl DFunction)), (Sl.t (a0.Types : Sl DRecordType))]]) (fun (y2 : (Unit ⊕ Bool)) (e : AExit) (fr : Fr) => (Sum.elim (fun y => e = (.exit 0) ∧ Sub [(2, .ptr b1 0 0 3), (3, .ptr b2 0 0 3)] fr.s ∧ Heap σ0 fr.σ [.box b2 [(Sl.t (a1.Vars : Sl DBinding)), (Sl.t (a1.Functions : Sl DFunction)), (Sl.t (a1.Types : Sl DRecordType))], .box b1 [(Sl.t (a0.Vars : Sl DBinding)), (Sl.t (a0.Functions : Sl DFunction)), (Sl.t (a0.Types : Sl DRecordType))]]) (fun y => e = .ret ∧ endW Try.prog (Try.f42.results.toList) σ0 (E_bool y) .ret fr)) y2) hy2 (And.intro (sub_to hS (by kernel_rfl)) hH) ?_ ?_
        · clear h hy2 hS hH; clear y2; intro st1 x fr h HI; obtain ⟨s, σ⟩ := fr; obtain ⟨hS, hH⟩ := HI
          refine c_seq ?_
          refine c_seq ?_
          refine c_region ?_
          refine q_seg 2 [(2, .ptr b1 0 0 3), (3, .ptr b2 0 0 3), (5, .int .i64 st1), (33, .int .i64 st1), (34, .ptr b1 0 1 1)] hS (by kernel_rfl) ?_; intro s hS
          refine q_load (v := (Sl.t (a0.Functions : Sl DFunction))) 1 trivial rfl hS hH rfl rfl (by kernel_rfl) ?_; intro s hS
          refine q_seg 2 [(2, .ptr b1 0 0 3), (3, .ptr b2 0 0 3), (5, .int .i64 st1), (37, .bool (decide (st1 < (a0.Functions.l.length : Int))))] hS (by kernel_rfl) ?_; intro s hS
          refine x_nil ?_
          refine sq_n ?_
          by_cases hc4 : (decide (st1 < (a0.Functions.l.length : Int))) = true
          · have h := it_pos hc4 h
            refine c_cond hS rfl (fun _ => ?_) (fun hf => ff_absurd hc4 hf)
            refine c_skip ?_
            refine sq_n ?_
            refine c_seq ?_
            refine c_block ?_
            refine c_seq ?_
            refine c_region ?_
            refine q_seg 1 [(2, .ptr b1 0 0 3), (3, .ptr b2 0 0 3), (5, .int .i64 st1), (40, .ptr b1 0 1 1)] hS (by kernel_rfl) ?_; intro s hS
            refine q_load (v := (Sl.t (a0.Functions : Sl DFunction))) 1 trivial rfl hS hH rfl rfl (by kernel_rfl) ?_; intro s hS
            refine q_seg 1 [(2, .ptr b1 0 0 3), (3, .ptr b2 0 0 3), (5, .int .i64 st1), (41, (Sl.t (a0.Functions : Sl DFunction))), (42, .int .i64 st1)] hS (by kernel_rfl) ?_; intro s hS
            obtain ⟨y3, hy3, h⟩ := bind_some h
            refine q_elt (sl := a0.Functions) (e := 99) [.str y3.Name, (Sl.t (y3.Params : Sl ByteArray)), (Sl.t (y3.Locals : Sl ByteArray)), .str y3.Label] rfl hS rfl rfl (by kernel_rfl) (by kernel_rfl) hy3 rfl ?_; intro rest1 s hS
            refine q_seg 1 [(2, .ptr b1 0 0 3), (3, .ptr b2 0 0 3), (5, .int .i64 st1), (44, .agg (DFunction.cells y3))] hS (by kernel_rfl) ?_; intro s hS
            refine q_alloc (z := [.str ⟨#[]⟩, (Sl.t (⟨true, []⟩ : Sl ByteArray)), (Sl.t (⟨true, []⟩ : Sl ByteArray)), .str ⟨#[]⟩]) rfl hS hH (by kernel_rfl) ?_; intro b3 σ s hH hS
            refine q_store (v := .agg (DFunction.cells y3)) (cs := [.str y3.Name, (Sl.t (y3.Params : Sl ByteArray)), (Sl.t (y3.Locals : Sl ByteArray)), .str y3.Label]) (cells' := [.str y3.Name, (Sl.t (y3.Params : Sl ByteArray)), (Sl.t (y3.Locals : Sl ByteArray)), .str y3.Label]) rfl hS hH rfl rfl rfl (by kernel_rfl) (by kernel_rfl) ?_; intro σ s hH hS
            refine x_nil ?_
            refine sq_n ?_
            refine c_seq ?_
            refine c_region ?_
            refine q_seg 1 [(2, .ptr b1 0 0 3), (3, .ptr b2 0 0 3), (5, .int .i64 st1), (6, .ptr b3 0 0 4), (45, .ptr b2 0 1 1)] hS (by kernel_rfl) ?_; intro s hS
            refine q_load (v := (Sl.t (a1.Functions : Sl DFunction))) 1 trivial rfl hS hH rfl rfl (by kernel_rfl) ?_; intro s hS
            refine q_seg 1 [(2, .ptr b1 0 0 3), (3, .ptr b2 0 0 3), (5, .int .i64 st1), (6, .ptr b3 0 0 4), (46, (Sl.t (a1.Functions : Sl DFunction))), (47, .int .i64 st1)] hS (by kernel_rfl) ?_; intro s hS
            obtain ⟨y4, hy4, h⟩ := bind_some h
            refine q_elt (sl := a1.Functions) (e := 99) [.str y4.Name, (Sl.t (y4.Params : Sl ByteArray)), (Sl.t (y4.Locals : Sl ByteArray)), .str y4.Label] rfl hS rfl rfl (by kernel_rfl) (by kernel_rfl) hy4 rfl ?_; intro rest2 s hS
            refine q_seg 1 [(2, .ptr b1 0 0 3), (3, .ptr b2 0 0 3), (5, .int .i64 st1), (6, .ptr b3 0 0 4), (49, .agg (DFunction.cells y4))] hS (by kernel_rfl) ?_; intro s hS
            refine q_alloc (z := [.str ⟨#[]⟩, (Sl.t (⟨true, []⟩ : Sl ByteArray)), (Sl.t (⟨true, []⟩ : Sl ByteArray)), .str ⟨#[]⟩]) rfl hS hH (by kernel_rfl) ?_; intro b4 σ s hH hS
            refine q_store (v := .agg (DFunction.cells y4)) (cs := [.str y4.Name, (Sl.t (y4.Params : Sl ByteArray)), (Sl.t (y4.Locals : Sl ByteArray)), .str y4.Label]) (cells' := [.str y4.Name, (Sl.t (y4.Params : Sl ByteArray)), (Sl.t (y4.Locals : Sl ByteArray)), .str y4.Label]) rfl hS hH rfl rfl rfl (by kernel_rfl) (by kernel_rfl) ?_; intro σ s hH hS
            refine x_nil ?_
            refine sq_n ?_
            refine c_seq ?_
            refine c_region ?_
            refine q_seg 1 [(2, .ptr b1 0 0 3), (3, .ptr b2 0 0 3), (5, .int .i64 st1), (6, .ptr b3 0 0 4), (7, .ptr b4 0 0 4), (50, .ptr b3 0 0 1)] hS (by kernel_rfl) ?_; intro s hS
            refine q_load (v := .str y3.Name) 1 trivial rfl hS hH rfl rfl (by kernel_rfl) ?_; intro s hS
            refine q_seg 1 [(2, .ptr b1 0 0 3), (3, .ptr b2 0 0 3), (5, .int .i64 st1), (6, .ptr b3 0 0 4), (7, .ptr b4 0 0 4), (51, .str y3.Name), (52, .ptr b4 0 0 1)] hS (by kernel_rfl) ?_; intro s hS
            refine q_load (v := .str y4.Name) 0 trivial rfl hS hH rfl rfl (by kernel_rfl) ?_; intro s hS
            refine q_seg 2 [(55, .bool (!decide (y3.Name = y4.Name))), (2, .ptr b1 0 0 3), (3, .ptr b2 0 0 3), (5, .int .i64 st1), (6, .ptr b3 0 0 4), (7, .ptr b4 0 0 4)] hS (by kernel_rfl) ?_; intro s hS
            by_cases hc5 : (!decide (y3.Name = y4.Name)) = true
            · have h := it_pos hc5 h
              have hS := sub_bt hS hc5
              refine q_seg 22 [(2, .ptr b1 0 0 3), (3, .ptr b2 0 0 3), (5, .int .i64 st1), (77, .bool true)] hS (by kernel_rfl) ?_; intro s hS
              refine x_nil ?_
              refine sq_n ?_
              refine c_cond (t := true) hS rfl (fun _ => ?_) (fun hf => by cases hf)
              refine c_seq ?_
              refine c_region ?_
              refine q_seg 1 [(4, .bool false)] hS (by kernel_rfl) ?_; intro s hS
              refine x_nil ?_
              refine sq_n ?_
              refine c_ret ?_
              refine bk_r ?_
              refine sq_r ?_
              injection h with h; subst h
              exact And.intro rfl (end_W hH (r_tmp (v := .bool false) hS rfl r_nil) rfl (by kernel_rfl) (by simp [pureT, pureL, E_bool]))
            · have h := it_neg hc5 h
              have hS := sub_bt hS (tt_of hc5)
              refine q_seg 1 [(2, .ptr b1 0 0 3), (3, .ptr b2 0 0 3), (5, .int .i64 st1), (6, .ptr b3 0 0 4), (7, .ptr b4 0 0 4), (55, .bool false), (56, .ptr b3 0 3 1)] hS (by kernel_rfl) ?_; intro s hS
              refine q_load (v := .str y3.Label) 1 trivial rfl hS hH rfl rfl (by kernel_rfl) ?_; intro s hS
              refine q_seg 1 [(2, .ptr b1 0 0 3), (3, .ptr b2 0 0 3), (5, .int .i64 st1), (6, .ptr b3 0 0 4), (7, .ptr b4 0 0 4), (55, .bool false), (57, .str y3.Label), (58, .ptr b4 0 3 1)] hS (by kernel_rfl) ?_; intro s hS
              refine q_load (v := .str y4.Label) 0 trivial rfl hS hH rfl rfl (by kernel_rfl) ?_; intro s hS
              refine q_seg 3 [(62, .bool (!decide (y3.Label = y4.Label))), (2, .ptr b1 0 0 3), (3, .ptr b2 0 0 3), (5, .int .i64 st1), (6, .ptr b3 0 0 4), (7, .ptr b4 0 0 4)] hS (by kernel_rfl) ?_; intro s hS
              by_cases hc6 : (!decide (y3.Label = y4.Label)) = true
              · have h := it_pos hc6 h
                have hS := sub_bt hS hc6
                refine q_seg 15 [(2, .ptr b1 0 0 3), (3, .ptr b2 0 0 3), (5, .int .i64 st1), (77, .bool true)] hS (by kernel_rfl) ?_; intro s hS
                refine x_nil ?_
                refine sq_n ?_
                refine c_cond (t := true) hS rfl (fun _ => ?_) (fun hf => by cases hf)
                refine c_seq ?_
                refine c_region ?_
                refine q_seg 1 [(4, .bool false)] hS (by kernel_rfl) ?_; intro s hS
                refine x_nil ?_
                refine sq_n ?_
                refine c_ret ?_
                refine bk_r ?_
                refine sq_r ?_
                injection h with h; subst h
                exact And.intro rfl (end_W hH (r_tmp (v := .bool false) hS rfl r_nil) rfl (by kernel_rfl) (by simp [pureT, pureL, E_bool]))
              · have h := it_neg hc6 h
                have hS := sub_bt hS (tt_of hc6)
                refine q_seg 1 [(2, .ptr b1 0 0 3), (3, .ptr b2 0 0 3), (5, .int .i64 st1), (6, .ptr b3 0 0 4), (7, .ptr b4 0 0 4), (62, .bool false), (63, .ptr b3 0 1 1)] hS (by kernel_rfl) ?_; intro s hS
                refine q_load (v := (Sl.t (y3.Params : Sl ByteArray))) 1 trivial rfl hS hH rfl rfl (by kernel_rfl) ?_; intro s hS
                refine q_seg 1 [(2, .ptr b1 0 0 3), (3, .ptr b2 0 0 3), (5, .int .i64 st1), (6, .ptr b3 0 0 4), (7, .ptr b4 0 0 4), (62, .bool false), (64, (Sl.t (y3.Params : Sl ByteArray))), (65, .ptr b4 0 1 1)] hS (by kernel_rfl) ?_; intro s hS
                refine q_load (v := (Sl.t (y4.Params : Sl ByteArray))) 0 trivial rfl hS hH rfl rfl (by kernel_rfl) ?_; intro s hS
                obtain ⟨y5, hy5, h⟩ := bind_some h
                refine q_callF (a := []) (b := []) (xs := [(Sl.t (y3.Params : Sl ByteArray)), (Sl.t (y4.Params : Sl ByteArray))]) rfl hS rfl rfl hy5 ?_; intro s hS
                refine q_seg 3 [(70, .bool (!y5)), (2, .ptr b1 0 0 3), (3, .ptr b2 0 0 3), (5, .int .i64 st1), (6, .ptr b3 0 0 4), (7, .ptr b4 0 0 4)] hS (by kernel_rfl) ?_; intro s hS
                by_cases hc7 : (!y5) = true
                · have h := it_pos hc7 h
                  have hS := sub_bt hS hc7
                  refine q_seg 7 [(2, .ptr b1 0 0 3), (3, .ptr b2 0 0 3), (5, .int .i64 st1), (77, .bool true)] hS (by kernel_rfl) ?_; intro s hS
                  refine x_nil ?_
                  refine sq_n ?_
                  refine c_cond (t := true) hS rfl (fun _ => ?_) (fun hf => by cases hf)
                  refine c_seq ?_
                  refine c_region ?_
                  refine q_seg 1 [(4, .bool false)] hS (by kernel_rfl) ?_; intro s hS
                  refine x_nil ?_
                  refine sq_n ?_
                  refine c_ret ?_
                  refine bk_r ?_
                  refine sq_r ?_
                  injection h with h; subst h
                  exact And.intro rfl (end_W hH (r_tmp (v := .bool false) hS rfl r_nil) rfl (by kernel_rfl) (by simp [pureT, pureL, E_bool]))
                · have h := it_neg hc7 h
                  have hS := sub_bt hS (tt_of hc7)
                  refine q_seg 1 [(2, .ptr b1 0 0 3), (3, .ptr b2 0 0 3), (5, .int .i64 st1), (7, .ptr b4 0 0 4), (70, .bool false), (71, .ptr b3 0 2 1)] hS (by kernel_rfl) ?_; intro s hS
                  refine q_load (v := (Sl.t (y3.Locals : Sl ByteArray))) 1 trivial rfl hS hH rfl rfl (by kernel_rfl) ?_; intro s hS
                  refine q_seg 1 [(2, .ptr b1 0 0 3), (3, .ptr b2 0 0 3), (5, .int .i64 st1), (70, .bool false), (72, (Sl.t (y3.Locals : Sl ByteArray))), (73, .ptr b4 0 2 1)] hS (by kernel_rfl) ?_; intro s hS
                  refine q_load (v := (Sl.t (y4.Locals : Sl ByteArray))) 0 trivial rfl hS hH rfl rfl (by kernel_rfl) ?_; intro s hS
                  obtain ⟨y6, hy6, h⟩ := bind_some h
                  refine q_callF (a := []) (b := []) (xs := [(Sl.t (y3.Locals : Sl ByteArray)), (Sl.t (y4.Locals : Sl ByteArray))]) rfl hS rfl rfl hy6 ?_; intro s hS
                  refine q_seg 2 [(2, .ptr b1 0 0 3), (3, .ptr b2 0 0 3), (5, .int .i64 st1), (77, .bool (!y6))] hS (by kernel_rfl) ?_; intro s hS
                  refine x_nil ?_
                  refine sq_n ?_
                  by_cases hc8 : (!y6) = true
                  · have h := it_pos hc8 h
                    refine c_cond hS rfl (fun _ => ?_) (fun hf => ff_absurd hc8 hf)
                    refine c_seq ?_
                    refine c_region ?_
                    refine q_seg 1 [(4, .bool false)] hS (by kernel_rfl) ?_; intro s hS
                    refine x_nil ?_
                    refine sq_n ?_
                    refine c_ret ?_
                    refine bk_r ?_
                    refine sq_r ?_
                    injection h with h; subst h
                    exact And.intro rfl (end_W hH (r_tmp (v := .bool false) hS rfl r_nil) rfl (by kernel_rfl) (by simp [pureT, pureL, E_bool]))
                  · have h := it_neg hc8 h
                    refine c_cond hS rfl (fun hf => tt_absurd hc8 hf) (fun _ => ?_)
                    refine c_skip ?_
                    refine bk_n ?_
                    refine sq_n ?_
                    refine c_region ?_
                    refine q_seg 3 [(2, .ptr b1 0 0 3), (3, .ptr b2 0 0 3), (5, .int .i64 (IntKind.i64.wrap (st1 + 1)))] hS (by kernel_rfl) ?_; intro s hS
                    refine x_nil ?_
                    injection h with h; subst h
                    exact And.intro (sub_to hS (by kernel_rfl)) (Heap.sel hH [2, 3] rfl (by kernel_rfl))
          · have h := it_neg hc4 h
            refine c_cond hS rfl (fun hf => tt_absurd hc4 hf) (fun _ => ?_)
            refine c_exit ?_
            refine sq_x ?_
            injection h with h; subst h
            exact And.intro rfl (And.intro (sub_to hS (by kernel_rfl)) hH)
        · clear hS hH; intro e fr HF; obtain ⟨s, σ⟩ := fr
          rcases y2 with y2 | y2
          · obtain ⟨rfl, hS, hH⟩ := HF
            refine bk_e ?_
            refine sq_n ?_
            refine c_seq ?_
            refine c_seq ?_
            refine c_region ?_
            refine q_seg 1 [(2, .ptr b1 0 0 3), (3, .ptr b2 0 0 3), (8, .int .i64 0)] hS (by kernel_rfl) ?_; intro s hS
            refine x_nil ?_
            refine sq_n ?_
            refine c_block ?_
            obtain ⟨y7, hy7, h⟩ := bind_some h
            refine c_loop (fun (st2 : Int) (fr : Fr) => Sub [(2, .ptr b1 0 0 3), (3, .ptr b2 0 0 3), (8, .int .i64 st2)] fr.s ∧ Heap σ0 fr.σ [.box b2 [(Sl.t (a1.Vars : Sl DBinding)), (Sl.t (a1.Functions : Sl DFunction)), (Sl.t (a1.Types : Sl DRecordType))], .box b1 [(Sl.t (a0.Vars : Sl DBinding)), (Sl.t (a0.Functions : Sl DFunction)), (Sl.t (a0.Types : Sl DRecordType))]]) (fun (y7 : (Unit ⊕ Bool)) (e : AExit) (fr : Fr) => (Sum.elim (fun y => e = (.exit 2) ∧ Sub [] fr.s ∧ Heap σ0 fr.σ []) (fun y => e = .ret ∧ endW Try.prog (Try.f42.results.toList) σ0 (E_bool y) .ret fr)) y7) hy7 (And.intro (sub_to hS (by kernel_rfl)) hH) ?_ ?_
            · clear h hy7 hS hH; clear y7; intro st2 x fr h HI; obtain ⟨s, σ⟩ := fr; obtain ⟨hS, hH⟩ := HI
              refine c_seq ?_
              refine c_seq ?_
              refine c_region ?_
              refine q_seg 2 [(2, .ptr b1 0 0 3), (3, .ptr b2 0 0 3), (8, .int .i64 st2), (78, .int .i64 st2), (79, .ptr b1 0 2 1)] hS (by kernel_rfl) ?_; intro s hS
              refine q_load (v := (Sl.t (a0.Types : Sl DRecordType))) 1 trivial rfl hS hH rfl rfl (by kernel_rfl) ?_; intro s hS
              refine q_seg 2 [(2, .ptr b1 0 0 3), (3, .ptr b2 0 0 3), (8, .int .i64 st2), (82, .bool (decide (st2 < (a0.Types.l.length : Int))))] hS (by kernel_rfl) ?_; intro s hS
              refine x_nil ?_
              refine sq_n ?_
              by_cases hc9 : (decide (st2 < (a0.Types.l.length : Int))) = true
              · have h := it_pos hc9 h
                refine c_cond hS rfl (fun _ => ?_) (fun hf => ff_absurd hc9 hf)
                refine c_skip ?_
                refine sq_n ?_
                refine c_seq ?_
                refine c_block ?_
                refine c_seq ?_
                refine c_draw (by kernel_rfl) hH ?_; intro mb σ hH
                refine q_seg 1 [(2, .ptr b1 0 0 3), (3, .ptr b2 0 0 3), (8, .int .i64 st2), (85, .ptr b1 0 2 1)] hS (by kernel_rfl) ?_; intro s hS
                refine q_load (v := (Sl.t (a0.Types : Sl DRecordType))) 1 trivial rfl hS hH rfl rfl (by kernel_rfl) ?_; intro s hS
                refine q_seg 1 [(2, .ptr b1 0 0 3), (3, .ptr b2 0 0 3), (8, .int .i64 st2), (86, (Sl.t (a0.Types : Sl DRecordType))), (87, .int .i64 st2)] hS (by kernel_rfl) ?_; intro s hS
                obtain ⟨y8, hy8, h⟩ := bind_some h
                refine q_elt (sl := a0.Types) (e := 101) [.str y8.Name, (Sl.t (y8.Fields : Sl ByteArray))] rfl hS rfl rfl (by kernel_rfl) (by kernel_rfl) hy8 rfl ?_; intro rest3 s hS
                refine q_seg 3 [(2, .ptr b1 0 0 3), (3, .ptr b2 0 0 3), (8, .int .i64 st2), (90, .str y8.Name), (91, .ptr b2 0 2 1)] hS (by kernel_rfl) ?_; intro s hS
                refine q_load (v := (Sl.t (a1.Types : Sl DRecordType))) 0 trivial rfl hS hH rfl rfl (by kernel_rfl) ?_; intro s hS
                refine q_seg 1 [(2, .ptr b1 0 0 3), (3, .ptr b2 0 0 3), (8, .int .i64 st2), (90, .str y8.Name), (92, (Sl.t (a1.Types : Sl DRecordType))), (93, .int .i64 st2)] hS (by kernel_rfl) ?_; intro s hS
                obtain ⟨y9, hy9, h⟩ := bind_some h
                refine q_elt (sl := a1.Types) (e := 101) [.str y9.Name, (Sl.t (y9.Fields : Sl ByteArray))] rfl hS rfl rfl (by kernel_rfl) (by kernel_rfl) hy9 rfl ?_; intro rest4 s hS
                refine q_seg 4 [(98, .bool (!decide (y8.Name = y9.Name))), (2, .ptr b1 0 0 3), (3, .ptr b2 0 0 3), (8, .int .i64 st2)] hS (by kernel_rfl) ?_; intro s hS
                by_cases hc10 : (!decide (y8.Name = y9.Name)) = true
                · have h := it_pos hc10 h
                  have hS := sub_bt hS hc10
                  refine q_seg 15 [(2, .ptr b1 0 0 3), (3, .ptr b2 0 0 3), (8, .int .i64 st2), (113, .bool true)] hS (by kernel_rfl) ?_; intro s hS
                  refine x_nil ?_
                  refine sq_n ?_
                  refine c_cond (t := true) hS rfl (fun _ => ?_) (fun hf => by cases hf)
                  refine c_seq ?_
                  refine c_region ?_
                  refine q_seg 1 [(4, .bool false)] hS (by kernel_rfl) ?_; intro s hS
                  refine x_nil ?_
                  refine sq_n ?_
                  refine c_ret ?_
                  refine bk_r ?_
                  refine sq_r ?_
                  injection h with h; subst h
                  exact And.intro rfl (end_W hH (r_tmp (v := .bool false) hS rfl r_nil) rfl (by kernel_rfl) (by simp [pureT, pureL, E_bool]))
                · have h := it_neg hc10 h
                  have hS := sub_bt hS (tt_of hc10)
                  refine q_seg 1 [(2, .ptr b1 0 0 3), (3, .ptr b2 0 0 3), (8, .int .i64 st2), (98, .bool false), (99, .ptr b1 0 2 1)] hS (by kernel_rfl) ?_; intro s hS
                  refine q_load (v := (Sl.t (a0.Types : Sl DRecordType))) 1 trivial rfl hS hH rfl rfl (by kernel_rfl) ?_; intro s hS
                  refine q_seg 1 [(2, .ptr b1 0 0 3), (3, .ptr b2 0 0 3), (8, .int .i64 st2), (98, .bool false), (100, (Sl.t (a0.Types : Sl DRecordType))), (101, .int .i64 st2)] hS (by kernel_rfl) ?_; intro s hS
                  obtain ⟨y10, hy10, h⟩ := bind_some h
                  refine q_elt (sl := a0.Types) (e := 101) [.str y10.Name, (Sl.t (y10.Fields : Sl ByteArray))] rfl hS rfl rfl (by kernel_rfl) (by kernel_rfl) hy10 rfl ?_; intro rest5 s hS
                  refine q_seg 3 [(2, .ptr b1 0 0 3), (3, .ptr b2 0 0 3), (8, .int .i64 st2), (98, .bool false), (104, (Sl.t (y10.Fields : Sl ByteArray))), (105, .ptr b2 0 2 1)] hS (by kernel_rfl) ?_; intro s hS
                  refine q_load (v := (Sl.t (a1.Types : Sl DRecordType))) 0 trivial rfl hS hH rfl rfl (by kernel_rfl) ?_; intro s hS
                  refine q_seg 1 [(2, .ptr b1 0 0 3), (3, .ptr b2 0 0 3), (8, .int .i64 st2), (98, .bool false), (104, (Sl.t (y10.Fields : Sl ByteArray))), (106, (Sl.t (a1.Types : Sl DRecordType))), (107, .int .i64 st2)] hS (by kernel_rfl) ?_; intro s hS
                  obtain ⟨y11, hy11, h⟩ := bind_some h
                  refine q_elt (sl := a1.Types) (e := 101) [.str y11.Name, (Sl.t (y11.Fields : Sl ByteArray))] rfl hS rfl rfl (by kernel_rfl) (by kernel_rfl) hy11 rfl ?_; intro rest6 s hS
                  refine q_seg 2 [(2, .ptr b1 0 0 3), (3, .ptr b2 0 0 3), (8, .int .i64 st2), (98, .bool false), (104, (Sl.t (y10.Fields : Sl ByteArray))), (110, (Sl.t (y11.Fields : Sl ByteArray)))] hS (by kernel_rfl) ?_; intro s hS
                  obtain ⟨y12, hy12, h⟩ := bind_some h
                  refine q_callF (a := []) (b := []) (xs := [(Sl.t (y10.Fields : Sl ByteArray)), (Sl.t (y11.Fields : Sl ByteArray))]) rfl hS rfl rfl hy12 ?_; intro s hS
                  refine q_seg 2 [(2, .ptr b1 0 0 3), (3, .ptr b2 0 0 3), (8, .int .i64 st2), (113, .bool (!y12))] hS (by kernel_rfl) ?_; intro s hS
                  refine x_nil ?_
                  refine sq_n ?_
                  by_cases hc11 : (!y12) = true
                  · have h := it_pos hc11 h
                    refine c_cond hS rfl (fun _ => ?_) (fun hf => ff_absurd hc11 hf)
                    refine c_seq ?_
                    refine c_region ?_
                    refine q_seg 1 [(4, .bool false)] hS (by kernel_rfl) ?_; intro s hS
                    refine x_nil ?_
                    refine sq_n ?_
                    refine c_ret ?_
                    refine bk_r ?_
                    refine sq_r ?_
                    injection h with h; subst h
                    exact And.intro rfl (end_W hH (r_tmp (v := .bool false) hS rfl r_nil) rfl (by kernel_rfl) (by simp [pureT, pureL, E_bool]))
                  · have h := it_neg hc11 h
                    refine c_cond hS rfl (fun hf => tt_absurd hc11 hf) (fun _ => ?_)
                    refine c_skip ?_
                    refine bk_n ?_
                    refine sq_n ?_
                    refine c_region ?_
                    refine q_seg 3 [(2, .ptr b1 0 0 3), (3, .ptr b2 0 0 3), (8, .int .i64 (IntKind.i64.wrap (st2 + 1)))] hS (by kernel_rfl) ?_; intro s hS
                    refine x_nil ?_
                    injection h with h; subst h
                    exact And.intro (sub_to hS (by kernel_rfl)) hH
              · have h := it_neg hc9 h
                refine c_cond hS rfl (fun hf => tt_absurd hc9 hf) (fun _ => ?_)
                refine c_exit ?_
                refine sq_x ?_
                injection h with h; subst h
                exact And.intro rfl (And.intro (sub_to hS (by kernel_rfl)) (Heap.sel hH [] rfl (by kernel_rfl)))
            · clear hS hH; intro e fr HF; obtain ⟨s, σ⟩ := fr
              rcases y7 with y7 | y7
              · obtain ⟨rfl, hS, hH⟩ := HF
                refine bk_e ?_
                refine sq_n ?_
                refine c_seq ?_
                refine c_region ?_
                refine q_seg 1 [(4, .bool true)] hS (by kernel_rfl) ?_; intro s hS
                refine x_nil ?_
                refine sq_n ?_
                refine c_ret ?_
                injection h with h; subst h
                exact end_W hH (r_tmp (v := .bool true) hS rfl r_nil) rfl (by kernel_rfl) (by simp [pureT, pureL, E_bool])
              · obtain ⟨rfl, HE⟩ := HF
                refine bk_r ?_
                refine sq_r ?_
                injection h with h; subst h; exact HE
          · obtain ⟨rfl, HE⟩ := HF
            refine bk_r ?_
            refine sq_r ?_
            injection h with h; subst h; exact HE
end Go.Am
end
section
set_option maxRecDepth 100000
set_option maxHeartbeats 1000000
set_option linter.unusedVariables false
set_option linter.unusedSimpArgs false
namespace Go.Am
open Go.Proofs
noncomputable def B_spec_SameConsole (a0 : DConsole) (a1 : DConsole) : Option Bool := ((F_spec_l21SameTexts a0.Input a1.Input).bind fun y1 => (if (!y1) = true then (some false) else (if (!decide (a0.At = a1.At)) = true then (some false) else ((F_spec_l21SameTexts a0.Output a1.Output).bind fun y2 => (if (!y2) = true then (some false) else (if ((!decide ((a0.Files.l.length : Int) = (a1.Files.l.length : Int)))) = true then (some false) else ((loopO (S := Int) (R := (Unit ⊕ Bool)) (fun st1 => (if (decide (st1 < (a0.Files.l.length : Int))) = true then ((elt a0.Files st1).bind fun y4 => ((elt a1.Files st1).bind fun y5 => ((F_spec_l21SameFile y4 y5).bind fun y6 => (if (!y6) = true then (some (.inr (.inr false))) else (some (.inl (IntKind.i64.wrap (st1 + 1)))))))) else (some (.inr (.inl ()))))) 0).bind fun y3 => (Sum.elim (fun y3 => ((F_spec_l21SameTexts a0.Trace a1.Trace).bind fun y7 => (some y7))) (fun y3 => (some y3)) y3))))))))
theorem u_spec_SameConsole (a0 : DConsole) (a1 : DConsole) (r : Bool) (h : B_spec_SameConsole a0 a1 = some r) : F_spec_SameConsole a0 a1 = some r := by
  unfold B_spec_SameConsole at h
  refine semW_of E_bool_inj rfl rfl ok_43 rfl (all_cons (by kernel_rfl) (all_cons (by kernel_rfl) all_nil)) ?_
  intro σ0 s hS hH
  have hS := sub_to (L' := [(0, .agg (DConsole.cells a0)), (1, .agg (DConsole.cells a1))]) hS (by kernel_rfl)
  refine c_seq ?_
  refine c_region ?_
  refine q_box (v := .agg (DConsole.cells a0)) (cs := [(Sl.t (a0.Input : Sl ByteArray)), .int .i64 a0.At, (Sl.t (a0.Output : Sl ByteArray)), (Sl.t (a0.Files : Sl DFile)), (Sl.t (a0.Trace : Sl ByteArray))]) rfl hS hH rfl rfl (by kernel_rfl) ?_; intro b1 σ s hH hS
  refine q_box (v := .agg (DConsole.cells a1)) (cs := [(Sl.t (a1.Input : Sl ByteArray)), .int .i64 a1.At, (Sl.t (a1.Output : Sl ByteArray)), (Sl.t (a1.Files : Sl DFile)), (Sl.t (a1.Trace : Sl ByteArray))]) rfl hS hH rfl rfl (by kernel_rfl) ?_; intro b2 σ s hH hS
  refine q_seg 1 [(2, .ptr b1 0 0 5), (3, .ptr b2 0 0 5)] hS (by kernel_rfl) ?_; intro s hS
  refine x_nil ?_
  refine sq_n ?_
  refine c_seq ?_
  refine c_seq ?_
  refine c_region ?_
  refine q_seg 1 [(2, .ptr b1 0 0 5), (3, .ptr b2 0 0 5), (6, .ptr b1 0 0 1)] hS (by kernel_rfl) ?_; intro s hS
  refine q_load (v := (Sl.t (a0.Input : Sl ByteArray))) 1 trivial rfl hS hH rfl rfl (by kernel_rfl) ?_; intro s hS
  refine q_seg 1 [(2, .ptr b1 0 0 5), (3, .ptr b2 0 0 5), (7, (Sl.t (a0.Input : Sl ByteArray))), (8, .ptr b2 0 0 1)] hS (by kernel_rfl) ?_; intro s hS
  refine q_load (v := (Sl.t (a1.Input : Sl ByteArray))) 0 trivial rfl hS hH rfl rfl (by kernel_rfl) ?_; intro s hS
  obtain ⟨y1, hy1, h⟩ := bind_some h
  refine q_callF (a := []) (b := []) (xs := [(Sl.t (a0.Input : Sl ByteArray)), (Sl.t (a1.Input : Sl ByteArray))]) rfl hS rfl rfl hy1 ?_; intro s hS
  refine q_seg 2 [(12, .bool (!y1)), (2, .ptr b1 0 0 5), (3, .ptr b2 0 0 5)] hS (by kernel_rfl) ?_; intro s hS
  by_cases hc1 : (!y1) = true
  · have h := it_pos hc1 h
    have hS := sub_bt hS hc1
    refine q_seg 23 [(2, .ptr b1 0 0 5), (3, .ptr b2 0 0 5), (35, .bool true)] hS (by kernel_rfl) ?_; intro s hS
    refine x_nil ?_
    refine sq_n ?_
    refine c_cond (t := true) hS rfl (fun _ => ?_) (fun hf => by cases hf)
    refine c_seq ?_
    refine c_region ?_
    refine q_seg 1 [(4, .bool false)] hS (by kernel_rfl) ?_; intro s hS
    refine x_nil ?_
    refine sq_n ?_
    refine c_ret ?_
    refine sq_r ?_
    injection h with h; subst h
    exact end_W hH (r_tmp (v := .bool false) hS rfl r_nil) rfl (by kernel_rfl) (by simp [pureT, pureL, E_bool])
  · have h := it_neg hc1 h
    have hS := sub_bt hS (tt_of hc1)
    refine q_seg 1 [(2, .ptr b1 0 0 5), (3, .ptr b2 0 0 5), (12, .bool false), (13, .ptr b1 0 1 1)] hS (by kernel_rfl) ?_; intro s hS
    refine q_load (v := .int .i64 a0.At) 1 trivial rfl hS hH rfl rfl (by kernel_rfl) ?_; intro s hS
    refine q_seg 1 [(2, .ptr b1 0 0 5), (3, .ptr b2 0 0 5), (12, .bool false), (14, .int .i64 a0.At), (15, .ptr b2 0 1 1)] hS (by kernel_rfl) ?_; intro s hS
    refine q_load (v := .int .i64 a1.At) 0 trivial rfl hS hH rfl rfl (by kernel_rfl) ?_; intro s hS
    refine q_seg 3 [(19, .bool (!decide (a0.At = a1.At))), (2, .ptr b1 0 0 5), (3, .ptr b2 0 0 5)] hS (by kernel_rfl) ?_; intro s hS
    by_cases hc2 : (!decide (a0.At = a1.At)) = true
    · have h := it_pos hc2 h
      have hS := sub_bt hS hc2
      refine q_seg 16 [(2, .ptr b1 0 0 5), (3, .ptr b2 0 0 5), (35, .bool true)] hS (by kernel_rfl) ?_; intro s hS
      refine x_nil ?_
      refine sq_n ?_
      refine c_cond (t := true) hS rfl (fun _ => ?_) (fun hf => by cases hf)
      refine c_seq ?_
      refine c_region ?_
      refine q_seg 1 [(4, .bool false)] hS (by kernel_rfl) ?_; intro s hS
      refine x_nil ?_
      refine sq_n ?_
      refine c_ret ?_
      refine sq_r ?_
      injection h with h; subst h
      exact end_W hH (r_tmp (v := .bool false) hS rfl r_nil) rfl (by kernel_rfl) (by simp [pureT, pureL, E_bool])
    · have h := it_neg hc2 h
      have hS := sub_bt hS (tt_of hc2)
      refine q_seg 1 [(2, .ptr b1 0 0 5), (3, .ptr b2 0 0 5), (19, .bool false), (20, .ptr b1 0 2 1)] hS (by kernel_rfl) ?_; intro s hS
      refine q_load (v := (Sl.t (a0.Output : Sl ByteArray))) 1 trivial rfl hS hH rfl rfl (by kernel_rfl) ?_; intro s hS
      refine q_seg 1 [(2, .ptr b1 0 0 5), (3, .ptr b2 0 0 5), (19, .bool false), (21, (Sl.t (a0.Output : Sl ByteArray))), (22, .ptr b2 0 2 1)] hS (by kernel_rfl) ?_; intro s hS
      refine q_load (v := (Sl.t (a1.Output : Sl ByteArray))) 0 trivial rfl hS hH rfl rfl (by kernel_rfl) ?_; intro s hS
      obtain ⟨y2, hy2, h⟩ := bind_some h
      refine q_callF (a := []) (b := []) (xs := [(Sl.t (a0.Output : Sl ByteArray)), (Sl.t (a1.Output : Sl ByteArray))]) rfl hS rfl rfl hy2 ?_; intro s hS
      refine q_seg 3 [(27, .bool (!y2)), (2, .ptr b1 0 0 5), (3, .ptr b2 0 0 5)] hS (by kernel_rfl) ?_; intro s hS
      by_cases hc3 : (!y2) = true
      · have h := it_pos hc3 h
        have hS := sub_bt hS hc3
        refine q_seg 8 [(2, .ptr b1 0 0 5), (3, .ptr b2 0 0 5), (35, .bool true)] hS (by kernel_rfl) ?_; intro s hS
        refine x_nil ?_
        refine sq_n ?_
        refine c_cond (t := true) hS rfl (fun _ => ?_) (fun hf => by cases hf)
        refine c_seq ?_
        refine c_region ?_
        refine q_seg 1 [(4, .bool false)] hS (by kernel_rfl) ?_; intro s hS
        refine x_nil ?_
        refine sq_n ?_
        refine c_ret ?_
        refine sq_r ?_
        injection h with h; subst h
        exact end_W hH (r_tmp (v := .bool false) hS rfl r_nil) rfl (by kernel_rfl) (by simp [pureT, pureL, E_bool])
      · have h := it_neg hc3 h
        have hS := sub_bt hS (tt_of hc3)
        refine q_seg 1 [(2, .ptr b1 0 0 5), (3, .ptr b2 0 0 5), (27, .bool false), (28, .ptr b1 0 3 1)] hS (by kernel_rfl) ?_; intro s hS
        refine q_load (v := (Sl.t (a0.Files : Sl DFile))) 1 trivial rfl hS hH rfl rfl (by kernel_rfl) ?_; intro s hS
        refine q_seg 2 [(2, .ptr b1 0 0 5), (3, .ptr b2 0 0 5), (27, .bool false), (30, .int .i64 (a0.Files.l.length : Int)), (31, .ptr b2 0 3 1)] hS (by kernel_rfl) ?_; intro s hS
        refine q_load (v := (Sl.t (a1.Files : Sl DFile))) 0 trivial rfl hS hH rfl rfl (by kernel_rfl) ?_; intro s hS
        refine q_seg 3 [(2, .ptr b1 0 0 5), (3, .ptr b2 0 0 5), (35, .bool ((!decide ((a0.Files.l.length : Int) = (a1.Files.l.length : Int)))))] hS (by kernel_rfl) ?_; intro s hS
        refine x_nil ?_
        refine sq_n ?_
        by_cases hc4 : ((!decide ((a0.Files.l.length : Int) = (a1.Files.l.length : Int)))) = true
        · have h := it_pos hc4 h
          refine c_cond hS rfl (fun _ => ?_) (fun hf => ff_absurd hc4 hf)
          refine c_seq ?_
          refine c_region ?_
          refine q_seg 1 [(4, .bool false)] hS (by kernel_rfl) ?_; intro s hS
          refine x_nil ?_
          refine sq_n ?_
          refine c_ret ?_
          refine sq_r ?_
          injection h with h; subst h
          exact end_W hH (r_tmp (v := .bool false) hS rfl r_nil) rfl (by kernel_rfl) (by simp [pureT, pureL, E_bool])
        · have h := it_neg hc4 h
          refine c_cond hS rfl (fun hf => tt_absurd hc4 hf) (fun _ => ?_)
          refine c_skip ?_
          refine sq_n ?_
          refine c_seq ?_
          refine c_seq ?_
          refine c_region ?_
          refine q_seg 1 [(2, .ptr b1 0 0 5), (3, .ptr b2 0 0 5), (5, .int .i64 0)] hS (by kernel_rfl) ?_; intro s hS
          refine x_nil ?_
          refine sq_n ?_
          refine c_block ?_
          obtain ⟨y3, hy3, h⟩ := bind_some h
          refine c_loop (fun (st1 : Int) (fr : Fr) => Sub [(2, .ptr b1 0 0 5), (3, .ptr b2 0 0 5), (5, .int .i64 st1)] fr.s ∧ Heap σ0 fr.σ [.box b2 [(Sl.t (a1.Input : Sl ByteArray)), .int .i64 a1.At, (Sl.t (a1.Output : Sl ByteArray)), (Sl.t (a1.Files : Sl DFile)), (Sl.t (a1.Trace : Sl ByteArray))], .box b1 [(Sl.t (a0.Input : Sl ByteArray)), .int .i64 a0.At, (Sl.t (a0.Output : Sl ByteArray)), (Sl.t (a0.Files : Sl DFile)), (Sl.t (a0.Trace : Sl ByteArray))]]) (fun (y3 : (Unit ⊕ Bool)) (e : AExit) (fr : Fr) => (Sum.elim (fun y => e = (.exit 0) ∧ Sub [(2, .ptr b1 0 0 5), (3, .ptr b2 0 0 5)] fr.s ∧ Heap σ0 fr.σ [.box b2 [(Sl.t (a1.Input : Sl ByteArray)), .int .i64 a1.At, (Sl.t (a1.Output : Sl ByteArray)), (Sl.t (a1.Files : Sl DFile)), (Sl.t (a1.Trace : Sl ByteArray))], .box b1 [(Sl.t (a0.Input : Sl ByteArray)), .int .i64 a0.At, (Sl.t (a0.Output : Sl ByteArray)), (Sl.t (a0.Files : Sl DFile)), (Sl.t (a0.Trace : Sl ByteArray))]]) (fun y => e = .ret ∧ endW Try.prog (Try.f43.results.toList) σ0 (E_bool y) .ret fr)) y3) hy3 (And.intro (sub_to hS (by kernel_rfl)) hH) ?_ ?_
          · clear h hy3 hS hH; clear y3; intro st1 x fr h HI; obtain ⟨s, σ⟩ := fr; obtain ⟨hS, hH⟩ := HI
            refine c_seq ?_
            refine c_seq ?_
            refine c_region ?_
            refine q_seg 2 [(2, .ptr b1 0 0 5), (3, .ptr b2 0 0 5), (5, .int .i64 st1), (36, .int .i64 st1), (37, .ptr b1 0 3 1)] hS (by kernel_rfl) ?_; intro s hS
            refine q_load (v := (Sl.t (a0.Files : Sl DFile))) 1 trivial rfl hS hH rfl rfl (by kernel_rfl) ?_; intro s hS
            refine q_seg 2 [(2, .ptr b1 0 0 5), (3, .ptr b2 0 0 5), (5, .int .i64 st1), (40, .bool (decide (st1 < (a0.Files.l.length : Int))))] hS (by kernel_rfl) ?_; intro s hS
            refine x_nil ?_
            refine sq_n ?_
            by_cases hc5 : (decide (st1 < (a0.Files.l.length : Int))) = true
            · have h := it_pos hc5 h
              refine c_cond hS rfl (fun _ => ?_) (fun hf => ff_absurd hc5 hf)
              refine c_skip ?_
              refine sq_n ?_
              refine c_seq ?_
              refine c_block ?_
              refine c_seq ?_
              refine c_draw (by kernel_rfl) hH ?_; intro mb σ hH
              refine q_seg 1 [(2, .ptr b1 0 0 5), (3, .ptr b2 0 0 5), (5, .int .i64 st1), (43, .ptr b1 0 3 1)] hS (by kernel_rfl) ?_; intro s hS
              refine q_load (v := (Sl.t (a0.Files : Sl DFile))) 1 trivial rfl hS hH rfl rfl (by kernel_rfl) ?_; intro s hS
              refine q_seg 1 [(2, .ptr b1 0 0 5), (3, .ptr b2 0 0 5), (5, .int .i64 st1), (44, (Sl.t (a0.Files : Sl DFile))), (45, .int .i64 st1)] hS (by kernel_rfl) ?_; intro s hS
              obtain ⟨y4, hy4, h⟩ := bind_some h
              refine q_elt (sl := a0.Files) (e := 104) [.str y4.Name, (Sl.t (y4.Lines : Sl ByteArray)), .int .i64 y4.Mode, .int .i64 y4.At] rfl hS rfl rfl (by kernel_rfl) (by kernel_rfl) hy4 rfl ?_; intro rest1 s hS
              refine q_seg 2 [(2, .ptr b1 0 0 5), (3, .ptr b2 0 0 5), (5, .int .i64 st1), (47, .agg (DFile.cells y4)), (48, .ptr b2 0 3 1)] hS (by kernel_rfl) ?_; intro s hS
              refine q_load (v := (Sl.t (a1.Files : Sl DFile))) 0 trivial rfl hS hH rfl rfl (by kernel_rfl) ?_; intro s hS
              refine q_seg 1 [(2, .ptr b1 0 0 5), (3, .ptr b2 0 0 5), (5, .int .i64 st1), (47, .agg (DFile.cells y4)), (49, (Sl.t (a1.Files : Sl DFile))), (50, .int .i64 st1)] hS (by kernel_rfl) ?_; intro s hS
              obtain ⟨y5, hy5, h⟩ := bind_some h
              refine q_elt (sl := a1.Files) (e := 104) [.str y5.Name, (Sl.t (y5.Lines : Sl ByteArray)), .int .i64 y5.Mode, .int .i64 y5.At] rfl hS rfl rfl (by kernel_rfl) (by kernel_rfl) hy5 rfl ?_; intro rest2 s hS
              refine q_seg 1 [(2, .ptr b1 0 0 5), (3, .ptr b2 0 0 5), (5, .int .i64 st1), (47, .agg (DFile.cells y4)), (52, .agg (DFile.cells y5))] hS (by kernel_rfl) ?_; intro s hS
              obtain ⟨y6, hy6, h⟩ := bind_some h
              refine q_callF (a := []) (b := []) (xs := [.agg (DFile.cells y4), .agg (DFile.cells y5)]) rfl hS rfl rfl hy6 ?_; intro s hS
              refine q_seg 1 [(2, .ptr b1 0 0 5), (3, .ptr b2 0 0 5), (5, .int .i64 st1), (54, .bool (!y6))] hS (by kernel_rfl) ?_; intro s hS
              refine x_nil ?_
              refine sq_n ?_
              by_cases hc6 : (!y6) = true
              · have h := it_pos hc6 h
                refine c_cond hS rfl (fun _ => ?_) (fun hf => ff_absurd hc6 hf)
                refine c_seq ?_
                refine c_region ?_
                refine q_seg 1 [(4, .bool false)] hS (by kernel_rfl) ?_; intro s hS
                refine x_nil ?_
                refine sq_n ?_
                refine c_ret ?_
                refine bk_r ?_
                refine sq_r ?_
                injection h with h; subst h
                exact And.intro rfl (end_W hH (r_tmp (v := .bool false) hS rfl r_nil) rfl (by kernel_rfl) (by simp [pureT, pureL, E_bool]))
              · have h := it_neg hc6 h
                refine c_cond hS rfl (fun hf => tt_absurd hc6 hf) (fun _ => ?_)
                refine c_skip ?_
                refine bk_n ?_
                refine sq_n ?_
                refine c_region ?_
                refine q_seg 3 [(2, .ptr b1 0 0 5), (3, .ptr b2 0 0 5), (5, .int .i64 (IntKind.i64.wrap (st1 + 1)))] hS (by kernel_rfl) ?_; intro s hS
                refine x_nil ?_
                injection h with h; subst h
                exact And.intro (sub_to hS (by kernel_rfl)) hH
            · have h := it_neg hc5 h
              refine c_cond hS rfl (fun hf => tt_absurd hc5 hf) (fun _ => ?_)
              refine c_exit ?_
              refine sq_x ?_
              injection h with h; subst h
              exact And.intro rfl (And.intro (sub_to hS (by kernel_rfl)) hH)
          · clear hS hH; intro e fr HF; obtain ⟨s, σ⟩ := fr
            rcases y3 with y3 | y3
            · obtain ⟨rfl, hS, hH⟩ := HF
              refine bk_e ?_
              refine sq_n ?_
              refine c_seq ?_
              refine c_region ?_
              refine q_seg 1 [(3, .ptr b2 0 0 5), (55, .ptr b1 0 4 1)] hS (by kernel_rfl) ?_; intro s hS
              refine q_load (v := (Sl.t (a0.Trace : Sl ByteArray))) 1 trivial rfl hS hH rfl rfl (by kernel_rfl) ?_; intro s hS
              refine q_seg 1 [(56, (Sl.t (a0.Trace : Sl ByteArray))), (57, .ptr b2 0 4 1)] hS (by kernel_rfl) ?_; intro s hS
              refine q_load (v := (Sl.t (a1.Trace : Sl ByteArray))) 0 trivial rfl hS hH rfl rfl (by kernel_rfl) ?_; intro s hS
              obtain ⟨y7, hy7, h⟩ := bind_some h
              refine q_callF (a := []) (b := []) (xs := [(Sl.t (a0.Trace : Sl ByteArray)), (Sl.t (a1.Trace : Sl ByteArray))]) rfl hS rfl rfl hy7 ?_; intro s hS
              refine q_seg 1 [(4, .bool y7)] hS (by kernel_rfl) ?_; intro s hS
              refine x_nil ?_
              refine sq_n ?_
              refine c_ret ?_
              injection h with h; subst h
              exact end_W hH (r_tmp (v := .bool y7) hS rfl r_nil) rfl (by kernel_rfl) (by simp [pureT, pureL, E_bool])
            · obtain ⟨rfl, HE⟩ := HF
              refine bk_r ?_
              refine sq_r ?_
              injection h with h; subst h; exact HE
end Go.Am
end
section
set_option maxRecDepth 100000
set_option maxHeartbeats 1000000
set_option linter.unusedVariables false
set_option linter.unusedSimpArgs false
namespace Go.Am
open Go.Proofs
noncomputable def B_laws_toHeap (a0 : DHeap) : Option DHeap := ((F_laws_toObjectS a0.Objects).bind fun y1 => (some (⟨a0.Next, y1⟩ : DHeap)))
theorem u_laws_toHeap (a0 : DHeap) (r : DHeap) (h : B_laws_toHeap a0 = some r) : F_laws_toHeap a0 = some r := by
  unfold B_laws_toHeap at h
  refine semO_of rfl rfl ok_44 rfl (all_cons (by kernel_rfl) all_nil) ?_
  intro σ0 s hS hH
  have hS := sub_to (L' := [(0, .agg (DHeap.cells a0))]) hS (by kernel_rfl)
  refine c_seq ?_
  refine c_region ?_
  refine q_box (v := .agg (DHeap.cells a0)) (cs := [.int .i64 a0.Next, (Sl.t (a0.Objects : Sl DObject))]) rfl hS hH rfl rfl (by kernel_rfl) ?_; intro b1 σ s hH hS
  refine q_alloc (z := [.int .i64 0, (Sl.t (⟨true, []⟩ : Sl DObject))]) rfl hS hH (by kernel_rfl) ?_; intro b2 σ s hH hS
  refine x_nil ?_
  refine sq_n ?_
  refine c_seq ?_
  refine c_region ?_
  refine q_alloc (z := [.int .i64 0, (Sl.t (⟨true, []⟩ : Sl DObject))]) rfl hS hH (by kernel_rfl) ?_; intro b3 σ s hH hS
  refine x_nil ?_
  refine sq_n ?_
  refine c_seq ?_
  refine c_region ?_
  refine q_seg 1 [(1, .ptr b1 0 0 2), (2, .ptr b2 0 0 2), (3, .ptr b3 0 0 2), (4, .ptr b1 0 0 1)] hS (by kernel_rfl) ?_; intro s hS
  refine q_load (v := .int .i64 a0.Next) 2 trivial rfl hS hH rfl rfl (by kernel_rfl) ?_; intro s hS
  refine q_seg 1 [(1, .ptr b1 0 0 2), (2, .ptr b2 0 0 2), (3, .ptr b3 0 0 2), (5, .int .i64 a0.Next), (6, .ptr b3 0 0 1)] hS (by kernel_rfl) ?_; intro s hS
  refine q_store (v := .int .i64 a0.Next) (cs := [.int .i64 a0.Next]) (cells' := [.int .i64 a0.Next, (Sl.t (⟨true, []⟩ : Sl DObject))]) rfl hS hH rfl rfl rfl (by kernel_rfl) (by kernel_rfl) ?_; intro σ s hH hS
  refine x_nil ?_
  refine sq_n ?_
  refine c_seq ?_
  refine c_region ?_
  refine q_seg 1 [(2, .ptr b2 0 0 2), (3, .ptr b3 0 0 2), (7, .ptr b1 0 1 1)] hS (by kernel_rfl) ?_; intro s hS
  refine q_load (v := (Sl.t (a0.Objects : Sl DObject))) 2 trivial rfl hS hH rfl rfl (by kernel_rfl) ?_; intro s hS
  obtain ⟨y1, hy1, h⟩ := bind_some h
  refine q_callO (ents := []) (z := false) (ts := [(Sl.t (a0.Objects : Sl DObject))]) (vs := [(Sl.t (a0.Objects : Sl DObject))]) rfl rfl hS rfl rfl rfl hH (HL.leaf (fun σ d => hold_pure σ d _) HL.nil) hy1 ?_; intro hs σ s hl hH hS
  obtain ⟨t1, rfl⟩ := len1 hl
  have hH : Heap σ0 σ [.own true 10 t1 (Sl.t (y1 : Sl DObject)), .box b3 [.int .i64 a0.Next, (Sl.t (⟨true, []⟩ : Sl DObject))], .box b2 [.int .i64 0, (Sl.t (⟨true, []⟩ : Sl DObject))], .box b1 [.int .i64 a0.Next, (Sl.t (a0.Objects : Sl DObject))]] := hH
  have ht1 : IsOne t1 := Heap.one hH
  refine q_seg 1 [(2, .ptr b2 0 0 2), (3, .ptr b3 0 0 2), (9, t1), (10, .ptr b3 0 1 1)] hS (by kernel_rfl) ?_; intro s hS
  have hH : Heap σ0 σ [.box b3 [.int .i64 a0.Next, (Sl.t (⟨true, []⟩ : Sl DObject))], .own true 10 t1 (Sl.t (y1 : Sl DObject)), .box b2 [.int .i64 0, (Sl.t (⟨true, []⟩ : Sl DObject))], .box b1 [.int .i64 a0.Next, (Sl.t (a0.Objects : Sl DObject))]] := hH.sel [1, 0, 2, 3] rfl (by kernel_rfl)
  refine q_store (v := t1) (cs := [t1]) (cells' := [.int .i64 a0.Next, t1]) rfl hS hH rfl rfl (by simp [ht1.1, ht1.2]) (by simp [ht1.1, ht1.2]) (by kernel_rfl) ?_; intro σ s hH hS
  refine x_nil ?_
  refine sq_n ?_
  refine c_seq ?_
  refine c_region ?_
  refine q_load (v := .agg [.int .i64 a0.Next, t1]) 0 trivial rfl hS hH rfl rfl (by kernel_rfl) ?_; intro s hS
  have hH : Heap σ0 σ [.box b2 [.int .i64 0, (Sl.t (⟨true, []⟩ : Sl DObject))], .box b3 [.int .i64 a0.Next, t1], .own true 10 t1 (Sl.t (y1 : Sl DObject)), .box b1 [.int .i64 a0.Next, (Sl.t (a0.Objects : Sl DObject))]] := hH.sel [2, 0, 1, 3] rfl (by kernel_rfl)
  refine q_store (v := .agg [.int .i64 a0.Next, t1]) (cs := [.int .i64 a0.Next, t1]) (cells' := [.int .i64 a0.Next, t1]) rfl hS hH rfl rfl rfl (by simp [ht1.1, ht1.2]) (by kernel_rfl) ?_; intro σ s hH hS
  refine x_nil ?_
  refine sq_n ?_
  refine c_ret ?_
  injection h with h; subst h
  have hH : Heap σ0 σ [.own true 10 t1 (Sl.t (y1 : Sl DObject)), .box b2 [.int .i64 a0.Next, t1], .box b3 [.int .i64 a0.Next, t1], .box b1 [.int .i64 a0.Next, (Sl.t (a0.Objects : Sl DObject))]] := hH.sel [2, 0, 1, 3] rfl (by kernel_rfl)
  exact end_Ow [t1] [.box b2 [.int .i64 a0.Next, t1], .box b3 [.int .i64 a0.Next, t1], .box b1 [.int .i64 a0.Next, (Sl.t (a0.Objects : Sl DObject))]] (r_cell (v := .agg [.int .i64 a0.Next, t1]) hS (hH.at 1 rfl) rfl (by kernel_rfl) r_nil) (by kernel_rfl) rfl hH (by kernel_rfl)
end Go.Am
end
section
set_option maxRecDepth 100000
set_option maxHeartbeats 1000000
set_option linter.unusedVariables false
set_option linter.unusedSimpArgs false
namespace Go.Am
open Go.Proofs
noncomputable def B_laws_toScope (a0 : DScope) : Option DScope := ((F_laws_toBindingS a0.Vars).bind fun y1 => ((F_laws_toFunctionS a0.Functions).bind fun y2 => ((F_laws_toRecordTypeS a0.Types).bind fun y3 => (some (⟨y1, y2, y3⟩ : DScope)))))
theorem u_laws_toScope (a0 : DScope) (r : DScope) (h : B_laws_toScope a0 = some r) : F_laws_toScope a0 = some r := by
  unfold B_laws_toScope at h
  refine semO_of rfl rfl ok_45 rfl (all_cons (by kernel_rfl) all_nil) ?_
  intro σ0 s hS hH
  have hS := sub_to (L' := [(0, .agg (DScope.cells a0))]) hS (by kernel_rfl)
  refine c_seq ?_
  refine c_region ?_
  refine q_box (v := .agg (DScope.cells a0)) (cs := [(Sl.t (a0.Vars : Sl DBinding)), (Sl.t (a0.Functions : Sl DFunction)), (Sl.t (a0.Types : Sl DRecordType))]) rfl hS hH rfl rfl (by kernel_rfl) ?_; intro b1 σ s hH hS
  refine q_alloc (z := [(Sl.t (⟨true, []⟩ : Sl DBinding)), (Sl.t (⟨true, []⟩ : Sl DFunction)), (Sl.t (⟨true, []⟩ : Sl DRecordType))]) rfl hS hH (by kernel_rfl) ?_; intro b2 σ s hH hS
  refine x_nil ?_
  refine sq_n ?_
  refine c_seq ?_
  refine c_region ?_
  refine q_alloc (z := [(Sl.t (⟨true, []⟩ : Sl DBinding)), (Sl.t (⟨true, []⟩ : Sl DFunction)), (Sl.t (⟨true, []⟩ : Sl DRecordType))]) rfl hS hH (by kernel_rfl) ?_; intro b3 σ s hH hS
  refine x_nil ?_
  refine sq_n ?_
  refine c_seq ?_
  refine c_region ?_
  refine q_seg 1 [(1, .ptr b1 0 0 3), (2, .ptr b2 0 0 3), (3, .ptr b3 0 0 3), (4, .ptr b1 0 0 1)] hS (by kernel_rfl) ?_; intro s hS
  refine q_load (v := (Sl.t (a0.Vars : Sl DBinding))) 2 trivial rfl hS hH rfl rfl (by kernel_rfl) ?_; intro s hS
  obtain ⟨y1, hy1, h⟩ := bind_some h
  refine q_callO (ents := []) (z := false) (ts := [(Sl.t (a0.Vars : Sl DBinding))]) (vs := [(Sl.t (a0.Vars : Sl DBinding))]) rfl rfl hS rfl rfl rfl hH (HL.leaf (fun σ d => hold_pure σ d _) HL.nil) hy1 ?_; intro hs σ s hl hH hS
  obtain ⟨t1, rfl⟩ := len1 hl
  have hH : Heap σ0 σ [.own true 5 t1 (Sl.t (y1 : Sl DBinding)), .box b3 [(Sl.t (⟨true, []⟩ : Sl DBinding)), (Sl.t (⟨true, []⟩ : Sl DFunction)), (Sl.t (⟨true, []⟩ : Sl DRecordType))], .box b2 [(Sl.t (⟨true, []⟩ : Sl DBinding)), (Sl.t (⟨true, []⟩ : Sl DFunction)), (Sl.t (⟨true, []⟩ : Sl DRecordType))], .box b1 [(Sl.t (a0.Vars : Sl DBinding)), (Sl.t (a0.Functions : Sl DFunction)), (Sl.t (a0.Types : Sl DRecordType))]] := hH
  have ht1 : IsOne t1 := Heap.one hH
  refine q_seg 1 [(1, .ptr b1 0 0 3), (2, .ptr b2 0 0 3), (3, .ptr b3 0 0 3), (6, t1), (7, .ptr b3 0 0 1)] hS (by kernel_rfl) ?_; intro s hS
  have hH : Heap σ0 σ [.box b3 [(Sl.t (⟨true, []⟩ : Sl DBinding)), (Sl.t (⟨true, []⟩ : Sl DFunction)), (Sl.t (⟨true, []⟩ : Sl DRecordType))], .own true 5 t1 (Sl.t (y1 : Sl DBinding)), .box b2 [(Sl.t (⟨true, []⟩ : Sl DBinding)), (Sl.t (⟨true, []⟩ : Sl DFunction)), (Sl.t (⟨true, []⟩ : Sl DRecordType))], .box b1 [(Sl.t (a0.Vars : Sl DBinding)), (Sl.t (a0.Functions : Sl DFunction)), (Sl.t (a0.Types : Sl DRecordType))]] := hH.sel [1, 0, 2, 3] rfl (by kernel_rfl)
  refine q_store (v := t1) (cs := [t1]) (cells' := [t1, (Sl.t (⟨true, []⟩ : Sl DFunction)), (Sl.t (⟨true, []⟩ : Sl DRecordType))]) rfl hS hH rfl rfl (by simp [ht1.1, ht1.2]) (by simp [ht1.1, ht1.2]) (by kernel_rfl) ?_; intro σ s hH hS
  refine x_nil ?_
  refine sq_n ?_
  refine c_seq ?_
  refine c_region ?_
  refine q_seg 1 [(1, .ptr b1 0 0 3), (2, .ptr b2 0 0 3), (3, .ptr b3 0 0 3), (8, .ptr b1 0 1 1)] hS (by kernel_rfl) ?_; intro s hS
  refine q_load (v := (Sl.t (a0.Functions : Sl DFunction))) 3 trivial rfl hS hH rfl rfl (by kernel_rfl) ?_; intro s hS
  obtain ⟨y2, hy2, h⟩ := bind_some h
  refine q_callO (ents := []) (z := false) (ts := [(Sl.t (a0.Functions : Sl DFunction))]) (vs := [(Sl.t (a0.Functions : Sl DFunction))]) rfl rfl hS rfl rfl rfl hH (HL.leaf (fun σ d => hold_pure σ d _) HL.nil) hy2 ?_; intro hs σ s hl hH hS
  obtain ⟨t2, rfl⟩ := len1 hl
  have hH : Heap σ0 σ [.own true 4 t2 (Sl.t (y2 : Sl DFunction)), .box b3 [t1, (Sl.t (⟨true, []⟩ : Sl DFunction)), (Sl.t (⟨true, []⟩ : Sl DRecordType))], .own true 5 t1 (Sl.t (y1 : Sl DBinding)), .box b2 [(Sl.t (⟨true, []⟩ : Sl DBinding)), (Sl.t (⟨true, []⟩ : Sl DFunction)), (Sl.t (⟨true, []⟩ : Sl DRecordType))], .box b1 [(Sl.t (a0.Vars : Sl DBinding)), (Sl.t (a0.Functions : Sl DFunction)), (Sl.t (a0.Types : Sl DRecordType))]] := hH
  have ht2 : IsOne t2 := Heap.one hH
  refine q_seg 1 [(1, .ptr b1 0 0 3), (2, .ptr b2 0 0 3), (3, .ptr b3 0 0 3), (10, t2), (11, .ptr b3 0 1 1)] hS (by kernel_rfl) ?_; intro s hS
  have hH : Heap σ0 σ [.box b3 [t1, (Sl.t (⟨true, []⟩ : Sl DFunction)), (Sl.t (⟨true, []⟩ : Sl DRecordType))], .own true 4 t2 (Sl.t (y2 : Sl DFunction)), .own true 5 t1 (Sl.t (y1 : Sl DBinding)), .box b2 [(Sl.t (⟨true, []⟩ : Sl DBinding)), (Sl.t (⟨true, []⟩ : Sl DFunction)), (Sl.t (⟨true, []⟩ : Sl DRecordType))], .box b1 [(Sl.t (a0.Vars : Sl DBinding)), (Sl.t (a0.Functions : Sl DFunction)), (Sl.t (a0.Types : Sl DRecordType))]] := hH.sel [1, 0, 2, 3, 4] rfl (by kernel_rfl)
  refine q_store (v := t2) (cs := [t2]) (cells' := [t1, t2, (Sl.t (⟨true, []⟩ : Sl DRecordType))]) rfl hS hH rfl rfl (by simp [ht2.1, ht2.2]) (by simp [ht2.1, ht2.2]) (by kernel_rfl) ?_; intro σ s hH hS
  refine x_nil ?_
  refine sq_n ?_
  refine c_seq ?_
  refine c_region ?_
  refine q_seg 1 [(2, .ptr b2 0 0 3), (3, .ptr b3 0 0 3), (12, .ptr b1 0 2 1)] hS (by kernel_rfl) ?_; intro s hS
  refine q_load (v := (Sl.t (a0.Types : Sl DRecordType))) 4 trivial rfl hS hH rfl rfl (by kernel_rfl) ?_; intro s hS
  obtain ⟨y3, hy3, h⟩ := bind_some h
  refine q_callO (ents := []) (z := false) (ts := [(Sl.t (a0.Types : Sl DRecordType))]) (vs := [(Sl.t (a0.Types : Sl DRecordType))]) rfl rfl hS rfl rfl rfl hH (HL.leaf (fun σ d => hold_pure σ d _) HL.nil) hy3 ?_; intro hs σ s hl hH hS
  obtain ⟨t3, rfl⟩ := len1 hl
  have hH : Heap σ0 σ [.own true 2 t3 (Sl.t (y3 : Sl DRecordType)), .box b3 [t1, t2, (Sl.t (⟨true, []⟩ : Sl DRecordType))], .own true 4 t2 (Sl.t (y2 : Sl DFunction)), .own true 5 t1 (Sl.t (y1 : Sl DBinding)), .box b2 [(Sl.t (⟨true, []⟩ : Sl DBinding)), (Sl.t (⟨true, []⟩ : Sl DFunction)), (Sl.t (⟨true, []⟩ : Sl DRecordType))], .box b1 [(Sl.t (a0.Vars : Sl DBinding)), (Sl.t (a0.Functions : Sl DFunction)), (Sl.t (a0.Types : Sl DRecordType))]] := hH
  have ht3 : IsOne t3 := Heap.one hH
  refine q_seg 1 [(2, .ptr b2 0 0 3), (3, .ptr b3 0 0 3), (14, t3), (15, .ptr b3 0 2 1)] hS (by kernel_rfl) ?_; intro s hS
  have hH : Heap σ0 σ [.box b3 [t1, t2, (Sl.t (⟨true, []⟩ : Sl DRecordType))], .own true 2 t3 (Sl.t (y3 : Sl DRecordType)), .own true 4 t2 (Sl.t (y2 : Sl DFunction)), .own true 5 t1 (Sl.t (y1 : Sl DBinding)), .box b2 [(Sl.t (⟨true, []⟩ : Sl DBinding)), (Sl.t (⟨true, []⟩ : Sl DFunction)), (Sl.t (⟨true, []⟩ : Sl DRecordType))], .box b1 [(Sl.t (a0.Vars : Sl DBinding)), (Sl.t (a0.Functions : Sl DFunction)), (Sl.t (a0.Types : Sl DRecordType))]] := hH.sel [1, 0, 2, 3, 4, 5] rfl (by kernel_rfl)
  refine q_store (v := t3) (cs := [t3]) (cells' := [t1, t2, t3]) rfl hS hH rfl rfl (by simp [ht3.1, ht3.2]) (by simp [ht3.1, ht3.2]) (by kernel_rfl) ?_; intro σ s hH hS
  refine x_nil ?_
  refine sq_n ?_
  refine c_seq ?_
  refine c_region ?_
  refine q_load (v := .agg [t1, t2, t3]) 0 trivial rfl hS hH rfl rfl (by kernel_rfl) ?_; intro s hS
  have hH : Heap σ0 σ [.box b2 [(Sl.t (⟨true, []⟩ : Sl DBinding)), (Sl.t (⟨true, []⟩ : Sl DFunction)), (Sl.t (⟨true, []⟩ : Sl DRecordType))], .box b3 [t1, t2, t3], .own true 2 t3 (Sl.t (y3 : Sl DRecordType)), .own true 4 t2 (Sl.t (y2 : Sl DFunction)), .own true 5 t1 (Sl.t (y1 : Sl DBinding)), .box b1 [(Sl.t (a0.Vars : Sl DBinding)), (Sl.t (a0.Functions : Sl DFunction)), (Sl.t (a0.Types : Sl DRecordType))]] := hH.sel [4, 0, 1, 2, 3, 5] rfl (by kernel_rfl)
  refine q_store (v := .agg [t1, t2, t3]) (cs := [t1, t2, t3]) (cells' := [t1, t2, t3]) rfl hS hH rfl rfl rfl (by simp [ht1.1, ht1.2, ht2.1, ht2.2, ht3.1, ht3.2]) (by kernel_rfl) ?_; intro σ s hH hS
  refine x_nil ?_
  refine sq_n ?_
  refine c_ret ?_
  injection h with h; subst h
  have hH : Heap σ0 σ [.own true 5 t1 (Sl.t (y1 : Sl DBinding)), .own true 4 t2 (Sl.t (y2 : Sl DFunction)), .own true 2 t3 (Sl.t (y3 : Sl DRecordType)), .box b2 [t1, t2, t3], .box b3 [t1, t2, t3], .box b1 [(Sl.t (a0.Vars : Sl DBinding)), (Sl.t (a0.Functions : Sl DFunction)), (Sl.t (a0.Types : Sl DRecordType))]] := hH.sel [4, 3, 2, 0, 1, 5] rfl (by kernel_rfl)
  exact end_Ow [t1, t2, t3] [.box b2 [t1, t2, t3], .box b3 [t1, t2, t3], .box b1 [(Sl.t (a0.Vars : Sl DBinding)), (Sl.t (a0.Functions : Sl DFunction)), (Sl.t (a0.Types : Sl DRecordType))]] (r_cell (v := .agg [t1, t2, t3]) hS (hH.at 3 rfl) rfl (by kernel_rfl) r_nil) (by kernel_rfl) rfl hH (by kernel_rfl)
end Go.Am
end
