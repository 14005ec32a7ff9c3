/- Functions of the program. -/
import Derived.Test.YtibhahlikgiegaaAd0
section
set_option maxRecDepth 100000
set_option maxHeartbeats 4000000
set_option linter.unusedVariables false
set_option linter.unusedSimpArgs false
namespace Go.Am
open Go.Proofs
noncomputable def B_laws_eqConsole (a0 : DConsole) (a1 : DConsole) : Option Bool := ((F_laws_eqStringS a0.Input a1.Input).bind fun y1 => (if (!y1) = true then (some false) else (if (!decide (a0.At = a1.At)) = true then (some false) else ((F_laws_eqStringS a0.Output a1.Output).bind fun y2 => (if (!y2) = true then (some false) else ((F_laws_eqFileS a0.Files a1.Files).bind fun y3 => (if (!y3) = true then (some false) else ((F_laws_eqStringS a0.Trace a1.Trace).bind fun y4 => (if (!y4) = true then (some false) else (some true))))))))))
theorem u_laws_eqConsole (a0 : DConsole) (a1 : DConsole) (r : Bool) (h : B_laws_eqConsole a0 a1 = some r) : F_laws_eqConsole a0 a1 = some r := by
  unfold B_laws_eqConsole at h
  refine semW_of E_bool_inj rfl rfl ok_22 rfl (all_cons (by kernel_rfl) (all_cons (by kernel_rfl) all_nil)) ?_
  intro σ0 s hS hH
  have hS := sub_to (L' := [(0, .agg (DConsole.cells a0)), (1, .agg (DConsole.cells a1))]) hS (by kernel_rfl)
  refine c_seq ?_
  refine c_region ?_
  refine q_box (v := .agg (DConsole.cells a0)) (cs := [(Sl.t (a0.Input : Sl ByteArray)), .int .i64 a0.At, (Sl.t (a0.Output : Sl ByteArray)), (Sl.t (a0.Files : Sl DFile)), (Sl.t (a0.Trace : Sl ByteArray))]) rfl hS hH rfl rfl (by kernel_rfl) ?_; intro b1 σ s hH hS
  refine q_box (v := .agg (DConsole.cells a1)) (cs := [(Sl.t (a1.Input : Sl ByteArray)), .int .i64 a1.At, (Sl.t (a1.Output : Sl ByteArray)), (Sl.t (a1.Files : Sl DFile)), (Sl.t (a1.Trace : Sl ByteArray))]) rfl hS hH rfl rfl (by kernel_rfl) ?_; intro b2 σ s hH hS
  refine q_seg 1 [(2, .ptr b1 0 0 5), (3, .ptr b2 0 0 5)] hS (by kernel_rfl) ?_; intro s hS
  refine x_nil ?_
  refine sq_n ?_
  refine c_seq ?_
  refine c_seq ?_
  refine c_region ?_
  refine q_seg 1 [(2, .ptr b1 0 0 5), (3, .ptr b2 0 0 5), (5, .ptr b1 0 0 1)] hS (by kernel_rfl) ?_; intro s hS
  refine q_load (v := (Sl.t (a0.Input : Sl ByteArray))) 1 trivial rfl hS hH rfl rfl (by kernel_rfl) ?_; intro s hS
  refine q_seg 1 [(2, .ptr b1 0 0 5), (3, .ptr b2 0 0 5), (6, (Sl.t (a0.Input : Sl ByteArray))), (7, .ptr b2 0 0 1)] hS (by kernel_rfl) ?_; intro s hS
  refine q_load (v := (Sl.t (a1.Input : Sl ByteArray))) 0 trivial rfl hS hH rfl rfl (by kernel_rfl) ?_; intro s hS
  obtain ⟨y1, hy1, h⟩ := bind_some h
  refine q_callF (a := []) (b := []) (xs := [(Sl.t (a0.Input : Sl ByteArray)), (Sl.t (a1.Input : Sl ByteArray))]) rfl hS rfl rfl hy1 ?_; intro s hS
  refine q_seg 1 [(2, .ptr b1 0 0 5), (3, .ptr b2 0 0 5), (10, .bool (!y1))] hS (by kernel_rfl) ?_; intro s hS
  refine x_nil ?_
  refine sq_n ?_
  by_cases hc1 : (!y1) = true
  · have h := it_pos hc1 h
    refine c_cond hS rfl (fun _ => ?_) (fun hf => ff_absurd hc1 hf)
    refine c_seq ?_
    refine c_region ?_
    refine q_seg 1 [(4, .bool false)] hS (by kernel_rfl) ?_; intro s hS
    refine x_nil ?_
    refine sq_n ?_
    refine c_ret ?_
    refine sq_r ?_
    injection h with h; subst h
    exact end_W hH (r_tmp (v := .bool false) hS rfl r_nil) rfl (by kernel_rfl) (by simp [pureT, pureL, E_bool])
  · have h := it_neg hc1 h
    refine c_cond hS rfl (fun hf => tt_absurd hc1 hf) (fun _ => ?_)
    refine c_skip ?_
    refine sq_n ?_
    refine c_seq ?_
    refine c_seq ?_
    refine c_region ?_
    refine q_seg 1 [(2, .ptr b1 0 0 5), (3, .ptr b2 0 0 5), (11, .ptr b1 0 1 1)] hS (by kernel_rfl) ?_; intro s hS
    refine q_load (v := .int .i64 a0.At) 1 trivial rfl hS hH rfl rfl (by kernel_rfl) ?_; intro s hS
    refine q_seg 1 [(2, .ptr b1 0 0 5), (3, .ptr b2 0 0 5), (12, .int .i64 a0.At), (13, .ptr b2 0 1 1)] hS (by kernel_rfl) ?_; intro s hS
    refine q_load (v := .int .i64 a1.At) 0 trivial rfl hS hH rfl rfl (by kernel_rfl) ?_; intro s hS
    refine q_seg 1 [(2, .ptr b1 0 0 5), (3, .ptr b2 0 0 5), (15, .bool (!decide (a0.At = a1.At)))] hS (by kernel_rfl) ?_; intro s hS
    refine x_nil ?_
    refine sq_n ?_
    by_cases hc2 : (!decide (a0.At = a1.At)) = true
    · have h := it_pos hc2 h
      refine c_cond hS rfl (fun _ => ?_) (fun hf => ff_absurd hc2 hf)
      refine c_seq ?_
      refine c_region ?_
      refine q_seg 1 [(4, .bool false)] hS (by kernel_rfl) ?_; intro s hS
      refine x_nil ?_
      refine sq_n ?_
      refine c_ret ?_
      refine sq_r ?_
      injection h with h; subst h
      exact end_W hH (r_tmp (v := .bool false) hS rfl r_nil) rfl (by kernel_rfl) (by simp [pureT, pureL, E_bool])
    · have h := it_neg hc2 h
      refine c_cond hS rfl (fun hf => tt_absurd hc2 hf) (fun _ => ?_)
      refine c_skip ?_
      refine sq_n ?_
      refine c_seq ?_
      refine c_seq ?_
      refine c_region ?_
      refine q_seg 1 [(2, .ptr b1 0 0 5), (3, .ptr b2 0 0 5), (16, .ptr b1 0 2 1)] hS (by kernel_rfl) ?_; intro s hS
      refine q_load (v := (Sl.t (a0.Output : Sl ByteArray))) 1 trivial rfl hS hH rfl rfl (by kernel_rfl) ?_; intro s hS
      refine q_seg 1 [(2, .ptr b1 0 0 5), (3, .ptr b2 0 0 5), (17, (Sl.t (a0.Output : Sl ByteArray))), (18, .ptr b2 0 2 1)] hS (by kernel_rfl) ?_; intro s hS
      refine q_load (v := (Sl.t (a1.Output : Sl ByteArray))) 0 trivial rfl hS hH rfl rfl (by kernel_rfl) ?_; intro s hS
      obtain ⟨y2, hy2, h⟩ := bind_some h
      refine q_callF (a := []) (b := []) (xs := [(Sl.t (a0.Output : Sl ByteArray)), (Sl.t (a1.Output : Sl ByteArray))]) rfl hS rfl rfl hy2 ?_; intro s hS
      refine q_seg 1 [(2, .ptr b1 0 0 5), (3, .ptr b2 0 0 5), (21, .bool (!y2))] hS (by kernel_rfl) ?_; intro s hS
      refine x_nil ?_
      refine sq_n ?_
      by_cases hc3 : (!y2) = true
      · have h := it_pos hc3 h
        refine c_cond hS rfl (fun _ => ?_) (fun hf => ff_absurd hc3 hf)
        refine c_seq ?_
        refine c_region ?_
        refine q_seg 1 [(4, .bool false)] hS (by kernel_rfl) ?_; intro s hS
        refine x_nil ?_
        refine sq_n ?_
        refine c_ret ?_
        refine sq_r ?_
        injection h with h; subst h
        exact end_W hH (r_tmp (v := .bool false) hS rfl r_nil) rfl (by kernel_rfl) (by simp [pureT, pureL, E_bool])
      · have h := it_neg hc3 h
        refine c_cond hS rfl (fun hf => tt_absurd hc3 hf) (fun _ => ?_)
        refine c_skip ?_
        refine sq_n ?_
        refine c_seq ?_
        refine c_seq ?_
        refine c_region ?_
        refine q_seg 1 [(2, .ptr b1 0 0 5), (3, .ptr b2 0 0 5), (22, .ptr b1 0 3 1)] hS (by kernel_rfl) ?_; intro s hS
        refine q_load (v := (Sl.t (a0.Files : Sl DFile))) 1 trivial rfl hS hH rfl rfl (by kernel_rfl) ?_; intro s hS
        refine q_seg 1 [(2, .ptr b1 0 0 5), (3, .ptr b2 0 0 5), (23, (Sl.t (a0.Files : Sl DFile))), (24, .ptr b2 0 3 1)] hS (by kernel_rfl) ?_; intro s hS
        refine q_load (v := (Sl.t (a1.Files : Sl DFile))) 0 trivial rfl hS hH rfl rfl (by kernel_rfl) ?_; intro s hS
        obtain ⟨y3, hy3, h⟩ := bind_some h
        refine q_callF (a := []) (b := []) (xs := [(Sl.t (a0.Files : Sl DFile)), (Sl.t (a1.Files : Sl DFile))]) rfl hS rfl rfl hy3 ?_; intro s hS
        refine q_seg 1 [(2, .ptr b1 0 0 5), (3, .ptr b2 0 0 5), (27, .bool (!y3))] hS (by kernel_rfl) ?_; intro s hS
        refine x_nil ?_
        refine sq_n ?_
        by_cases hc4 : (!y3) = true
        · have h := it_pos hc4 h
          refine c_cond hS rfl (fun _ => ?_) (fun hf => ff_absurd hc4 hf)
          refine c_seq ?_
          refine c_region ?_
          refine q_seg 1 [(4, .bool false)] hS (by kernel_rfl) ?_; intro s hS
          refine x_nil ?_
          refine sq_n ?_
          refine c_ret ?_
          refine sq_r ?_
          injection h with h; subst h
          exact end_W hH (r_tmp (v := .bool false) hS rfl r_nil) rfl (by kernel_rfl) (by simp [pureT, pureL, E_bool])
        · have h := it_neg hc4 h
          refine c_cond hS rfl (fun hf => tt_absurd hc4 hf) (fun _ => ?_)
          refine c_skip ?_
          refine sq_n ?_
          refine c_seq ?_
          refine c_seq ?_
          refine c_region ?_
          refine q_seg 1 [(3, .ptr b2 0 0 5), (28, .ptr b1 0 4 1)] hS (by kernel_rfl) ?_; intro s hS
          refine q_load (v := (Sl.t (a0.Trace : Sl ByteArray))) 1 trivial rfl hS hH rfl rfl (by kernel_rfl) ?_; intro s hS
          refine q_seg 1 [(29, (Sl.t (a0.Trace : Sl ByteArray))), (30, .ptr b2 0 4 1)] hS (by kernel_rfl) ?_; intro s hS
          refine q_load (v := (Sl.t (a1.Trace : Sl ByteArray))) 0 trivial rfl hS hH rfl rfl (by kernel_rfl) ?_; intro s hS
          obtain ⟨y4, hy4, h⟩ := bind_some h
          refine q_callF (a := []) (b := []) (xs := [(Sl.t (a0.Trace : Sl ByteArray)), (Sl.t (a1.Trace : Sl ByteArray))]) rfl hS rfl rfl hy4 ?_; intro s hS
          refine q_seg 1 [(33, .bool (!y4))] hS (by kernel_rfl) ?_; intro s hS
          refine x_nil ?_
          refine sq_n ?_
          by_cases hc5 : (!y4) = true
          · have h := it_pos hc5 h
            refine c_cond hS rfl (fun _ => ?_) (fun hf => ff_absurd hc5 hf)
            refine c_seq ?_
            refine c_region ?_
            refine q_seg 1 [(4, .bool false)] hS (by kernel_rfl) ?_; intro s hS
            refine x_nil ?_
            refine sq_n ?_
            refine c_ret ?_
            refine sq_r ?_
            injection h with h; subst h
            exact end_W hH (r_tmp (v := .bool false) hS rfl r_nil) rfl (by kernel_rfl) (by simp [pureT, pureL, E_bool])
          · have h := it_neg hc5 h
            refine c_cond hS rfl (fun hf => tt_absurd hc5 hf) (fun _ => ?_)
            refine c_skip ?_
            refine sq_n ?_
            refine c_seq ?_
            refine c_region ?_
            refine q_seg 1 [(4, .bool true)] hS (by kernel_rfl) ?_; intro s hS
            refine x_nil ?_
            refine sq_n ?_
            refine c_ret ?_
            injection h with h; subst h
            exact end_W hH (r_tmp (v := .bool true) hS rfl r_nil) rfl (by kernel_rfl) (by simp [pureT, pureL, E_bool])
end Go.Am
end
section
set_option maxRecDepth 100000
set_option maxHeartbeats 4000000
set_option linter.unusedVariables false
set_option linter.unusedSimpArgs false
namespace Go.Am
open Go.Proofs
noncomputable def B_laws_heldConsole (a0 : DConsole) (a1 : Int) : Option Int := ((F_laws_heldStringS a0.Input a1).bind fun y1 => (if (decide (y1 < 0)) = true then (some (-1)) else ((F_laws_heldStringS a0.Output y1).bind fun y2 => (if (decide (y2 < 0)) = true then (some (-1)) else ((F_laws_heldFileS a0.Files y2).bind fun y3 => (if (decide (y3 < 0)) = true then (some (-1)) else ((F_laws_heldStringS a0.Trace y3).bind fun y4 => (if (decide (y4 < 0)) = true then (some (-1)) else (some y4)))))))))
theorem u_laws_heldConsole (a0 : DConsole) (a1 : Int) (r : Int) (h : B_laws_heldConsole a0 a1 = some r) : F_laws_heldConsole a0 a1 = some r := by
  unfold B_laws_heldConsole at h
  refine semW_of E_i64_inj rfl rfl ok_24 rfl (all_cons (by kernel_rfl) (all_cons (by kernel_rfl) all_nil)) ?_
  intro σ0 s hS hH
  have hS := sub_to (L' := [(0, .agg (DConsole.cells a0)), (1, .int .i64 a1)]) hS (by kernel_rfl)
  refine c_seq ?_
  refine c_region ?_
  refine q_box (v := .agg (DConsole.cells a0)) (cs := [(Sl.t (a0.Input : Sl ByteArray)), .int .i64 a0.At, (Sl.t (a0.Output : Sl ByteArray)), (Sl.t (a0.Files : Sl DFile)), (Sl.t (a0.Trace : Sl ByteArray))]) rfl hS hH rfl rfl (by kernel_rfl) ?_; intro b1 σ s hH hS
  refine q_seg 1 [(1, .int .i64 a1), (2, .ptr b1 0 0 5)] hS (by kernel_rfl) ?_; intro s hS
  refine x_nil ?_
  refine sq_n ?_
  refine c_seq ?_
  refine c_region ?_
  refine q_seg 1 [(1, .int .i64 a1), (2, .ptr b1 0 0 5), (5, .ptr b1 0 0 1)] hS (by kernel_rfl) ?_; intro s hS
  refine q_load (v := (Sl.t (a0.Input : Sl ByteArray))) 0 trivial rfl hS hH rfl rfl (by kernel_rfl) ?_; intro s hS
  refine q_seg 1 [(2, .ptr b1 0 0 5), (6, (Sl.t (a0.Input : Sl ByteArray))), (7, .int .i64 a1)] hS (by kernel_rfl) ?_; intro s hS
  obtain ⟨y1, hy1, h⟩ := bind_some h
  refine q_callF (a := []) (b := []) (xs := [(Sl.t (a0.Input : Sl ByteArray)), .int .i64 a1]) rfl hS rfl rfl hy1 ?_; intro s hS
  refine q_seg 1 [(1, .int .i64 y1), (2, .ptr b1 0 0 5)] hS (by kernel_rfl) ?_; intro s hS
  refine x_nil ?_
  refine sq_n ?_
  refine c_seq ?_
  refine c_seq ?_
  refine c_region ?_
  refine q_seg 2 [(1, .int .i64 y1), (2, .ptr b1 0 0 5), (10, .bool (decide (y1 < 0)))] hS (by kernel_rfl) ?_; intro s hS
  refine x_nil ?_
  refine sq_n ?_
  by_cases hc1 : (decide (y1 < 0)) = true
  · have h := it_pos hc1 h
    refine c_cond hS rfl (fun _ => ?_) (fun hf => ff_absurd hc1 hf)
    refine c_seq ?_
    refine c_region ?_
    refine q_seg 1 [(4, .int .i64 (-1))] hS (by kernel_rfl) ?_; intro s hS
    refine x_nil ?_
    refine sq_n ?_
    refine c_ret ?_
    refine sq_r ?_
    injection h with h; subst h
    exact end_W hH (r_tmp (v := .int .i64 (-1)) hS rfl r_nil) rfl (by kernel_rfl) (by simp [pureT, pureL, E_i64])
  · have h := it_neg hc1 h
    refine c_cond hS rfl (fun hf => tt_absurd hc1 hf) (fun _ => ?_)
    refine c_skip ?_
    refine sq_n ?_
    refine c_seq ?_
    refine c_region ?_
    refine q_seg 1 [(1, .int .i64 y1), (2, .ptr b1 0 0 5), (11, .ptr b1 0 2 1)] hS (by kernel_rfl) ?_; intro s hS
    refine q_load (v := (Sl.t (a0.Output : Sl ByteArray))) 0 trivial rfl hS hH rfl rfl (by kernel_rfl) ?_; intro s hS
    refine q_seg 1 [(2, .ptr b1 0 0 5), (12, (Sl.t (a0.Output : Sl ByteArray))), (13, .int .i64 y1)] hS (by kernel_rfl) ?_; intro s hS
    obtain ⟨y2, hy2, h⟩ := bind_some h
    refine q_callF (a := []) (b := []) (xs := [(Sl.t (a0.Output : Sl ByteArray)), .int .i64 y1]) rfl hS rfl rfl hy2 ?_; intro s hS
    refine q_seg 1 [(1, .int .i64 y2), (2, .ptr b1 0 0 5)] hS (by kernel_rfl) ?_; intro s hS
    refine x_nil ?_
    refine sq_n ?_
    refine c_seq ?_
    refine c_seq ?_
    refine c_region ?_
    refine q_seg 2 [(1, .int .i64 y2), (2, .ptr b1 0 0 5), (16, .bool (decide (y2 < 0)))] hS (by kernel_rfl) ?_; intro s hS
    refine x_nil ?_
    refine sq_n ?_
    by_cases hc2 : (decide (y2 < 0)) = true
    · have h := it_pos hc2 h
      refine c_cond hS rfl (fun _ => ?_) (fun hf => ff_absurd hc2 hf)
      refine c_seq ?_
      refine c_region ?_
      refine q_seg 1 [(4, .int .i64 (-1))] hS (by kernel_rfl) ?_; intro s hS
      refine x_nil ?_
      refine sq_n ?_
      refine c_ret ?_
      refine sq_r ?_
      injection h with h; subst h
      exact end_W hH (r_tmp (v := .int .i64 (-1)) hS rfl r_nil) rfl (by kernel_rfl) (by simp [pureT, pureL, E_i64])
    · have h := it_neg hc2 h
      refine c_cond hS rfl (fun hf => tt_absurd hc2 hf) (fun _ => ?_)
      refine c_skip ?_
      refine sq_n ?_
      refine c_seq ?_
      refine c_region ?_
      refine q_seg 1 [(1, .int .i64 y2), (2, .ptr b1 0 0 5), (17, .ptr b1 0 3 1)] hS (by kernel_rfl) ?_; intro s hS
      refine q_load (v := (Sl.t (a0.Files : Sl DFile))) 0 trivial rfl hS hH rfl rfl (by kernel_rfl) ?_; intro s hS
      refine q_seg 1 [(2, .ptr b1 0 0 5), (18, (Sl.t (a0.Files : Sl DFile))), (19, .int .i64 y2)] hS (by kernel_rfl) ?_; intro s hS
      obtain ⟨y3, hy3, h⟩ := bind_some h
      refine q_callF (a := []) (b := []) (xs := [(Sl.t (a0.Files : Sl DFile)), .int .i64 y2]) rfl hS rfl rfl hy3 ?_; intro s hS
      refine q_seg 1 [(1, .int .i64 y3), (2, .ptr b1 0 0 5)] hS (by kernel_rfl) ?_; intro s hS
      refine x_nil ?_
      refine sq_n ?_
      refine c_seq ?_
      refine c_seq ?_
      refine c_region ?_
      refine q_seg 2 [(1, .int .i64 y3), (2, .ptr b1 0 0 5), (22, .bool (decide (y3 < 0)))] hS (by kernel_rfl) ?_; intro s hS
      refine x_nil ?_
      refine sq_n ?_
      by_cases hc3 : (decide (y3 < 0)) = true
      · have h := it_pos hc3 h
        refine c_cond hS rfl (fun _ => ?_) (fun hf => ff_absurd hc3 hf)
        refine c_seq ?_
        refine c_region ?_
        refine q_seg 1 [(4, .int .i64 (-1))] hS (by kernel_rfl) ?_; intro s hS
        refine x_nil ?_
        refine sq_n ?_
        refine c_ret ?_
        refine sq_r ?_
        injection h with h; subst h
        exact end_W hH (r_tmp (v := .int .i64 (-1)) hS rfl r_nil) rfl (by kernel_rfl) (by simp [pureT, pureL, E_i64])
      · have h := it_neg hc3 h
        refine c_cond hS rfl (fun hf => tt_absurd hc3 hf) (fun _ => ?_)
        refine c_skip ?_
        refine sq_n ?_
        refine c_seq ?_
        refine c_region ?_
        refine q_seg 1 [(1, .int .i64 y3), (23, .ptr b1 0 4 1)] hS (by kernel_rfl) ?_; intro s hS
        refine q_load (v := (Sl.t (a0.Trace : Sl ByteArray))) 0 trivial rfl hS hH rfl rfl (by kernel_rfl) ?_; intro s hS
        refine q_seg 1 [(24, (Sl.t (a0.Trace : Sl ByteArray))), (25, .int .i64 y3)] hS (by kernel_rfl) ?_; intro s hS
        obtain ⟨y4, hy4, h⟩ := bind_some h
        refine q_callF (a := []) (b := []) (xs := [(Sl.t (a0.Trace : Sl ByteArray)), .int .i64 y3]) rfl hS rfl rfl hy4 ?_; intro s hS
        refine q_seg 1 [(1, .int .i64 y4)] hS (by kernel_rfl) ?_; intro s hS
        refine x_nil ?_
        refine sq_n ?_
        refine c_seq ?_
        refine c_seq ?_
        refine c_region ?_
        refine q_seg 2 [(1, .int .i64 y4), (28, .bool (decide (y4 < 0)))] hS (by kernel_rfl) ?_; intro s hS
        refine x_nil ?_
        refine sq_n ?_
        by_cases hc4 : (decide (y4 < 0)) = true
        · have h := it_pos hc4 h
          refine c_cond hS rfl (fun _ => ?_) (fun hf => ff_absurd hc4 hf)
          refine c_seq ?_
          refine c_region ?_
          refine q_seg 1 [(4, .int .i64 (-1))] hS (by kernel_rfl) ?_; intro s hS
          refine x_nil ?_
          refine sq_n ?_
          refine c_ret ?_
          refine sq_r ?_
          injection h with h; subst h
          exact end_W hH (r_tmp (v := .int .i64 (-1)) hS rfl r_nil) rfl (by kernel_rfl) (by simp [pureT, pureL, E_i64])
        · have h := it_neg hc4 h
          refine c_cond hS rfl (fun hf => tt_absurd hc4 hf) (fun _ => ?_)
          refine c_skip ?_
          refine sq_n ?_
          refine c_seq ?_
          refine c_region ?_
          refine q_seg 2 [(4, .int .i64 y4)] hS (by kernel_rfl) ?_; intro s hS
          refine x_nil ?_
          refine sq_n ?_
          refine c_ret ?_
          injection h with h; subst h
          exact end_W hH (r_tmp (v := .int .i64 y4) hS rfl r_nil) rfl (by kernel_rfl) (by simp [pureT, pureL, E_i64])
end Go.Am
end
section
set_option maxRecDepth 100000
set_option maxHeartbeats 4000000
set_option linter.unusedVariables false
set_option linter.unusedSimpArgs false
namespace Go.Am
open Go.Proofs
noncomputable def B_spec_CloseFile (a0 : DConsole) (a1 : ByteArray) : Option (DConsole × Int) := ((F_spec_l21Code a0 a1).bind fun y1 => (if (!decide (y1.2 = 0)) = true then (some ((⟨⟨true, []⟩, 0, ⟨true, []⟩, ⟨true, []⟩, ⟨true, []⟩⟩ : DConsole), y1.2)) else ((elt a0.Files y1.1).bind fun y2 => (if (decide (y2.Mode = 0)) = true then (some ((⟨⟨true, []⟩, 0, ⟨true, []⟩, ⟨true, []⟩, ⟨true, []⟩⟩ : DConsole), 10)) else ((F_spec_l21Own a0).bind fun y3 => ((elt y3.Files y1.1).bind fun y4 => ((elt (setS y3.Files y1.1 ((⟨y4.Name, y4.Lines, 0, y4.At⟩ : DFile) : DFile)) y1.1).bind fun y5 => (some ((⟨y3.Input, y3.At, y3.Output, (setS (setS y3.Files y1.1 ((⟨y4.Name, y4.Lines, 0, y4.At⟩ : DFile) : DFile)) y1.1 ((⟨y5.Name, y5.Lines, y5.Mode, 0⟩ : DFile) : DFile)), y3.Trace⟩ : DConsole), 0)))))))))
theorem u_spec_CloseFile (a0 : DConsole) (a1 : ByteArray) (r : (DConsole × Int)) (h : B_spec_CloseFile a0 a1 = some r) : F_spec_CloseFile a0 a1 = some r := by
  unfold B_spec_CloseFile at h
  refine semO_of rfl rfl ok_28 rfl (all_cons (by kernel_rfl) (all_cons (by kernel_rfl) all_nil)) ?_
  intro σ0 s hS hH
  have hS := sub_to (L' := [(0, .agg (DConsole.cells a0)), (1, .str a1)]) hS (by kernel_rfl)
  refine c_seq ?_
  refine c_region ?_
  refine q_box (v := .agg (DConsole.cells a0)) (cs := [(Sl.t (a0.Input : Sl ByteArray)), .int .i64 a0.At, (Sl.t (a0.Output : Sl ByteArray)), (Sl.t (a0.Files : Sl DFile)), (Sl.t (a0.Trace : Sl ByteArray))]) rfl hS hH rfl rfl (by kernel_rfl) ?_; intro b1 σ s hH hS
  refine q_alloc (z := [(Sl.t (⟨true, []⟩ : Sl ByteArray)), .int .i64 0, (Sl.t (⟨true, []⟩ : Sl ByteArray)), (Sl.t (⟨true, []⟩ : Sl DFile)), (Sl.t (⟨true, []⟩ : Sl ByteArray))]) rfl hS hH (by kernel_rfl) ?_; intro b2 σ s hH hS
  refine q_seg 1 [(1, .str a1), (2, .ptr b1 0 0 5), (4, .ptr b2 0 0 5)] hS (by kernel_rfl) ?_; intro s hS
  refine x_nil ?_
  refine sq_n ?_
  refine c_seq ?_
  refine c_region ?_
  refine q_seg 1 [(2, .ptr b1 0 0 5), (4, .ptr b2 0 0 5), (10, .str a1)] hS (by kernel_rfl) ?_; intro s hS
  obtain ⟨y1, hy1, h⟩ := bind_some h
  refine q_callL (xs := [.ptr b1 0 0 5, .str a1]) (cs := [[(Sl.t (a0.Input : Sl ByteArray)), .int .i64 a0.At, (Sl.t (a0.Output : Sl ByteArray)), (Sl.t (a0.Files : Sl DFile)), (Sl.t (a0.Trace : Sl ByteArray))]]) [b1] rfl hS rfl rfl rfl (And.intro (Heap.lent (hH.at 1 rfl)) trivial) hy1 ?_; intro s hS
  refine q_seg 5 [(2, .ptr b1 0 0 5), (4, .ptr b2 0 0 5), (6, .int .i64 y1.1), (7, .int .i64 y1.2)] hS (by kernel_rfl) ?_; intro s hS
  refine x_nil ?_
  refine sq_n ?_
  refine c_seq ?_
  refine c_seq ?_
  refine c_region ?_
  refine q_seg 2 [(2, .ptr b1 0 0 5), (4, .ptr b2 0 0 5), (6, .int .i64 y1.1), (7, .int .i64 y1.2), (15, .bool (!decide (y1.2 = 0)))] hS (by kernel_rfl) ?_; intro s hS
  refine x_nil ?_
  refine sq_n ?_
  by_cases hc1 : (!decide (y1.2 = 0)) = true
  · have h := it_pos hc1 h
    refine c_cond hS rfl (fun _ => ?_) (fun hf => ff_absurd hc1 hf)
    refine c_seq ?_
    refine c_region ?_
    refine q_seg 2 [(4, .ptr b2 0 0 5), (16, .agg [(Sl.t (⟨true, []⟩ : Sl ByteArray)), .int .i64 0, (Sl.t (⟨true, []⟩ : Sl ByteArray)), (Sl.t (⟨true, []⟩ : Sl DFile)), (Sl.t (⟨true, []⟩ : Sl ByteArray))]), (17, .int .i64 y1.2)] hS (by kernel_rfl) ?_; intro s hS
    refine q_store (v := .agg [(Sl.t (⟨true, []⟩ : Sl ByteArray)), .int .i64 0, (Sl.t (⟨true, []⟩ : Sl ByteArray)), (Sl.t (⟨true, []⟩ : Sl DFile)), (Sl.t (⟨true, []⟩ : Sl ByteArray))]) (cs := [(Sl.t (⟨true, []⟩ : Sl ByteArray)), .int .i64 0, (Sl.t (⟨true, []⟩ : Sl ByteArray)), (Sl.t (⟨true, []⟩ : Sl DFile)), (Sl.t (⟨true, []⟩ : Sl ByteArray))]) (cells' := [(Sl.t (⟨true, []⟩ : Sl ByteArray)), .int .i64 0, (Sl.t (⟨true, []⟩ : Sl ByteArray)), (Sl.t (⟨true, []⟩ : Sl DFile)), (Sl.t (⟨true, []⟩ : Sl ByteArray))]) rfl hS hH rfl rfl rfl (by kernel_rfl) (by kernel_rfl) ?_; intro σ s hH hS
    refine q_seg 1 [(4, .ptr b2 0 0 5), (5, .int .i64 y1.2)] hS (by kernel_rfl) ?_; intro s hS
    refine x_nil ?_
    refine sq_n ?_
    refine c_ret ?_
    refine sq_r ?_
    injection h with h; subst h
    have hH := Heap.addNil hH true 1
    have hH := Heap.addNil hH true 1
    have hH := Heap.addNil hH true 4
    have hH := Heap.addNil hH true 1
    have hH : Heap σ0 σ [.own true 1 (T.row true 0 []) (Sl.t (⟨true, []⟩ : Sl ByteArray)), .own true 1 (T.row true 0 []) (Sl.t (⟨true, []⟩ : Sl ByteArray)), .own true 4 (T.row true 0 []) (Sl.t (⟨true, []⟩ : Sl DFile)), .own true 1 (T.row true 0 []) (Sl.t (⟨true, []⟩ : Sl ByteArray)), .box b2 [(Sl.t (⟨true, []⟩ : Sl ByteArray)), .int .i64 0, (Sl.t (⟨true, []⟩ : Sl ByteArray)), (Sl.t (⟨true, []⟩ : Sl DFile)), (Sl.t (⟨true, []⟩ : Sl ByteArray))], .box b1 [(Sl.t (a0.Input : Sl ByteArray)), .int .i64 a0.At, (Sl.t (a0.Output : Sl ByteArray)), (Sl.t (a0.Files : Sl DFile)), (Sl.t (a0.Trace : Sl ByteArray))]] := hH.sel [3, 2, 1, 0, 4, 5] rfl (by kernel_rfl)
    exact end_Ow [(T.row true 0 []), (T.row true 0 []), (T.row true 0 []), (T.row true 0 [])] [.box b2 [(Sl.t (⟨true, []⟩ : Sl ByteArray)), .int .i64 0, (Sl.t (⟨true, []⟩ : Sl ByteArray)), (Sl.t (⟨true, []⟩ : Sl DFile)), (Sl.t (⟨true, []⟩ : Sl ByteArray))], .box b1 [(Sl.t (a0.Input : Sl ByteArray)), .int .i64 a0.At, (Sl.t (a0.Output : Sl ByteArray)), (Sl.t (a0.Files : Sl DFile)), (Sl.t (a0.Trace : Sl ByteArray))]] (r_cell (v := .agg [(Sl.t (⟨true, []⟩ : Sl ByteArray)), .int .i64 0, (Sl.t (⟨true, []⟩ : Sl ByteArray)), (Sl.t (⟨true, []⟩ : Sl DFile)), (Sl.t (⟨true, []⟩ : Sl ByteArray))]) hS (hH.at 4 rfl) rfl (by kernel_rfl) (r_tmp (v := .int .i64 y1.2) hS rfl r_nil)) (by kernel_rfl) rfl hH (by kernel_rfl)
  · have h := it_neg hc1 h
    refine c_cond hS rfl (fun hf => tt_absurd hc1 hf) (fun _ => ?_)
    refine c_skip ?_
    refine sq_n ?_
    refine c_seq ?_
    refine c_seq ?_
    refine c_region ?_
    refine q_seg 1 [(2, .ptr b1 0 0 5), (4, .ptr b2 0 0 5), (6, .int .i64 y1.1), (18, .ptr b1 0 3 1)] hS (by kernel_rfl) ?_; intro s hS
    refine q_load (v := (Sl.t (a0.Files : Sl DFile))) 1 trivial rfl hS hH rfl rfl (by kernel_rfl) ?_; intro s hS
    refine q_seg 1 [(2, .ptr b1 0 0 5), (4, .ptr b2 0 0 5), (6, .int .i64 y1.1), (19, (Sl.t (a0.Files : Sl DFile))), (20, .int .i64 y1.1)] hS (by kernel_rfl) ?_; intro s hS
    obtain ⟨y2, hy2, h⟩ := bind_some h
    refine q_elt (sl := a0.Files) (e := 52) [.str y2.Name, (Sl.t (y2.Lines : Sl ByteArray)), .int .i64 y2.Mode, .int .i64 y2.At] rfl hS rfl rfl (by kernel_rfl) (by kernel_rfl) hy2 rfl ?_; intro rest1 s hS
    refine q_seg 3 [(2, .ptr b1 0 0 5), (4, .ptr b2 0 0 5), (6, .int .i64 y1.1), (24, .bool (decide (y2.Mode = 0)))] hS (by kernel_rfl) ?_; intro s hS
    refine x_nil ?_
    refine sq_n ?_
    by_cases hc2 : (decide (y2.Mode = 0)) = true
    · have h := it_pos hc2 h
      refine c_cond hS rfl (fun _ => ?_) (fun hf => ff_absurd hc2 hf)
      refine c_seq ?_
      refine c_region ?_
      refine q_seg 1 [(4, .ptr b2 0 0 5), (25, .agg [(Sl.t (⟨true, []⟩ : Sl ByteArray)), .int .i64 0, (Sl.t (⟨true, []⟩ : Sl ByteArray)), (Sl.t (⟨true, []⟩ : Sl DFile)), (Sl.t (⟨true, []⟩ : Sl ByteArray))])] hS (by kernel_rfl) ?_; intro s hS
      refine q_store (v := .agg [(Sl.t (⟨true, []⟩ : Sl ByteArray)), .int .i64 0, (Sl.t (⟨true, []⟩ : Sl ByteArray)), (Sl.t (⟨true, []⟩ : Sl DFile)), (Sl.t (⟨true, []⟩ : Sl ByteArray))]) (cs := [(Sl.t (⟨true, []⟩ : Sl ByteArray)), .int .i64 0, (Sl.t (⟨true, []⟩ : Sl ByteArray)), (Sl.t (⟨true, []⟩ : Sl DFile)), (Sl.t (⟨true, []⟩ : Sl ByteArray))]) (cells' := [(Sl.t (⟨true, []⟩ : Sl ByteArray)), .int .i64 0, (Sl.t (⟨true, []⟩ : Sl ByteArray)), (Sl.t (⟨true, []⟩ : Sl DFile)), (Sl.t (⟨true, []⟩ : Sl ByteArray))]) rfl hS hH rfl rfl rfl (by kernel_rfl) (by kernel_rfl) ?_; intro σ s hH hS
      refine q_seg 1 [(4, .ptr b2 0 0 5), (5, .int .i64 10)] hS (by kernel_rfl) ?_; intro s hS
      refine x_nil ?_
      refine sq_n ?_
      refine c_ret ?_
      refine sq_r ?_
      injection h with h; subst h
      have hH := Heap.addNil hH true 1
      have hH := Heap.addNil hH true 1
      have hH := Heap.addNil hH true 4
      have hH := Heap.addNil hH true 1
      have hH : Heap σ0 σ [.own true 1 (T.row true 0 []) (Sl.t (⟨true, []⟩ : Sl ByteArray)), .own true 1 (T.row true 0 []) (Sl.t (⟨true, []⟩ : Sl ByteArray)), .own true 4 (T.row true 0 []) (Sl.t (⟨true, []⟩ : Sl DFile)), .own true 1 (T.row true 0 []) (Sl.t (⟨true, []⟩ : Sl ByteArray)), .box b2 [(Sl.t (⟨true, []⟩ : Sl ByteArray)), .int .i64 0, (Sl.t (⟨true, []⟩ : Sl ByteArray)), (Sl.t (⟨true, []⟩ : Sl DFile)), (Sl.t (⟨true, []⟩ : Sl ByteArray))], .box b1 [(Sl.t (a0.Input : Sl ByteArray)), .int .i64 a0.At, (Sl.t (a0.Output : Sl ByteArray)), (Sl.t (a0.Files : Sl DFile)), (Sl.t (a0.Trace : Sl ByteArray))]] := hH.sel [3, 2, 1, 0, 4, 5] rfl (by kernel_rfl)
      exact end_Ow [(T.row true 0 []), (T.row true 0 []), (T.row true 0 []), (T.row true 0 [])] [.box b2 [(Sl.t (⟨true, []⟩ : Sl ByteArray)), .int .i64 0, (Sl.t (⟨true, []⟩ : Sl ByteArray)), (Sl.t (⟨true, []⟩ : Sl DFile)), (Sl.t (⟨true, []⟩ : Sl ByteArray))], .box b1 [(Sl.t (a0.Input : Sl ByteArray)), .int .i64 a0.At, (Sl.t (a0.Output : Sl ByteArray)), (Sl.t (a0.Files : Sl DFile)), (Sl.t (a0.Trace : Sl ByteArray))]] (r_cell (v := .agg [(Sl.t (⟨true, []⟩ : Sl ByteArray)), .int .i64 0, (Sl.t (⟨true, []⟩ : Sl ByteArray)), (Sl.t (⟨true, []⟩ : Sl DFile)), (Sl.t (⟨true, []⟩ : Sl ByteArray))]) hS (hH.at 4 rfl) rfl (by kernel_rfl) (r_tmp (v := .int .i64 10) hS rfl r_nil)) (by kernel_rfl) rfl hH (by kernel_rfl)
    · have h := it_neg hc2 h
      refine c_cond hS rfl (fun hf => tt_absurd hc2 hf) (fun _ => ?_)
      refine c_skip ?_
      refine sq_n ?_
      refine c_seq ?_
      refine c_region ?_
      obtain ⟨y3, hy3, h⟩ := bind_some h
      refine q_callLO rfl (xs := [.ptr b1 0 0 5]) (cs := [[(Sl.t (a0.Input : Sl ByteArray)), .int .i64 a0.At, (Sl.t (a0.Output : Sl ByteArray)), (Sl.t (a0.Files : Sl DFile)), (Sl.t (a0.Trace : Sl ByteArray))]]) [b1] rfl hS rfl rfl rfl hH (And.intro (Heap.lent (hH.at 1 rfl)) trivial) hy3 ?_; intro hs σ s hl hH hS
      obtain ⟨t1, t2, t3, t4, rfl⟩ := len4 hl
      have hH : Heap σ0 σ [.own true 1 t1 (Sl.t (y3.Input : Sl ByteArray)), .own true 1 t2 (Sl.t (y3.Output : Sl ByteArray)), .own true 4 t3 (Sl.t (y3.Files : Sl DFile)), .own true 1 t4 (Sl.t (y3.Trace : Sl ByteArray)), .box b2 [(Sl.t (⟨true, []⟩ : Sl ByteArray)), .int .i64 0, (Sl.t (⟨true, []⟩ : Sl ByteArray)), (Sl.t (⟨true, []⟩ : Sl DFile)), (Sl.t (⟨true, []⟩ : Sl ByteArray))], .box b1 [(Sl.t (a0.Input : Sl ByteArray)), .int .i64 a0.At, (Sl.t (a0.Output : Sl ByteArray)), (Sl.t (a0.Files : Sl DFile)), (Sl.t (a0.Trace : Sl ByteArray))]] := hH
      have ht1 : IsOne t1 := Heap.one hH
      have ht2 : IsOne t2 := Heap.one (hH.at 1 rfl)
      have ht3 : IsOne t3 := Heap.one (hH.at 2 rfl)
      have ht4 : IsOne t4 := Heap.one (hH.at 3 rfl)
      refine q_alloc (z := [(Sl.t (⟨true, []⟩ : Sl ByteArray)), .int .i64 0, (Sl.t (⟨true, []⟩ : Sl ByteArray)), (Sl.t (⟨true, []⟩ : Sl DFile)), (Sl.t (⟨true, []⟩ : Sl ByteArray))]) rfl hS hH (by kernel_rfl) ?_; intro b3 σ s hH hS
      refine q_store (v := .agg [t1, .int .i64 y3.At, t2, t3, t4]) (cs := [t1, .int .i64 y3.At, t2, t3, t4]) (cells' := [t1, .int .i64 y3.At, t2, t3, t4]) rfl hS hH rfl rfl rfl (by simp [ht1.1, ht1.2, ht2.1, ht2.2, ht3.1, ht3.2, ht4.1, ht4.2]) (by kernel_rfl) ?_; intro σ s hH hS
      refine x_nil ?_
      refine sq_n ?_
      refine c_seq ?_
      refine c_region ?_
      refine q_seg 1 [(4, .ptr b2 0 0 5), (6, .int .i64 y1.1), (8, .ptr b3 0 0 5), (27, .ptr b3 0 3 1)] hS (by kernel_rfl) ?_; intro s hS
      refine q_load (v := t3) 0 trivial rfl hS hH rfl rfl (by kernel_rfl) ?_; intro s hS
      refine q_seg 1 [(4, .ptr b2 0 0 5), (6, .int .i64 y1.1), (8, .ptr b3 0 0 5), (28, t3), (29, .int .i64 y1.1)] hS (by kernel_rfl) ?_; intro s hS
      have hH : Heap σ0 σ [.own true 4 t3 (Sl.t (y3.Files : Sl DFile)), .box b3 [t1, .int .i64 y3.At, t2, t3, t4], .own true 1 t1 (Sl.t (y3.Input : Sl ByteArray)), .own true 1 t2 (Sl.t (y3.Output : Sl ByteArray)), .own true 1 t4 (Sl.t (y3.Trace : Sl ByteArray)), .box b2 [(Sl.t (⟨true, []⟩ : Sl ByteArray)), .int .i64 0, (Sl.t (⟨true, []⟩ : Sl ByteArray)), (Sl.t (⟨true, []⟩ : Sl DFile)), (Sl.t (⟨true, []⟩ : Sl ByteArray))], .box b1 [(Sl.t (a0.Input : Sl ByteArray)), .int .i64 a0.At, (Sl.t (a0.Output : Sl ByteArray)), (Sl.t (a0.Files : Sl DFile)), (Sl.t (a0.Trace : Sl ByteArray))]] := hH.sel [3, 0, 1, 2, 4, 5, 6] rfl (by kernel_rfl)
      obtain ⟨y4, hy4, h⟩ := bind_some h
      refine q_hidx (a := y3.Files) (e := 52) rfl rfl hS hH rfl rfl (by kernel_rfl) (by kernel_rfl) hy4 ?_; intro hb1 hb1e s hl_hb1 hS
      refine q_seg 1 [(4, .ptr b2 0 0 5), (6, .int .i64 y1.1), (8, .ptr b3 0 0 5), (31, .ptr hb1 hb1e (y1.1.toNat * Enc.w DFile + 2) 1)] hS (by kernel_rfl) ?_; intro s hS
      refine q_hstore (ents := []) (a := y3.Files) (j := y1.1) (y := y4) (y' := ((⟨y4.Name, y4.Lines, 0, y4.At⟩ : DFile) : DFile)) (off := 2) (c := [.str y4.Name, (Sl.t (y4.Lines : Sl ByteArray)), .int .i64 y4.Mode, .int .i64 y4.At]) (us := [.int .i64 0]) (vs := [.int .i64 0]) (v := .int .i64 0) rfl hS hH hl_hb1 rfl rfl rfl (by kernel_rfl) (by kernel_rfl) rfl hy4 rfl (HL.leaf (fun σ d => hold_int _ σ d _ _) HL.nil) rfl (by kernel_rfl) ?_; intro σ s hH hS
      refine x_nil ?_
      refine sq_n ?_
      refine c_seq ?_
      refine c_region ?_
      refine q_seg 1 [(4, .ptr b2 0 0 5), (6, .int .i64 y1.1), (8, .ptr b3 0 0 5), (32, .ptr b3 0 3 1)] hS (by kernel_rfl) ?_; intro s hS
      refine q_load (v := t3) 1 trivial rfl hS hH rfl rfl (by kernel_rfl) ?_; intro s hS
      refine q_seg 1 [(4, .ptr b2 0 0 5), (8, .ptr b3 0 0 5), (33, t3), (34, .int .i64 y1.1)] hS (by kernel_rfl) ?_; intro s hS
      obtain ⟨y5, hy5, h⟩ := bind_some h
      refine q_hidx (a := (setS y3.Files y1.1 ((⟨y4.Name, y4.Lines, 0, y4.At⟩ : DFile) : DFile))) (e := 52) rfl rfl hS hH rfl rfl (by kernel_rfl) (by kernel_rfl) hy5 ?_; intro hb2 hb2e s hl_hb2 hS
      refine q_seg 1 [(4, .ptr b2 0 0 5), (8, .ptr b3 0 0 5), (36, .ptr hb2 hb2e (y1.1.toNat * Enc.w DFile + 3) 1)] hS (by kernel_rfl) ?_; intro s hS
      refine q_hstore (ents := []) (a := (setS y3.Files y1.1 ((⟨y4.Name, y4.Lines, 0, y4.At⟩ : DFile) : DFile))) (j := y1.1) (y := y5) (y' := ((⟨y5.Name, y5.Lines, y5.Mode, 0⟩ : DFile) : DFile)) (off := 3) (c := [.str y5.Name, (Sl.t (y5.Lines : Sl ByteArray)), .int .i64 y5.Mode, .int .i64 y5.At]) (us := [.int .i64 0]) (vs := [.int .i64 0]) (v := .int .i64 0) rfl hS hH hl_hb2 rfl rfl rfl (by kernel_rfl) (by kernel_rfl) rfl hy5 rfl (HL.leaf (fun σ d => hold_int _ σ d _ _) HL.nil) rfl (by kernel_rfl) ?_; intro σ s hH hS
      refine x_nil ?_
      refine sq_n ?_
      refine c_seq ?_
      refine c_region ?_
      refine q_load (v := .agg [t1, .int .i64 y3.At, t2, t3, t4]) 1 trivial rfl hS hH rfl rfl (by kernel_rfl) ?_; intro s hS
      have hH : Heap σ0 σ [.box b2 [(Sl.t (⟨true, []⟩ : Sl ByteArray)), .int .i64 0, (Sl.t (⟨true, []⟩ : Sl ByteArray)), (Sl.t (⟨true, []⟩ : Sl DFile)), (Sl.t (⟨true, []⟩ : Sl ByteArray))], .own true 4 t3 (Sl.t ((setS (setS y3.Files y1.1 ((⟨y4.Name, y4.Lines, 0, y4.At⟩ : DFile) : DFile)) y1.1 ((⟨y5.Name, y5.Lines, y5.Mode, 0⟩ : DFile) : DFile)) : Sl DFile)), .box b3 [t1, .int .i64 y3.At, t2, t3, t4], .own true 1 t1 (Sl.t (y3.Input : Sl ByteArray)), .own true 1 t2 (Sl.t (y3.Output : Sl ByteArray)), .own true 1 t4 (Sl.t (y3.Trace : Sl ByteArray)), .box b1 [(Sl.t (a0.Input : Sl ByteArray)), .int .i64 a0.At, (Sl.t (a0.Output : Sl ByteArray)), (Sl.t (a0.Files : Sl DFile)), (Sl.t (a0.Trace : Sl ByteArray))]] := hH.sel [5, 0, 1, 2, 3, 4, 6] rfl (by kernel_rfl)
      refine q_store (v := .agg [t1, .int .i64 y3.At, t2, t3, t4]) (cs := [t1, .int .i64 y3.At, t2, t3, t4]) (cells' := [t1, .int .i64 y3.At, t2, t3, t4]) rfl hS hH rfl rfl rfl (by simp [ht1.1, ht1.2, ht2.1, ht2.2, ht3.1, ht3.2, ht4.1, ht4.2]) (by kernel_rfl) ?_; intro σ s hH hS
      refine q_seg 1 [(4, .ptr b2 0 0 5), (5, .int .i64 0)] hS (by kernel_rfl) ?_; intro s hS
      refine x_nil ?_
      refine sq_n ?_
      refine c_ret ?_
      injection h with h; subst h
      have hH : Heap σ0 σ [.own true 1 t1 (Sl.t (y3.Input : Sl ByteArray)), .own true 1 t2 (Sl.t (y3.Output : Sl ByteArray)), .own true 4 t3 (Sl.t ((setS (setS y3.Files y1.1 ((⟨y4.Name, y4.Lines, 0, y4.At⟩ : DFile) : DFile)) y1.1 ((⟨y5.Name, y5.Lines, y5.Mode, 0⟩ : DFile) : DFile)) : Sl DFile)), .own true 1 t4 (Sl.t (y3.Trace : Sl ByteArray)), .box b2 [t1, .int .i64 y3.At, t2, t3, t4], .box b3 [t1, .int .i64 y3.At, t2, t3, t4], .box b1 [(Sl.t (a0.Input : Sl ByteArray)), .int .i64 a0.At, (Sl.t (a0.Output : Sl ByteArray)), (Sl.t (a0.Files : Sl DFile)), (Sl.t (a0.Trace : Sl ByteArray))]] := hH.sel [3, 4, 1, 5, 0, 2, 6] rfl (by kernel_rfl)
      exact end_Ow [t1, t2, t3, t4] [.box b2 [t1, .int .i64 y3.At, t2, t3, t4], .box b3 [t1, .int .i64 y3.At, t2, t3, t4], .box b1 [(Sl.t (a0.Input : Sl ByteArray)), .int .i64 a0.At, (Sl.t (a0.Output : Sl ByteArray)), (Sl.t (a0.Files : Sl DFile)), (Sl.t (a0.Trace : Sl ByteArray))]] (r_cell (v := .agg [t1, .int .i64 y3.At, t2, t3, t4]) hS (hH.at 4 rfl) rfl (by kernel_rfl) (r_tmp (v := .int .i64 0) hS rfl r_nil)) (by kernel_rfl) rfl hH (by kernel_rfl)
end Go.Am
end
