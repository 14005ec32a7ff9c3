/- Functions of the program. -/
import Derived.Test.YtibhahlikgiegaaAd0
section
set_option maxRecDepth 100000
set_option maxHeartbeats 4000000
set_option linter.unusedVariables false
set_option linter.unusedSimpArgs false
namespace Go.Am
open Go.Proofs
noncomputable def B_laws_eqConsole (a0 : DConsole) (a1 : DConsole) : Option Bool := ((F_laws_eqStringS a0.Input a1.Input).bind fun y1 => (if (!y1) = true then (some false) else (if (!decide (a0.At = a1.At)) = true then (some false) else ((F_laws_eqStringS a0.Output a1.Output).bind fun y2 => (if (!y2) = true then (some false) else ((F_laws_eqFileS a0.Files a1.Files).bind fun y3 => (if (!y3) = true then (some false) else ((F_laws_eqStringS a0.Trace a1.Trace).bind fun y4 => (if (!y4) = true then (some false) else (some true))))))))))
theorem u_laws_eqConsole (a0 : DConsole) (a1 : DConsole) (r : Bool) (h : B_laws_eqConsole a0 a1 = some r) : F_laws_eqConsole a0 a1 = some r := by
  unfold B_laws_eqConsole at h
  refine semW_of E_bool_inj rfl rfl ok_22 rfl (all_cons (by kernel_rfl) (all_cons (by kernel_rfl) all_nil)) ?_
  intro σ0 s hS hH
  have hS := sub_to (L' := [(0, .agg (DConsole.cells a0)), (1, .agg (DConsole.cells a1))]) hS (by kernel_rfl)
  refine c_seq ?_
  refine c_region ?_
  refine q_box (v := .agg (DConsole.cells a0)) (cs := [(Sl.t (a0.Input : Sl ByteArray)), .int .i64 a0.At, (Sl.t (a0.Output : Sl ByteArray)), (Sl.t (a0.Files : Sl DFile)), (Sl.t (a0.Trace : Sl ByteArray))]) rfl hS hH rfl rfl (by kernel_rfl) ?_; intro b1 σ s hH hS
  refine q_box (v := .agg (DConsole.cells a1)) (cs := [(Sl.t (a1.Input : Sl ByteArray)), .int .i64 a1.At, (Sl.t (a1.Output : Sl ByteArray)), (Sl.t (a1.Files : Sl DFile)), (Sl.t (a1.Trace : Sl ByteArray))]) rfl hS hH rfl rfl (by kernel_rfl) ?_; intro b2 σ s hH hS
  refine q_seg 1 [(2, .ptr b1 0 0 5), (3, .ptr b2 0 0 5)] hS (by kernel_rfl) ?_; intro s hS
  refine x_nil ?_
  refine sq_n ?_
  refine c_seq ?_
  refine c_seq ?_
  refine c_region ?_
  refine q_seg 1 [(2, .ptr b1 0 0 5), (3, .ptr b2 0 0 5), (5, .ptr b1 0 0 1)] hS (by kernel_rfl) ?_; intro s hS
  refine q_load (v := (Sl.t (a0.Input : Sl ByteArray))) 1 trivial rfl hS hH rfl rfl (by kernel_rfl) ?_; intro s hS
  refine q_seg 1 [(2, .ptr b1 0 0 5), (3, .ptr b2 0 0 5), (6, (Sl.t (a0.Input : Sl ByteArray))), (7, .ptr b2 0 0 1)] hS (by kernel_rfl) ?_; intro s hS
  refine q_load (v := (Sl.t (a1.Input : Sl ByteArray))) 0 trivial rfl hS hH rfl rfl (by kernel_rfl) ?_; intro s hS
  obtain ⟨y1, hy1, h⟩ := bind_some h
  refine q_callF (a := []) (b := []) (xs := [(Sl.t (a0.Input : Sl ByteArray)), (Sl.t (a1.Input : Sl ByteArray))]) rfl hS rfl rfl hy1 ?_; intro s hS
  refine q_seg 1 [(2, .ptr b1 0 0 5), (3, .ptr b2 0 0 5), (10, .bool (!y1))] hS (by kernel_rfl) ?_; intro s hS
  refine x_nil ?_
  refine sq_n ?_
  by_cases hc1 : (!y1) = true
  · have h := it_pos hc1 h
    refine c_cond hS rfl (fun _ => ?_) (fun hf => ff_absurd hc1 hf)
    refine c_seq ?_
    refine c_region ?_
    refine q_seg 1 [(4, .bool false)] hS (by kernel_rfl) ?_; intro s hS
    refine x_nil ?_
    refine sq_n ?_
    refine c_ret ?_
    refine sq_r ?_
    injection h with h; subst h
    exact end_W hH (r_tmp (v := .bool false) hS rfl r_nil) rfl (by kernel_rfl) (by simp [pureT, pureL, E_bool])
  · have h := it_neg hc1 h
    refine c_cond hS rfl (fun hf => tt_absurd hc1 hf) (fun _ => ?_)
    refine c_skip ?_
    refine sq_n ?_
    refine c_seq ?_
    refine c_seq ?_
    refine c_region ?_
    refine q_seg 1 [(2, .ptr b1 0 0 5), (3, .ptr b2 0 0 5), (11, .ptr b1 0 1 1)] hS (by kernel_rfl) ?_; intro s hS
    refine q_load (v := .int .i64 a0.At) 1 trivial rfl hS hH rfl rfl (by kernel_rfl) ?_; intro s hS
    refine q_seg 1 [(2, .ptr b1 0 0 5), (3, .ptr b2 0 0 5), (12, .int .i64 a0.At), (13, .ptr b2 0 1 1)] hS (by kernel_rfl) ?_; intro s hS
    refine q_load (v := .int .i64 a1.At) 0 trivial rfl hS hH rfl rfl (by kernel_rfl) ?_; intro s hS
    refine q_seg 1 [(2, .ptr b1 0 0 5), (3, .ptr b2 0 0 5), (15, .bool (!decide (a0.At = a1.At)))] hS (by kernel_rfl) ?_; intro s hS
    refine x_nil ?_
    refine sq_n ?_
    by_cases hc2 : (!decide (a0.At = a1.At)) = true
    · have h := it_pos hc2 h
      refine c_cond hS rfl (fun _ => ?_) (fun hf => ff_absurd hc2 hf)
      refine c_seq ?_
      refine c_region ?_
      refine q_seg 1 [(4, .bool false)] hS (by kernel_rfl) ?_; intro s hS
      refine x_nil ?_
      refine sq_n ?_
      refine c_ret ?_
      refine sq_r ?_
      injection h with h; subst h
      exact end_W hH (r_tmp (v := .bool false) hS rfl r_nil) rfl (by kernel_rfl) (by simp [pureT, pureL, E_bool])
    · have h := it_neg hc2 h
      refine c_cond hS rfl (fun hf => tt_absurd hc2 hf) (fun _ => ?_)
      refine c_skip ?_
      refine sq_n ?_
      refine c_seq ?_
      refine c_seq ?_
      refine c_region ?_
      refine q_seg 1 [(2, .ptr b1 0 0 5), (3, .ptr b2 0 0 5), (16, .ptr b1 0 2 1)] hS (by kernel_rfl) ?_; intro s hS
      refine q_load (v := (Sl.t (a0.Output : Sl ByteArray))) 1 trivial rfl hS hH rfl rfl (by kernel_rfl) ?_; intro s hS
      refine q_seg 1 [(2, .ptr b1 0 0 5), (3, .ptr b2 0 0 5), (17, (Sl.t (a0.Output : Sl ByteArray))), (18, .ptr b2 0 2 1)] hS (by kernel_rfl) ?_; intro s hS
      refine q_load (v := (Sl.t (a1.Output : Sl ByteArray))) 0 trivial rfl hS hH rfl rfl (by kernel_rfl) ?_; intro s hS
      obtain ⟨y2, hy2, h⟩ := bind_some h
      refine q_callF (a := []) (b := []) (xs := [(Sl.t (a0.Output : Sl ByteArray)), (Sl.t (a1.Output : Sl ByteArray))]) rfl hS rfl rfl hy2 ?_; intro s hS
      refine q_seg 1 [(2, .ptr b1 0 0 5), (3, .ptr b2 0 0 5), (21, .bool (!y2))] hS (by kernel_rfl) ?_; intro s hS
      refine x_nil ?_
      refine sq_n ?_
      by_cases hc3 : (!y2) = true
      · have h := it_pos hc3 h
        refine c_cond hS rfl (fun _ => ?_) (fun hf => ff_absurd hc3 hf)
        refine c_seq ?_
        refine c_region ?_
        refine q_seg 1 [(4, .bool false)] hS (by kernel_rfl) ?_; intro s hS
        refine x_nil ?_
        refine sq_n ?_
        refine c_ret ?_
        refine sq_r ?_
        injection h with h; subst h
        exact end_W hH (r_tmp (v := .bool false) hS rfl r_nil) rfl (by kernel_rfl) (by simp [pureT, pureL, E_bool])
      · have h := it_neg hc3 h
        refine c_cond hS rfl (fun hf => tt_absurd hc3 hf) (fun _ => ?_)
        refine c_skip ?_
        refine sq_n ?_
        refine c_seq ?_
        refine c_seq ?_
        refine c_region ?_
        refine q_seg 1 [(2, .ptr b1 0 0 5), (3, .ptr b2 0 0 5), (22, .ptr b1 0 3 1)] hS (by kernel_rfl) ?_; intro s hS
        refine q_load (v := (Sl.t (a0.Files : Sl DFile))) 1 trivial rfl hS hH rfl rfl (by kernel_rfl) ?_; intro s hS
        refine q_seg 1 [(2, .ptr b1 0 0 5), (3, .ptr b2 0 0 5), (23, (Sl.t (a0.Files : Sl DFile))), (24, .ptr b2 0 3 1)] hS (by kernel_rfl) ?_; intro s hS
        refine q_load (v := (Sl.t (a1.Files : Sl DFile))) 0 trivial rfl hS hH rfl rfl (by kernel_rfl) ?_; intro s hS
        obtain ⟨y3, hy3, h⟩ := bind_some h
        refine q_callF (a := []) (b := []) (xs := [(Sl.t (a0.Files : Sl DFile)), (Sl.t (a1.Files : Sl DFile))]) rfl hS rfl rfl hy3 ?_; intro s hS
        refine q_seg 1 [(2, .ptr b1 0 0 5), (3, .ptr b2 0 0 5), (27, .bool (!y3))] hS (by kernel_rfl) ?_; intro s hS
        refine x_nil ?_
        refine sq_n ?_
        by_cases hc4 : (!y3) = true
        · have h := it_pos hc4 h
          refine c_cond hS rfl (fun _ => ?_) (fun hf => ff_absurd hc4 hf)
          refine c_seq ?_
          refine c_region ?_
          refine q_seg 1 [(4, .bool false)] hS (by kernel_rfl) ?_; intro s hS
          refine x_nil ?_
          refine sq_n ?_
          refine c_ret ?_
          refine sq_r ?_
          injection h with h; subst h
          exact end_W hH (r_tmp (v := .bool false) hS rfl r_nil) rfl (by kernel_rfl) (by simp [pureT, pureL, E_bool])
        · have h := it_neg hc4 h
          refine c_cond hS rfl (fun hf => tt_absurd hc4 hf) (fun _ => ?_)
          refine c_skip ?_
          refine sq_n ?_
          refine c_seq ?_
          refine c_seq ?_
          refine c_region ?_
          refine q_seg 1 [(3, .ptr b2 0 0 5), (28, .ptr b1 0 4 1)] hS (by kernel_rfl) ?_; intro s hS
          refine q_load (v := (Sl.t (a0.Trace : Sl ByteArray))) 1 trivial rfl hS hH rfl rfl (by kernel_rfl) ?_; intro s hS
          refine q_seg 1 [(29, (Sl.t (a0.Trace : Sl ByteArray))), (30, .ptr b2 0 4 1)] hS (by kernel_rfl) ?_; intro s hS
          refine q_load (v := (Sl.t (a1.Trace : Sl ByteArray))) 0 trivial rfl hS hH rfl rfl (by kernel_rfl) ?_; intro s hS
          obtain ⟨y4, hy4, h⟩ := bind_some h
          refine q_callF (a := []) (b := []) (xs := [(Sl.t (a0.Trace : Sl ByteArray)), (Sl.t (a1.Trace : Sl ByteArray))]) rfl hS rfl rfl hy4 ?_; intro s hS
          refine q_seg 1 [(33, .bool (!y4))] hS (by kernel_rfl) ?_; intro s hS
          refine x_nil ?_
          refine sq_n ?_
          by_cases hc5 : (!y4) = true
          · have h := it_pos hc5 h
            refine c_cond hS rfl (fun _ => ?_) (fun hf => ff_absurd hc5 hf)
            refine c_seq ?_
            refine c_region ?_
            refine q_seg 1 [(4, .bool false)] hS (by kernel_rfl) ?_; intro s hS
            refine x_nil ?_
            refine sq_n ?_
            refine c_ret ?_
            refine sq_r ?_
            injection h with h; subst h
            exact end_W hH (r_tmp (v := .bool false) hS rfl r_nil) rfl (by kernel_rfl) (by simp [pureT, pureL, E_bool])
          · have h := it_neg hc5 h
            refine c_cond hS rfl (fun hf => tt_absurd hc5 hf) (fun _ => ?_)
            refine c_skip ?_
            refine sq_n ?_
            refine c_seq ?_
            refine c_region ?_
            refine q_seg 1 [(4, .bool true)] hS (by kernel_rfl) ?_; intro s hS
            refine x_nil ?_
            refine sq_n ?_
            refine c_ret ?_
            injection h with h; subst h
            exact end_W hH (r_tmp (v := .bool true) hS rfl r_nil) rfl (by kernel_rfl) (by simp [pureT, pureL, E_bool])
end Go.Am
end
section
set_option maxRecDepth 100000
set_option maxHeartbeats 4000000
set_option linter.unusedVariables false
set_option linter.unusedSimpArgs false
namespace Go.Am
open Go.Proofs
noncomputable def B_laws_heldConsole (a0 : DConsole) (a1 : Int) : Option Int := ((F_laws_heldStringS a0.Input a1).bind fun y1 => (if (decide (y1 < 0)) = true then (some (-1)) else ((F_laws_heldStringS a0.Output y1).bind fun y2 => (if (decide (y2 < 0)) = true then (some (-1)) else ((F_laws_heldFileS a0.Files y2).bind fun y3 => (if (decide (y3 < 0)) = true then (some (-1)) else ((F_laws_heldStringS a0.Trace y3).bind fun y4 => (if (decide (y4 < 0)) = true then (some (-1)) else (some y4)))))))))
theorem u_laws_heldConsole (a0 : DConsole) (a1 : Int) (r : Int) (h : B_laws_heldConsole a0 a1 = some r) : F_laws_heldConsole a0 a1 = some r := by
  unfold B_laws_heldConsole at h
  refine semW_of E_i64_inj rfl rfl ok_24 rfl (all_cons (by kernel_rfl) (all_cons (by kernel_rfl) all_nil)) ?_
  intro σ0 s hS hH
  have hS := sub_to (L' := [(0, .agg (DConsole.cells a0)), (1, .int .i64 a1)]) hS (by kernel_rfl)
  refine c_seq ?_
  refine c_region ?_
  refine q_box (v := .agg (DConsole.cells a0)) (cs := [(Sl.t (a0.Input : Sl ByteArray)), .int .i64 a0.At, (Sl.t (a0.Output : Sl ByteArray)), (Sl.t (a0.Files : Sl DFile)), (Sl.t (a0.Trace : Sl ByteArray))]) rfl hS hH rfl rfl (by kernel_rfl) ?_; intro b1 σ s hH hS
  refine q_seg 1 [(1, .int .i64 a1), (2, .ptr b1 0 0 5)] hS (by kernel_rfl) ?_; intro s hS
  refine x_nil ?_
  refine sq_n ?_
  refine c_seq ?_
  refine c_region ?_
  refine q_seg 1 [(1, .int .i64 a1), (2, .ptr b1 0 0 5), (5, .ptr b1 0 0 1)] hS (by kernel_rfl) ?_; intro s hS
  refine q_load (v := (Sl.t (a0.Input : Sl ByteArray))) 0 trivial rfl hS hH rfl rfl (by kernel_rfl) ?_; intro s hS
  refine q_seg 1 [(2, .ptr b1 0 0 5), (6, (Sl.t (a0.Input : Sl ByteArray))), (7, .int .i64 a1)] hS (by kernel_rfl) ?_; intro s hS
  obtain ⟨y1, hy1, h⟩ := bind_some h
  refine q_callF (a := []) (b := []) (xs := [(Sl.t (a0.Input : Sl ByteArray)), .int .i64 a1]) rfl hS rfl rfl hy1 ?_; intro s hS
  refine q_seg 1 [(1, .int .i64 y1), (2, .ptr b1 0 0 5)] hS (by kernel_rfl) ?_; intro s hS
  refine x_nil ?_
  refine sq_n ?_
  refine c_seq ?_
  refine c_seq ?_
  refine c_region ?_
  refine q_seg 2 [(1, .int .i64 y1), (2, .ptr b1 0 0 5), (10, .bool (decide (y1 < 0)))] hS (by kernel_rfl) ?_; intro s hS
  refine x_nil ?_
  refine sq_n ?_
  by_cases hc1 : (decide (y1 < 0)) = true
  · have h := it_pos hc1 h
    refine c_cond hS rfl (fun _ => ?_) (fun hf => ff_absurd hc1 hf)
    refine c_seq ?_
    refine c_region ?_
    refine q_seg 1 [(4, .int .i64 (-1))] hS (by kernel_rfl) ?_; intro s hS
    refine x_nil ?_
    refine sq_n ?_
    refine c_ret ?_
    refine sq_r ?_
    injection h with h; subst h
    exact end_W hH (r_tmp (v := .int .i64 (-1)) hS rfl r_nil) rfl (by kernel_rfl) (by simp [pureT, pureL, E_i64])
  · have h := it_neg hc1 h
    refine c_cond hS rfl (fun hf => tt_absurd hc1 hf) (fun _ => ?_)
    refine c_skip ?_
    refine sq_n ?_
    refine c_seq ?_
    refine c_region ?_
    refine q_seg 1 [(1, .int .i64 y1), (2, .ptr b1 0 0 5), (11, .ptr b1 0 2 1)] hS (by kernel_rfl) ?_; intro s hS
    refine q_load (v := (Sl.t (a0.Output : Sl ByteArray))) 0 trivial rfl hS hH rfl rfl (by kernel_rfl) ?_; intro s hS
    refine q_seg 1 [(2, .ptr b1 0 0 5), (12, (Sl.t (a0.Output : Sl ByteArray))), (13, .int .i64 y1)] hS (by kernel_rfl) ?_; intro s hS
    obtain ⟨y2, hy2, h⟩ := bind_some h
    refine q_callF (a := []) (b := []) (xs := [(Sl.t (a0.Output : Sl ByteArray)), .int .i64 y1]) rfl hS rfl rfl hy2 ?_; intro s hS
    refine q_seg 1 [(1, .int .i64 y2), (2, .ptr b1 0 0 5)] hS (by kernel_rfl) ?_; intro s hS
    refine x_nil ?_
    refine sq_n ?_
    refine c_seq ?_
    refine c_seq ?_
    refine c_region ?_
    refine q_seg 2 [(1, .int .i64 y2), (2, .ptr b1 0 0 5), (16, .bool (decide (y2 < 0)))] hS (by kernel_rfl) ?_; intro s hS
    refine x_nil ?_
    refine sq_n ?_
    by_cases hc2 : (decide (y2 < 0)) = true
    · have h := it_pos hc2 h
      refine c_cond hS rfl (fun _ => ?_) (fun hf => ff_absurd hc2 hf)
      refine c_seq ?_
      refine c_region ?_
      refine q_seg 1 [(4, .int .i64 (-1))] hS (by kernel_rfl) ?_; intro s hS
      refine x_nil ?_
      refine sq_n ?_
      refine c_ret ?_
      refine sq_r ?_
      injection h with h; subst h
      exact end_W hH (r_tmp (v := .int .i64 (-1)) hS rfl r_nil) rfl (by kernel_rfl) (by simp [pureT, pureL, E_i64])
    · have h := it_neg hc2 h
      refine c_cond hS rfl (fun hf => tt_absurd hc2 hf) (fun _ => ?_)
      refine c_skip ?_
      refine sq_n ?_
      refine c_seq ?_
      refine c_region ?_
      refine q_seg 1 [(1, .int .i64 y2), (2, .ptr b1 0 0 5), (17, .ptr b1 0 3 1)] hS (by kernel_rfl) ?_; intro s hS
      refine q_load (v := (Sl.t (a0.Files : Sl DFile))) 0 trivial rfl hS hH rfl rfl (by kernel_rfl) ?_; intro s hS
      refine q_seg 1 [(2, .ptr b1 0 0 5), (18, (Sl.t (a0.Files : Sl DFile))), (19, .int .i64 y2)] hS (by kernel_rfl) ?_; intro s hS
      obtain ⟨y3, hy3, h⟩ := bind_some h
      refine q_callF (a := []) (b := []) (xs := [(Sl.t (a0.Files : Sl DFile)), .int .i64 y2]) rfl hS rfl rfl hy3 ?_; intro s hS
      refine q_seg 1 [(1, .int .i64 y3), (2, .ptr b1 0 0 5)] hS (by kernel_rfl) ?_; intro s hS
      refine x_nil ?_
      refine sq_n ?_
      refine c_seq ?_
      refine c_seq ?_
      refine c_region ?_
      refine q_seg 2 [(1, .int .i64 y3), (2, .ptr b1 0 0 5), (22, .bool (decide (y3 < 0)))] hS (by kernel_rfl) ?_; intro s hS
      refine x_nil ?_
      refine sq_n ?_
      by_cases hc3 : (decide (y3 < 0)) = true
      · have h := it_pos hc3 h
        refine c_cond hS rfl (fun _ => ?_) (fun hf => ff_absurd hc3 hf)
        refine c_seq ?_
        refine c_region ?_
        refine q_seg 1 [(4, .int .i64 (-1))] hS (by kernel_rfl) ?_; intro s hS
        refine x_nil ?_
        refine sq_n ?_
        refine c_ret ?_
        refine sq_r ?_
        injection h with h; subst h
        exact end_W hH (r_tmp (v := .int .i64 (-1)) hS rfl r_nil) rfl (by kernel_rfl) (by simp [pureT, pureL, E_i64])
      · have h := it_neg hc3 h
        refine c_cond hS rfl (fun hf => tt_absurd hc3 hf) (fun _ => ?_)
        refine c_skip ?_
        refine sq_n ?_
        refine c_seq ?_
        refine c_region ?_
        refine q_seg 1 [(1, .int .i64 y3), (23, .ptr b1 0 4 1)] hS (by kernel_rfl) ?_; intro s hS
        refine q_load (v := (Sl.t (a0.Trace : Sl ByteArray))) 0 trivial rfl hS hH rfl rfl (by kernel_rfl) ?_; intro s hS
        refine q_seg 1 [(24, (Sl.t (a0.Trace : Sl ByteArray))), (25, .int .i64 y3)] hS (by kernel_rfl) ?_; intro s hS
        obtain ⟨y4, hy4, h⟩ := bind_some h
        refine q_callF (a := []) (b := []) (xs := [(Sl.t (a0.Trace : Sl ByteArray)), .int .i64 y3]) rfl hS rfl rfl hy4 ?_; intro s hS
        refine q_seg 1 [(1, .int .i64 y4)] hS (by kernel_rfl) ?_; intro s hS
        refine x_nil ?_
        refine sq_n ?_
        refine c_seq ?_
        refine c_seq ?_
        refine c_region ?_
        refine q_seg 2 [(1, .int .i64 y4), (28, .bool (decide (y4 < 0)))] hS (by kernel_rfl) ?_; intro s hS
        refine x_nil ?_
        refine sq_n ?_
        by_cases hc4 : (decide (y4 < 0)) = true
        · have h := it_pos hc4 h
          refine c_cond hS rfl (fun _ => ?_) (fun hf => ff_absurd hc4 hf)
          refine c_seq ?_
          refine c_region ?_
          refine q_seg 1 [(4, .int .i64 (-1))] hS (by kernel_rfl) ?_; intro s hS
          refine x_nil ?_
          refine sq_n ?_
          refine c_ret ?_
          refine sq_r ?_
          injection h with h; subst h
          exact end_W hH (r_tmp (v := .int .i64 (-1)) hS rfl r_nil) rfl (by kernel_rfl) (by simp [pureT, pureL, E_i64])
        · have h := it_neg hc4 h
          refine c_cond hS rfl (fun hf => tt_absurd hc4 hf) (fun _ => ?_)
          refine c_skip ?_
          refine sq_n ?_
          refine c_seq ?_
          refine c_region ?_
          refine q_seg 2 [(4, .int .i64 y4)] hS (by kernel_rfl) ?_; intro s hS
          refine x_nil ?_
          refine sq_n ?_
          refine c_ret ?_
          injection h with h; subst h
          exact end_W hH (r_tmp (v := .int .i64 y4) hS rfl r_nil) rfl (by kernel_rfl) (by simp [pureT, pureL, E_i64])
end Go.Am
end
section
set_option maxRecDepth 100000
set_option maxHeartbeats 4000000
set_option linter.unusedVariables false
set_option linter.unusedSimpArgs false
namespace Go.Am
open Go.Proofs
noncomputable def B_spec_WriteFile (a0 : DConsole) (a1 : ByteArray) (a2 : ByteArray) : Option (DConsole × Int) := ((F_spec_l21Code a0 a1).bind fun y1 => (if (decide (200 < (a2.size : Int))) = true then (some ((⟨⟨true, []⟩, 0, ⟨true, []⟩, ⟨true, []⟩, ⟨true, []⟩⟩ : DConsole), 1)) else (if (!decide (y1.2 = 0)) = true then (some ((⟨⟨true, []⟩, 0, ⟨true, []⟩, ⟨true, []⟩, ⟨true, []⟩⟩ : DConsole), y1.2)) else ((elt a0.Files y1.1).bind fun y2 => (if (!decide (y2.Mode = 2)) = true then (if (!decide (y2.Mode = 3)) = true then (some ((⟨⟨true, []⟩, 0, ⟨true, []⟩, ⟨true, []⟩, ⟨true, []⟩⟩ : DConsole), 10)) else (if (decide (40 ≤ (y2.Lines.l.length : Int))) = true then (some ((⟨⟨true, []⟩, 0, ⟨true, []⟩, ⟨true, []⟩, ⟨true, []⟩⟩ : DConsole), 6)) else ((F_spec_l21Own a0).bind fun y3 => ((elt y3.Files y1.1).bind fun y4 => ((appS 16 y4.Lines (⟨false, [a2]⟩ : Sl ByteArray)).bind fun y5 => (some ((⟨y3.Input, y3.At, y3.Output, (setS y3.Files y1.1 ((⟨y4.Name, y5, y4.Mode, y4.At⟩ : DFile) : DFile)), y3.Trace⟩ : DConsole), 0))))))) else (if (decide (40 ≤ (y2.Lines.l.length : Int))) = true then (some ((⟨⟨true, []⟩, 0, ⟨true, []⟩, ⟨true, []⟩, ⟨true, []⟩⟩ : DConsole), 6)) else ((F_spec_l21Own a0).bind fun y6 => ((elt y6.Files y1.1).bind fun y7 => ((appS 16 y7.Lines (⟨false, [a2]⟩ : Sl ByteArray)).bind fun y8 => (some ((⟨y6.Input, y6.At, y6.Output, (setS y6.Files y1.1 ((⟨y7.Name, y8, y7.Mode, y7.At⟩ : DFile) : DFile)), y6.Trace⟩ : DConsole), 0)))))))))))
theorem u_spec_WriteFile (a0 : DConsole) (a1 : ByteArray) (a2 : ByteArray) (r : (DConsole × Int)) (h : B_spec_WriteFile a0 a1 a2 = some r) : F_spec_WriteFile a0 a1 a2 = some r := by
  unfold B_spec_WriteFile at h
  refine semO_of rfl rfl ok_32 rfl (all_cons (by kernel_rfl) (all_cons (by kernel_rfl) (all_cons (by kernel_rfl) all_nil))) ?_
  intro σ0 s hS hH
  have hS := sub_to (L' := [(0, .agg (DConsole.cells a0)), (1, .str a1), (2, .str a2)]) hS (by kernel_rfl)
  refine c_seq ?_
  refine c_region ?_
  refine q_box (v := .agg (DConsole.cells a0)) (cs := [(Sl.t (a0.Input : Sl ByteArray)), .int .i64 a0.At, (Sl.t (a0.Output : Sl ByteArray)), (Sl.t (a0.Files : Sl DFile)), (Sl.t (a0.Trace : Sl ByteArray))]) rfl hS hH rfl rfl (by kernel_rfl) ?_; intro b1 σ s hH hS
  refine q_alloc (z := [(Sl.t (⟨true, []⟩ : Sl ByteArray)), .int .i64 0, (Sl.t (⟨true, []⟩ : Sl ByteArray)), (Sl.t (⟨true, []⟩ : Sl DFile)), (Sl.t (⟨true, []⟩ : Sl ByteArray))]) rfl hS hH (by kernel_rfl) ?_; intro b2 σ s hH hS
  refine q_seg 1 [(1, .str a1), (2, .str a2), (3, .ptr b1 0 0 5), (6, .ptr b2 0 0 5)] hS (by kernel_rfl) ?_; intro s hS
  refine x_nil ?_
  refine sq_n ?_
  refine c_seq ?_
  refine c_region ?_
  refine q_seg 1 [(2, .str a2), (3, .ptr b1 0 0 5), (6, .ptr b2 0 0 5), (13, .str a1)] hS (by kernel_rfl) ?_; intro s hS
  obtain ⟨y1, hy1, h⟩ := bind_some h
  refine q_callL (xs := [.ptr b1 0 0 5, .str a1]) (cs := [[(Sl.t (a0.Input : Sl ByteArray)), .int .i64 a0.At, (Sl.t (a0.Output : Sl ByteArray)), (Sl.t (a0.Files : Sl DFile)), (Sl.t (a0.Trace : Sl ByteArray))]]) [b1] rfl hS rfl rfl rfl (And.intro (Heap.lent (hH.at 1 rfl)) trivial) hy1 ?_; intro s hS
  refine q_seg 5 [(2, .str a2), (3, .ptr b1 0 0 5), (6, .ptr b2 0 0 5), (8, .int .i64 y1.1), (9, .int .i64 y1.2)] hS (by kernel_rfl) ?_; intro s hS
  refine x_nil ?_
  refine sq_n ?_
  refine c_seq ?_
  refine c_seq ?_
  refine c_region ?_
  refine q_seg 3 [(2, .str a2), (3, .ptr b1 0 0 5), (6, .ptr b2 0 0 5), (8, .int .i64 y1.1), (9, .int .i64 y1.2), (19, .bool (decide (200 < (a2.size : Int))))] hS (by kernel_rfl) ?_; intro s hS
  refine x_nil ?_
  refine sq_n ?_
  by_cases hc1 : (decide (200 < (a2.size : Int))) = true
  · have h := it_pos hc1 h
    refine c_cond hS rfl (fun _ => ?_) (fun hf => ff_absurd hc1 hf)
    refine c_seq ?_
    refine c_region ?_
    refine q_seg 1 [(6, .ptr b2 0 0 5), (20, .agg [(Sl.t (⟨true, []⟩ : Sl ByteArray)), .int .i64 0, (Sl.t (⟨true, []⟩ : Sl ByteArray)), (Sl.t (⟨true, []⟩ : Sl DFile)), (Sl.t (⟨true, []⟩ : Sl ByteArray))])] hS (by kernel_rfl) ?_; intro s hS
    refine q_store (v := .agg [(Sl.t (⟨true, []⟩ : Sl ByteArray)), .int .i64 0, (Sl.t (⟨true, []⟩ : Sl ByteArray)), (Sl.t (⟨true, []⟩ : Sl DFile)), (Sl.t (⟨true, []⟩ : Sl ByteArray))]) (cs := [(Sl.t (⟨true, []⟩ : Sl ByteArray)), .int .i64 0, (Sl.t (⟨true, []⟩ : Sl ByteArray)), (Sl.t (⟨true, []⟩ : Sl DFile)), (Sl.t (⟨true, []⟩ : Sl ByteArray))]) (cells' := [(Sl.t (⟨true, []⟩ : Sl ByteArray)), .int .i64 0, (Sl.t (⟨true, []⟩ : Sl ByteArray)), (Sl.t (⟨true, []⟩ : Sl DFile)), (Sl.t (⟨true, []⟩ : Sl ByteArray))]) rfl hS hH rfl rfl rfl (by kernel_rfl) (by kernel_rfl) ?_; intro σ s hH hS
    refine q_seg 1 [(6, .ptr b2 0 0 5), (7, .int .i64 1)] hS (by kernel_rfl) ?_; intro s hS
    refine x_nil ?_
    refine sq_n ?_
    refine c_ret ?_
    refine sq_r ?_
    injection h with h; subst h
    have hH := Heap.addNil hH true 1
    have hH := Heap.addNil hH true 1
    have hH := Heap.addNil hH true 4
    have hH := Heap.addNil hH true 1
    have hH : Heap σ0 σ [.own true 1 (T.row true 0 []) (Sl.t (⟨true, []⟩ : Sl ByteArray)), .own true 1 (T.row true 0 []) (Sl.t (⟨true, []⟩ : Sl ByteArray)), .own true 4 (T.row true 0 []) (Sl.t (⟨true, []⟩ : Sl DFile)), .own true 1 (T.row true 0 []) (Sl.t (⟨true, []⟩ : Sl ByteArray)), .box b2 [(Sl.t (⟨true, []⟩ : Sl ByteArray)), .int .i64 0, (Sl.t (⟨true, []⟩ : Sl ByteArray)), (Sl.t (⟨true, []⟩ : Sl DFile)), (Sl.t (⟨true, []⟩ : Sl ByteArray))], .box b1 [(Sl.t (a0.Input : Sl ByteArray)), .int .i64 a0.At, (Sl.t (a0.Output : Sl ByteArray)), (Sl.t (a0.Files : Sl DFile)), (Sl.t (a0.Trace : Sl ByteArray))]] := hH.sel [3, 2, 1, 0, 4, 5] rfl (by kernel_rfl)
    exact end_Ow [(T.row true 0 []), (T.row true 0 []), (T.row true 0 []), (T.row true 0 [])] [.box b2 [(Sl.t (⟨true, []⟩ : Sl ByteArray)), .int .i64 0, (Sl.t (⟨true, []⟩ : Sl ByteArray)), (Sl.t (⟨true, []⟩ : Sl DFile)), (Sl.t (⟨true, []⟩ : Sl ByteArray))], .box b1 [(Sl.t (a0.Input : Sl ByteArray)), .int .i64 a0.At, (Sl.t (a0.Output : Sl ByteArray)), (Sl.t (a0.Files : Sl DFile)), (Sl.t (a0.Trace : Sl ByteArray))]] (r_cell (v := .agg [(Sl.t (⟨true, []⟩ : Sl ByteArray)), .int .i64 0, (Sl.t (⟨true, []⟩ : Sl ByteArray)), (Sl.t (⟨true, []⟩ : Sl DFile)), (Sl.t (⟨true, []⟩ : Sl ByteArray))]) hS (hH.at 4 rfl) rfl (by kernel_rfl) (r_tmp (v := .int .i64 1) hS rfl r_nil)) (by kernel_rfl) rfl hH (by kernel_rfl)
  · have h := it_neg hc1 h
    refine c_cond hS rfl (fun hf => tt_absurd hc1 hf) (fun _ => ?_)
    refine c_skip ?_
    refine sq_n ?_
    refine c_seq ?_
    refine c_seq ?_
    refine c_region ?_
    refine q_seg 2 [(2, .str a2), (3, .ptr b1 0 0 5), (6, .ptr b2 0 0 5), (8, .int .i64 y1.1), (9, .int .i64 y1.2), (22, .bool (!decide (y1.2 = 0)))] hS (by kernel_rfl) ?_; intro s hS
    refine x_nil ?_
    refine sq_n ?_
    by_cases hc2 : (!decide (y1.2 = 0)) = true
    · have h := it_pos hc2 h
      refine c_cond hS rfl (fun _ => ?_) (fun hf => ff_absurd hc2 hf)
      refine c_seq ?_
      refine c_region ?_
      refine q_seg 2 [(6, .ptr b2 0 0 5), (23, .agg [(Sl.t (⟨true, []⟩ : Sl ByteArray)), .int .i64 0, (Sl.t (⟨true, []⟩ : Sl ByteArray)), (Sl.t (⟨true, []⟩ : Sl DFile)), (Sl.t (⟨true, []⟩ : Sl ByteArray))]), (24, .int .i64 y1.2)] hS (by kernel_rfl) ?_; intro s hS
      refine q_store (v := .agg [(Sl.t (⟨true, []⟩ : Sl ByteArray)), .int .i64 0, (Sl.t (⟨true, []⟩ : Sl ByteArray)), (Sl.t (⟨true, []⟩ : Sl DFile)), (Sl.t (⟨true, []⟩ : Sl ByteArray))]) (cs := [(Sl.t (⟨true, []⟩ : Sl ByteArray)), .int .i64 0, (Sl.t (⟨true, []⟩ : Sl ByteArray)), (Sl.t (⟨true, []⟩ : Sl DFile)), (Sl.t (⟨true, []⟩ : Sl ByteArray))]) (cells' := [(Sl.t (⟨true, []⟩ : Sl ByteArray)), .int .i64 0, (Sl.t (⟨true, []⟩ : Sl ByteArray)), (Sl.t (⟨true, []⟩ : Sl DFile)), (Sl.t (⟨true, []⟩ : Sl ByteArray))]) rfl hS hH rfl rfl rfl (by kernel_rfl) (by kernel_rfl) ?_; intro σ s hH hS
      refine q_seg 1 [(6, .ptr b2 0 0 5), (7, .int .i64 y1.2)] hS (by kernel_rfl) ?_; intro s hS
      refine x_nil ?_
      refine sq_n ?_
      refine c_ret ?_
      refine sq_r ?_
      injection h with h; subst h
      have hH := Heap.addNil hH true 1
      have hH := Heap.addNil hH true 1
      have hH := Heap.addNil hH true 4
      have hH := Heap.addNil hH true 1
      have hH : Heap σ0 σ [.own true 1 (T.row true 0 []) (Sl.t (⟨true, []⟩ : Sl ByteArray)), .own true 1 (T.row true 0 []) (Sl.t (⟨true, []⟩ : Sl ByteArray)), .own true 4 (T.row true 0 []) (Sl.t (⟨true, []⟩ : Sl DFile)), .own true 1 (T.row true 0 []) (Sl.t (⟨true, []⟩ : Sl ByteArray)), .box b2 [(Sl.t (⟨true, []⟩ : Sl ByteArray)), .int .i64 0, (Sl.t (⟨true, []⟩ : Sl ByteArray)), (Sl.t (⟨true, []⟩ : Sl DFile)), (Sl.t (⟨true, []⟩ : Sl ByteArray))], .box b1 [(Sl.t (a0.Input : Sl ByteArray)), .int .i64 a0.At, (Sl.t (a0.Output : Sl ByteArray)), (Sl.t (a0.Files : Sl DFile)), (Sl.t (a0.Trace : Sl ByteArray))]] := hH.sel [3, 2, 1, 0, 4, 5] rfl (by kernel_rfl)
      exact end_Ow [(T.row true 0 []), (T.row true 0 []), (T.row true 0 []), (T.row true 0 [])] [.box b2 [(Sl.t (⟨true, []⟩ : Sl ByteArray)), .int .i64 0, (Sl.t (⟨true, []⟩ : Sl ByteArray)), (Sl.t (⟨true, []⟩ : Sl DFile)), (Sl.t (⟨true, []⟩ : Sl ByteArray))], .box b1 [(Sl.t (a0.Input : Sl ByteArray)), .int .i64 a0.At, (Sl.t (a0.Output : Sl ByteArray)), (Sl.t (a0.Files : Sl DFile)), (Sl.t (a0.Trace : Sl ByteArray))]] (r_cell (v := .agg [(Sl.t (⟨true, []⟩ : Sl ByteArray)), .int .i64 0, (Sl.t (⟨true, []⟩ : Sl ByteArray)), (Sl.t (⟨true, []⟩ : Sl DFile)), (Sl.t (⟨true, []⟩ : Sl ByteArray))]) hS (hH.at 4 rfl) rfl (by kernel_rfl) (r_tmp (v := .int .i64 y1.2) hS rfl r_nil)) (by kernel_rfl) rfl hH (by kernel_rfl)
    · have h := it_neg hc2 h
      refine c_cond hS rfl (fun hf => tt_absurd hc2 hf) (fun _ => ?_)
      refine c_skip ?_
      refine sq_n ?_
      refine c_seq ?_
      refine c_region ?_
      refine q_seg 1 [(2, .str a2), (3, .ptr b1 0 0 5), (6, .ptr b2 0 0 5), (8, .int .i64 y1.1), (25, .ptr b1 0 3 1)] hS (by kernel_rfl) ?_; intro s hS
      refine q_load (v := (Sl.t (a0.Files : Sl DFile))) 1 trivial rfl hS hH rfl rfl (by kernel_rfl) ?_; intro s hS
      refine q_seg 1 [(2, .str a2), (3, .ptr b1 0 0 5), (6, .ptr b2 0 0 5), (8, .int .i64 y1.1), (26, (Sl.t (a0.Files : Sl DFile))), (27, .int .i64 y1.1)] hS (by kernel_rfl) ?_; intro s hS
      obtain ⟨y2, hy2, h⟩ := bind_some h
      refine q_elt (sl := a0.Files) (e := 52) [.str y2.Name, (Sl.t (y2.Lines : Sl ByteArray)), .int .i64 y2.Mode, .int .i64 y2.At] rfl hS rfl rfl (by kernel_rfl) (by kernel_rfl) hy2 rfl ?_; intro rest1 s hS
      refine q_seg 1 [(2, .str a2), (3, .ptr b1 0 0 5), (6, .ptr b2 0 0 5), (8, .int .i64 y1.1), (29, .agg (DFile.cells y2))] hS (by kernel_rfl) ?_; intro s hS
      refine q_alloc (z := [.str ⟨#[]⟩, (Sl.t (⟨true, []⟩ : Sl ByteArray)), .int .i64 0, .int .i64 0]) rfl hS hH (by kernel_rfl) ?_; intro b3 σ s hH hS
      refine q_store (v := .agg (DFile.cells y2)) (cs := [.str y2.Name, (Sl.t (y2.Lines : Sl ByteArray)), .int .i64 y2.Mode, .int .i64 y2.At]) (cells' := [.str y2.Name, (Sl.t (y2.Lines : Sl ByteArray)), .int .i64 y2.Mode, .int .i64 y2.At]) rfl hS hH rfl rfl rfl (by kernel_rfl) (by kernel_rfl) ?_; intro σ s hH hS
      refine x_nil ?_
      refine sq_n ?_
      refine c_seq ?_
      refine c_seq ?_
      refine c_region ?_
      refine q_seg 1 [(2, .str a2), (3, .ptr b1 0 0 5), (6, .ptr b2 0 0 5), (8, .int .i64 y1.1), (10, .ptr b3 0 0 4), (30, .ptr b3 0 2 1)] hS (by kernel_rfl) ?_; intro s hS
      refine q_load (v := .int .i64 y2.Mode) 0 trivial rfl hS hH rfl rfl (by kernel_rfl) ?_; intro s hS
      refine q_seg 2 [(33, .bool (!decide (y2.Mode = 2))), (2, .str a2), (3, .ptr b1 0 0 5), (6, .ptr b2 0 0 5), (8, .int .i64 y1.1), (10, .ptr b3 0 0 4)] hS (by kernel_rfl) ?_; intro s hS
      by_cases hc3 : (!decide (y2.Mode = 2)) = true
      · have h := it_pos hc3 h
        have hS := sub_bt hS hc3
        refine q_seg 1 [(2, .str a2), (3, .ptr b1 0 0 5), (6, .ptr b2 0 0 5), (8, .int .i64 y1.1), (10, .ptr b3 0 0 4), (33, .bool true), (34, .ptr b3 0 2 1)] hS (by kernel_rfl) ?_; intro s hS
        refine q_load (v := .int .i64 y2.Mode) 0 trivial rfl hS hH rfl rfl (by kernel_rfl) ?_; intro s hS
        refine q_seg 2 [(2, .str a2), (3, .ptr b1 0 0 5), (6, .ptr b2 0 0 5), (8, .int .i64 y1.1), (10, .ptr b3 0 0 4), (37, .bool (!decide (y2.Mode = 3)))] hS (by kernel_rfl) ?_; intro s hS
        refine x_nil ?_
        refine sq_n ?_
        by_cases hc4 : (!decide (y2.Mode = 3)) = true
        · have h := it_pos hc4 h
          refine c_cond hS rfl (fun _ => ?_) (fun hf => ff_absurd hc4 hf)
          refine c_seq ?_
          refine c_region ?_
          refine q_seg 1 [(6, .ptr b2 0 0 5), (38, .agg [(Sl.t (⟨true, []⟩ : Sl ByteArray)), .int .i64 0, (Sl.t (⟨true, []⟩ : Sl ByteArray)), (Sl.t (⟨true, []⟩ : Sl DFile)), (Sl.t (⟨true, []⟩ : Sl ByteArray))])] hS (by kernel_rfl) ?_; intro s hS
          have hH : Heap σ0 σ [.box b2 [(Sl.t (⟨true, []⟩ : Sl ByteArray)), .int .i64 0, (Sl.t (⟨true, []⟩ : Sl ByteArray)), (Sl.t (⟨true, []⟩ : Sl DFile)), (Sl.t (⟨true, []⟩ : Sl ByteArray))], .box b3 [.str y2.Name, (Sl.t (y2.Lines : Sl ByteArray)), .int .i64 y2.Mode, .int .i64 y2.At], .box b1 [(Sl.t (a0.Input : Sl ByteArray)), .int .i64 a0.At, (Sl.t (a0.Output : Sl ByteArray)), (Sl.t (a0.Files : Sl DFile)), (Sl.t (a0.Trace : Sl ByteArray))]] := hH.sel [1, 0, 2] rfl (by kernel_rfl)
          refine q_store (v := .agg [(Sl.t (⟨true, []⟩ : Sl ByteArray)), .int .i64 0, (Sl.t (⟨true, []⟩ : Sl ByteArray)), (Sl.t (⟨true, []⟩ : Sl DFile)), (Sl.t (⟨true, []⟩ : Sl ByteArray))]) (cs := [(Sl.t (⟨true, []⟩ : Sl ByteArray)), .int .i64 0, (Sl.t (⟨true, []⟩ : Sl ByteArray)), (Sl.t (⟨true, []⟩ : Sl DFile)), (Sl.t (⟨true, []⟩ : Sl ByteArray))]) (cells' := [(Sl.t (⟨true, []⟩ : Sl ByteArray)), .int .i64 0, (Sl.t (⟨true, []⟩ : Sl ByteArray)), (Sl.t (⟨true, []⟩ : Sl DFile)), (Sl.t (⟨true, []⟩ : Sl ByteArray))]) rfl hS hH rfl rfl rfl (by kernel_rfl) (by kernel_rfl) ?_; intro σ s hH hS
          refine q_seg 1 [(6, .ptr b2 0 0 5), (7, .int .i64 10)] hS (by kernel_rfl) ?_; intro s hS
          refine x_nil ?_
          refine sq_n ?_
          refine c_ret ?_
          refine sq_r ?_
          injection h with h; subst h
          have hH := Heap.addNil hH true 1
          have hH := Heap.addNil hH true 1
          have hH := Heap.addNil hH true 4
          have hH := Heap.addNil hH true 1
          have hH : Heap σ0 σ [.own true 1 (T.row true 0 []) (Sl.t (⟨true, []⟩ : Sl ByteArray)), .own true 1 (T.row true 0 []) (Sl.t (⟨true, []⟩ : Sl ByteArray)), .own true 4 (T.row true 0 []) (Sl.t (⟨true, []⟩ : Sl DFile)), .own true 1 (T.row true 0 []) (Sl.t (⟨true, []⟩ : Sl ByteArray)), .box b2 [(Sl.t (⟨true, []⟩ : Sl ByteArray)), .int .i64 0, (Sl.t (⟨true, []⟩ : Sl ByteArray)), (Sl.t (⟨true, []⟩ : Sl DFile)), (Sl.t (⟨true, []⟩ : Sl ByteArray))], .box b3 [.str y2.Name, (Sl.t (y2.Lines : Sl ByteArray)), .int .i64 y2.Mode, .int .i64 y2.At], .box b1 [(Sl.t (a0.Input : Sl ByteArray)), .int .i64 a0.At, (Sl.t (a0.Output : Sl ByteArray)), (Sl.t (a0.Files : Sl DFile)), (Sl.t (a0.Trace : Sl ByteArray))]] := hH.sel [3, 2, 1, 0, 4, 5, 6] rfl (by kernel_rfl)
          exact end_Ow [(T.row true 0 []), (T.row true 0 []), (T.row true 0 []), (T.row true 0 [])] [.box b2 [(Sl.t (⟨true, []⟩ : Sl ByteArray)), .int .i64 0, (Sl.t (⟨true, []⟩ : Sl ByteArray)), (Sl.t (⟨true, []⟩ : Sl DFile)), (Sl.t (⟨true, []⟩ : Sl ByteArray))], .box b3 [.str y2.Name, (Sl.t (y2.Lines : Sl ByteArray)), .int .i64 y2.Mode, .int .i64 y2.At], .box b1 [(Sl.t (a0.Input : Sl ByteArray)), .int .i64 a0.At, (Sl.t (a0.Output : Sl ByteArray)), (Sl.t (a0.Files : Sl DFile)), (Sl.t (a0.Trace : Sl ByteArray))]] (r_cell (v := .agg [(Sl.t (⟨true, []⟩ : Sl ByteArray)), .int .i64 0, (Sl.t (⟨true, []⟩ : Sl ByteArray)), (Sl.t (⟨true, []⟩ : Sl DFile)), (Sl.t (⟨true, []⟩ : Sl ByteArray))]) hS (hH.at 4 rfl) rfl (by kernel_rfl) (r_tmp (v := .int .i64 10) hS rfl r_nil)) (by kernel_rfl) rfl hH (by kernel_rfl)
        · have h := it_neg hc4 h
          refine c_cond hS rfl (fun hf => tt_absurd hc4 hf) (fun _ => ?_)
          refine c_skip ?_
          refine sq_n ?_
          refine c_seq ?_
          refine c_seq ?_
          refine c_region ?_
          refine q_seg 1 [(2, .str a2), (3, .ptr b1 0 0 5), (6, .ptr b2 0 0 5), (8, .int .i64 y1.1), (39, .ptr b3 0 1 1)] hS (by kernel_rfl) ?_; intro s hS
          refine q_load (v := (Sl.t (y2.Lines : Sl ByteArray))) 0 trivial rfl hS hH rfl rfl (by kernel_rfl) ?_; intro s hS
          refine q_seg 2 [(2, .str a2), (3, .ptr b1 0 0 5), (6, .ptr b2 0 0 5), (8, .int .i64 y1.1), (42, .bool (decide (40 ≤ (y2.Lines.l.length : Int))))] hS (by kernel_rfl) ?_; intro s hS
          refine x_nil ?_
          refine sq_n ?_
          by_cases hc5 : (decide (40 ≤ (y2.Lines.l.length : Int))) = true
          · have h := it_pos hc5 h
            refine c_cond hS rfl (fun _ => ?_) (fun hf => ff_absurd hc5 hf)
            refine c_seq ?_
            refine c_region ?_
            refine q_seg 1 [(6, .ptr b2 0 0 5), (43, .agg [(Sl.t (⟨true, []⟩ : Sl ByteArray)), .int .i64 0, (Sl.t (⟨true, []⟩ : Sl ByteArray)), (Sl.t (⟨true, []⟩ : Sl DFile)), (Sl.t (⟨true, []⟩ : Sl ByteArray))])] hS (by kernel_rfl) ?_; intro s hS
            have hH : Heap σ0 σ [.box b2 [(Sl.t (⟨true, []⟩ : Sl ByteArray)), .int .i64 0, (Sl.t (⟨true, []⟩ : Sl ByteArray)), (Sl.t (⟨true, []⟩ : Sl DFile)), (Sl.t (⟨true, []⟩ : Sl ByteArray))], .box b3 [.str y2.Name, (Sl.t (y2.Lines : Sl ByteArray)), .int .i64 y2.Mode, .int .i64 y2.At], .box b1 [(Sl.t (a0.Input : Sl ByteArray)), .int .i64 a0.At, (Sl.t (a0.Output : Sl ByteArray)), (Sl.t (a0.Files : Sl DFile)), (Sl.t (a0.Trace : Sl ByteArray))]] := hH.sel [1, 0, 2] rfl (by kernel_rfl)
            refine q_store (v := .agg [(Sl.t (⟨true, []⟩ : Sl ByteArray)), .int .i64 0, (Sl.t (⟨true, []⟩ : Sl ByteArray)), (Sl.t (⟨true, []⟩ : Sl DFile)), (Sl.t (⟨true, []⟩ : Sl ByteArray))]) (cs := [(Sl.t (⟨true, []⟩ : Sl ByteArray)), .int .i64 0, (Sl.t (⟨true, []⟩ : Sl ByteArray)), (Sl.t (⟨true, []⟩ : Sl DFile)), (Sl.t (⟨true, []⟩ : Sl ByteArray))]) (cells' := [(Sl.t (⟨true, []⟩ : Sl ByteArray)), .int .i64 0, (Sl.t (⟨true, []⟩ : Sl ByteArray)), (Sl.t (⟨true, []⟩ : Sl DFile)), (Sl.t (⟨true, []⟩ : Sl ByteArray))]) rfl hS hH rfl rfl rfl (by kernel_rfl) (by kernel_rfl) ?_; intro σ s hH hS
            refine q_seg 1 [(6, .ptr b2 0 0 5), (7, .int .i64 6)] hS (by kernel_rfl) ?_; intro s hS
            refine x_nil ?_
            refine sq_n ?_
            refine c_ret ?_
            refine sq_r ?_
            injection h with h; subst h
            have hH := Heap.addNil hH true 1
            have hH := Heap.addNil hH true 1
            have hH := Heap.addNil hH true 4
            have hH := Heap.addNil hH true 1
            have hH : Heap σ0 σ [.own true 1 (T.row true 0 []) (Sl.t (⟨true, []⟩ : Sl ByteArray)), .own true 1 (T.row true 0 []) (Sl.t (⟨true, []⟩ : Sl ByteArray)), .own true 4 (T.row true 0 []) (Sl.t (⟨true, []⟩ : Sl DFile)), .own true 1 (T.row true 0 []) (Sl.t (⟨true, []⟩ : Sl ByteArray)), .box b2 [(Sl.t (⟨true, []⟩ : Sl ByteArray)), .int .i64 0, (Sl.t (⟨true, []⟩ : Sl ByteArray)), (Sl.t (⟨true, []⟩ : Sl DFile)), (Sl.t (⟨true, []⟩ : Sl ByteArray))], .box b3 [.str y2.Name, (Sl.t (y2.Lines : Sl ByteArray)), .int .i64 y2.Mode, .int .i64 y2.At], .box b1 [(Sl.t (a0.Input : Sl ByteArray)), .int .i64 a0.At, (Sl.t (a0.Output : Sl ByteArray)), (Sl.t (a0.Files : Sl DFile)), (Sl.t (a0.Trace : Sl ByteArray))]] := hH.sel [3, 2, 1, 0, 4, 5, 6] rfl (by kernel_rfl)
            exact end_Ow [(T.row true 0 []), (T.row true 0 []), (T.row true 0 []), (T.row true 0 [])] [.box b2 [(Sl.t (⟨true, []⟩ : Sl ByteArray)), .int .i64 0, (Sl.t (⟨true, []⟩ : Sl ByteArray)), (Sl.t (⟨true, []⟩ : Sl DFile)), (Sl.t (⟨true, []⟩ : Sl ByteArray))], .box b3 [.str y2.Name, (Sl.t (y2.Lines : Sl ByteArray)), .int .i64 y2.Mode, .int .i64 y2.At], .box b1 [(Sl.t (a0.Input : Sl ByteArray)), .int .i64 a0.At, (Sl.t (a0.Output : Sl ByteArray)), (Sl.t (a0.Files : Sl DFile)), (Sl.t (a0.Trace : Sl ByteArray))]] (r_cell (v := .agg [(Sl.t (⟨true, []⟩ : Sl ByteArray)), .int .i64 0, (Sl.t (⟨true, []⟩ : Sl ByteArray)), (Sl.t (⟨true, []⟩ : Sl DFile)), (Sl.t (⟨true, []⟩ : Sl ByteArray))]) hS (hH.at 4 rfl) rfl (by kernel_rfl) (r_tmp (v := .int .i64 6) hS rfl r_nil)) (by kernel_rfl) rfl hH (by kernel_rfl)
          · have h := it_neg hc5 h
            refine c_cond hS rfl (fun hf => tt_absurd hc5 hf) (fun _ => ?_)
            refine c_skip ?_
            refine sq_n ?_
            refine c_seq ?_
            refine c_region ?_
            obtain ⟨y3, hy3, h⟩ := bind_some h
            refine q_callLO rfl (xs := [.ptr b1 0 0 5]) (cs := [[(Sl.t (a0.Input : Sl ByteArray)), .int .i64 a0.At, (Sl.t (a0.Output : Sl ByteArray)), (Sl.t (a0.Files : Sl DFile)), (Sl.t (a0.Trace : Sl ByteArray))]]) [b1] rfl hS rfl rfl rfl hH (And.intro (Heap.lent (hH.at 2 rfl)) trivial) hy3 ?_; intro hs σ s hl hH hS
            obtain ⟨t1, t2, t3, t4, rfl⟩ := len4 hl
            have hH : Heap σ0 σ [.own true 1 t1 (Sl.t (y3.Input : Sl ByteArray)), .own true 1 t2 (Sl.t (y3.Output : Sl ByteArray)), .own true 4 t3 (Sl.t (y3.Files : Sl DFile)), .own true 1 t4 (Sl.t (y3.Trace : Sl ByteArray)), .box b3 [.str y2.Name, (Sl.t (y2.Lines : Sl ByteArray)), .int .i64 y2.Mode, .int .i64 y2.At], .box b2 [(Sl.t (⟨true, []⟩ : Sl ByteArray)), .int .i64 0, (Sl.t (⟨true, []⟩ : Sl ByteArray)), (Sl.t (⟨true, []⟩ : Sl DFile)), (Sl.t (⟨true, []⟩ : Sl ByteArray))], .box b1 [(Sl.t (a0.Input : Sl ByteArray)), .int .i64 a0.At, (Sl.t (a0.Output : Sl ByteArray)), (Sl.t (a0.Files : Sl DFile)), (Sl.t (a0.Trace : Sl ByteArray))]] := hH
            have ht1 : IsOne t1 := Heap.one hH
            have ht2 : IsOne t2 := Heap.one (hH.at 1 rfl)
            have ht3 : IsOne t3 := Heap.one (hH.at 2 rfl)
            have ht4 : IsOne t4 := Heap.one (hH.at 3 rfl)
            refine q_alloc (z := [(Sl.t (⟨true, []⟩ : Sl ByteArray)), .int .i64 0, (Sl.t (⟨true, []⟩ : Sl ByteArray)), (Sl.t (⟨true, []⟩ : Sl DFile)), (Sl.t (⟨true, []⟩ : Sl ByteArray))]) rfl hS hH (by kernel_rfl) ?_; intro b4 σ s hH hS
            refine q_store (v := .agg [t1, .int .i64 y3.At, t2, t3, t4]) (cs := [t1, .int .i64 y3.At, t2, t3, t4]) (cells' := [t1, .int .i64 y3.At, t2, t3, t4]) rfl hS hH rfl rfl rfl (by simp [ht1.1, ht1.2, ht2.1, ht2.2, ht3.1, ht3.2, ht4.1, ht4.2]) (by kernel_rfl) ?_; intro σ s hH hS
            refine x_nil ?_
            refine sq_n ?_
            refine c_seq ?_
            refine c_chain (fun x => x ∉ ([b4] : List Nat)) (fun _ => rfl) (by kernel_rfl) (by kernel_rfl) hH ?_; intro mb σs σ hn0 hlt hlto hH
            have hlt_b4 : b4 < mb ∧ ¬ (fun x => x ∉ ([b4] : List Nat)) b4 := ⟨hlt b4 _ (List.Mem.head _), fun h => h (by simp)⟩
            refine q_seg 1 [(2, .str a2), (6, .ptr b2 0 0 5), (8, .int .i64 y1.1), (11, .ptr b4 0 0 5), (45, .ptr b4 0 3 1)] hS (by kernel_rfl) ?_; intro s hS
            refine q_load (v := t3) 0 (Or.inr hlt_b4) rfl hS hH rfl rfl (by kernel_rfl) ?_; intro s hS
            refine q_seg 2 [(2, .str a2), (6, .ptr b2 0 0 5), (8, .int .i64 y1.1), (11, .ptr b4 0 0 5), (46, t3), (47, .int .i64 y1.1), (48, .ptr b4 0 3 1)] hS (by kernel_rfl) ?_; intro s hS
            refine q_load (v := t3) 0 (Or.inl (by kernel_rfl)) rfl hS hH rfl rfl (by kernel_rfl) ?_; intro s hS
            refine q_seg 1 [(2, .str a2), (6, .ptr b2 0 0 5), (11, .ptr b4 0 0 5), (46, t3), (47, .int .i64 y1.1), (49, t3), (50, .int .i64 y1.1)] hS (by kernel_rfl) ?_; intro s hS
            have hH : Heap σ0 σ [.own true 4 t3 (Sl.t (y3.Files : Sl DFile)), .box b4 [t1, .int .i64 y3.At, t2, t3, t4], .own true 1 t1 (Sl.t (y3.Input : Sl ByteArray)), .own true 1 t2 (Sl.t (y3.Output : Sl ByteArray)), .own true 1 t4 (Sl.t (y3.Trace : Sl ByteArray)), .box b3 [.str y2.Name, (Sl.t (y2.Lines : Sl ByteArray)), .int .i64 y2.Mode, .int .i64 y2.At], .box b2 [(Sl.t (⟨true, []⟩ : Sl ByteArray)), .int .i64 0, (Sl.t (⟨true, []⟩ : Sl ByteArray)), (Sl.t (⟨true, []⟩ : Sl DFile)), (Sl.t (⟨true, []⟩ : Sl ByteArray))], .box b1 [(Sl.t (a0.Input : Sl ByteArray)), .int .i64 a0.At, (Sl.t (a0.Output : Sl ByteArray)), (Sl.t (a0.Files : Sl DFile)), (Sl.t (a0.Trace : Sl ByteArray))]] := hH.sel [3, 0, 1, 2, 4, 5, 6, 7] rfl (by kernel_rfl)
            obtain ⟨y4, hy4, h⟩ := bind_some h
            refine q_hidx (a := y3.Files) (e := 52) (fun _ _ _ _ _ => Or.inl (by kernel_rfl)) rfl hS hH rfl rfl (by kernel_rfl) (by kernel_rfl) hy4 ?_; intro hb1 hb1e s hl_hb1 hS
            refine q_seg 1 [(2, .str a2), (6, .ptr b2 0 0 5), (11, .ptr b4 0 0 5), (46, t3), (47, .int .i64 y1.1), (52, .ptr hb1 hb1e (y1.1.toNat * Enc.w DFile + 1) 1)] hS (by kernel_rfl) ?_; intro s hS
            refine q_hlens (a := y3.Files) (j := y1.1) (y := y4) (off := 1) (c := [.str y4.Name, (Sl.t (y4.Lines : Sl ByteArray)), .int .i64 y4.Mode, .int .i64 y4.At]) (q := (y4.Lines : Sl ByteArray)) (fun _ _ _ _ _ => Or.inl (by kernel_rfl)) rfl hS hH hl_hb1 rfl hy4 rfl (by kernel_rfl) rfl rfl ?_; intro F1 σk1 t5 s ht5 hH hcl1 hcl1s hcl1p hcl1k hcl1f hS
            refine q_seg 1 [(6, .ptr b2 0 0 5), (11, .ptr b4 0 0 5), (46, t3), (47, .int .i64 y1.1), (53, t5), (54, .str a2)] hS (by kernel_rfl) ?_; intro s hS
            refine q_bsC rfl (by exact hn0) (ents := []) (e := 9) (sz := 1) (z := true) (vs := [.str a2]) (zc := [.str ⟨#[]⟩]) (cs := [.str a2]) (us := [.str a2]) (v := Sl.t (⟨false, [a2]⟩ : Sl ByteArray)) rfl hS hH (by kernel_rfl) (by kernel_rfl) (by kernel_rfl) (by kernel_rfl) (by kernel_rfl) (And.intro (by kernel_rfl) (And.intro (by kernel_rfl) trivial)) (by kernel_rfl) (HL.leaf (fun σ d => hold_str _ σ d _) HL.nil) (by kernel_rfl) ?_; intro t6 σ s ht6 hH hS
            have hH : Heap σ0 σ [.own true 0 t5 (Sl.t (y4.Lines : Sl ByteArray)), .own true 1 t6 (Sl.t (⟨false, [a2]⟩ : Sl ByteArray)), .keep F1 σk1, .box b4 [t1, .int .i64 y3.At, t2, t3, t4], .own true 1 t1 (Sl.t (y3.Input : Sl ByteArray)), .own true 1 t2 (Sl.t (y3.Output : Sl ByteArray)), .own true 1 t4 (Sl.t (y3.Trace : Sl ByteArray)), .box b3 [.str y2.Name, (Sl.t (y2.Lines : Sl ByteArray)), .int .i64 y2.Mode, .int .i64 y2.At], .box b2 [(Sl.t (⟨true, []⟩ : Sl ByteArray)), .int .i64 0, (Sl.t (⟨true, []⟩ : Sl ByteArray)), (Sl.t (⟨true, []⟩ : Sl DFile)), (Sl.t (⟨true, []⟩ : Sl ByteArray))], .box b1 [(Sl.t (a0.Input : Sl ByteArray)), .int .i64 a0.At, (Sl.t (a0.Output : Sl ByteArray)), (Sl.t (a0.Files : Sl DFile)), (Sl.t (a0.Trace : Sl ByteArray))]] := hH.sel [1, 0, 2, 3, 4, 5, 6, 7, 8, 9] rfl (by kernel_rfl)
            have hH := Heap.width (a := y4.Lines) hH
            have hH : Heap σ0 σ [.own true 1 t5 (Sl.t (y4.Lines : Sl ByteArray)), .own true 1 t6 (Sl.t (⟨false, [a2]⟩ : Sl ByteArray)), .keep F1 σk1, .box b4 [t1, .int .i64 y3.At, t2, t3, t4], .own true 1 t1 (Sl.t (y3.Input : Sl ByteArray)), .own true 1 t2 (Sl.t (y3.Output : Sl ByteArray)), .own true 1 t4 (Sl.t (y3.Trace : Sl ByteArray)), .box b3 [.str y2.Name, (Sl.t (y2.Lines : Sl ByteArray)), .int .i64 y2.Mode, .int .i64 y2.At], .box b2 [(Sl.t (⟨true, []⟩ : Sl ByteArray)), .int .i64 0, (Sl.t (⟨true, []⟩ : Sl ByteArray)), (Sl.t (⟨true, []⟩ : Sl DFile)), (Sl.t (⟨true, []⟩ : Sl ByteArray))], .box b1 [(Sl.t (a0.Input : Sl ByteArray)), .int .i64 a0.At, (Sl.t (a0.Output : Sl ByteArray)), (Sl.t (a0.Files : Sl DFile)), (Sl.t (a0.Trace : Sl ByteArray))]] := hH
            obtain ⟨y5, hy5, h⟩ := bind_some h
            refine q_appC rfl (by exact hn0) (z := true) (t1 := t5) (a := y4.Lines) (b := (⟨false, [a2]⟩ : Sl ByteArray)) (e := 9) (by_ := 16) (zc := [.str ⟨#[]⟩]) (by exact fun b e o n h => Or.inr (by simp only [List.mem_cons, List.not_mem_nil, or_false, not_or, not_false_eq_true]; exact (Heap.neO hH 0 3 (by decide) (by rw [← h]; rfl) rfl))) rfl hS hH rfl rfl (by kernel_rfl) (by kernel_rfl) (by kernel_rfl) (by kernel_rfl) (by kernel_rfl) (by kernel_rfl) hy5 ?_; intro t7 σ s ht7 hH hS
            refine q_hidxK (a := y3.Files) (e := 52) (y := y4) (fun _ _ _ _ _ => Or.inl (by kernel_rfl)) 1 rfl hS hcl1k hcl1f hH rfl hl_hb1 rfl rfl (by kernel_rfl) (by kernel_rfl) hy4 ?_; intro s hS
            refine q_seg 1 [(6, .ptr b2 0 0 5), (11, .ptr b4 0 0 5), (56, t7), (58, .ptr hb1 hb1e (y1.1.toNat * Enc.w DFile + 1) 1)] hS (by kernel_rfl) ?_; intro s hS
            refine q_hlstore (a := y3.Files) (j := y1.1) (off := 1) (c := [.str y4.Name, (Sl.t (y4.Lines : Sl ByteArray)), .int .i64 y4.Mode, .int .i64 y4.At]) (q2 := y5) rfl ((⟨y4.Name, y5, y4.Mode, y4.At⟩ : DFile) : DFile) (by exact Or.inr (by simp only [List.mem_cons, List.not_mem_nil, or_false, not_or, not_false_eq_true]; exact (Heap.neK hH 1 2 (by decide) rfl hcl1f rfl))) rfl hS hcl1p hH rfl rfl ht7 (by kernel_rfl) (by kernel_rfl) rfl ?_; intro σ s hH hS
            have hH : Heap σ0 σ [.own true 4 t3 (Sl.t ((setS y3.Files y1.1 ((⟨y4.Name, y5, y4.Mode, y4.At⟩ : DFile) : DFile)) : Sl DFile)), .box b4 [t1, .int .i64 y3.At, t2, t3, t4], .own true 1 t1 (Sl.t (y3.Input : Sl ByteArray)), .own true 1 t2 (Sl.t (y3.Output : Sl ByteArray)), .own true 1 t4 (Sl.t (y3.Trace : Sl ByteArray)), .box b3 [.str y2.Name, (Sl.t (y2.Lines : Sl ByteArray)), .int .i64 y2.Mode, .int .i64 y2.At], .box b2 [(Sl.t (⟨true, []⟩ : Sl ByteArray)), .int .i64 0, (Sl.t (⟨true, []⟩ : Sl ByteArray)), (Sl.t (⟨true, []⟩ : Sl DFile)), (Sl.t (⟨true, []⟩ : Sl ByteArray))], .box b1 [(Sl.t (a0.Input : Sl ByteArray)), .int .i64 a0.At, (Sl.t (a0.Output : Sl ByteArray)), (Sl.t (a0.Files : Sl DFile)), (Sl.t (a0.Trace : Sl ByteArray))]] := hH
            refine x_nil ?_
            refine sq_n ?_
            refine c_seq ?_
            refine c_region ?_
            refine q_load (v := .agg [t1, .int .i64 y3.At, t2, t3, t4]) 1 trivial rfl hS hH rfl rfl (by kernel_rfl) ?_; intro s hS
            have hH : Heap σ0 σ [.box b2 [(Sl.t (⟨true, []⟩ : Sl ByteArray)), .int .i64 0, (Sl.t (⟨true, []⟩ : Sl ByteArray)), (Sl.t (⟨true, []⟩ : Sl DFile)), (Sl.t (⟨true, []⟩ : Sl ByteArray))], .own true 4 t3 (Sl.t ((setS y3.Files y1.1 ((⟨y4.Name, y5, y4.Mode, y4.At⟩ : DFile) : DFile)) : Sl DFile)), .box b4 [t1, .int .i64 y3.At, t2, t3, t4], .own true 1 t1 (Sl.t (y3.Input : Sl ByteArray)), .own true 1 t2 (Sl.t (y3.Output : Sl ByteArray)), .own true 1 t4 (Sl.t (y3.Trace : Sl ByteArray)), .box b3 [.str y2.Name, (Sl.t (y2.Lines : Sl ByteArray)), .int .i64 y2.Mode, .int .i64 y2.At], .box b1 [(Sl.t (a0.Input : Sl ByteArray)), .int .i64 a0.At, (Sl.t (a0.Output : Sl ByteArray)), (Sl.t (a0.Files : Sl DFile)), (Sl.t (a0.Trace : Sl ByteArray))]] := hH.sel [6, 0, 1, 2, 3, 4, 5, 7] rfl (by kernel_rfl)
            refine q_store (v := .agg [t1, .int .i64 y3.At, t2, t3, t4]) (cs := [t1, .int .i64 y3.At, t2, t3, t4]) (cells' := [t1, .int .i64 y3.At, t2, t3, t4]) rfl hS hH rfl rfl rfl (by simp [ht1.1, ht1.2, ht2.1, ht2.2, ht3.1, ht3.2, ht4.1, ht4.2]) (by kernel_rfl) ?_; intro σ s hH hS
            refine q_seg 1 [(6, .ptr b2 0 0 5), (7, .int .i64 0)] hS (by kernel_rfl) ?_; intro s hS
            refine x_nil ?_
            refine sq_n ?_
            refine c_ret ?_
            injection h with h; subst h
            have hH : Heap σ0 σ [.own true 1 t1 (Sl.t (y3.Input : Sl ByteArray)), .own true 1 t2 (Sl.t (y3.Output : Sl ByteArray)), .own true 4 t3 (Sl.t ((setS y3.Files y1.1 ((⟨y4.Name, y5, y4.Mode, y4.At⟩ : DFile) : DFile)) : Sl DFile)), .own true 1 t4 (Sl.t (y3.Trace : Sl ByteArray)), .box b2 [t1, .int .i64 y3.At, t2, t3, t4], .box b4 [t1, .int .i64 y3.At, t2, t3, t4], .box b3 [.str y2.Name, (Sl.t (y2.Lines : Sl ByteArray)), .int .i64 y2.Mode, .int .i64 y2.At], .box b1 [(Sl.t (a0.Input : Sl ByteArray)), .int .i64 a0.At, (Sl.t (a0.Output : Sl ByteArray)), (Sl.t (a0.Files : Sl DFile)), (Sl.t (a0.Trace : Sl ByteArray))]] := hH.sel [3, 4, 1, 5, 0, 2, 6, 7] rfl (by kernel_rfl)
            exact end_Ow [t1, t2, t3, t4] [.box b2 [t1, .int .i64 y3.At, t2, t3, t4], .box b4 [t1, .int .i64 y3.At, t2, t3, t4], .box b3 [.str y2.Name, (Sl.t (y2.Lines : Sl ByteArray)), .int .i64 y2.Mode, .int .i64 y2.At], .box b1 [(Sl.t (a0.Input : Sl ByteArray)), .int .i64 a0.At, (Sl.t (a0.Output : Sl ByteArray)), (Sl.t (a0.Files : Sl DFile)), (Sl.t (a0.Trace : Sl ByteArray))]] (r_cell (v := .agg [t1, .int .i64 y3.At, t2, t3, t4]) hS (hH.at 4 rfl) rfl (by kernel_rfl) (r_tmp (v := .int .i64 0) hS rfl r_nil)) (by kernel_rfl) rfl hH (by kernel_rfl)
      · have h := it_neg hc3 h
        have hS := sub_bt hS (tt_of hc3)
        refine q_seg 4 [(2, .str a2), (3, .ptr b1 0 0 5), (6, .ptr b2 0 0 5), (8, .int .i64 y1.1), (10, .ptr b3 0 0 4), (37, .bool false)] hS (by kernel_rfl) ?_; intro s hS
        refine x_nil ?_
        refine sq_n ?_
        refine c_cond (t := false) hS rfl (fun hf => by cases hf) (fun _ => ?_)
        refine c_skip ?_
        refine sq_n ?_
        refine c_seq ?_
        refine c_seq ?_
        refine c_region ?_
        refine q_seg 1 [(2, .str a2), (3, .ptr b1 0 0 5), (6, .ptr b2 0 0 5), (8, .int .i64 y1.1), (39, .ptr b3 0 1 1)] hS (by kernel_rfl) ?_; intro s hS
        refine q_load (v := (Sl.t (y2.Lines : Sl ByteArray))) 0 trivial rfl hS hH rfl rfl (by kernel_rfl) ?_; intro s hS
        refine q_seg 2 [(2, .str a2), (3, .ptr b1 0 0 5), (6, .ptr b2 0 0 5), (8, .int .i64 y1.1), (42, .bool (decide (40 ≤ (y2.Lines.l.length : Int))))] hS (by kernel_rfl) ?_; intro s hS
        refine x_nil ?_
        refine sq_n ?_
        by_cases hc6 : (decide (40 ≤ (y2.Lines.l.length : Int))) = true
        · have h := it_pos hc6 h
          refine c_cond hS rfl (fun _ => ?_) (fun hf => ff_absurd hc6 hf)
          refine c_seq ?_
          refine c_region ?_
          refine q_seg 1 [(6, .ptr b2 0 0 5), (43, .agg [(Sl.t (⟨true, []⟩ : Sl ByteArray)), .int .i64 0, (Sl.t (⟨true, []⟩ : Sl ByteArray)), (Sl.t (⟨true, []⟩ : Sl DFile)), (Sl.t (⟨true, []⟩ : Sl ByteArray))])] hS (by kernel_rfl) ?_; intro s hS
          have hH : Heap σ0 σ [.box b2 [(Sl.t (⟨true, []⟩ : Sl ByteArray)), .int .i64 0, (Sl.t (⟨true, []⟩ : Sl ByteArray)), (Sl.t (⟨true, []⟩ : Sl DFile)), (Sl.t (⟨true, []⟩ : Sl ByteArray))], .box b3 [.str y2.Name, (Sl.t (y2.Lines : Sl ByteArray)), .int .i64 y2.Mode, .int .i64 y2.At], .box b1 [(Sl.t (a0.Input : Sl ByteArray)), .int .i64 a0.At, (Sl.t (a0.Output : Sl ByteArray)), (Sl.t (a0.Files : Sl DFile)), (Sl.t (a0.Trace : Sl ByteArray))]] := hH.sel [1, 0, 2] rfl (by kernel_rfl)
          refine q_store (v := .agg [(Sl.t (⟨true, []⟩ : Sl ByteArray)), .int .i64 0, (Sl.t (⟨true, []⟩ : Sl ByteArray)), (Sl.t (⟨true, []⟩ : Sl DFile)), (Sl.t (⟨true, []⟩ : Sl ByteArray))]) (cs := [(Sl.t (⟨true, []⟩ : Sl ByteArray)), .int .i64 0, (Sl.t (⟨true, []⟩ : Sl ByteArray)), (Sl.t (⟨true, []⟩ : Sl DFile)), (Sl.t (⟨true, []⟩ : Sl ByteArray))]) (cells' := [(Sl.t (⟨true, []⟩ : Sl ByteArray)), .int .i64 0, (Sl.t (⟨true, []⟩ : Sl ByteArray)), (Sl.t (⟨true, []⟩ : Sl DFile)), (Sl.t (⟨true, []⟩ : Sl ByteArray))]) rfl hS hH rfl rfl rfl (by kernel_rfl) (by kernel_rfl) ?_; intro σ s hH hS
          refine q_seg 1 [(6, .ptr b2 0 0 5), (7, .int .i64 6)] hS (by kernel_rfl) ?_; intro s hS
          refine x_nil ?_
          refine sq_n ?_
          refine c_ret ?_
          refine sq_r ?_
          injection h with h; subst h
          have hH := Heap.addNil hH true 1
          have hH := Heap.addNil hH true 1
          have hH := Heap.addNil hH true 4
          have hH := Heap.addNil hH true 1
          have hH : Heap σ0 σ [.own true 1 (T.row true 0 []) (Sl.t (⟨true, []⟩ : Sl ByteArray)), .own true 1 (T.row true 0 []) (Sl.t (⟨true, []⟩ : Sl ByteArray)), .own true 4 (T.row true 0 []) (Sl.t (⟨true, []⟩ : Sl DFile)), .own true 1 (T.row true 0 []) (Sl.t (⟨true, []⟩ : Sl ByteArray)), .box b2 [(Sl.t (⟨true, []⟩ : Sl ByteArray)), .int .i64 0, (Sl.t (⟨true, []⟩ : Sl ByteArray)), (Sl.t (⟨true, []⟩ : Sl DFile)), (Sl.t (⟨true, []⟩ : Sl ByteArray))], .box b3 [.str y2.Name, (Sl.t (y2.Lines : Sl ByteArray)), .int .i64 y2.Mode, .int .i64 y2.At], .box b1 [(Sl.t (a0.Input : Sl ByteArray)), .int .i64 a0.At, (Sl.t (a0.Output : Sl ByteArray)), (Sl.t (a0.Files : Sl DFile)), (Sl.t (a0.Trace : Sl ByteArray))]] := hH.sel [3, 2, 1, 0, 4, 5, 6] rfl (by kernel_rfl)
          exact end_Ow [(T.row true 0 []), (T.row true 0 []), (T.row true 0 []), (T.row true 0 [])] [.box b2 [(Sl.t (⟨true, []⟩ : Sl ByteArray)), .int .i64 0, (Sl.t (⟨true, []⟩ : Sl ByteArray)), (Sl.t (⟨true, []⟩ : Sl DFile)), (Sl.t (⟨true, []⟩ : Sl ByteArray))], .box b3 [.str y2.Name, (Sl.t (y2.Lines : Sl ByteArray)), .int .i64 y2.Mode, .int .i64 y2.At], .box b1 [(Sl.t (a0.Input : Sl ByteArray)), .int .i64 a0.At, (Sl.t (a0.Output : Sl ByteArray)), (Sl.t (a0.Files : Sl DFile)), (Sl.t (a0.Trace : Sl ByteArray))]] (r_cell (v := .agg [(Sl.t (⟨true, []⟩ : Sl ByteArray)), .int .i64 0, (Sl.t (⟨true, []⟩ : Sl ByteArray)), (Sl.t (⟨true, []⟩ : Sl DFile)), (Sl.t (⟨true, []⟩ : Sl ByteArray))]) hS (hH.at 4 rfl) rfl (by kernel_rfl) (r_tmp (v := .int .i64 6) hS rfl r_nil)) (by kernel_rfl) rfl hH (by kernel_rfl)
        · have h := it_neg hc6 h
          refine c_cond hS rfl (fun hf => tt_absurd hc6 hf) (fun _ => ?_)
          refine c_skip ?_
          refine sq_n ?_
          refine c_seq ?_
          refine c_region ?_
          obtain ⟨y6, hy6, h⟩ := bind_some h
          refine q_callLO rfl (xs := [.ptr b1 0 0 5]) (cs := [[(Sl.t (a0.Input : Sl ByteArray)), .int .i64 a0.At, (Sl.t (a0.Output : Sl ByteArray)), (Sl.t (a0.Files : Sl DFile)), (Sl.t (a0.Trace : Sl ByteArray))]]) [b1] rfl hS rfl rfl rfl hH (And.intro (Heap.lent (hH.at 2 rfl)) trivial) hy6 ?_; intro hs σ s hl hH hS
          obtain ⟨t8, t9, t10, t11, rfl⟩ := len4 hl
          have hH : Heap σ0 σ [.own true 1 t8 (Sl.t (y6.Input : Sl ByteArray)), .own true 1 t9 (Sl.t (y6.Output : Sl ByteArray)), .own true 4 t10 (Sl.t (y6.Files : Sl DFile)), .own true 1 t11 (Sl.t (y6.Trace : Sl ByteArray)), .box b3 [.str y2.Name, (Sl.t (y2.Lines : Sl ByteArray)), .int .i64 y2.Mode, .int .i64 y2.At], .box b2 [(Sl.t (⟨true, []⟩ : Sl ByteArray)), .int .i64 0, (Sl.t (⟨true, []⟩ : Sl ByteArray)), (Sl.t (⟨true, []⟩ : Sl DFile)), (Sl.t (⟨true, []⟩ : Sl ByteArray))], .box b1 [(Sl.t (a0.Input : Sl ByteArray)), .int .i64 a0.At, (Sl.t (a0.Output : Sl ByteArray)), (Sl.t (a0.Files : Sl DFile)), (Sl.t (a0.Trace : Sl ByteArray))]] := hH
          have ht8 : IsOne t8 := Heap.one hH
          have ht9 : IsOne t9 := Heap.one (hH.at 1 rfl)
          have ht10 : IsOne t10 := Heap.one (hH.at 2 rfl)
          have ht11 : IsOne t11 := Heap.one (hH.at 3 rfl)
          refine q_alloc (z := [(Sl.t (⟨true, []⟩ : Sl ByteArray)), .int .i64 0, (Sl.t (⟨true, []⟩ : Sl ByteArray)), (Sl.t (⟨true, []⟩ : Sl DFile)), (Sl.t (⟨true, []⟩ : Sl ByteArray))]) rfl hS hH (by kernel_rfl) ?_; intro b5 σ s hH hS
          refine q_store (v := .agg [t8, .int .i64 y6.At, t9, t10, t11]) (cs := [t8, .int .i64 y6.At, t9, t10, t11]) (cells' := [t8, .int .i64 y6.At, t9, t10, t11]) rfl hS hH rfl rfl rfl (by simp [ht10.1, ht10.2, ht11.1, ht11.2, ht8.1, ht8.2, ht9.1, ht9.2]) (by kernel_rfl) ?_; intro σ s hH hS
          refine x_nil ?_
          refine sq_n ?_
          refine c_seq ?_
          refine c_chain (fun x => x ∉ ([b5] : List Nat)) (fun _ => rfl) (by kernel_rfl) (by kernel_rfl) hH ?_; intro mb σs σ hn0 hlt hlto hH
          have hlt_b5 : b5 < mb ∧ ¬ (fun x => x ∉ ([b5] : List Nat)) b5 := ⟨hlt b5 _ (List.Mem.head _), fun h => h (by simp)⟩
          refine q_seg 1 [(2, .str a2), (6, .ptr b2 0 0 5), (8, .int .i64 y1.1), (11, .ptr b5 0 0 5), (45, .ptr b5 0 3 1)] hS (by kernel_rfl) ?_; intro s hS
          refine q_load (v := t10) 0 (Or.inr hlt_b5) rfl hS hH rfl rfl (by kernel_rfl) ?_; intro s hS
          refine q_seg 2 [(2, .str a2), (6, .ptr b2 0 0 5), (8, .int .i64 y1.1), (11, .ptr b5 0 0 5), (46, t10), (47, .int .i64 y1.1), (48, .ptr b5 0 3 1)] hS (by kernel_rfl) ?_; intro s hS
          refine q_load (v := t10) 0 (Or.inl (by kernel_rfl)) rfl hS hH rfl rfl (by kernel_rfl) ?_; intro s hS
          refine q_seg 1 [(2, .str a2), (6, .ptr b2 0 0 5), (11, .ptr b5 0 0 5), (46, t10), (47, .int .i64 y1.1), (49, t10), (50, .int .i64 y1.1)] hS (by kernel_rfl) ?_; intro s hS
          have hH : Heap σ0 σ [.own true 4 t10 (Sl.t (y6.Files : Sl DFile)), .box b5 [t8, .int .i64 y6.At, t9, t10, t11], .own true 1 t8 (Sl.t (y6.Input : Sl ByteArray)), .own true 1 t9 (Sl.t (y6.Output : Sl ByteArray)), .own true 1 t11 (Sl.t (y6.Trace : Sl ByteArray)), .box b3 [.str y2.Name, (Sl.t (y2.Lines : Sl ByteArray)), .int .i64 y2.Mode, .int .i64 y2.At], .box b2 [(Sl.t (⟨true, []⟩ : Sl ByteArray)), .int .i64 0, (Sl.t (⟨true, []⟩ : Sl ByteArray)), (Sl.t (⟨true, []⟩ : Sl DFile)), (Sl.t (⟨true, []⟩ : Sl ByteArray))], .box b1 [(Sl.t (a0.Input : Sl ByteArray)), .int .i64 a0.At, (Sl.t (a0.Output : Sl ByteArray)), (Sl.t (a0.Files : Sl DFile)), (Sl.t (a0.Trace : Sl ByteArray))]] := hH.sel [3, 0, 1, 2, 4, 5, 6, 7] rfl (by kernel_rfl)
          obtain ⟨y7, hy7, h⟩ := bind_some h
          refine q_hidx (a := y6.Files) (e := 52) (fun _ _ _ _ _ => Or.inl (by kernel_rfl)) rfl hS hH rfl rfl (by kernel_rfl) (by kernel_rfl) hy7 ?_; intro hb2 hb2e s hl_hb2 hS
          refine q_seg 1 [(2, .str a2), (6, .ptr b2 0 0 5), (11, .ptr b5 0 0 5), (46, t10), (47, .int .i64 y1.1), (52, .ptr hb2 hb2e (y1.1.toNat * Enc.w DFile + 1) 1)] hS (by kernel_rfl) ?_; intro s hS
          refine q_hlens (a := y6.Files) (j := y1.1) (y := y7) (off := 1) (c := [.str y7.Name, (Sl.t (y7.Lines : Sl ByteArray)), .int .i64 y7.Mode, .int .i64 y7.At]) (q := (y7.Lines : Sl ByteArray)) (fun _ _ _ _ _ => Or.inl (by kernel_rfl)) rfl hS hH hl_hb2 rfl hy7 rfl (by kernel_rfl) rfl rfl ?_; intro F2 σk2 t12 s ht12 hH hcl2 hcl2s hcl2p hcl2k hcl2f hS
          refine q_seg 1 [(6, .ptr b2 0 0 5), (11, .ptr b5 0 0 5), (46, t10), (47, .int .i64 y1.1), (53, t12), (54, .str a2)] hS (by kernel_rfl) ?_; intro s hS
          refine q_bsC rfl (by exact hn0) (ents := []) (e := 9) (sz := 1) (z := true) (vs := [.str a2]) (zc := [.str ⟨#[]⟩]) (cs := [.str a2]) (us := [.str a2]) (v := Sl.t (⟨false, [a2]⟩ : Sl ByteArray)) rfl hS hH (by kernel_rfl) (by kernel_rfl) (by kernel_rfl) (by kernel_rfl) (by kernel_rfl) (And.intro (by kernel_rfl) (And.intro (by kernel_rfl) trivial)) (by kernel_rfl) (HL.leaf (fun σ d => hold_str _ σ d _) HL.nil) (by kernel_rfl) ?_; intro t13 σ s ht13 hH hS
          have hH : Heap σ0 σ [.own true 0 t12 (Sl.t (y7.Lines : Sl ByteArray)), .own true 1 t13 (Sl.t (⟨false, [a2]⟩ : Sl ByteArray)), .keep F2 σk2, .box b5 [t8, .int .i64 y6.At, t9, t10, t11], .own true 1 t8 (Sl.t (y6.Input : Sl ByteArray)), .own true 1 t9 (Sl.t (y6.Output : Sl ByteArray)), .own true 1 t11 (Sl.t (y6.Trace : Sl ByteArray)), .box b3 [.str y2.Name, (Sl.t (y2.Lines : Sl ByteArray)), .int .i64 y2.Mode, .int .i64 y2.At], .box b2 [(Sl.t (⟨true, []⟩ : Sl ByteArray)), .int .i64 0, (Sl.t (⟨true, []⟩ : Sl ByteArray)), (Sl.t (⟨true, []⟩ : Sl DFile)), (Sl.t (⟨true, []⟩ : Sl ByteArray))], .box b1 [(Sl.t (a0.Input : Sl ByteArray)), .int .i64 a0.At, (Sl.t (a0.Output : Sl ByteArray)), (Sl.t (a0.Files : Sl DFile)), (Sl.t (a0.Trace : Sl ByteArray))]] := hH.sel [1, 0, 2, 3, 4, 5, 6, 7, 8, 9] rfl (by kernel_rfl)
          have hH := Heap.width (a := y7.Lines) hH
          have hH : Heap σ0 σ [.own true 1 t12 (Sl.t (y7.Lines : Sl ByteArray)), .own true 1 t13 (Sl.t (⟨false, [a2]⟩ : Sl ByteArray)), .keep F2 σk2, .box b5 [t8, .int .i64 y6.At, t9, t10, t11], .own true 1 t8 (Sl.t (y6.Input : Sl ByteArray)), .own true 1 t9 (Sl.t (y6.Output : Sl ByteArray)), .own true 1 t11 (Sl.t (y6.Trace : Sl ByteArray)), .box b3 [.str y2.Name, (Sl.t (y2.Lines : Sl ByteArray)), .int .i64 y2.Mode, .int .i64 y2.At], .box b2 [(Sl.t (⟨true, []⟩ : Sl ByteArray)), .int .i64 0, (Sl.t (⟨true, []⟩ : Sl ByteArray)), (Sl.t (⟨true, []⟩ : Sl DFile)), (Sl.t (⟨true, []⟩ : Sl ByteArray))], .box b1 [(Sl.t (a0.Input : Sl ByteArray)), .int .i64 a0.At, (Sl.t (a0.Output : Sl ByteArray)), (Sl.t (a0.Files : Sl DFile)), (Sl.t (a0.Trace : Sl ByteArray))]] := hH
          obtain ⟨y8, hy8, h⟩ := bind_some h
          refine q_appC rfl (by exact hn0) (z := true) (t1 := t12) (a := y7.Lines) (b := (⟨false, [a2]⟩ : Sl ByteArray)) (e := 9) (by_ := 16) (zc := [.str ⟨#[]⟩]) (by exact fun b e o n h => Or.inr (by simp only [List.mem_cons, List.not_mem_nil, or_false, not_or, not_false_eq_true]; exact (Heap.neO hH 0 3 (by decide) (by rw [← h]; rfl) rfl))) rfl hS hH rfl rfl (by kernel_rfl) (by kernel_rfl) (by kernel_rfl) (by kernel_rfl) (by kernel_rfl) (by kernel_rfl) hy8 ?_; intro t14 σ s ht14 hH hS
          refine q_hidxK (a := y6.Files) (e := 52) (y := y7) (fun _ _ _ _ _ => Or.inl (by kernel_rfl)) 1 rfl hS hcl2k hcl2f hH rfl hl_hb2 rfl rfl (by kernel_rfl) (by kernel_rfl) hy7 ?_; intro s hS
          refine q_seg 1 [(6, .ptr b2 0 0 5), (11, .ptr b5 0 0 5), (56, t14), (58, .ptr hb2 hb2e (y1.1.toNat * Enc.w DFile + 1) 1)] hS (by kernel_rfl) ?_; intro s hS
          refine q_hlstore (a := y6.Files) (j := y1.1) (off := 1) (c := [.str y7.Name, (Sl.t (y7.Lines : Sl ByteArray)), .int .i64 y7.Mode, .int .i64 y7.At]) (q2 := y8) rfl ((⟨y7.Name, y8, y7.Mode, y7.At⟩ : DFile) : DFile) (by exact Or.inr (by simp only [List.mem_cons, List.not_mem_nil, or_false, not_or, not_false_eq_true]; exact (Heap.neK hH 1 2 (by decide) rfl hcl2f rfl))) rfl hS hcl2p hH rfl rfl ht14 (by kernel_rfl) (by kernel_rfl) rfl ?_; intro σ s hH hS
          have hH : Heap σ0 σ [.own true 4 t10 (Sl.t ((setS y6.Files y1.1 ((⟨y7.Name, y8, y7.Mode, y7.At⟩ : DFile) : DFile)) : Sl DFile)), .box b5 [t8, .int .i64 y6.At, t9, t10, t11], .own true 1 t8 (Sl.t (y6.Input : Sl ByteArray)), .own true 1 t9 (Sl.t (y6.Output : Sl ByteArray)), .own true 1 t11 (Sl.t (y6.Trace : Sl ByteArray)), .box b3 [.str y2.Name, (Sl.t (y2.Lines : Sl ByteArray)), .int .i64 y2.Mode, .int .i64 y2.At], .box b2 [(Sl.t (⟨true, []⟩ : Sl ByteArray)), .int .i64 0, (Sl.t (⟨true, []⟩ : Sl ByteArray)), (Sl.t (⟨true, []⟩ : Sl DFile)), (Sl.t (⟨true, []⟩ : Sl ByteArray))], .box b1 [(Sl.t (a0.Input : Sl ByteArray)), .int .i64 a0.At, (Sl.t (a0.Output : Sl ByteArray)), (Sl.t (a0.Files : Sl DFile)), (Sl.t (a0.Trace : Sl ByteArray))]] := hH
          refine x_nil ?_
          refine sq_n ?_
          refine c_seq ?_
          refine c_region ?_
          refine q_load (v := .agg [t8, .int .i64 y6.At, t9, t10, t11]) 1 trivial rfl hS hH rfl rfl (by kernel_rfl) ?_; intro s hS
          have hH : Heap σ0 σ [.box b2 [(Sl.t (⟨true, []⟩ : Sl ByteArray)), .int .i64 0, (Sl.t (⟨true, []⟩ : Sl ByteArray)), (Sl.t (⟨true, []⟩ : Sl DFile)), (Sl.t (⟨true, []⟩ : Sl ByteArray))], .own true 4 t10 (Sl.t ((setS y6.Files y1.1 ((⟨y7.Name, y8, y7.Mode, y7.At⟩ : DFile) : DFile)) : Sl DFile)), .box b5 [t8, .int .i64 y6.At, t9, t10, t11], .own true 1 t8 (Sl.t (y6.Input : Sl ByteArray)), .own true 1 t9 (Sl.t (y6.Output : Sl ByteArray)), .own true 1 t11 (Sl.t (y6.Trace : Sl ByteArray)), .box b3 [.str y2.Name, (Sl.t (y2.Lines : Sl ByteArray)), .int .i64 y2.Mode, .int .i64 y2.At], .box b1 [(Sl.t (a0.Input : Sl ByteArray)), .int .i64 a0.At, (Sl.t (a0.Output : Sl ByteArray)), (Sl.t (a0.Files : Sl DFile)), (Sl.t (a0.Trace : Sl ByteArray))]] := hH.sel [6, 0, 1, 2, 3, 4, 5, 7] rfl (by kernel_rfl)
          refine q_store (v := .agg [t8, .int .i64 y6.At, t9, t10, t11]) (cs := [t8, .int .i64 y6.At, t9, t10, t11]) (cells' := [t8, .int .i64 y6.At, t9, t10, t11]) rfl hS hH rfl rfl rfl (by simp [ht10.1, ht10.2, ht11.1, ht11.2, ht8.1, ht8.2, ht9.1, ht9.2]) (by kernel_rfl) ?_; intro σ s hH hS
          refine q_seg 1 [(6, .ptr b2 0 0 5), (7, .int .i64 0)] hS (by kernel_rfl) ?_; intro s hS
          refine x_nil ?_
          refine sq_n ?_
          refine c_ret ?_
          injection h with h; subst h
          have hH : Heap σ0 σ [.own true 1 t8 (Sl.t (y6.Input : Sl ByteArray)), .own true 1 t9 (Sl.t (y6.Output : Sl ByteArray)), .own true 4 t10 (Sl.t ((setS y6.Files y1.1 ((⟨y7.Name, y8, y7.Mode, y7.At⟩ : DFile) : DFile)) : Sl DFile)), .own true 1 t11 (Sl.t (y6.Trace : Sl ByteArray)), .box b2 [t8, .int .i64 y6.At, t9, t10, t11], .box b5 [t8, .int .i64 y6.At, t9, t10, t11], .box b3 [.str y2.Name, (Sl.t (y2.Lines : Sl ByteArray)), .int .i64 y2.Mode, .int .i64 y2.At], .box b1 [(Sl.t (a0.Input : Sl ByteArray)), .int .i64 a0.At, (Sl.t (a0.Output : Sl ByteArray)), (Sl.t (a0.Files : Sl DFile)), (Sl.t (a0.Trace : Sl ByteArray))]] := hH.sel [3, 4, 1, 5, 0, 2, 6, 7] rfl (by kernel_rfl)
          exact end_Ow [t8, t9, t10, t11] [.box b2 [t8, .int .i64 y6.At, t9, t10, t11], .box b5 [t8, .int .i64 y6.At, t9, t10, t11], .box b3 [.str y2.Name, (Sl.t (y2.Lines : Sl ByteArray)), .int .i64 y2.Mode, .int .i64 y2.At], .box b1 [(Sl.t (a0.Input : Sl ByteArray)), .int .i64 a0.At, (Sl.t (a0.Output : Sl ByteArray)), (Sl.t (a0.Files : Sl DFile)), (Sl.t (a0.Trace : Sl ByteArray))]] (r_cell (v := .agg [t8, .int .i64 y6.At, t9, t10, t11]) hS (hH.at 4 rfl) rfl (by kernel_rfl) (r_tmp (v := .int .i64 0) hS rfl r_nil)) (by kernel_rfl) rfl hH (by kernel_rfl)
end Go.Am
end
