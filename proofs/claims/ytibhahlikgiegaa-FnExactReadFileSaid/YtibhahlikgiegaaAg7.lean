/- Functions of the program. -/
import Derived.Test.YtibhahlikgiegaaAd0
section
set_option maxRecDepth 100000
set_option maxHeartbeats 4000000
set_option linter.unusedVariables false
set_option linter.unusedSimpArgs false
namespace Go.Am
open Go.Proofs
noncomputable def B_impl_isDigit (a0 : Int) : Option Bool := (if (decide (48 ≤ a0)) = true then (some (decide (a0 ≤ 57))) else (some false))
theorem u_impl_isDigit (a0 : Int) (r : Bool) (h : B_impl_isDigit a0 = some r) : F_impl_isDigit a0 = some r := by
  unfold B_impl_isDigit at h
  refine semW_of E_bool_inj rfl rfl ok_112 rfl (all_cons (by kernel_rfl) all_nil) ?_
  intro σ0 s hS hH
  have hS := sub_to (L' := [(0, .int .u8 a0)]) hS (by kernel_rfl)
  refine c_seq ?_
  refine c_region ?_
  refine q_seg 1 [(0, .int .u8 a0)] hS (by kernel_rfl) ?_; intro s hS
  refine x_nil ?_
  refine sq_n ?_
  refine c_seq ?_
  refine c_region ?_
  refine q_seg 3 [(5, .bool (decide (48 ≤ a0))), (0, .int .u8 a0)] hS (by kernel_rfl) ?_; intro s hS
  by_cases hc1 : (decide (48 ≤ a0)) = true
  · have h := it_pos hc1 h
    have hS := sub_bt hS hc1
    refine q_seg 4 [(2, .bool (decide (a0 ≤ 57)))] hS (by kernel_rfl) ?_; intro s hS
    refine x_nil ?_
    refine sq_n ?_
    refine c_ret ?_
    injection h with h; subst h
    exact end_W hH (r_tmp (v := .bool (decide (a0 ≤ 57))) hS rfl r_nil) rfl (by kernel_rfl) (by simp [pureT, pureL, E_bool])
  · have h := it_neg hc1 h
    have hS := sub_bt hS (tt_of hc1)
    refine q_seg 4 [(2, .bool false)] hS (by kernel_rfl) ?_; intro s hS
    refine x_nil ?_
    refine sq_n ?_
    refine c_ret ?_
    injection h with h; subst h
    exact end_W hH (r_tmp (v := .bool false) hS rfl r_nil) rfl (by kernel_rfl) (by simp [pureT, pureL, E_bool])
end Go.Am
end
section
set_option maxRecDepth 100000
set_option maxHeartbeats 4000000
set_option linter.unusedVariables false
set_option linter.unusedSimpArgs false
namespace Go.Am
open Go.Proofs
noncomputable def B_cmp_isNaN_string (a0 : ByteArray) : Option Bool := (some (!decide (a0 = a0)))
theorem u_cmp_isNaN_string (a0 : ByteArray) (r : Bool) (h : B_cmp_isNaN_string a0 = some r) : F_cmp_isNaN_string a0 = some r := by
  unfold B_cmp_isNaN_string at h
  refine semW_of E_bool_inj rfl rfl ok_113 rfl (all_cons (by kernel_rfl) all_nil) ?_
  intro σ0 s hS hH
  have hS := sub_to (L' := [(0, .str a0)]) hS (by kernel_rfl)
  refine c_seq ?_
  refine c_region ?_
  refine q_seg 1 [(0, .str a0)] hS (by kernel_rfl) ?_; intro s hS
  refine x_nil ?_
  refine sq_n ?_
  refine c_seq ?_
  refine c_region ?_
  refine q_seg 4 [(2, .bool (!decide (a0 = a0)))] hS (by kernel_rfl) ?_; intro s hS
  refine x_nil ?_
  refine sq_n ?_
  refine c_ret ?_
  injection h with h; subst h
  exact end_W hH (r_tmp (v := .bool (!decide (a0 = a0))) hS rfl r_nil) rfl (by kernel_rfl) (by simp [pureT, pureL, E_bool])
end Go.Am
end
section
set_option maxRecDepth 100000
set_option maxHeartbeats 4000000
set_option linter.unusedVariables false
set_option linter.unusedSimpArgs false
namespace Go.Am
open Go.Proofs
noncomputable def B_spec_l02Letter (a0 : Int) : Option Bool := (if (decide (65 ≤ a0)) = true then (if (decide (a0 ≤ 90)) = true then (some true) else (if (decide (97 ≤ a0)) = true then (some (decide (a0 ≤ 122))) else (some false))) else (if (decide (97 ≤ a0)) = true then (some (decide (a0 ≤ 122))) else (some false)))
theorem u_spec_l02Letter (a0 : Int) (r : Bool) (h : B_spec_l02Letter a0 = some r) : F_spec_l02Letter a0 = some r := by
  unfold B_spec_l02Letter at h
  refine semW_of E_bool_inj rfl rfl ok_116 rfl (all_cons (by kernel_rfl) all_nil) ?_
  intro σ0 s hS hH
  have hS := sub_to (L' := [(0, .int .u8 a0)]) hS (by kernel_rfl)
  refine c_seq ?_
  refine c_region ?_
  refine q_seg 1 [(0, .int .u8 a0)] hS (by kernel_rfl) ?_; intro s hS
  refine x_nil ?_
  refine sq_n ?_
  refine c_seq ?_
  refine c_region ?_
  refine q_seg 3 [(5, .bool (decide (65 ≤ a0))), (0, .int .u8 a0)] hS (by kernel_rfl) ?_; intro s hS
  by_cases hc1 : (decide (65 ≤ a0)) = true
  · have h := it_pos hc1 h
    have hS := sub_bt hS hc1
    refine q_seg 4 [(9, .bool (decide (a0 ≤ 90))), (0, .int .u8 a0)] hS (by kernel_rfl) ?_; intro s hS
    by_cases hc2 : (decide (a0 ≤ 90)) = true
    · have h := it_pos hc2 h
      have hS := sub_bt hS hc2
      refine q_seg 8 [(2, .bool true)] hS (by kernel_rfl) ?_; intro s hS
      refine x_nil ?_
      refine sq_n ?_
      refine c_ret ?_
      injection h with h; subst h
      exact end_W hH (r_tmp (v := .bool true) hS rfl r_nil) rfl (by kernel_rfl) (by simp [pureT, pureL, E_bool])
    · have h := it_neg hc2 h
      have hS := sub_bt hS (tt_of hc2)
      refine q_seg 3 [(12, .bool (decide (97 ≤ a0))), (0, .int .u8 a0), (9, .bool false)] hS (by kernel_rfl) ?_; intro s hS
      by_cases hc3 : (decide (97 ≤ a0)) = true
      · have h := it_pos hc3 h
        have hS := sub_bt hS hc3
        refine q_seg 5 [(2, .bool (decide (a0 ≤ 122)))] hS (by kernel_rfl) ?_; intro s hS
        refine x_nil ?_
        refine sq_n ?_
        refine c_ret ?_
        injection h with h; subst h
        exact end_W hH (r_tmp (v := .bool (decide (a0 ≤ 122))) hS rfl r_nil) rfl (by kernel_rfl) (by simp [pureT, pureL, E_bool])
      · have h := it_neg hc3 h
        have hS := sub_bt hS (tt_of hc3)
        refine q_seg 5 [(2, .bool false)] hS (by kernel_rfl) ?_; intro s hS
        refine x_nil ?_
        refine sq_n ?_
        refine c_ret ?_
        injection h with h; subst h
        exact end_W hH (r_tmp (v := .bool false) hS rfl r_nil) rfl (by kernel_rfl) (by simp [pureT, pureL, E_bool])
  · have h := it_neg hc1 h
    have hS := sub_bt hS (tt_of hc1)
    refine q_seg 7 [(12, .bool (decide (97 ≤ a0))), (0, .int .u8 a0), (9, .bool false)] hS (by kernel_rfl) ?_; intro s hS
    by_cases hc4 : (decide (97 ≤ a0)) = true
    · have h := it_pos hc4 h
      have hS := sub_bt hS hc4
      refine q_seg 5 [(2, .bool (decide (a0 ≤ 122)))] hS (by kernel_rfl) ?_; intro s hS
      refine x_nil ?_
      refine sq_n ?_
      refine c_ret ?_
      injection h with h; subst h
      exact end_W hH (r_tmp (v := .bool (decide (a0 ≤ 122))) hS rfl r_nil) rfl (by kernel_rfl) (by simp [pureT, pureL, E_bool])
    · have h := it_neg hc4 h
      have hS := sub_bt hS (tt_of hc4)
      refine q_seg 5 [(2, .bool false)] hS (by kernel_rfl) ?_; intro s hS
      refine x_nil ?_
      refine sq_n ?_
      refine c_ret ?_
      injection h with h; subst h
      exact end_W hH (r_tmp (v := .bool false) hS rfl r_nil) rfl (by kernel_rfl) (by simp [pureT, pureL, E_bool])
end Go.Am
end
section
set_option maxRecDepth 100000
set_option maxHeartbeats 4000000
set_option linter.unusedVariables false
set_option linter.unusedSimpArgs false
namespace Go.Am
open Go.Proofs
noncomputable def B_spec_l02Digit (a0 : Int) : Option Bool := (if (decide (48 ≤ a0)) = true then (some (decide (a0 ≤ 57))) else (some false))
theorem u_spec_l02Digit (a0 : Int) (r : Bool) (h : B_spec_l02Digit a0 = some r) : F_spec_l02Digit a0 = some r := by
  unfold B_spec_l02Digit at h
  refine semW_of E_bool_inj rfl rfl ok_117 rfl (all_cons (by kernel_rfl) all_nil) ?_
  intro σ0 s hS hH
  have hS := sub_to (L' := [(0, .int .u8 a0)]) hS (by kernel_rfl)
  refine c_seq ?_
  refine c_region ?_
  refine q_seg 1 [(0, .int .u8 a0)] hS (by kernel_rfl) ?_; intro s hS
  refine x_nil ?_
  refine sq_n ?_
  refine c_seq ?_
  refine c_region ?_
  refine q_seg 3 [(5, .bool (decide (48 ≤ a0))), (0, .int .u8 a0)] hS (by kernel_rfl) ?_; intro s hS
  by_cases hc1 : (decide (48 ≤ a0)) = true
  · have h := it_pos hc1 h
    have hS := sub_bt hS hc1
    refine q_seg 4 [(2, .bool (decide (a0 ≤ 57)))] hS (by kernel_rfl) ?_; intro s hS
    refine x_nil ?_
    refine sq_n ?_
    refine c_ret ?_
    injection h with h; subst h
    exact end_W hH (r_tmp (v := .bool (decide (a0 ≤ 57))) hS rfl r_nil) rfl (by kernel_rfl) (by simp [pureT, pureL, E_bool])
  · have h := it_neg hc1 h
    have hS := sub_bt hS (tt_of hc1)
    refine q_seg 4 [(2, .bool false)] hS (by kernel_rfl) ?_; intro s hS
    refine x_nil ?_
    refine sq_n ?_
    refine c_ret ?_
    injection h with h; subst h
    exact end_W hH (r_tmp (v := .bool false) hS rfl r_nil) rfl (by kernel_rfl) (by simp [pureT, pureL, E_bool])
end Go.Am
end
