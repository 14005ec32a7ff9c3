/- Functions of the program. -/
import Derived.Test.YtibhahlikgiegaaAd0
section
set_option maxRecDepth 100000
set_option maxHeartbeats 4000000
set_option linter.unusedVariables false
set_option linter.unusedSimpArgs false
namespace Go.Am
open Go.Proofs
noncomputable def B_spec_l02NameEnd (a0 : ByteArray) (a1 : Int) : Option Int := (if (decide ((a0.size : Int) ≤ a1)) = true then (some a1) else ((byteAt a0 a1).bind fun y1 => ((F_spec_l02Letter y1).bind fun y2 => (if (!y2) = true then (some a1) else ((loopO (S := Int) (R := Int) (fun st1 => (if (decide (st1 < (a0.size : Int))) = true then ((byteAt a0 st1).bind fun y4 => ((F_spec_l02Letter y4).bind fun y5 => (if y5 = true then (some (.inl (IntKind.i64.wrap (st1 + 1)))) else ((byteAt a0 st1).bind fun y6 => ((F_spec_l02Digit y6).bind fun y7 => (if y7 = true then (some (.inl (IntKind.i64.wrap (st1 + 1)))) else ((byteAt a0 st1).bind fun y8 => (if (decide (y8 = 95)) = true then (some (.inl (IntKind.i64.wrap (st1 + 1)))) else (some (.inr st1)))))))))) else (some (.inr st1)))) a1).bind fun y3 => (some y3))))))
theorem u_spec_l02NameEnd (a0 : ByteArray) (a1 : Int) (r : Int) (h : B_spec_l02NameEnd a0 a1 = some r) : F_spec_l02NameEnd a0 a1 = some r := by
  unfold B_spec_l02NameEnd at h
  refine semW_of E_i64_inj rfl rfl ok_109 rfl (all_cons (by kernel_rfl) (all_cons (by kernel_rfl) all_nil)) ?_
  intro σ0 s hS hH
  have hS := sub_to (L' := [(0, .str a0), (1, .int .i64 a1)]) hS (by kernel_rfl)
  refine c_seq ?_
  refine c_region ?_
  refine q_seg 1 [(0, .str a0), (1, .int .i64 a1)] hS (by kernel_rfl) ?_; intro s hS
  refine x_nil ?_
  refine sq_n ?_
  refine c_seq ?_
  refine c_seq ?_
  refine c_region ?_
  refine q_seg 5 [(9, .bool (decide ((a0.size : Int) ≤ a1))), (0, .str a0), (1, .int .i64 a1)] hS (by kernel_rfl) ?_; intro s hS
  by_cases hc1 : (decide ((a0.size : Int) ≤ a1)) = true
  · have h := it_pos hc1 h
    have hS := sub_bt hS hc1
    refine q_seg 6 [(0, .str a0), (1, .int .i64 a1), (15, .bool true)] hS (by kernel_rfl) ?_; intro s hS
    refine x_nil ?_
    refine sq_n ?_
    refine c_cond (t := true) hS rfl (fun _ => ?_) (fun hf => by cases hf)
    refine c_seq ?_
    refine c_region ?_
    refine q_seg 2 [(4, .int .i64 a1)] hS (by kernel_rfl) ?_; intro s hS
    refine x_nil ?_
    refine sq_n ?_
    refine c_ret ?_
    refine sq_r ?_
    injection h with h; subst h
    exact end_W hH (r_tmp (v := .int .i64 a1) hS rfl r_nil) rfl (by kernel_rfl) (by simp [pureT, pureL, E_i64])
  · have h := it_neg hc1 h
    have hS := sub_bt hS (tt_of hc1)
    refine q_seg 2 [(0, .str a0), (1, .int .i64 a1), (9, .bool false), (10, .str a0), (11, .int .i64 a1)] hS (by kernel_rfl) ?_; intro s hS
    obtain ⟨y1, hy1, h⟩ := bind_some h
    refine q_byteO rfl hS rfl rfl (by kernel_rfl) hy1 ?_; intro s hS
    obtain ⟨y2, hy2, h⟩ := bind_some h
    refine q_callF (a := []) (b := []) (xs := [.int .u8 y1]) rfl hS rfl rfl hy2 ?_; intro s hS
    refine q_seg 2 [(0, .str a0), (1, .int .i64 a1), (15, .bool (!y2))] hS (by kernel_rfl) ?_; intro s hS
    refine x_nil ?_
    refine sq_n ?_
    by_cases hc2 : (!y2) = true
    · have h := it_pos hc2 h
      refine c_cond hS rfl (fun _ => ?_) (fun hf => ff_absurd hc2 hf)
      refine c_seq ?_
      refine c_region ?_
      refine q_seg 2 [(4, .int .i64 a1)] hS (by kernel_rfl) ?_; intro s hS
      refine x_nil ?_
      refine sq_n ?_
      refine c_ret ?_
      refine sq_r ?_
      injection h with h; subst h
      exact end_W hH (r_tmp (v := .int .i64 a1) hS rfl r_nil) rfl (by kernel_rfl) (by simp [pureT, pureL, E_i64])
    · have h := it_neg hc2 h
      refine c_cond hS rfl (fun hf => tt_absurd hc2 hf) (fun _ => ?_)
      refine c_skip ?_
      refine sq_n ?_
      refine c_seq ?_
      refine c_block ?_
      obtain ⟨y3, hy3, h⟩ := bind_some h
      refine c_loop (fun (st1 : Int) (fr : Fr) => Sub [(0, .str a0), (1, .int .i64 st1)] fr.s ∧ Heap σ0 fr.σ []) (fun (y3 : Int) (e : AExit) (fr : Fr) => e = (.exit 0) ∧ Sub [(1, .int .i64 y3)] fr.s ∧ Heap σ0 fr.σ []) hy3 (And.intro (sub_to hS (by kernel_rfl)) hH) ?_ ?_
      · clear h hy3 hS hH; clear y3; intro st1 x fr h HI; obtain ⟨s, σ⟩ := fr; obtain ⟨hS, hH⟩ := HI
        refine c_seq ?_
        refine c_seq ?_
        refine c_region ?_
        refine q_seg 5 [(21, .bool (decide (st1 < (a0.size : Int)))), (0, .str a0), (1, .int .i64 st1)] hS (by kernel_rfl) ?_; intro s hS
        by_cases hc3 : (decide (st1 < (a0.size : Int))) = true
        · have h := it_pos hc3 h
          have hS := sub_bt hS hc3
          refine q_seg 2 [(0, .str a0), (1, .int .i64 st1), (21, .bool true), (22, .str a0), (23, .int .i64 st1)] hS (by kernel_rfl) ?_; intro s hS
          obtain ⟨y4, hy4, h⟩ := bind_some h
          refine q_byteO rfl hS rfl rfl (by kernel_rfl) hy4 ?_; intro s hS
          obtain ⟨y5, hy5, h⟩ := bind_some h
          refine q_callF (a := []) (b := []) (xs := [.int .u8 y4]) rfl hS rfl rfl hy5 ?_; intro s hS
          refine q_seg 1 [(26, .bool y5), (0, .str a0), (1, .int .i64 st1), (21, .bool true)] hS (by kernel_rfl) ?_; intro s hS
          by_cases hc4 : y5 = true
          · have h := it_pos hc4 h
            have hS := sub_bt hS hc4
            refine q_seg 12 [(0, .str a0), (1, .int .i64 st1), (38, .bool true)] hS (by kernel_rfl) ?_; intro s hS
            refine x_nil ?_
            refine sq_n ?_
            refine c_cond (t := true) hS rfl (fun _ => ?_) (fun hf => by cases hf)
            refine c_skip ?_
            refine sq_n ?_
            refine c_block ?_
            refine c_region ?_
            refine q_seg 3 [(0, .str a0), (1, .int .i64 (IntKind.i64.wrap (st1 + 1)))] hS (by kernel_rfl) ?_; intro s hS
            refine x_nil ?_
            refine bk_n ?_
            injection h with h; subst h
            exact And.intro (sub_to hS (by kernel_rfl)) hH
          · have h := it_neg hc4 h
            have hS := sub_bt hS (tt_of hc4)
            refine q_seg 2 [(0, .str a0), (1, .int .i64 st1), (21, .bool true), (26, .bool false), (27, .str a0), (28, .int .i64 st1)] hS (by kernel_rfl) ?_; intro s hS
            obtain ⟨y6, hy6, h⟩ := bind_some h
            refine q_byteO rfl hS rfl rfl (by kernel_rfl) hy6 ?_; intro s hS
            obtain ⟨y7, hy7, h⟩ := bind_some h
            refine q_callF (a := []) (b := []) (xs := [.int .u8 y6]) rfl hS rfl rfl hy7 ?_; intro s hS
            refine q_seg 2 [(32, .bool y7), (0, .str a0), (1, .int .i64 st1), (21, .bool true)] hS (by kernel_rfl) ?_; intro s hS
            by_cases hc5 : y7 = true
            · have h := it_pos hc5 h
              have hS := sub_bt hS hc5
              refine q_seg 6 [(0, .str a0), (1, .int .i64 st1), (38, .bool true)] hS (by kernel_rfl) ?_; intro s hS
              refine x_nil ?_
              refine sq_n ?_
              refine c_cond (t := true) hS rfl (fun _ => ?_) (fun hf => by cases hf)
              refine c_skip ?_
              refine sq_n ?_
              refine c_block ?_
              refine c_region ?_
              refine q_seg 3 [(0, .str a0), (1, .int .i64 (IntKind.i64.wrap (st1 + 1)))] hS (by kernel_rfl) ?_; intro s hS
              refine x_nil ?_
              refine bk_n ?_
              injection h with h; subst h
              exact And.intro (sub_to hS (by kernel_rfl)) hH
            · have h := it_neg hc5 h
              have hS := sub_bt hS (tt_of hc5)
              refine q_seg 2 [(0, .str a0), (1, .int .i64 st1), (21, .bool true), (32, .bool false), (33, .str a0), (34, .int .i64 st1)] hS (by kernel_rfl) ?_; intro s hS
              obtain ⟨y8, hy8, h⟩ := bind_some h
              refine q_byteO rfl hS rfl rfl (by kernel_rfl) hy8 ?_; intro s hS
              refine q_seg 3 [(0, .str a0), (1, .int .i64 st1), (38, .bool (decide (y8 = 95)))] hS (by kernel_rfl) ?_; intro s hS
              refine x_nil ?_
              refine sq_n ?_
              by_cases hc6 : (decide (y8 = 95)) = true
              · have h := it_pos hc6 h
                refine c_cond hS rfl (fun _ => ?_) (fun hf => ff_absurd hc6 hf)
                refine c_skip ?_
                refine sq_n ?_
                refine c_block ?_
                refine c_region ?_
                refine q_seg 3 [(0, .str a0), (1, .int .i64 (IntKind.i64.wrap (st1 + 1)))] hS (by kernel_rfl) ?_; intro s hS
                refine x_nil ?_
                refine bk_n ?_
                injection h with h; subst h
                exact And.intro (sub_to hS (by kernel_rfl)) hH
              · have h := it_neg hc6 h
                refine c_cond hS rfl (fun hf => tt_absurd hc6 hf) (fun _ => ?_)
                refine c_exit ?_
                refine sq_x ?_
                injection h with h; subst h
                exact And.intro rfl (And.intro (sub_to hS (by kernel_rfl)) hH)
        · have h := it_neg hc3 h
          have hS := sub_bt hS (tt_of hc3)
          refine q_seg 17 [(0, .str a0), (1, .int .i64 st1), (38, .bool false)] hS (by kernel_rfl) ?_; intro s hS
          refine x_nil ?_
          refine sq_n ?_
          refine c_cond (t := false) hS rfl (fun hf => by cases hf) (fun _ => ?_)
          refine c_exit ?_
          refine sq_x ?_
          injection h with h; subst h
          exact And.intro rfl (And.intro (sub_to hS (by kernel_rfl)) hH)
      · clear hS hH; intro e fr HF; obtain ⟨s, σ⟩ := fr
        obtain ⟨rfl, hS, hH⟩ := HF
        refine bk_e ?_
        refine sq_n ?_
        refine c_seq ?_
        refine c_region ?_
        refine q_seg 2 [(4, .int .i64 y3)] hS (by kernel_rfl) ?_; intro s hS
        refine x_nil ?_
        refine sq_n ?_
        refine c_ret ?_
        injection h with h; subst h
        exact end_W hH (r_tmp (v := .int .i64 y3) hS rfl r_nil) rfl (by kernel_rfl) (by simp [pureT, pureL, E_i64])
end Go.Am
end
section
set_option maxRecDepth 100000
set_option maxHeartbeats 4000000
set_option linter.unusedVariables false
set_option linter.unusedSimpArgs false
namespace Go.Am
open Go.Proofs
noncomputable def B_impl_isDigit (a0 : Int) : Option Bool := (if (decide (48 ≤ a0)) = true then (some (decide (a0 ≤ 57))) else (some false))
theorem u_impl_isDigit (a0 : Int) (r : Bool) (h : B_impl_isDigit a0 = some r) : F_impl_isDigit a0 = some r := by
  unfold B_impl_isDigit at h
  refine semW_of E_bool_inj rfl rfl ok_112 rfl (all_cons (by kernel_rfl) all_nil) ?_
  intro σ0 s hS hH
  have hS := sub_to (L' := [(0, .int .u8 a0)]) hS (by kernel_rfl)
  refine c_seq ?_
  refine c_region ?_
  refine q_seg 1 [(0, .int .u8 a0)] hS (by kernel_rfl) ?_; intro s hS
  refine x_nil ?_
  refine sq_n ?_
  refine c_seq ?_
  refine c_region ?_
  refine q_seg 3 [(5, .bool (decide (48 ≤ a0))), (0, .int .u8 a0)] hS (by kernel_rfl) ?_; intro s hS
  by_cases hc1 : (decide (48 ≤ a0)) = true
  · have h := it_pos hc1 h
    have hS := sub_bt hS hc1
    refine q_seg 4 [(2, .bool (decide (a0 ≤ 57)))] hS (by kernel_rfl) ?_; intro s hS
    refine x_nil ?_
    refine sq_n ?_
    refine c_ret ?_
    injection h with h; subst h
    exact end_W hH (r_tmp (v := .bool (decide (a0 ≤ 57))) hS rfl r_nil) rfl (by kernel_rfl) (by simp [pureT, pureL, E_bool])
  · have h := it_neg hc1 h
    have hS := sub_bt hS (tt_of hc1)
    refine q_seg 4 [(2, .bool false)] hS (by kernel_rfl) ?_; intro s hS
    refine x_nil ?_
    refine sq_n ?_
    refine c_ret ?_
    injection h with h; subst h
    exact end_W hH (r_tmp (v := .bool false) hS rfl r_nil) rfl (by kernel_rfl) (by simp [pureT, pureL, E_bool])
end Go.Am
end
section
set_option maxRecDepth 100000
set_option maxHeartbeats 4000000
set_option linter.unusedVariables false
set_option linter.unusedSimpArgs false
namespace Go.Am
open Go.Proofs
noncomputable def B_cmp_isNaN_string (a0 : ByteArray) : Option Bool := (some (!decide (a0 = a0)))
theorem u_cmp_isNaN_string (a0 : ByteArray) (r : Bool) (h : B_cmp_isNaN_string a0 = some r) : F_cmp_isNaN_string a0 = some r := by
  unfold B_cmp_isNaN_string at h
  refine semW_of E_bool_inj rfl rfl ok_113 rfl (all_cons (by kernel_rfl) all_nil) ?_
  intro σ0 s hS hH
  have hS := sub_to (L' := [(0, .str a0)]) hS (by kernel_rfl)
  refine c_seq ?_
  refine c_region ?_
  refine q_seg 1 [(0, .str a0)] hS (by kernel_rfl) ?_; intro s hS
  refine x_nil ?_
  refine sq_n ?_
  refine c_seq ?_
  refine c_region ?_
  refine q_seg 4 [(2, .bool (!decide (a0 = a0)))] hS (by kernel_rfl) ?_; intro s hS
  refine x_nil ?_
  refine sq_n ?_
  refine c_ret ?_
  injection h with h; subst h
  exact end_W hH (r_tmp (v := .bool (!decide (a0 = a0))) hS rfl r_nil) rfl (by kernel_rfl) (by simp [pureT, pureL, E_bool])
end Go.Am
end
section
set_option maxRecDepth 100000
set_option maxHeartbeats 4000000
set_option linter.unusedVariables false
set_option linter.unusedSimpArgs false
namespace Go.Am
open Go.Proofs
noncomputable def B_spec_l02Letter (a0 : Int) : Option Bool := (if (decide (65 ≤ a0)) = true then (if (decide (a0 ≤ 90)) = true then (some true) else (if (decide (97 ≤ a0)) = true then (some (decide (a0 ≤ 122))) else (some false))) else (if (decide (97 ≤ a0)) = true then (some (decide (a0 ≤ 122))) else (some false)))
theorem u_spec_l02Letter (a0 : Int) (r : Bool) (h : B_spec_l02Letter a0 = some r) : F_spec_l02Letter a0 = some r := by
  unfold B_spec_l02Letter at h
  refine semW_of E_bool_inj rfl rfl ok_116 rfl (all_cons (by kernel_rfl) all_nil) ?_
  intro σ0 s hS hH
  have hS := sub_to (L' := [(0, .int .u8 a0)]) hS (by kernel_rfl)
  refine c_seq ?_
  refine c_region ?_
  refine q_seg 1 [(0, .int .u8 a0)] hS (by kernel_rfl) ?_; intro s hS
  refine x_nil ?_
  refine sq_n ?_
  refine c_seq ?_
  refine c_region ?_
  refine q_seg 3 [(5, .bool (decide (65 ≤ a0))), (0, .int .u8 a0)] hS (by kernel_rfl) ?_; intro s hS
  by_cases hc1 : (decide (65 ≤ a0)) = true
  · have h := it_pos hc1 h
    have hS := sub_bt hS hc1
    refine q_seg 4 [(9, .bool (decide (a0 ≤ 90))), (0, .int .u8 a0)] hS (by kernel_rfl) ?_; intro s hS
    by_cases hc2 : (decide (a0 ≤ 90)) = true
    · have h := it_pos hc2 h
      have hS := sub_bt hS hc2
      refine q_seg 8 [(2, .bool true)] hS (by kernel_rfl) ?_; intro s hS
      refine x_nil ?_
      refine sq_n ?_
      refine c_ret ?_
      injection h with h; subst h
      exact end_W hH (r_tmp (v := .bool true) hS rfl r_nil) rfl (by kernel_rfl) (by simp [pureT, pureL, E_bool])
    · have h := it_neg hc2 h
      have hS := sub_bt hS (tt_of hc2)
      refine q_seg 3 [(12, .bool (decide (97 ≤ a0))), (0, .int .u8 a0), (9, .bool false)] hS (by kernel_rfl) ?_; intro s hS
      by_cases hc3 : (decide (97 ≤ a0)) = true
      · have h := it_pos hc3 h
        have hS := sub_bt hS hc3
        refine q_seg 5 [(2, .bool (decide (a0 ≤ 122)))] hS (by kernel_rfl) ?_; intro s hS
        refine x_nil ?_
        refine sq_n ?_
        refine c_ret ?_
        injection h with h; subst h
        exact end_W hH (r_tmp (v := .bool (decide (a0 ≤ 122))) hS rfl r_nil) rfl (by kernel_rfl) (by simp [pureT, pureL, E_bool])
      · have h := it_neg hc3 h
        have hS := sub_bt hS (tt_of hc3)
        refine q_seg 5 [(2, .bool false)] hS (by kernel_rfl) ?_; intro s hS
        refine x_nil ?_
        refine sq_n ?_
        refine c_ret ?_
        injection h with h; subst h
        exact end_W hH (r_tmp (v := .bool false) hS rfl r_nil) rfl (by kernel_rfl) (by simp [pureT, pureL, E_bool])
  · have h := it_neg hc1 h
    have hS := sub_bt hS (tt_of hc1)
    refine q_seg 7 [(12, .bool (decide (97 ≤ a0))), (0, .int .u8 a0), (9, .bool false)] hS (by kernel_rfl) ?_; intro s hS
    by_cases hc4 : (decide (97 ≤ a0)) = true
    · have h := it_pos hc4 h
      have hS := sub_bt hS hc4
      refine q_seg 5 [(2, .bool (decide (a0 ≤ 122)))] hS (by kernel_rfl) ?_; intro s hS
      refine x_nil ?_
      refine sq_n ?_
      refine c_ret ?_
      injection h with h; subst h
      exact end_W hH (r_tmp (v := .bool (decide (a0 ≤ 122))) hS rfl r_nil) rfl (by kernel_rfl) (by simp [pureT, pureL, E_bool])
    · have h := it_neg hc4 h
      have hS := sub_bt hS (tt_of hc4)
      refine q_seg 5 [(2, .bool false)] hS (by kernel_rfl) ?_; intro s hS
      refine x_nil ?_
      refine sq_n ?_
      refine c_ret ?_
      injection h with h; subst h
      exact end_W hH (r_tmp (v := .bool false) hS rfl r_nil) rfl (by kernel_rfl) (by simp [pureT, pureL, E_bool])
end Go.Am
end
section
set_option maxRecDepth 100000
set_option maxHeartbeats 4000000
set_option linter.unusedVariables false
set_option linter.unusedSimpArgs false
namespace Go.Am
open Go.Proofs
noncomputable def B_spec_l02Digit (a0 : Int) : Option Bool := (if (decide (48 ≤ a0)) = true then (some (decide (a0 ≤ 57))) else (some false))
theorem u_spec_l02Digit (a0 : Int) (r : Bool) (h : B_spec_l02Digit a0 = some r) : F_spec_l02Digit a0 = some r := by
  unfold B_spec_l02Digit at h
  refine semW_of E_bool_inj rfl rfl ok_117 rfl (all_cons (by kernel_rfl) all_nil) ?_
  intro σ0 s hS hH
  have hS := sub_to (L' := [(0, .int .u8 a0)]) hS (by kernel_rfl)
  refine c_seq ?_
  refine c_region ?_
  refine q_seg 1 [(0, .int .u8 a0)] hS (by kernel_rfl) ?_; intro s hS
  refine x_nil ?_
  refine sq_n ?_
  refine c_seq ?_
  refine c_region ?_
  refine q_seg 3 [(5, .bool (decide (48 ≤ a0))), (0, .int .u8 a0)] hS (by kernel_rfl) ?_; intro s hS
  by_cases hc1 : (decide (48 ≤ a0)) = true
  · have h := it_pos hc1 h
    have hS := sub_bt hS hc1
    refine q_seg 4 [(2, .bool (decide (a0 ≤ 57)))] hS (by kernel_rfl) ?_; intro s hS
    refine x_nil ?_
    refine sq_n ?_
    refine c_ret ?_
    injection h with h; subst h
    exact end_W hH (r_tmp (v := .bool (decide (a0 ≤ 57))) hS rfl r_nil) rfl (by kernel_rfl) (by simp [pureT, pureL, E_bool])
  · have h := it_neg hc1 h
    have hS := sub_bt hS (tt_of hc1)
    refine q_seg 4 [(2, .bool false)] hS (by kernel_rfl) ?_; intro s hS
    refine x_nil ?_
    refine sq_n ?_
    refine c_ret ?_
    injection h with h; subst h
    exact end_W hH (r_tmp (v := .bool false) hS rfl r_nil) rfl (by kernel_rfl) (by simp [pureT, pureL, E_bool])
end Go.Am
end
