/- Functions of the program. -/
import Derived.Test.YtfnjieagnkmceaaAd0
set_option maxRecDepth 100000
set_option maxHeartbeats 4000000
set_option linter.unusedVariables false
set_option linter.unusedSimpArgs false
namespace Go.Am
open Go.Proofs
noncomputable def B_laws_heldHeap (a0 : DHeap) (a1 : Int) : Option Int := ((F_laws_heldObjectS a0.Objects a1).bind fun y1 => (if (decide (y1 < 0)) = true then (some (-1)) else (some y1)))
theorem u_laws_heldHeap (a0 : DHeap) (a1 : Int) (r : Int) (h : B_laws_heldHeap a0 a1 = some r) : F_laws_heldHeap a0 a1 = some r := by
 unfold B_laws_heldHeap at h
 refine semW_of E_i64_inj rfl rfl ok_27 rfl (all_cons (by kernel_rfl) (all_cons (by kernel_rfl) all_nil)) ?_
 intro σ0 s hS hH
 have hS := sub_to (L' := [(0, .agg (DHeap.cells a0)), (1, i4 a1)]) hS (by kernel_rfl)
 refine c_seq (c_region ?_)
 refine q_box (v := .agg (DHeap.cells a0)) (cs := [i4 a0.Next, a0.Objects.t]) rfl hS hH rfl rfl (by kernel_rfl) ?_; intro b1 σ s hH hS
 refine qs 1 [(1, i4 a1), (2, .ptr b1 0 0 2)] hS ?_; intro s hS
 refine x_nil (sq_n (c_seq (c_region ?_)))
 refine qs 1 [(1, i4 a1), (5, .ptr b1 0 1 1)] hS ?_; intro s hS
 refine q_load (v := a0.Objects.t) 0 trivial rfl hS hH rfl rfl (by kernel_rfl) ?_; intro s hS
 refine qs 1 [(6, a0.Objects.t), (7, i4 a1)] hS ?_; intro s hS
 obtain ⟨y1, hy1, h⟩ := bind_some h
 refine q_callF (a := []) (b := []) (xs := [a0.Objects.t, i4 a1]) rfl hS rfl rfl hy1 ?_; intro s hS
 refine qs 1 [(1, i4 y1)] hS ?_; intro s hS
 refine x_nil (sq_n (c_seq (c_seq (c_region ?_))))
 refine qs 2 [(1, i4 y1), (10, .bool (decide (y1 < 0)))] hS ?_; intro s hS
 refine x_nil (sq_n ?_)
 by_cases hc1 : (decide (y1 < 0)) = true
 ·have h := it_pos hc1 h
  refine c_cond hS rfl (fun _ => ?_) (fun hf => ff_absurd hc1 hf)
  refine c_seq (c_region ?_)
  refine qs 1 [(4, i4 (-1))] hS ?_; intro s hS
  refine x_nil (sq_n (c_ret (sq_r ?_)))
  injection h with h; subst h
  exact end_W hH (r_tmp (v := i4 (-1)) hS rfl r_nil) rfl (by kernel_rfl) (by simp [pureT, pureL, E_i64])
 ·have h := it_neg hc1 h
  refine c_cond hS rfl (fun hf => tt_absurd hc1 hf) (fun _ => ?_)
  refine c_skip (sq_n (c_seq (c_region ?_)))
  refine qs 2 [(4, i4 y1)] hS ?_; intro s hS
  refine x_nil (sq_n (c_ret ?_))
  injection h with h; subst h
  exact end_W hH (r_tmp (v := i4 y1) hS rfl r_nil) rfl (by kernel_rfl) (by simp [pureT, pureL, E_i64])
noncomputable def B_laws_szValue (a0 : DValue) (a1 : Int) : Option Int := (if (decide ((IntKind.i64.wrap (a1 - (a0.Text.size : Int))) < 0)) = true then (some (-1)) else (some (IntKind.i64.wrap (a1 - (a0.Text.size : Int)))))
theorem u_laws_szValue (a0 : DValue) (a1 : Int) (r : Int) (h : B_laws_szValue a0 a1 = some r) : F_laws_szValue a0 a1 = some r := by
 unfold B_laws_szValue at h
 refine semW_of E_i64_inj rfl rfl ok_30 rfl (all_cons (by kernel_rfl) (all_cons (by kernel_rfl) all_nil)) ?_
 intro σ0 s hS hH
 have hS := sub_to (L' := [(0, .agg (DValue.cells a0)), (1, i4 a1)]) hS (by kernel_rfl)
 refine c_seq (c_region ?_)
 refine q_box (v := .agg (DValue.cells a0)) (cs := [i4 a0.Kind, i4 a0.Num, .str a0.Text, i4 a0.Ref]) rfl hS hH rfl rfl (by kernel_rfl) ?_; intro b1 σ s hH hS
 refine qs 1 [(1, i4 a1), (2, .ptr b1 0 0 4)] hS ?_; intro s hS
 refine x_nil (sq_n (c_seq (c_region ?_)))
 refine qs 2 [(5, i4 a1), (6, .ptr b1 0 2 1)] hS ?_; intro s hS
 refine q_load (v := .str a0.Text) 0 trivial rfl hS hH rfl rfl (by kernel_rfl) ?_; intro s hS
 refine qs 3 [(1, i4 (IntKind.i64.wrap (a1 - (a0.Text.size : Int))))] hS ?_; intro s hS
 refine x_nil (sq_n (c_seq (c_seq (c_region ?_))))
 refine qs 2 [(1, i4 (IntKind.i64.wrap (a1 - (a0.Text.size : Int)))), (11, .bool (decide ((IntKind.i64.wrap (a1 - (a0.Text.size : Int))) < 0)))] hS ?_; intro s hS
 refine x_nil (sq_n ?_)
 by_cases hc1 : (decide ((IntKind.i64.wrap (a1 - (a0.Text.size : Int))) < 0)) = true
 ·have h := it_pos hc1 h
  refine c_cond hS rfl (fun _ => ?_) (fun hf => ff_absurd hc1 hf)
  refine c_seq (c_region ?_)
  refine qs 1 [(4, i4 (-1))] hS ?_; intro s hS
  refine x_nil (sq_n (c_ret (sq_r ?_)))
  injection h with h; subst h
  exact end_W hH (r_tmp (v := i4 (-1)) hS rfl r_nil) rfl (by kernel_rfl) (by simp [pureT, pureL, E_i64])
 ·have h := it_neg hc1 h
  refine c_cond hS rfl (fun hf => tt_absurd hc1 hf) (fun _ => ?_)
  refine c_skip (sq_n (c_seq (c_region ?_)))
  refine qs 2 [(4, i4 (IntKind.i64.wrap (a1 - (a0.Text.size : Int))))] hS ?_; intro s hS
  refine x_nil (sq_n (c_ret ?_))
  injection h with h; subst h
  exact end_W hH (r_tmp (v := i4 (IntKind.i64.wrap (a1 - (a0.Text.size : Int)))) hS rfl r_nil) rfl (by kernel_rfl) (by simp [pureT, pureL, E_i64])
noncomputable def B_laws_toValue (a0 : DValue) : Option DValue := (some a0)
theorem u_laws_toValue (a0 : DValue) (r : DValue) (h : B_laws_toValue a0 = some r) : F_laws_toValue a0 = some r := by
 unfold B_laws_toValue at h
 refine semW_of E_DValue_inj rfl rfl ok_32 rfl (all_cons (by kernel_rfl) all_nil) ?_
 intro σ0 s hS hH
 have hS := sub_to (L' := [(0, .agg (DValue.cells a0))]) hS (by kernel_rfl)
 refine c_seq (c_region ?_)
 refine q_box (v := .agg (DValue.cells a0)) (cs := [i4 a0.Kind, i4 a0.Num, .str a0.Text, i4 a0.Ref]) rfl hS hH rfl rfl (by kernel_rfl) ?_; intro b1 σ s hH hS
 refine q_alloc (z := [i4 0, i4 0, .str ⟨#[]⟩, i4 0]) rfl hS hH (by kernel_rfl) ?_; intro b2 σ s hH hS
 refine x_nil (sq_n (c_seq (c_region ?_)))
 refine q_alloc (z := [i4 0, i4 0, .str ⟨#[]⟩, i4 0]) rfl hS hH (by kernel_rfl) ?_; intro b3 σ s hH hS
 refine x_nil (sq_n (c_seq (c_region ?_)))
 refine qs 1 [(1, .ptr b1 0 0 4), (2, .ptr b2 0 0 4), (3, .ptr b3 0 0 4), (4, .ptr b1 0 0 1)] hS ?_; intro s hS
 refine q_load (v := i4 a0.Kind) 2 trivial rfl hS hH rfl rfl (by kernel_rfl) ?_; intro s hS
 refine qs 1 [(1, .ptr b1 0 0 4), (2, .ptr b2 0 0 4), (3, .ptr b3 0 0 4), (5, i4 a0.Kind), (6, .ptr b3 0 0 1)] hS ?_; intro s hS
 refine q_store (v := i4 a0.Kind) (cs := [i4 a0.Kind]) (cells' := [i4 a0.Kind, i4 0, .str ⟨#[]⟩, i4 0]) rfl hS hH rfl rfl rfl (by kernel_rfl) (by kernel_rfl) ?_; intro σ s hH hS
 refine x_nil (sq_n (c_seq (c_region ?_)))
 refine qs 1 [(1, .ptr b1 0 0 4), (2, .ptr b2 0 0 4), (3, .ptr b3 0 0 4), (7, .ptr b1 0 1 1)] hS ?_; intro s hS
 refine q_load (v := i4 a0.Num) 2 trivial rfl hS hH rfl rfl (by kernel_rfl) ?_; intro s hS
 refine qs 1 [(1, .ptr b1 0 0 4), (2, .ptr b2 0 0 4), (3, .ptr b3 0 0 4), (8, i4 a0.Num), (9, .ptr b3 0 1 1)] hS ?_; intro s hS
 refine q_store (v := i4 a0.Num) (cs := [i4 a0.Num]) (cells' := [i4 a0.Kind, i4 a0.Num, .str ⟨#[]⟩, i4 0]) rfl hS hH rfl rfl rfl (by kernel_rfl) (by kernel_rfl) ?_; intro σ s hH hS
 refine x_nil (sq_n (c_seq (c_region ?_)))
 refine qs 1 [(1, .ptr b1 0 0 4), (2, .ptr b2 0 0 4), (3, .ptr b3 0 0 4), (10, .ptr b1 0 2 1)] hS ?_; intro s hS
 refine q_load (v := .str a0.Text) 2 trivial rfl hS hH rfl rfl (by kernel_rfl) ?_; intro s hS
 refine qs 1 [(1, .ptr b1 0 0 4), (2, .ptr b2 0 0 4), (3, .ptr b3 0 0 4), (11, .str a0.Text), (12, .ptr b3 0 2 1)] hS ?_; intro s hS
 refine q_store (v := .str a0.Text) (cs := [.str a0.Text]) (cells' := [i4 a0.Kind, i4 a0.Num, .str a0.Text, i4 0]) rfl hS hH rfl rfl rfl (by kernel_rfl) (by kernel_rfl) ?_; intro σ s hH hS
 refine x_nil (sq_n (c_seq (c_region ?_)))
 refine qs 1 [(2, .ptr b2 0 0 4), (3, .ptr b3 0 0 4), (13, .ptr b1 0 3 1)] hS ?_; intro s hS
 refine q_load (v := i4 a0.Ref) 2 trivial rfl hS hH rfl rfl (by kernel_rfl) ?_; intro s hS
 refine qs 1 [(2, .ptr b2 0 0 4), (3, .ptr b3 0 0 4), (14, i4 a0.Ref), (15, .ptr b3 0 3 1)] hS ?_; intro s hS
 refine q_store (v := i4 a0.Ref) (cs := [i4 a0.Ref]) (cells' := [i4 a0.Kind, i4 a0.Num, .str a0.Text, i4 a0.Ref]) rfl hS hH rfl rfl rfl (by kernel_rfl) (by kernel_rfl) ?_; intro σ s hH hS
 refine x_nil (sq_n (c_seq (c_region ?_)))
 refine q_load (v := .agg (DValue.cells a0)) 0 trivial rfl hS hH rfl rfl (by kernel_rfl) ?_; intro s hS
 have hH : Heap σ0 σ [.box b2 [i4 0, i4 0, .str ⟨#[]⟩, i4 0], .box b3 (DValue.cells a0), .box b1 (DValue.cells a0)] := hH.sel [1, 0, 2] rfl (by kernel_rfl)
 refine q_store (v := .agg (DValue.cells a0)) (cs := [i4 a0.Kind, i4 a0.Num, .str a0.Text, i4 a0.Ref]) (cells' := [i4 a0.Kind, i4 a0.Num, .str a0.Text, i4 a0.Ref]) rfl hS hH rfl rfl rfl (by kernel_rfl) (by kernel_rfl) ?_; intro σ s hH hS
 refine x_nil (sq_n (c_ret ?_))
 injection h with h; subst h
 exact end_W hH (r_cell (v := .agg (DValue.cells a0)) hS hH rfl (by kernel_rfl) r_nil) rfl (by kernel_rfl) (by simp [pureT, pureL, E_DValue, DValue.cells])
noncomputable def B_laws_eqValue (a0 : DValue) (a1 : DValue) : Option Bool := (if (!decide (a0.Kind = a1.Kind)) = true then (some false) else (if (!decide (a0.Num = a1.Num)) = true then (some false) else (if (!decide (a0.Text = a1.Text)) = true then (some false) else (if (!decide (a0.Ref = a1.Ref)) = true then (some false) else (some true)))))
theorem u_laws_eqValue (a0 : DValue) (a1 : DValue) (r : Bool) (h : B_laws_eqValue a0 a1 = some r) : F_laws_eqValue a0 a1 = some r := by
 unfold B_laws_eqValue at h
 refine semW_of E_bool_inj rfl rfl ok_34 rfl (all_cons (by kernel_rfl) (all_cons (by kernel_rfl) all_nil)) ?_
 intro σ0 s hS hH
 have hS := sub_to (L' := [(0, .agg (DValue.cells a0)), (1, .agg (DValue.cells a1))]) hS (by kernel_rfl)
 refine c_seq (c_region ?_)
 refine q_box (v := .agg (DValue.cells a0)) (cs := [i4 a0.Kind, i4 a0.Num, .str a0.Text, i4 a0.Ref]) rfl hS hH rfl rfl (by kernel_rfl) ?_; intro b1 σ s hH hS
 refine q_box (v := .agg (DValue.cells a1)) (cs := [i4 a1.Kind, i4 a1.Num, .str a1.Text, i4 a1.Ref]) rfl hS hH rfl rfl (by kernel_rfl) ?_; intro b2 σ s hH hS
 refine qs 1 [(2, .ptr b1 0 0 4), (3, .ptr b2 0 0 4)] hS ?_; intro s hS
 refine x_nil (sq_n (c_seq (c_seq (c_region ?_))))
 refine qs 1 [(2, .ptr b1 0 0 4), (3, .ptr b2 0 0 4), (5, .ptr b1 0 0 1)] hS ?_; intro s hS
 refine q_load (v := i4 a0.Kind) 1 trivial rfl hS hH rfl rfl (by kernel_rfl) ?_; intro s hS
 refine qs 1 [(2, .ptr b1 0 0 4), (3, .ptr b2 0 0 4), (6, i4 a0.Kind), (7, .ptr b2 0 0 1)] hS ?_; intro s hS
 refine q_load (v := i4 a1.Kind) 0 trivial rfl hS hH rfl rfl (by kernel_rfl) ?_; intro s hS
 refine qs 1 [(2, .ptr b1 0 0 4), (3, .ptr b2 0 0 4), (9, .bool (!decide (a0.Kind = a1.Kind)))] hS ?_; intro s hS
 refine x_nil (sq_n ?_)
 by_cases hc1 : (!decide (a0.Kind = a1.Kind)) = true
 ·have h := it_pos hc1 h
  refine c_cond hS rfl (fun _ => ?_) (fun hf => ff_absurd hc1 hf)
  refine c_seq (c_region ?_)
  refine qs 1 [(4, .bool false)] hS ?_; intro s hS
  refine x_nil (sq_n (c_ret (sq_r ?_)))
  injection h with h; subst h
  exact end_W hH (r_tmp (v := .bool false) hS rfl r_nil) rfl (by kernel_rfl) (by simp [pureT, pureL, E_bool])
 ·have h := it_neg hc1 h
  refine c_cond hS rfl (fun hf => tt_absurd hc1 hf) (fun _ => ?_)
  refine c_skip (sq_n (c_seq (c_seq (c_region ?_))))
  refine qs 1 [(2, .ptr b1 0 0 4), (3, .ptr b2 0 0 4), (10, .ptr b1 0 1 1)] hS ?_; intro s hS
  refine q_load (v := i4 a0.Num) 1 trivial rfl hS hH rfl rfl (by kernel_rfl) ?_; intro s hS
  refine qs 1 [(2, .ptr b1 0 0 4), (3, .ptr b2 0 0 4), (11, i4 a0.Num), (12, .ptr b2 0 1 1)] hS ?_; intro s hS
  refine q_load (v := i4 a1.Num) 0 trivial rfl hS hH rfl rfl (by kernel_rfl) ?_; intro s hS
  refine qs 1 [(2, .ptr b1 0 0 4), (3, .ptr b2 0 0 4), (14, .bool (!decide (a0.Num = a1.Num)))] hS ?_; intro s hS
  refine x_nil (sq_n ?_)
  by_cases hc2 : (!decide (a0.Num = a1.Num)) = true
  ·have h := it_pos hc2 h
   refine c_cond hS rfl (fun _ => ?_) (fun hf => ff_absurd hc2 hf)
   refine c_seq (c_region ?_)
   refine qs 1 [(4, .bool false)] hS ?_; intro s hS
   refine x_nil (sq_n (c_ret (sq_r ?_)))
   injection h with h; subst h
   exact end_W hH (r_tmp (v := .bool false) hS rfl r_nil) rfl (by kernel_rfl) (by simp [pureT, pureL, E_bool])
  ·have h := it_neg hc2 h
   refine c_cond hS rfl (fun hf => tt_absurd hc2 hf) (fun _ => ?_)
   refine c_skip (sq_n (c_seq (c_seq (c_region ?_))))
   refine qs 1 [(2, .ptr b1 0 0 4), (3, .ptr b2 0 0 4), (15, .ptr b1 0 2 1)] hS ?_; intro s hS
   refine q_load (v := .str a0.Text) 1 trivial rfl hS hH rfl rfl (by kernel_rfl) ?_; intro s hS
   refine qs 1 [(2, .ptr b1 0 0 4), (3, .ptr b2 0 0 4), (16, .str a0.Text), (17, .ptr b2 0 2 1)] hS ?_; intro s hS
   refine q_load (v := .str a1.Text) 0 trivial rfl hS hH rfl rfl (by kernel_rfl) ?_; intro s hS
   refine qs 1 [(2, .ptr b1 0 0 4), (3, .ptr b2 0 0 4), (19, .bool (!decide (a0.Text = a1.Text)))] hS ?_; intro s hS
   refine x_nil (sq_n ?_)
   by_cases hc3 : (!decide (a0.Text = a1.Text)) = true
   ·have h := it_pos hc3 h
    refine c_cond hS rfl (fun _ => ?_) (fun hf => ff_absurd hc3 hf)
    refine c_seq (c_region ?_)
    refine qs 1 [(4, .bool false)] hS ?_; intro s hS
    refine x_nil (sq_n (c_ret (sq_r ?_)))
    injection h with h; subst h
    exact end_W hH (r_tmp (v := .bool false) hS rfl r_nil) rfl (by kernel_rfl) (by simp [pureT, pureL, E_bool])
   ·have h := it_neg hc3 h
    refine c_cond hS rfl (fun hf => tt_absurd hc3 hf) (fun _ => ?_)
    refine c_skip (sq_n (c_seq (c_seq (c_region ?_))))
    refine qs 1 [(3, .ptr b2 0 0 4), (20, .ptr b1 0 3 1)] hS ?_; intro s hS
    refine q_load (v := i4 a0.Ref) 1 trivial rfl hS hH rfl rfl (by kernel_rfl) ?_; intro s hS
    refine qs 1 [(21, i4 a0.Ref), (22, .ptr b2 0 3 1)] hS ?_; intro s hS
    refine q_load (v := i4 a1.Ref) 0 trivial rfl hS hH rfl rfl (by kernel_rfl) ?_; intro s hS
    refine qs 1 [(24, .bool (!decide (a0.Ref = a1.Ref)))] hS ?_; intro s hS
    refine x_nil (sq_n ?_)
    by_cases hc4 : (!decide (a0.Ref = a1.Ref)) = true
    ·have h := it_pos hc4 h
     refine c_cond hS rfl (fun _ => ?_) (fun hf => ff_absurd hc4 hf)
     refine c_seq (c_region ?_)
     refine qs 1 [(4, .bool false)] hS ?_; intro s hS
     refine x_nil (sq_n (c_ret (sq_r ?_)))
     injection h with h; subst h
     exact end_W hH (r_tmp (v := .bool false) hS rfl r_nil) rfl (by kernel_rfl) (by simp [pureT, pureL, E_bool])
    ·have h := it_neg hc4 h
     refine c_cond hS rfl (fun hf => tt_absurd hc4 hf) (fun _ => ?_)
     refine c_skip (sq_n (c_seq (c_region ?_)))
     refine qs 1 [(4, .bool true)] hS ?_; intro s hS
     refine x_nil (sq_n (c_ret ?_))
     injection h with h; subst h
     exact end_W hH (r_tmp (v := .bool true) hS rfl r_nil) rfl (by kernel_rfl) (by simp [pureT, pureL, E_bool])
noncomputable def B_spec_CopyObject (a0 : DHeap) (a1 : DValue) : Option (DHeap × DValue × Int) := ((F_spec_l09Fit a0 ⟨false, [a1]⟩).bind fun y1 => (if (!y1) = true then (some ((⟨0, ⟨true, []⟩⟩ : DHeap), (⟨0, 0, ⟨#[]⟩, 0⟩ : DValue), 1)) else ((F_spec_l07IsRef a1).bind fun y2 => (if (!y2) = true then (some ((⟨0, ⟨true, []⟩⟩ : DHeap), (⟨0, 0, ⟨#[]⟩, 0⟩ : DValue), 4)) else ((F_spec_l07Find a0 a1.Ref).bind fun y3 => ((elt a0.Objects y3).bind fun y4 => ((F_spec_l09Created a0 y4).bind fun y5 => (some (y5.1, y5.2.1, y5.2.2)))))))))
theorem u_spec_CopyObject (a0 : DHeap) (a1 : DValue) (r : (DHeap × DValue × Int)) (h : B_spec_CopyObject a0 a1 = some r) : F_spec_CopyObject a0 a1 = some r := by
 unfold B_spec_CopyObject at h
 refine semO_of rfl rfl ok_37 rfl (all_cons (by kernel_rfl) (all_cons (by kernel_rfl) all_nil)) ?_
 intro σ0 s hS hH
 have hS := sub_to (L' := [(0, .agg (DHeap.cells a0)), (1, .agg (DValue.cells a1))]) hS (by kernel_rfl)
 refine c_seq (c_region ?_)
 refine q_box (v := .agg (DHeap.cells a0)) (cs := [i4 a0.Next, a0.Objects.t]) rfl hS hH rfl rfl (by kernel_rfl) ?_; intro b1 σ s hH hS
 refine q_box (v := .agg (DValue.cells a1)) (cs := [i4 a1.Kind, i4 a1.Num, .str a1.Text, i4 a1.Ref]) rfl hS hH rfl rfl (by kernel_rfl) ?_; intro b2 σ s hH hS
 refine q_alloc (z := [i4 0, (nt DObject)]) rfl hS hH (by kernel_rfl) ?_; intro b3 σ s hH hS
 refine q_alloc (z := [i4 0, i4 0, .str ⟨#[]⟩, i4 0]) rfl hS hH (by kernel_rfl) ?_; intro b4 σ s hH hS
 refine qs 1 [(2, .ptr b1 0 0 2), (3, .ptr b2 0 0 4), (4, .ptr b3 0 0 2), (5, .ptr b4 0 0 4)] hS ?_; intro s hS
 refine x_nil (sq_n (c_seq (c_seq (c_region ?_))))
 refine q_load (v := .agg (DValue.cells a1)) 2 trivial rfl hS hH rfl rfl (by kernel_rfl) ?_; intro s hS
 refine q_bs (ents := []) (e := 28) (sz := 4) (z := true) (vs := [.agg (DValue.cells a1)]) (zc := [i4 0, i4 0, .str ⟨#[]⟩, i4 0]) (cs := [i4 a1.Kind, i4 a1.Num, .str a1.Text, i4 a1.Ref]) (us := [i4 a1.Kind, i4 a1.Num, .str a1.Text, i4 a1.Ref]) (v := Sl.t (⟨false, [a1]⟩ : Sl DValue)) rfl hS hH (by kernel_rfl) (by kernel_rfl) (by kernel_rfl) (by kernel_rfl) (by kernel_rfl) (And.intro (by kernel_rfl) (And.intro (by kernel_rfl) trivial)) (by kernel_rfl) (HLi (HLi (HLs (HLi HL.nil)))) (by kernel_rfl) ?_; intro t1 σ s ht1 hH hS
 obtain ⟨y1, hy1, h⟩ := bind_some h
 refine q_callLH (ents := [.own true 4 t1 (Sl.t (⟨false, [a1]⟩ : Sl DValue))]) (ts := [.ptr b1 0 0 2, t1]) (vs := [.ptr b1 0 0 2, (Sl.t (⟨false, [a1]⟩ : Sl DValue))]) (cs := [[i4 a0.Next, a0.Objects.t]]) [b1] rfl hS rfl rfl rfl hH (HL.leaf (fun σ d => by cases d <;> rfl) (HL.own rfl HL.nil)) rfl (And.intro (Heap.lent (hH.at 4 rfl)) trivial) hy1 (by kernel_rfl) ?_; intro s hS
 refine qs 1 [(2, .ptr b1 0 0 2), (3, .ptr b2 0 0 4), (4, .ptr b3 0 0 2), (5, .ptr b4 0 0 4), (10, .bool (!y1))] hS ?_; intro s hS
 refine x_nil (sq_n ?_)
 by_cases hc1 : (!y1) = true
 ·have h := it_pos hc1 h
  refine c_cond hS rfl (fun _ => ?_) (fun hf => ff_absurd hc1 hf)
  refine c_seq (c_region ?_)
  refine qs 2 [(4, .ptr b3 0 0 2), (5, .ptr b4 0 0 4), (11, .agg [i4 0, (nt DObject)]), (12, .agg [i4 0, i4 0, .str ⟨#[]⟩, i4 0])] hS ?_; intro s hS
  have hH : Heap σ0 σ [.box b3 [i4 0, (nt DObject)], .own true 4 t1 (Sl.t (⟨false, [a1]⟩ : Sl DValue)), .box b4 [i4 0, i4 0, .str ⟨#[]⟩, i4 0], .box b2 (DValue.cells a1), .box b1 (DHeap.cells a0)] := hH.sel [2, 0, 1, 3, 4] rfl (by kernel_rfl)
  refine q_storeA (cs := [i4 0, (nt DObject)]) rfl hS hH rfl rfl (by kernel_rfl) ?_; intro σ s hH hS
  have hH : Heap σ0 σ [.box b4 [i4 0, i4 0, .str ⟨#[]⟩, i4 0], .box b3 [i4 0, (nt DObject)], .own true 4 t1 (Sl.t (⟨false, [a1]⟩ : Sl DValue)), .box b2 (DValue.cells a1), .box b1 (DHeap.cells a0)] := hH.sel [2, 0, 1, 3, 4] rfl (by kernel_rfl)
  refine q_storeA (cs := [i4 0, i4 0, .str ⟨#[]⟩, i4 0]) rfl hS hH rfl rfl (by kernel_rfl) ?_; intro σ s hH hS
  refine qs 1 [(4, .ptr b3 0 0 2), (5, .ptr b4 0 0 4), (6, i4 1)] hS ?_; intro s hS
  refine x_nil (sq_n (c_ret (sq_r ?_)))
  injection h with h; subst h
  have hH := Heap.addNil hH true 10
  exact end_Ow [(T.row true 0 [])] [.box b4 [i4 0, i4 0, .str ⟨#[]⟩, i4 0], .box b3 [i4 0, (nt DObject)], .own true 4 t1 (Sl.t (⟨false, [a1]⟩ : Sl DValue)), .box b2 (DValue.cells a1), .box b1 (DHeap.cells a0)] (r_cell (v := .agg [i4 0, (nt DObject)]) hS (hH.at 2 rfl) rfl (by kernel_rfl) (r_cell (v := .agg [i4 0, i4 0, .str ⟨#[]⟩, i4 0]) hS (hH.at 1 rfl) rfl (by kernel_rfl) (r_tmp (v := i4 1) hS rfl r_nil))) (by kernel_rfl) rfl hH (by kernel_rfl)
 ·have h := it_neg hc1 h
  refine c_cond hS rfl (fun hf => tt_absurd hc1 hf) (fun _ => ?_)
  refine c_skip (sq_n (c_seq (c_seq (c_region ?_))))
  refine q_load (v := .agg (DValue.cells a1)) 3 trivial rfl hS hH rfl rfl (by kernel_rfl) ?_; intro s hS
  obtain ⟨y2, hy2, h⟩ := bind_some h
  refine q_callF (a := []) (b := []) (xs := [.agg (DValue.cells a1)]) rfl hS rfl rfl hy2 ?_; intro s hS
  refine qs 1 [(2, .ptr b1 0 0 2), (3, .ptr b2 0 0 4), (4, .ptr b3 0 0 2), (5, .ptr b4 0 0 4), (15, .bool (!y2))] hS ?_; intro s hS
  refine x_nil (sq_n ?_)
  by_cases hc2 : (!y2) = true
  ·have h := it_pos hc2 h
   refine c_cond hS rfl (fun _ => ?_) (fun hf => ff_absurd hc2 hf)
   refine c_seq (c_region ?_)
   refine qs 2 [(4, .ptr b3 0 0 2), (5, .ptr b4 0 0 4), (16, .agg [i4 0, (nt DObject)]), (17, .agg [i4 0, i4 0, .str ⟨#[]⟩, i4 0])] hS ?_; intro s hS
   have hH : Heap σ0 σ [.box b3 [i4 0, (nt DObject)], .own true 4 t1 (Sl.t (⟨false, [a1]⟩ : Sl DValue)), .box b4 [i4 0, i4 0, .str ⟨#[]⟩, i4 0], .box b2 (DValue.cells a1), .box b1 (DHeap.cells a0)] := hH.sel [2, 0, 1, 3, 4] rfl (by kernel_rfl)
   refine q_storeA (cs := [i4 0, (nt DObject)]) rfl hS hH rfl rfl (by kernel_rfl) ?_; intro σ s hH hS
   have hH : Heap σ0 σ [.box b4 [i4 0, i4 0, .str ⟨#[]⟩, i4 0], .box b3 [i4 0, (nt DObject)], .own true 4 t1 (Sl.t (⟨false, [a1]⟩ : Sl DValue)), .box b2 (DValue.cells a1), .box b1 (DHeap.cells a0)] := hH.sel [2, 0, 1, 3, 4] rfl (by kernel_rfl)
   refine q_storeA (cs := [i4 0, i4 0, .str ⟨#[]⟩, i4 0]) rfl hS hH rfl rfl (by kernel_rfl) ?_; intro σ s hH hS
   refine qs 1 [(4, .ptr b3 0 0 2), (5, .ptr b4 0 0 4), (6, i4 4)] hS ?_; intro s hS
   refine x_nil (sq_n (c_ret (sq_r ?_)))
   injection h with h; subst h
   have hH := Heap.addNil hH true 10
   exact end_Ow [(T.row true 0 [])] [.box b4 [i4 0, i4 0, .str ⟨#[]⟩, i4 0], .box b3 [i4 0, (nt DObject)], .own true 4 t1 (Sl.t (⟨false, [a1]⟩ : Sl DValue)), .box b2 (DValue.cells a1), .box b1 (DHeap.cells a0)] (r_cell (v := .agg [i4 0, (nt DObject)]) hS (hH.at 2 rfl) rfl (by kernel_rfl) (r_cell (v := .agg [i4 0, i4 0, .str ⟨#[]⟩, i4 0]) hS (hH.at 1 rfl) rfl (by kernel_rfl) (r_tmp (v := i4 4) hS rfl r_nil))) (by kernel_rfl) rfl hH (by kernel_rfl)
  ·have h := it_neg hc2 h
   refine c_cond hS rfl (fun hf => tt_absurd hc2 hf) (fun _ => ?_)
   refine c_skip (sq_n (c_seq ?_))
   refine c_chain (W2 (fun _ => False) (fun _ => True)) (fun _ => rfl) (by kernel_rfl) (by kernel_rfl) hH ?_; intro mb σs σ hn0 hlt hlto hH
   have hlt_b1 : b1 < mb := hlt b1 _ (List.Mem.tail _ (List.Mem.tail _ (List.Mem.tail _ (List.Mem.tail _ (List.Mem.head _)))))
   refine qs 1 [(2, .ptr b1 0 0 2), (3, .ptr b2 0 0 4), (4, .ptr b3 0 0 2), (5, .ptr b4 0 0 4), (18, .ptr b1 0 1 1)] hS ?_; intro s hS
   refine q_load (v := a0.Objects.t) 4 (Or.inr ⟨hlt_b1, Or.inl (by kernel_rfl)⟩) rfl hS hH rfl rfl (by kernel_rfl) ?_; intro s hS
   refine qs 1 [(2, .ptr b1 0 0 2), (4, .ptr b3 0 0 2), (5, .ptr b4 0 0 4), (19, a0.Objects.t), (20, .ptr b2 0 3 1)] hS ?_; intro s hS
   refine q_load (v := i4 a1.Ref) 3 (Or.inl (by kernel_rfl)) rfl hS hH rfl rfl (by kernel_rfl) ?_; intro s hS
   obtain ⟨y3, hy3, h⟩ := bind_some h
   refine q_callL (xs := [.ptr b1 0 0 2, i4 a1.Ref]) (cs := [[i4 a0.Next, a0.Objects.t]]) [b1] rfl hS rfl rfl rfl (And.intro (Heap.lent (hH.at 4 rfl)) trivial) hy3 ?_; intro s hS
   obtain ⟨y4, hy4, h⟩ := bind_some h
   refine q_elt (sl := a0.Objects) (e := 30) [i4 y4.Id, i4 y4.Kind, .str y4.Name, i4 y4.Low, y4.Keys.t, y4.Vals.t, i4 y4.Default.Kind, i4 y4.Default.Num, .str y4.Default.Text, i4 y4.Default.Ref] rfl hS rfl rfl (by kernel_rfl) (by kernel_rfl) hy4 rfl ?_; intro rest1 s hS
   refine qs 1 [(2, .ptr b1 0 0 2), (4, .ptr b3 0 0 2), (5, .ptr b4 0 0 4), (24, .agg (DObject.cells y4))] hS ?_; intro s hS
   obtain ⟨y5, hy5, h⟩ := bind_some h
   refine q_callLO rfl (xs := [.ptr b1 0 0 2, .agg (DObject.cells y4)]) (cs := [[i4 a0.Next, a0.Objects.t]]) [b1] rfl hS rfl rfl rfl hH (And.intro (Heap.lent (hH.at 4 rfl)) trivial) hy5 ?_; intro hs σ s hl hH hS
   obtain ⟨t2, rfl⟩ := len1 hl
   have hH : Heap σ0 σ [.own true 10 t2 y5.1.Objects.t, .own true 4 t1 (Sl.t (⟨false, [a1]⟩ : Sl DValue)), .box b4 [i4 0, i4 0, .str ⟨#[]⟩, i4 0], .box b3 [i4 0, (nt DObject)], .box b2 (DValue.cells a1), .box b1 (DHeap.cells a0)] := hH
   have ht2 : IsOne t2 := Heap.one hH
   refine qs 3 [(4, .ptr b3 0 0 2), (5, .ptr b4 0 0 4), (26, .agg [i4 y5.1.Next, t2]), (27, .agg (DValue.cells y5.2.1)), (28, i4 y5.2.2)] hS ?_; intro s hS
   have hH : Heap σ0 σ [.box b3 [i4 0, (nt DObject)], .own true 10 t2 y5.1.Objects.t, .own true 4 t1 (Sl.t (⟨false, [a1]⟩ : Sl DValue)), .box b4 [i4 0, i4 0, .str ⟨#[]⟩, i4 0], .box b2 (DValue.cells a1), .box b1 (DHeap.cells a0)] := hH.sel [3, 0, 1, 2, 4, 5] rfl (by kernel_rfl)
   refine q_storeC rfl (v := .agg [i4 y5.1.Next, t2]) (cs := [i4 y5.1.Next, t2]) (cells' := [i4 y5.1.Next, t2]) (by exact Or.inr ⟨false, by kernel_rfl, trivial⟩) rfl hS hH rfl rfl rfl (by simp [ht2.1, ht2.2]) (by kernel_rfl) ?_; intro σ s hH hS
   have hH : Heap σ0 σ [.box b4 [i4 0, i4 0, .str ⟨#[]⟩, i4 0], .box b3 [i4 y5.1.Next, t2], .own true 10 t2 y5.1.Objects.t, .own true 4 t1 (Sl.t (⟨false, [a1]⟩ : Sl DValue)), .box b2 (DValue.cells a1), .box b1 (DHeap.cells a0)] := hH.sel [3, 0, 1, 2, 4, 5] rfl (by kernel_rfl)
   refine q_storeC rfl (v := .agg (DValue.cells y5.2.1)) (cs := [i4 y5.2.1.Kind, i4 y5.2.1.Num, .str y5.2.1.Text, i4 y5.2.1.Ref]) (cells' := [i4 y5.2.1.Kind, i4 y5.2.1.Num, .str y5.2.1.Text, i4 y5.2.1.Ref]) (by exact Or.inr ⟨false, by kernel_rfl, trivial⟩) rfl hS hH rfl rfl rfl (by kernel_rfl) (by kernel_rfl) ?_; intro σ s hH hS
   refine qs 1 [(4, .ptr b3 0 0 2), (5, .ptr b4 0 0 4), (6, i4 y5.2.2)] hS ?_; intro s hS
   refine x_nil (sq_n (c_ret ?_))
   injection h with h; subst h
   have hH : Heap σ0 σ [.own true 10 t2 y5.1.Objects.t, .box b4 (DValue.cells y5.2.1), .box b3 [i4 y5.1.Next, t2], .own true 4 t1 (Sl.t (⟨false, [a1]⟩ : Sl DValue)), .box b2 (DValue.cells a1), .box b1 (DHeap.cells a0)] := hH.sel [2, 0, 1, 3, 4, 5] rfl (by kernel_rfl)
   exact end_Ow [t2] [.box b4 (DValue.cells y5.2.1), .box b3 [i4 y5.1.Next, t2], .own true 4 t1 (Sl.t (⟨false, [a1]⟩ : Sl DValue)), .box b2 (DValue.cells a1), .box b1 (DHeap.cells a0)] (r_cell (v := .agg [i4 y5.1.Next, t2]) hS (hH.at 2 rfl) rfl (by kernel_rfl) (r_cell (v := .agg (DValue.cells y5.2.1)) hS (hH.at 1 rfl) rfl (by kernel_rfl) (r_tmp (v := i4 y5.2.2) hS rfl r_nil))) (by kernel_rfl) rfl hH (by kernel_rfl)
noncomputable def B_impl_CopyObject (a0 : DHeap) (a1 : DValue) : Option (DHeap × DValue × Int) := ((F_impl_fitAll a0 ⟨false, [a1]⟩).bind fun y1 => ((F_impl_refers a1.Kind).bind fun y2 => ((F_impl_unless y2 4).bind fun y3 => ((F_impl_first (⟨false, [⟨y1⟩, ⟨y3⟩]⟩)).bind fun y4 => (if (!decide (y4 = 0)) = true then (some ((⟨0, ⟨true, []⟩⟩ : DHeap), (⟨0, 0, ⟨#[]⟩, 0⟩ : DValue), y4)) else ((F_impl_Heap_object a0 a1).bind fun y5 => ((elt a0.Objects y5).bind fun y6 => ((F_impl_Heap_create a0 y6).bind fun y7 => (some (y7.1, y7.2.1, y7.2.2))))))))))
theorem u_impl_CopyObject (a0 : DHeap) (a1 : DValue) (r : (DHeap × DValue × Int)) (h : B_impl_CopyObject a0 a1 = some r) : F_impl_CopyObject a0 a1 = some r := by
 unfold B_impl_CopyObject at h
 refine semO_of rfl rfl ok_38 rfl (all_cons (by kernel_rfl) (all_cons (by kernel_rfl) all_nil)) ?_
 intro σ0 s hS hH
 have hS := sub_to (L' := [(0, .agg (DHeap.cells a0)), (1, .agg (DValue.cells a1))]) hS (by kernel_rfl)
 refine c_seq (c_region ?_)
 refine q_box (v := .agg (DHeap.cells a0)) (cs := [i4 a0.Next, a0.Objects.t]) rfl hS hH rfl rfl (by kernel_rfl) ?_; intro b1 σ s hH hS
 refine q_box (v := .agg (DValue.cells a1)) (cs := [i4 a1.Kind, i4 a1.Num, .str a1.Text, i4 a1.Ref]) rfl hS hH rfl rfl (by kernel_rfl) ?_; intro b2 σ s hH hS
 refine q_alloc (z := [i4 0, (nt DObject)]) rfl hS hH (by kernel_rfl) ?_; intro b3 σ s hH hS
 refine q_alloc (z := [i4 0, i4 0, .str ⟨#[]⟩, i4 0]) rfl hS hH (by kernel_rfl) ?_; intro b4 σ s hH hS
 refine qs 1 [(2, .ptr b1 0 0 2), (3, .ptr b2 0 0 4), (4, .ptr b3 0 0 2), (5, .ptr b4 0 0 4)] hS ?_; intro s hS
 refine x_nil (sq_n (c_seq (c_seq ?_)))
 refine c_chain (W2 (fun _ => False) (fun _ => False)) (fun _ => rfl) (by kernel_rfl) (by kernel_rfl) hH ?_; intro mb σs σ hn0 hlt hlto hH
 have hlt_b2 : b2 < mb := hlt b2 _ (List.Mem.tail _ (List.Mem.tail _ (List.Mem.head _)))
 refine q_load (v := .agg (DHeap.cells a0)) 3 (Or.inl (by kernel_rfl)) rfl hS hH rfl rfl (by kernel_rfl) ?_; intro s hS
 refine q_load (v := .agg (DValue.cells a1)) 2 (Or.inl (by kernel_rfl)) rfl hS hH rfl rfl (by kernel_rfl) ?_; intro s hS
 refine q_bsC rfl (by exact hn0) (ents := []) (e := 28) (sz := 4) (z := true) (vs := [.agg (DValue.cells a1)]) (zc := [i4 0, i4 0, .str ⟨#[]⟩, i4 0]) (cs := [i4 a1.Kind, i4 a1.Num, .str a1.Text, i4 a1.Ref]) (us := [i4 a1.Kind, i4 a1.Num, .str a1.Text, i4 a1.Ref]) (v := Sl.t (⟨false, [a1]⟩ : Sl DValue)) rfl hS hH (by kernel_rfl) (by kernel_rfl) (by kernel_rfl) (by kernel_rfl) (by kernel_rfl) (And.intro (by kernel_rfl) (And.intro (by kernel_rfl) trivial)) (by kernel_rfl) (HLi (HLi (HLs (HLi HL.nil)))) (by kernel_rfl) ?_; intro t1 σ s ht1 hH hS
 obtain ⟨y1, hy1, h⟩ := bind_some h
 refine q_callH (ents := [.own true 4 t1 (Sl.t (⟨false, [a1]⟩ : Sl DValue))]) (z := false) (ts := [.agg (DHeap.cells a0), t1]) (vs := [.agg (DHeap.cells a0), (Sl.t (⟨false, [a1]⟩ : Sl DValue))]) rfl hS rfl rfl rfl hH (HL.agg (es1 := []) (es2 := [.own true 4 t1 (Sl.t (⟨false, [a1]⟩ : Sl DValue))]) (HLi (HLp HL.nil)) (HL.own rfl HL.nil)) hy1 (by kernel_rfl) ?_; intro s hS
 refine qs 1 [(2, .ptr b1 0 0 2), (3, .ptr b2 0 0 4), (4, .ptr b3 0 0 2), (5, .ptr b4 0 0 4), (11, i4 y1), (12, .ptr b2 0 0 1)] hS ?_; intro s hS
 refine q_load (v := i4 a1.Kind) 3 (Or.inr ⟨hlt_b2, Or.inl (by kernel_rfl)⟩) rfl hS hH rfl rfl (by kernel_rfl) ?_; intro s hS
 obtain ⟨y2, hy2, h⟩ := bind_some h
 refine q_callF (a := []) (b := []) (xs := [i4 a1.Kind]) rfl hS rfl rfl hy2 ?_; intro s hS
 obtain ⟨y3, hy3, h⟩ := bind_some h
 refine q_callF (a := []) (b := []) (xs := [.bool y2, i4 4]) rfl hS rfl rfl hy3 ?_; intro s hS
 refine q_bsC rfl (by exact hn0) (ents := []) (e := 2) (sz := 1) (z := true) (vs := [i4 y1, i4 y3]) (zc := [i4 0]) (cs := [i4 y1, i4 y3]) (us := [i4 y1, i4 y3]) (v := Sl.t (⟨false, [⟨y1⟩, ⟨y3⟩]⟩ : Sl (Iv .i64))) rfl hS hH (by kernel_rfl) (by kernel_rfl) (by kernel_rfl) (by kernel_rfl) (by kernel_rfl) (And.intro (by kernel_rfl) (And.intro (by kernel_rfl) (And.intro (by kernel_rfl) (And.intro (by kernel_rfl) trivial)))) (by kernel_rfl) (HLi (HLi HL.nil)) (by kernel_rfl) ?_; intro t2 σ s ht2 hH hS
 obtain ⟨y4, hy4, h⟩ := bind_some h
 refine q_callH (ents := [.own true 1 t2 (Sl.t (⟨false, [⟨y1⟩, ⟨y3⟩]⟩ : Sl (Iv .i64)))]) (z := false) (ts := [t2]) (vs := [(Sl.t (⟨false, [⟨y1⟩, ⟨y3⟩]⟩ : Sl (Iv .i64)))]) rfl hS rfl rfl rfl hH (HL.own rfl HL.nil) hy4 (by kernel_rfl) ?_; intro s hS
 refine qs 1 [(2, .ptr b1 0 0 2), (3, .ptr b2 0 0 4), (4, .ptr b3 0 0 2), (5, .ptr b4 0 0 4), (7, i4 y4)] hS ?_; intro s hS
 refine x_nil (sq_n (c_seq (c_region ?_)))
 refine qs 2 [(2, .ptr b1 0 0 2), (3, .ptr b2 0 0 4), (4, .ptr b3 0 0 2), (5, .ptr b4 0 0 4), (7, i4 y4), (19, .bool (!decide (y4 = 0)))] hS ?_; intro s hS
 refine x_nil (sq_n ?_)
 by_cases hc1 : (!decide (y4 = 0)) = true
 ·have h := it_pos hc1 h
  refine c_cond hS rfl (fun _ => ?_) (fun hf => ff_absurd hc1 hf)
  refine c_seq (c_region ?_)
  refine qs 3 [(4, .ptr b3 0 0 2), (5, .ptr b4 0 0 4), (20, .agg [i4 0, (nt DObject)]), (21, .agg [i4 0, i4 0, .str ⟨#[]⟩, i4 0]), (22, i4 y4)] hS ?_; intro s hS
  have hH : Heap σ0 σ [.box b3 [i4 0, (nt DObject)], .own true 1 t2 (Sl.t (⟨false, [⟨y1⟩, ⟨y3⟩]⟩ : Sl (Iv .i64))), .own true 4 t1 (Sl.t (⟨false, [a1]⟩ : Sl DValue)), .box b4 [i4 0, i4 0, .str ⟨#[]⟩, i4 0], .box b2 (DValue.cells a1), .box b1 (DHeap.cells a0)] := hH.sel [3, 0, 1, 2, 4, 5] rfl (by kernel_rfl)
  refine q_storeA (cs := [i4 0, (nt DObject)]) rfl hS hH rfl rfl (by kernel_rfl) ?_; intro σ s hH hS
  have hH : Heap σ0 σ [.box b4 [i4 0, i4 0, .str ⟨#[]⟩, i4 0], .box b3 [i4 0, (nt DObject)], .own true 1 t2 (Sl.t (⟨false, [⟨y1⟩, ⟨y3⟩]⟩ : Sl (Iv .i64))), .own true 4 t1 (Sl.t (⟨false, [a1]⟩ : Sl DValue)), .box b2 (DValue.cells a1), .box b1 (DHeap.cells a0)] := hH.sel [3, 0, 1, 2, 4, 5] rfl (by kernel_rfl)
  refine q_storeA (cs := [i4 0, i4 0, .str ⟨#[]⟩, i4 0]) rfl hS hH rfl rfl (by kernel_rfl) ?_; intro σ s hH hS
  refine qs 1 [(4, .ptr b3 0 0 2), (5, .ptr b4 0 0 4), (6, i4 y4)] hS ?_; intro s hS
  refine x_nil (sq_n (c_ret (sq_r ?_)))
  injection h with h; subst h
  have hH := Heap.addNil hH true 10
  exact end_Ow [(T.row true 0 [])] [.box b4 [i4 0, i4 0, .str ⟨#[]⟩, i4 0], .box b3 [i4 0, (nt DObject)], .own true 1 t2 (Sl.t (⟨false, [⟨y1⟩, ⟨y3⟩]⟩ : Sl (Iv .i64))), .own true 4 t1 (Sl.t (⟨false, [a1]⟩ : Sl DValue)), .box b2 (DValue.cells a1), .box b1 (DHeap.cells a0)] (r_cell (v := .agg [i4 0, (nt DObject)]) hS (hH.at 2 rfl) rfl (by kernel_rfl) (r_cell (v := .agg [i4 0, i4 0, .str ⟨#[]⟩, i4 0]) hS (hH.at 1 rfl) rfl (by kernel_rfl) (r_tmp (v := i4 y4) hS rfl r_nil))) (by kernel_rfl) rfl hH (by kernel_rfl)
 ·have h := it_neg hc1 h
  refine c_cond hS rfl (fun hf => tt_absurd hc1 hf) (fun _ => ?_)
  refine c_skip (sq_n (c_seq ?_))
  refine c_chain (W2 (fun _ => False) (fun _ => True)) (fun _ => rfl) (by kernel_rfl) (by kernel_rfl) hH ?_; intro mb σs σ hn0 hlt hlto hH
  have hlt_b1 : b1 < mb := hlt b1 _ (List.Mem.tail _ (List.Mem.tail _ (List.Mem.tail _ (List.Mem.tail _ (List.Mem.tail _ (List.Mem.head _))))))
  refine q_load (v := .agg (DHeap.cells a0)) 5 (Or.inr ⟨hlt_b1, Or.inl (by kernel_rfl)⟩) rfl hS hH rfl rfl (by kernel_rfl) ?_; intro s hS
  refine qs 1 [(2, .ptr b1 0 0 2), (3, .ptr b2 0 0 4), (4, .ptr b3 0 0 2), (5, .ptr b4 0 0 4), (23, .agg (DHeap.cells a0)), (24, .ptr b1 0 1 1)] hS ?_; intro s hS
  refine q_load (v := a0.Objects.t) 5 (Or.inr ⟨hlt_b1, Or.inl (by kernel_rfl)⟩) rfl hS hH rfl rfl (by kernel_rfl) ?_; intro s hS
  refine q_load (v := .agg (DHeap.cells a0)) 5 (Or.inl (by kernel_rfl)) rfl hS hH rfl rfl (by kernel_rfl) ?_; intro s hS
  refine q_load (v := .agg (DValue.cells a1)) 4 (Or.inl (by kernel_rfl)) rfl hS hH rfl rfl (by kernel_rfl) ?_; intro s hS
  obtain ⟨y5, hy5, h⟩ := bind_some h
  refine q_callF (a := []) (b := []) (xs := [.agg (DHeap.cells a0), .agg (DValue.cells a1)]) rfl hS rfl rfl hy5 ?_; intro s hS
  obtain ⟨y6, hy6, h⟩ := bind_some h
  refine q_elt (sl := a0.Objects) (e := 30) [i4 y6.Id, i4 y6.Kind, .str y6.Name, i4 y6.Low, y6.Keys.t, y6.Vals.t, i4 y6.Default.Kind, i4 y6.Default.Num, .str y6.Default.Text, i4 y6.Default.Ref] rfl hS rfl rfl (by kernel_rfl) (by kernel_rfl) hy6 rfl ?_; intro rest1 s hS
  refine qs 1 [(4, .ptr b3 0 0 2), (5, .ptr b4 0 0 4), (23, .agg (DHeap.cells a0)), (30, .agg (DObject.cells y6))] hS ?_; intro s hS
  obtain ⟨y7, hy7, h⟩ := bind_some h
  refine q_callO (ents := []) (z := false) (ts := [.agg (DHeap.cells a0), .agg (DObject.cells y6)]) (vs := [.agg (DHeap.cells a0), .agg (DObject.cells y6)]) rfl rfl hS rfl rfl rfl hH (HL.agg (es1 := []) (es2 := []) (HLi (HLp HL.nil)) (HL.agg (es1 := []) (es2 := []) (HLi (HLi (HLs (HLi (HLp (HLp (HLi (HLi (HLs (HLi HL.nil)))))))))) HL.nil)) hy7 ?_; intro hs σ s hl hH hS
  obtain ⟨t3, rfl⟩ := len1 hl
  have hH : Heap σ0 σ [.own true 10 t3 y7.1.Objects.t, .own true 1 t2 (Sl.t (⟨false, [⟨y1⟩, ⟨y3⟩]⟩ : Sl (Iv .i64))), .own true 4 t1 (Sl.t (⟨false, [a1]⟩ : Sl DValue)), .box b4 [i4 0, i4 0, .str ⟨#[]⟩, i4 0], .box b3 [i4 0, (nt DObject)], .box b2 (DValue.cells a1), .box b1 (DHeap.cells a0)] := hH
  have ht3 : IsOne t3 := Heap.one hH
  refine qs 3 [(4, .ptr b3 0 0 2), (5, .ptr b4 0 0 4), (32, .agg [i4 y7.1.Next, t3]), (33, .agg (DValue.cells y7.2.1)), (34, i4 y7.2.2)] hS ?_; intro s hS
  have hH : Heap σ0 σ [.box b3 [i4 0, (nt DObject)], .own true 10 t3 y7.1.Objects.t, .own true 1 t2 (Sl.t (⟨false, [⟨y1⟩, ⟨y3⟩]⟩ : Sl (Iv .i64))), .own true 4 t1 (Sl.t (⟨false, [a1]⟩ : Sl DValue)), .box b4 [i4 0, i4 0, .str ⟨#[]⟩, i4 0], .box b2 (DValue.cells a1), .box b1 (DHeap.cells a0)] := hH.sel [4, 0, 1, 2, 3, 5, 6] rfl (by kernel_rfl)
  refine q_storeC rfl (v := .agg [i4 y7.1.Next, t3]) (cs := [i4 y7.1.Next, t3]) (cells' := [i4 y7.1.Next, t3]) (by exact Or.inr ⟨false, by kernel_rfl, trivial⟩) rfl hS hH rfl rfl rfl (by simp [ht3.1, ht3.2]) (by kernel_rfl) ?_; intro σ s hH hS
  have hH : Heap σ0 σ [.box b4 [i4 0, i4 0, .str ⟨#[]⟩, i4 0], .box b3 [i4 y7.1.Next, t3], .own true 10 t3 y7.1.Objects.t, .own true 1 t2 (Sl.t (⟨false, [⟨y1⟩, ⟨y3⟩]⟩ : Sl (Iv .i64))), .own true 4 t1 (Sl.t (⟨false, [a1]⟩ : Sl DValue)), .box b2 (DValue.cells a1), .box b1 (DHeap.cells a0)] := hH.sel [4, 0, 1, 2, 3, 5, 6] rfl (by kernel_rfl)
  refine q_storeC rfl (v := .agg (DValue.cells y7.2.1)) (cs := [i4 y7.2.1.Kind, i4 y7.2.1.Num, .str y7.2.1.Text, i4 y7.2.1.Ref]) (cells' := [i4 y7.2.1.Kind, i4 y7.2.1.Num, .str y7.2.1.Text, i4 y7.2.1.Ref]) (by exact Or.inr ⟨false, by kernel_rfl, trivial⟩) rfl hS hH rfl rfl rfl (by kernel_rfl) (by kernel_rfl) ?_; intro σ s hH hS
  refine qs 1 [(4, .ptr b3 0 0 2), (5, .ptr b4 0 0 4), (6, i4 y7.2.2)] hS ?_; intro s hS
  refine x_nil (sq_n (c_ret ?_))
  injection h with h; subst h
  have hH : Heap σ0 σ [.own true 10 t3 y7.1.Objects.t, .box b4 (DValue.cells y7.2.1), .box b3 [i4 y7.1.Next, t3], .own true 1 t2 (Sl.t (⟨false, [⟨y1⟩, ⟨y3⟩]⟩ : Sl (Iv .i64))), .own true 4 t1 (Sl.t (⟨false, [a1]⟩ : Sl DValue)), .box b2 (DValue.cells a1), .box b1 (DHeap.cells a0)] := hH.sel [2, 0, 1, 3, 4, 5, 6] rfl (by kernel_rfl)
  exact end_Ow [t3] [.box b4 (DValue.cells y7.2.1), .box b3 [i4 y7.1.Next, t3], .own true 1 t2 (Sl.t (⟨false, [⟨y1⟩, ⟨y3⟩]⟩ : Sl (Iv .i64))), .own true 4 t1 (Sl.t (⟨false, [a1]⟩ : Sl DValue)), .box b2 (DValue.cells a1), .box b1 (DHeap.cells a0)] (r_cell (v := .agg [i4 y7.1.Next, t3]) hS (hH.at 2 rfl) rfl (by kernel_rfl) (r_cell (v := .agg (DValue.cells y7.2.1)) hS (hH.at 1 rfl) rfl (by kernel_rfl) (r_tmp (v := i4 y7.2.2) hS rfl r_nil))) (by kernel_rfl) rfl hH (by kernel_rfl)
noncomputable def B_laws_szValueS (a0 : (Sl DValue)) (a1 : Int) : Option Int := (if (decide ((IntKind.i64.wrap (a1 - (a0.l.length : Int))) < 0)) = true then (some (-1)) else ((loopO (S := (Int × Int)) (R := (Int ⊕ Int)) (fun st1 => (if (decide (st1.2 < (a0.l.length : Int))) = true then ((elt a0 st1.2).bind fun y2 => ((F_laws_szValue y2 st1.1).bind fun y3 => (if (decide (y3 < 0)) = true then (some (.inr (.inr (-1)))) else (some (.inl (y3, (IntKind.i64.wrap (st1.2 + 1)))))))) else (some (.inr (.inl st1.1))))) ((IntKind.i64.wrap (a1 - (a0.l.length : Int))), 0)).bind fun y1 => (Sum.elim (fun y1 => (some y1)) (fun y1 => (some y1)) y1)))
theorem u_laws_szValueS (a0 : (Sl DValue)) (a1 : Int) (r : Int) (h : B_laws_szValueS a0 a1 = some r) : F_laws_szValueS a0 a1 = some r := by
 unfold B_laws_szValueS at h
 refine semW_of E_i64_inj rfl rfl ok_43 rfl (all_cons (by kernel_rfl) (all_cons (by kernel_rfl) all_nil)) ?_
 intro σ0 s hS hH
 have hS := sub_to (L' := [(0, a0.t), (1, i4 a1)]) hS (by kernel_rfl)
 refine c_seq (c_region ?_)
 refine qs 1 [(0, a0.t), (1, i4 a1)] hS ?_; intro s hS
 refine x_nil (sq_n (c_seq (c_region ?_)))
 refine qs 5 [(0, a0.t), (1, i4 (IntKind.i64.wrap (a1 - (a0.l.length : Int))))] hS ?_; intro s hS
 refine x_nil (sq_n (c_seq (c_seq (c_region ?_))))
 refine qs 2 [(0, a0.t), (1, i4 (IntKind.i64.wrap (a1 - (a0.l.length : Int)))), (11, .bool (decide ((IntKind.i64.wrap (a1 - (a0.l.length : Int))) < 0)))] hS ?_; intro s hS
 refine x_nil (sq_n ?_)
 by_cases hc1 : (decide ((IntKind.i64.wrap (a1 - (a0.l.length : Int))) < 0)) = true
 ·have h := it_pos hc1 h
  refine c_cond hS rfl (fun _ => ?_) (fun hf => ff_absurd hc1 hf)
  refine c_seq (c_region ?_)
  refine qs 1 [(4, i4 (-1))] hS ?_; intro s hS
  refine x_nil (sq_n (c_ret (sq_r ?_)))
  injection h with h; subst h
  exact end_W hH (r_tmp (v := i4 (-1)) hS rfl r_nil) rfl (by kernel_rfl) (by simp [pureT, pureL, E_i64])
 ·have h := it_neg hc1 h
  refine c_cond hS rfl (fun hf => tt_absurd hc1 hf) (fun _ => ?_)
  refine c_skip (sq_n (c_seq (c_seq (c_region ?_))))
  refine qs 1 [(0, a0.t), (1, i4 (IntKind.i64.wrap (a1 - (a0.l.length : Int)))), (5, i4 0)] hS ?_; intro s hS
  refine x_nil (sq_n (c_block ?_))
  obtain ⟨y1, hy1, h⟩ := bind_some h
  refine c_loop (fun (st1 : (Int × Int)) (fr : Fr) => Sub [(0, a0.t), (1, i4 st1.1), (5, i4 st1.2)] fr.s ∧ Heap σ0 fr.σ []) (fun (y1 : (Int ⊕ Int)) (e : AExit) (fr : Fr) => (Sum.elim (fun y => e = (.exit 0) ∧ Sub [(1, i4 y)] fr.s ∧ Heap σ0 fr.σ []) (fun y => e = .ret ∧ endW Try.prog (Try.f43.results.toList) σ0 (E_i64 y) .ret fr)) y1) hy1 (And.intro (sub_to hS (by kernel_rfl)) hH) ?_ ?_
  ·clear h hy1 hS hH; clear y1; intro st1 x fr h HI; obtain ⟨s, σ⟩ := fr; obtain ⟨hS, hH⟩ := HI
   refine c_seq (c_seq (c_region ?_))
   refine qs 4 [(0, a0.t), (1, i4 st1.1), (5, i4 st1.2), (15, .bool (decide (st1.2 < (a0.l.length : Int))))] hS ?_; intro s hS
   refine x_nil (sq_n ?_)
   by_cases hc2 : (decide (st1.2 < (a0.l.length : Int))) = true
   ·have h := it_pos hc2 h
    refine c_cond hS rfl (fun _ => ?_) (fun hf => ff_absurd hc2 hf)
    refine c_skip (sq_n (c_seq (c_block (c_seq (c_region ?_)))))
    refine qs 2 [(0, a0.t), (1, i4 st1.1), (5, i4 st1.2), (18, a0.t), (19, i4 st1.2)] hS ?_; intro s hS
    obtain ⟨y2, hy2, h⟩ := bind_some h
    refine q_elt (sl := a0) (e := 43) [i4 y2.Kind, i4 y2.Num, .str y2.Text, i4 y2.Ref] rfl hS rfl rfl (by kernel_rfl) (by kernel_rfl) hy2 rfl ?_; intro rest1 s hS
    refine qs 2 [(0, a0.t), (5, i4 st1.2), (21, .agg (DValue.cells y2)), (22, i4 st1.1)] hS ?_; intro s hS
    obtain ⟨y3, hy3, h⟩ := bind_some h
    refine q_callF (a := []) (b := []) (xs := [.agg (DValue.cells y2), i4 st1.1]) rfl hS rfl rfl hy3 ?_; intro s hS
    refine qs 1 [(0, a0.t), (1, i4 y3), (5, i4 st1.2)] hS ?_; intro s hS
    refine x_nil (sq_n (c_seq (c_region ?_)))
    refine qs 2 [(0, a0.t), (1, i4 y3), (5, i4 st1.2), (25, .bool (decide (y3 < 0)))] hS ?_; intro s hS
    refine x_nil (sq_n ?_)
    by_cases hc3 : (decide (y3 < 0)) = true
    ·have h := it_pos hc3 h
     refine c_cond hS rfl (fun _ => ?_) (fun hf => ff_absurd hc3 hf)
     refine c_seq (c_region ?_)
     refine qs 1 [(4, i4 (-1))] hS ?_; intro s hS
     refine x_nil (sq_n (c_ret (bk_r (sq_r ?_))))
     injection h with h; subst h
     exact And.intro rfl (end_W hH (r_tmp (v := i4 (-1)) hS rfl r_nil) rfl (by kernel_rfl) (by simp [pureT, pureL, E_i64]))
    ·have h := it_neg hc3 h
     refine c_cond hS rfl (fun hf => tt_absurd hc3 hf) (fun _ => ?_)
     refine c_skip (bk_n (sq_n (c_region ?_)))
     refine qs 3 [(0, a0.t), (1, i4 y3), (5, i4 (IntKind.i64.wrap (st1.2 + 1)))] hS ?_; intro s hS
     refine x_nil ?_
     injection h with h; subst h
     exact And.intro (sub_to hS (by kernel_rfl)) hH
   ·have h := it_neg hc2 h
    refine c_cond hS rfl (fun hf => tt_absurd hc2 hf) (fun _ => ?_)
    refine c_exit (sq_x ?_)
    injection h with h; subst h
    exact And.intro rfl (And.intro (sub_to hS (by kernel_rfl)) hH)
  ·clear hS hH; intro e fr HF; obtain ⟨s, σ⟩ := fr
   rcases y1 with y1 | y1
   ·obtain ⟨rfl, hS, hH⟩ := HF
    refine bk_e (sq_n (c_seq (c_region ?_)))
    refine qs 2 [(4, i4 y1)] hS ?_; intro s hS
    refine x_nil (sq_n (c_ret ?_))
    injection h with h; subst h
    exact end_W hH (r_tmp (v := i4 y1) hS rfl r_nil) rfl (by kernel_rfl) (by simp [pureT, pureL, E_i64])
   ·obtain ⟨rfl, HE⟩ := HF
    refine bk_r (sq_r ?_)
    injection h with h; subst h; exact HE
noncomputable def B_laws_toValueS (a0 : (Sl DValue)) : Option (Sl DValue) := ((mkS 40 ((⟨0, 0, ⟨#[]⟩, 0⟩ : DValue) : DValue) (a0.l.length : Int) (a0.l.length : Int)).bind fun y1 => ((loopO (S := (Int × (Sl DValue))) (R := (Sl DValue)) (fun st1 => (if (decide (st1.1 < (a0.l.length : Int))) = true then ((elt a0 st1.1).bind fun y3 => ((F_laws_toValue y3).bind fun y4 => ((elt st1.2 st1.1).bind fun y5 => (some (.inl ((IntKind.i64.wrap (st1.1 + 1)), (setS st1.2 st1.1 (y4 : DValue)))))))) else (some (.inr st1.2)))) (0, y1)).bind fun y2 => (some y2)))
theorem u_laws_toValueS (a0 : (Sl DValue)) (r : (Sl DValue)) (h : B_laws_toValueS a0 = some r) : F_laws_toValueS a0 = some r := by
 unfold B_laws_toValueS at h
 refine semO_of rfl rfl ok_45 rfl (all_cons (by kernel_rfl) all_nil) ?_
 intro σ0 s hS hH
 have hS := sub_to (L' := [(0, a0.t)]) hS (by kernel_rfl)
 refine c_seq (c_region ?_)
 refine qs 1 [(0, a0.t)] hS ?_; intro s hS
 refine x_nil (sq_n (c_seq (c_region ?_)))
 refine qs 2 [(0, a0.t), (6, i4 (a0.l.length : Int))] hS ?_; intro s hS
 obtain ⟨y1, hy1, h⟩ := bind_some h
 refine q_make (z := true) (e := 28) (by_ := 40) (x0 := ((⟨0, 0, ⟨#[]⟩, 0⟩ : DValue) : DValue)) (fun σ d => by simp [Enc.cells, DValue.cells, Iv]) rfl hS hH rfl rfl (by kernel_rfl) (by kernel_rfl) (by kernel_rfl) (by kernel_rfl) rfl hy1 ?_; intro t1 σ s ht1 hH hS
 refine qs 1 [(0, a0.t), (3, t1)] hS ?_; intro s hS
 refine x_nil (sq_n (c_seq (c_seq (c_region ?_))))
 refine qs 1 [(0, a0.t), (3, t1), (4, i4 0)] hS ?_; intro s hS
 refine x_nil (sq_n (c_block ?_))
 obtain ⟨y2, hy2, h⟩ := bind_some h
 refine c_loop (fun (st1 : (Int × (Sl DValue))) (fr : Fr) => Sub [(0, a0.t), (3, t1), (4, i4 st1.1)] fr.s ∧ Heap σ0 fr.σ [.own true 4 t1 st1.2.t]) (fun (y2 : (Sl DValue)) (e : AExit) (fr : Fr) => e = (.exit 0) ∧ Sub [(3, t1)] fr.s ∧ Heap σ0 fr.σ [.own true 4 t1 y2.t]) hy2 (And.intro (sub_to hS (by kernel_rfl)) hH) ?_ ?_
 ·clear h hy2 hS hH; clear y2; intro st1 x fr h HI; obtain ⟨s, σ⟩ := fr; obtain ⟨hS, hH⟩ := HI
  refine c_seq (c_seq (c_region ?_))
  refine qs 4 [(0, a0.t), (3, t1), (4, i4 st1.1), (11, .bool (decide (st1.1 < (a0.l.length : Int))))] hS ?_; intro s hS
  refine x_nil (sq_n ?_)
  by_cases hc1 : (decide (st1.1 < (a0.l.length : Int))) = true
  ·have h := it_pos hc1 h
   refine c_cond hS rfl (fun _ => ?_) (fun hf => ff_absurd hc1 hf)
   refine c_skip (sq_n (c_seq (c_block (c_region ?_))))
   refine qs 4 [(0, a0.t), (3, t1), (4, i4 st1.1), (14, t1), (15, i4 st1.1), (16, a0.t), (17, i4 st1.1)] hS ?_; intro s hS
   obtain ⟨y3, hy3, h⟩ := bind_some h
   refine q_elt (sl := a0) (e := 43) [i4 y3.Kind, i4 y3.Num, .str y3.Text, i4 y3.Ref] rfl hS rfl rfl (by kernel_rfl) (by kernel_rfl) hy3 rfl ?_; intro rest1 s hS
   refine qs 1 [(0, a0.t), (3, t1), (4, i4 st1.1), (14, t1), (15, i4 st1.1), (19, .agg (DValue.cells y3))] hS ?_; intro s hS
   obtain ⟨y4, hy4, h⟩ := bind_some h
   refine q_callF (a := []) (b := []) (xs := [.agg (DValue.cells y3)]) rfl hS rfl rfl hy4 ?_; intro s hS
   obtain ⟨y5, hy5, h⟩ := bind_some h
   refine q_hidx (a := st1.2) (e := 28) (fun _ _ _ _ _ => trivial) rfl hS hH rfl rfl (by kernel_rfl) (by kernel_rfl) hy5 ?_; intro hb1 hb1e s hl_hb1 hS
   refine q_hstore (ents := []) (a := st1.2) (j := st1.1) (y := y5) (y' := (y4 : DValue)) (off := 0) (c := [i4 y5.Kind, i4 y5.Num, .str y5.Text, i4 y5.Ref]) (us := [i4 y4.Kind, i4 y4.Num, .str y4.Text, i4 y4.Ref]) (vs := [i4 y4.Kind, i4 y4.Num, .str y4.Text, i4 y4.Ref]) (v := .agg (DValue.cells y4)) rfl hS hH hl_hb1 rfl rfl rfl (by kernel_rfl) (by kernel_rfl) rfl hy5 rfl (HLi (HLi (HLs (HLi HL.nil)))) rfl (by kernel_rfl) ?_; intro σ s hH hS
   refine x_nil (bk_n (sq_n (c_region ?_)))
   refine qs 3 [(0, a0.t), (3, t1), (4, i4 (IntKind.i64.wrap (st1.1 + 1)))] hS ?_; intro s hS
   refine x_nil ?_
   injection h with h; subst h
   exact And.intro (sub_to hS (by kernel_rfl)) hH
  ·have h := it_neg hc1 h
   refine c_cond hS rfl (fun hf => tt_absurd hc1 hf) (fun _ => ?_)
   refine c_exit (sq_x ?_)
   injection h with h; subst h
   exact And.intro rfl (And.intro (sub_to hS (by kernel_rfl)) hH)
 ·clear hS hH; intro e fr HF; obtain ⟨s, σ⟩ := fr
  obtain ⟨rfl, hS, hH⟩ := HF
  refine bk_e (sq_n (c_seq (c_region ?_)))
  refine qs 2 [(2, t1)] hS ?_; intro s hS
  refine x_nil (sq_n (c_ret ?_))
  injection h with h; subst h
  exact end_Ow [t1] [] (r_tmp (v := t1) hS rfl r_nil) (by kernel_rfl) rfl hH (by kernel_rfl)
noncomputable def B_laws_eqValueS (a0 : (Sl DValue)) (a1 : (Sl DValue)) : Option Bool := (if ((!decide ((a0.l.length : Int) = (a1.l.length : Int)))) = true then (some false) else ((loopO (S := Int) (R := (Unit ⊕ Bool)) (fun st1 => (if (decide (st1 < (a0.l.length : Int))) = true then ((elt a0 st1).bind fun y2 => ((elt a1 st1).bind fun y3 => ((F_laws_eqValue y2 y3).bind fun y4 => (if (!y4) = true then (some (.inr (.inr false))) else (some (.inl (IntKind.i64.wrap (st1 + 1)))))))) else (some (.inr (.inl ()))))) 0).bind fun y1 => (Sum.elim (fun y1 => (some true)) (fun y1 => (some y1)) y1)))
theorem u_laws_eqValueS (a0 : (Sl DValue)) (a1 : (Sl DValue)) (r : Bool) (h : B_laws_eqValueS a0 a1 = some r) : F_laws_eqValueS a0 a1 = some r := by
 unfold B_laws_eqValueS at h
 refine semW_of E_bool_inj rfl rfl ok_47 rfl (all_cons (by kernel_rfl) (all_cons (by kernel_rfl) all_nil)) ?_
 intro σ0 s hS hH
 have hS := sub_to (L' := [(0, a0.t), (1, a1.t)]) hS (by kernel_rfl)
 refine c_seq (c_region ?_)
 refine qs 1 [(0, a0.t), (1, a1.t)] hS ?_; intro s hS
 refine x_nil (sq_n (c_seq (c_seq (c_region ?_))))
 refine qs 5 [(0, a0.t), (1, a1.t), (10, .bool ((!decide ((a0.l.length : Int) = (a1.l.length : Int)))))] hS ?_; intro s hS
 refine x_nil (sq_n ?_)
 by_cases hc1 : ((!decide ((a0.l.length : Int) = (a1.l.length : Int)))) = true
 ·have h := it_pos hc1 h
  refine c_cond hS rfl (fun _ => ?_) (fun hf => ff_absurd hc1 hf)
  refine c_seq (c_region ?_)
  refine qs 1 [(4, .bool false)] hS ?_; intro s hS
  refine x_nil (sq_n (c_ret (sq_r ?_)))
  injection h with h; subst h
  exact end_W hH (r_tmp (v := .bool false) hS rfl r_nil) rfl (by kernel_rfl) (by simp [pureT, pureL, E_bool])
 ·have h := it_neg hc1 h
  refine c_cond hS rfl (fun hf => tt_absurd hc1 hf) (fun _ => ?_)
  refine c_skip (sq_n (c_seq (c_seq (c_region ?_))))
  refine qs 1 [(0, a0.t), (1, a1.t), (5, i4 0)] hS ?_; intro s hS
  refine x_nil (sq_n (c_block ?_))
  obtain ⟨y1, hy1, h⟩ := bind_some h
  refine c_loop (fun (st1 : Int) (fr : Fr) => Sub [(0, a0.t), (1, a1.t), (5, i4 st1)] fr.s ∧ Heap σ0 fr.σ []) (fun (y1 : (Unit ⊕ Bool)) (e : AExit) (fr : Fr) => (Sum.elim (fun y => e = (.exit 0) ∧ Sub [] fr.s ∧ Heap σ0 fr.σ []) (fun y => e = .ret ∧ endW Try.prog (Try.f47.results.toList) σ0 (E_bool y) .ret fr)) y1) hy1 (And.intro (sub_to hS (by kernel_rfl)) hH) ?_ ?_
  ·clear h hy1 hS hH; clear y1; intro st1 x fr h HI; obtain ⟨s, σ⟩ := fr; obtain ⟨hS, hH⟩ := HI
   refine c_seq (c_seq (c_region ?_))
   refine qs 4 [(0, a0.t), (1, a1.t), (5, i4 st1), (14, .bool (decide (st1 < (a0.l.length : Int))))] hS ?_; intro s hS
   refine x_nil (sq_n ?_)
   by_cases hc2 : (decide (st1 < (a0.l.length : Int))) = true
   ·have h := it_pos hc2 h
    refine c_cond hS rfl (fun _ => ?_) (fun hf => ff_absurd hc2 hf)
    refine c_skip (sq_n (c_seq (c_block (c_seq ?_))))
    refine c_draw (by kernel_rfl) hH ?_; intro mb σ hH
    refine qs 2 [(0, a0.t), (1, a1.t), (5, i4 st1), (17, a0.t), (18, i4 st1)] hS ?_; intro s hS
    obtain ⟨y2, hy2, h⟩ := bind_some h
    refine q_elt (sl := a0) (e := 28) [i4 y2.Kind, i4 y2.Num, .str y2.Text, i4 y2.Ref] rfl hS rfl rfl (by kernel_rfl) (by kernel_rfl) hy2 rfl ?_; intro rest1 s hS
    refine qs 3 [(0, a0.t), (1, a1.t), (5, i4 st1), (20, .agg (DValue.cells y2)), (21, a1.t), (22, i4 st1)] hS ?_; intro s hS
    obtain ⟨y3, hy3, h⟩ := bind_some h
    refine q_elt (sl := a1) (e := 28) [i4 y3.Kind, i4 y3.Num, .str y3.Text, i4 y3.Ref] rfl hS rfl rfl (by kernel_rfl) (by kernel_rfl) hy3 rfl ?_; intro rest2 s hS
    refine qs 1 [(0, a0.t), (1, a1.t), (5, i4 st1), (20, .agg (DValue.cells y2)), (24, .agg (DValue.cells y3))] hS ?_; intro s hS
    obtain ⟨y4, hy4, h⟩ := bind_some h
    refine q_callF (a := []) (b := []) (xs := [.agg (DValue.cells y2), .agg (DValue.cells y3)]) rfl hS rfl rfl hy4 ?_; intro s hS
    refine qs 1 [(0, a0.t), (1, a1.t), (5, i4 st1), (26, .bool (!y4))] hS ?_; intro s hS
    refine x_nil (sq_n ?_)
    by_cases hc3 : (!y4) = true
    ·have h := it_pos hc3 h
     refine c_cond hS rfl (fun _ => ?_) (fun hf => ff_absurd hc3 hf)
     refine c_seq (c_region ?_)
     refine qs 1 [(4, .bool false)] hS ?_; intro s hS
     refine x_nil (sq_n (c_ret (bk_r (sq_r ?_))))
     injection h with h; subst h
     exact And.intro rfl (end_W hH (r_tmp (v := .bool false) hS rfl r_nil) rfl (by kernel_rfl) (by simp [pureT, pureL, E_bool]))
    ·have h := it_neg hc3 h
     refine c_cond hS rfl (fun hf => tt_absurd hc3 hf) (fun _ => ?_)
     refine c_skip (bk_n (sq_n (c_region ?_)))
     refine qs 3 [(0, a0.t), (1, a1.t), (5, i4 (IntKind.i64.wrap (st1 + 1)))] hS ?_; intro s hS
     refine x_nil ?_
     injection h with h; subst h
     exact And.intro (sub_to hS (by kernel_rfl)) hH
   ·have h := it_neg hc2 h
    refine c_cond hS rfl (fun hf => tt_absurd hc2 hf) (fun _ => ?_)
    refine c_exit (sq_x ?_)
    injection h with h; subst h
    exact And.intro rfl (And.intro (sub_to hS (by kernel_rfl)) hH)
  ·clear hS hH; intro e fr HF; obtain ⟨s, σ⟩ := fr
   rcases y1 with y1 | y1
   ·obtain ⟨rfl, hS, hH⟩ := HF
    refine bk_e (sq_n (c_seq (c_region ?_)))
    refine qs 1 [(4, .bool true)] hS ?_; intro s hS
    refine x_nil (sq_n (c_ret ?_))
    injection h with h; subst h
    exact end_W hH (r_tmp (v := .bool true) hS rfl r_nil) rfl (by kernel_rfl) (by simp [pureT, pureL, E_bool])
   ·obtain ⟨rfl, HE⟩ := HF
    refine bk_r (sq_r ?_)
    injection h with h; subst h; exact HE
noncomputable def B_laws_heldValueS (a0 : (Sl DValue)) (a1 : Int) : Option Int := ((loopO (S := (Int × Int)) (R := (Int ⊕ Int)) (fun st1 => (if (decide (st1.2 < (a0.l.length : Int))) = true then ((elt a0 st1.2).bind fun y2 => (if (!decide (y2.Kind = st1.1)) = true then (some (.inr (.inr (-1)))) else ((elt a0 st1.2).bind fun y3 => (if (!decide (y3.Num = (IntKind.i64.wrap (st1.1 + 1)))) = true then (some (.inr (.inr (-1)))) else ((elt a0 st1.2).bind fun y4 => ((F_laws_markText (IntKind.i64.wrap ((IntKind.i64.wrap (st1.1 + 1)) + 1))).bind fun y5 => (if (!decide (y4.Text = y5)) = true then (some (.inr (.inr (-1)))) else ((elt a0 st1.2).bind fun y6 => (if (!decide (y6.Ref = (IntKind.i64.wrap ((IntKind.i64.wrap ((IntKind.i64.wrap (st1.1 + 1)) + 1)) + 1)))) = true then (some (.inr (.inr (-1)))) else (some (.inl ((IntKind.i64.wrap ((IntKind.i64.wrap ((IntKind.i64.wrap ((IntKind.i64.wrap (st1.1 + 1)) + 1)) + 1)) + 1)), (IntKind.i64.wrap (st1.2 + 1)))))))))))))) else (some (.inr (.inl st1.1))))) (a1, 0)).bind fun y1 => (Sum.elim (fun y1 => (some y1)) (fun y1 => (some y1)) y1))
theorem u_laws_heldValueS (a0 : (Sl DValue)) (a1 : Int) (r : Int) (h : B_laws_heldValueS a0 a1 = some r) : F_laws_heldValueS a0 a1 = some r := by
 unfold B_laws_heldValueS at h
 refine semW_of E_i64_inj rfl rfl ok_49 rfl (all_cons (by kernel_rfl) (all_cons (by kernel_rfl) all_nil)) ?_
 intro σ0 s hS hH
 have hS := sub_to (L' := [(0, a0.t), (1, i4 a1)]) hS (by kernel_rfl)
 refine c_seq (c_region ?_)
 refine qs 1 [(0, a0.t), (1, i4 a1)] hS ?_; intro s hS
 refine x_nil (sq_n (c_seq (c_seq (c_region ?_))))
 refine qs 1 [(0, a0.t), (1, i4 a1), (5, i4 0)] hS ?_; intro s hS
 refine x_nil (sq_n (c_block ?_))
 obtain ⟨y1, hy1, h⟩ := bind_some h
 refine c_loop (fun (st1 : (Int × Int)) (fr : Fr) => Sub [(0, a0.t), (1, i4 st1.1), (5, i4 st1.2)] fr.s ∧ Heap σ0 fr.σ []) (fun (y1 : (Int ⊕ Int)) (e : AExit) (fr : Fr) => (Sum.elim (fun y => e = (.exit 0) ∧ Sub [(1, i4 y)] fr.s ∧ Heap σ0 fr.σ []) (fun y => e = .ret ∧ endW Try.prog (Try.f49.results.toList) σ0 (E_i64 y) .ret fr)) y1) hy1 (And.intro (sub_to hS (by kernel_rfl)) hH) ?_ ?_
 ·clear h hy1 hS hH; clear y1; intro st1 x fr h HI; obtain ⟨s, σ⟩ := fr; obtain ⟨hS, hH⟩ := HI
  refine c_seq (c_seq (c_region ?_))
  refine qs 4 [(0, a0.t), (1, i4 st1.1), (5, i4 st1.2), (9, .bool (decide (st1.2 < (a0.l.length : Int))))] hS ?_; intro s hS
  refine x_nil (sq_n ?_)
  by_cases hc1 : (decide (st1.2 < (a0.l.length : Int))) = true
  ·have h := it_pos hc1 h
   refine c_cond hS rfl (fun _ => ?_) (fun hf => ff_absurd hc1 hf)
   refine c_skip (sq_n (c_seq (c_block (c_seq (c_seq (c_region ?_))))))
   refine qs 2 [(0, a0.t), (1, i4 st1.1), (5, i4 st1.2), (12, a0.t), (13, i4 st1.2)] hS ?_; intro s hS
   obtain ⟨y2, hy2, h⟩ := bind_some h
   refine q_elt (sl := a0) (e := 28) [i4 y2.Kind, i4 y2.Num, .str y2.Text, i4 y2.Ref] rfl hS rfl rfl (by kernel_rfl) (by kernel_rfl) hy2 rfl ?_; intro rest1 s hS
   refine qs 4 [(0, a0.t), (1, i4 st1.1), (5, i4 st1.2), (18, .bool (!decide (y2.Kind = st1.1)))] hS ?_; intro s hS
   refine x_nil (sq_n ?_)
   by_cases hc2 : (!decide (y2.Kind = st1.1)) = true
   ·have h := it_pos hc2 h
    refine c_cond hS rfl (fun _ => ?_) (fun hf => ff_absurd hc2 hf)
    refine c_seq (c_region ?_)
    refine qs 1 [(4, i4 (-1))] hS ?_; intro s hS
    refine x_nil (sq_n (c_ret (sq_r (bk_r (sq_r ?_)))))
    injection h with h; subst h
    exact And.intro rfl (end_W hH (r_tmp (v := i4 (-1)) hS rfl r_nil) rfl (by kernel_rfl) (by simp [pureT, pureL, E_i64]))
   ·have h := it_neg hc2 h
    refine c_cond hS rfl (fun hf => tt_absurd hc2 hf) (fun _ => ?_)
    refine c_skip (sq_n (c_seq (c_region ?_)))
    refine qs 3 [(0, a0.t), (1, i4 (IntKind.i64.wrap (st1.1 + 1))), (5, i4 st1.2)] hS ?_; intro s hS
    refine x_nil (sq_n (c_seq (c_seq (c_region ?_))))
    refine qs 2 [(0, a0.t), (1, i4 (IntKind.i64.wrap (st1.1 + 1))), (5, i4 st1.2), (21, a0.t), (22, i4 st1.2)] hS ?_; intro s hS
    obtain ⟨y3, hy3, h⟩ := bind_some h
    refine q_elt (sl := a0) (e := 28) [i4 y3.Kind, i4 y3.Num, .str y3.Text, i4 y3.Ref] rfl hS rfl rfl (by kernel_rfl) (by kernel_rfl) hy3 rfl ?_; intro rest2 s hS
    refine qs 4 [(0, a0.t), (1, i4 (IntKind.i64.wrap (st1.1 + 1))), (5, i4 st1.2), (27, .bool (!decide (y3.Num = (IntKind.i64.wrap (st1.1 + 1)))))] hS ?_; intro s hS
    refine x_nil (sq_n ?_)
    by_cases hc3 : (!decide (y3.Num = (IntKind.i64.wrap (st1.1 + 1)))) = true
    ·have h := it_pos hc3 h
     refine c_cond hS rfl (fun _ => ?_) (fun hf => ff_absurd hc3 hf)
     refine c_seq (c_region ?_)
     refine qs 1 [(4, i4 (-1))] hS ?_; intro s hS
     refine x_nil (sq_n (c_ret (sq_r (bk_r (sq_r ?_)))))
     injection h with h; subst h
     exact And.intro rfl (end_W hH (r_tmp (v := i4 (-1)) hS rfl r_nil) rfl (by kernel_rfl) (by simp [pureT, pureL, E_i64]))
    ·have h := it_neg hc3 h
     refine c_cond hS rfl (fun hf => tt_absurd hc3 hf) (fun _ => ?_)
     refine c_skip (sq_n (c_seq (c_region ?_)))
     refine qs 3 [(0, a0.t), (1, i4 (IntKind.i64.wrap ((IntKind.i64.wrap (st1.1 + 1)) + 1))), (5, i4 st1.2)] hS ?_; intro s hS
     refine x_nil (sq_n (c_seq (c_seq ?_)))
     refine c_draw (by kernel_rfl) hH ?_; intro mb σ hH
     refine qs 2 [(0, a0.t), (1, i4 (IntKind.i64.wrap ((IntKind.i64.wrap (st1.1 + 1)) + 1))), (5, i4 st1.2), (30, a0.t), (31, i4 st1.2)] hS ?_; intro s hS
     obtain ⟨y4, hy4, h⟩ := bind_some h
     refine q_elt (sl := a0) (e := 28) [i4 y4.Kind, i4 y4.Num, .str y4.Text, i4 y4.Ref] rfl hS rfl rfl (by kernel_rfl) (by kernel_rfl) hy4 rfl ?_; intro rest3 s hS
     refine qs 3 [(0, a0.t), (1, i4 (IntKind.i64.wrap ((IntKind.i64.wrap (st1.1 + 1)) + 1))), (5, i4 st1.2), (34, .str y4.Text), (35, i4 (IntKind.i64.wrap ((IntKind.i64.wrap (st1.1 + 1)) + 1)))] hS ?_; intro s hS
     obtain ⟨y5, hy5, h⟩ := bind_some h
     refine q_callF (a := []) (b := []) (xs := [i4 (IntKind.i64.wrap ((IntKind.i64.wrap (st1.1 + 1)) + 1))]) rfl hS rfl rfl hy5 ?_; intro s hS
     refine qs 1 [(0, a0.t), (1, i4 (IntKind.i64.wrap ((IntKind.i64.wrap (st1.1 + 1)) + 1))), (5, i4 st1.2), (37, .bool (!decide (y4.Text = y5)))] hS ?_; intro s hS
     refine x_nil (sq_n ?_)
     by_cases hc4 : (!decide (y4.Text = y5)) = true
     ·have h := it_pos hc4 h
      refine c_cond hS rfl (fun _ => ?_) (fun hf => ff_absurd hc4 hf)
      refine c_seq (c_region ?_)
      refine qs 1 [(4, i4 (-1))] hS ?_; intro s hS
      refine x_nil (sq_n (c_ret (sq_r (bk_r (sq_r ?_)))))
      injection h with h; subst h
      exact And.intro rfl (end_W hH (r_tmp (v := i4 (-1)) hS rfl r_nil) rfl (by kernel_rfl) (by simp [pureT, pureL, E_i64]))
     ·have h := it_neg hc4 h
      refine c_cond hS rfl (fun hf => tt_absurd hc4 hf) (fun _ => ?_)
      refine c_skip (sq_n (c_seq (c_region ?_)))
      refine qs 3 [(0, a0.t), (1, i4 (IntKind.i64.wrap ((IntKind.i64.wrap ((IntKind.i64.wrap (st1.1 + 1)) + 1)) + 1))), (5, i4 st1.2)] hS ?_; intro s hS
      refine x_nil (sq_n (c_seq (c_seq (c_region ?_))))
      refine qs 2 [(0, a0.t), (1, i4 (IntKind.i64.wrap ((IntKind.i64.wrap ((IntKind.i64.wrap (st1.1 + 1)) + 1)) + 1))), (5, i4 st1.2), (40, a0.t), (41, i4 st1.2)] hS ?_; intro s hS
      obtain ⟨y6, hy6, h⟩ := bind_some h
      refine q_elt (sl := a0) (e := 28) [i4 y6.Kind, i4 y6.Num, .str y6.Text, i4 y6.Ref] rfl hS rfl rfl (by kernel_rfl) (by kernel_rfl) hy6 rfl ?_; intro rest4 s hS
      refine qs 4 [(0, a0.t), (1, i4 (IntKind.i64.wrap ((IntKind.i64.wrap ((IntKind.i64.wrap (st1.1 + 1)) + 1)) + 1))), (5, i4 st1.2), (46, .bool (!decide (y6.Ref = (IntKind.i64.wrap ((IntKind.i64.wrap ((IntKind.i64.wrap (st1.1 + 1)) + 1)) + 1)))))] hS ?_; intro s hS
      refine x_nil (sq_n ?_)
      by_cases hc5 : (!decide (y6.Ref = (IntKind.i64.wrap ((IntKind.i64.wrap ((IntKind.i64.wrap (st1.1 + 1)) + 1)) + 1)))) = true
      ·have h := it_pos hc5 h
       refine c_cond hS rfl (fun _ => ?_) (fun hf => ff_absurd hc5 hf)
       refine c_seq (c_region ?_)
       refine qs 1 [(4, i4 (-1))] hS ?_; intro s hS
       refine x_nil (sq_n (c_ret (sq_r (bk_r (sq_r ?_)))))
       injection h with h; subst h
       exact And.intro rfl (end_W hH (r_tmp (v := i4 (-1)) hS rfl r_nil) rfl (by kernel_rfl) (by simp [pureT, pureL, E_i64]))
      ·have h := it_neg hc5 h
       refine c_cond hS rfl (fun hf => tt_absurd hc5 hf) (fun _ => ?_)
       refine c_skip (sq_n (c_region ?_))
       refine qs 3 [(0, a0.t), (1, i4 (IntKind.i64.wrap ((IntKind.i64.wrap ((IntKind.i64.wrap ((IntKind.i64.wrap (st1.1 + 1)) + 1)) + 1)) + 1))), (5, i4 st1.2)] hS ?_; intro s hS
       refine x_nil (bk_n (sq_n (c_region ?_)))
       refine qs 3 [(0, a0.t), (1, i4 (IntKind.i64.wrap ((IntKind.i64.wrap ((IntKind.i64.wrap ((IntKind.i64.wrap (st1.1 + 1)) + 1)) + 1)) + 1))), (5, i4 (IntKind.i64.wrap (st1.2 + 1)))] hS ?_; intro s hS
       refine x_nil ?_
       injection h with h; subst h
       exact And.intro (sub_to hS (by kernel_rfl)) hH
  ·have h := it_neg hc1 h
   refine c_cond hS rfl (fun hf => tt_absurd hc1 hf) (fun _ => ?_)
   refine c_exit (sq_x ?_)
   injection h with h; subst h
   exact And.intro rfl (And.intro (sub_to hS (by kernel_rfl)) hH)
 ·clear hS hH; intro e fr HF; obtain ⟨s, σ⟩ := fr
  rcases y1 with y1 | y1
  ·obtain ⟨rfl, hS, hH⟩ := HF
   refine bk_e (sq_n (c_seq (c_region ?_)))
   refine qs 2 [(4, i4 y1)] hS ?_; intro s hS
   refine x_nil (sq_n (c_ret ?_))
   injection h with h; subst h
   exact end_W hH (r_tmp (v := i4 y1) hS rfl r_nil) rfl (by kernel_rfl) (by simp [pureT, pureL, E_i64])
  ·obtain ⟨rfl, HE⟩ := HF
   refine bk_r (sq_r ?_)
   injection h with h; subst h; exact HE
noncomputable def B_laws_szObjectS (a0 : (Sl DObject)) (a1 : Int) : Option Int := (if (decide ((IntKind.i64.wrap (a1 - (a0.l.length : Int))) < 0)) = true then (some (-1)) else ((loopO (S := (Int × Int)) (R := (Int ⊕ Int)) (fun st1 => (if (decide (st1.2 < (a0.l.length : Int))) = true then ((elt a0 st1.2).bind fun y2 => ((F_laws_szObject y2 st1.1).bind fun y3 => (if (decide (y3 < 0)) = true then (some (.inr (.inr (-1)))) else (some (.inl (y3, (IntKind.i64.wrap (st1.2 + 1)))))))) else (some (.inr (.inl st1.1))))) ((IntKind.i64.wrap (a1 - (a0.l.length : Int))), 0)).bind fun y1 => (Sum.elim (fun y1 => (some y1)) (fun y1 => (some y1)) y1)))
theorem u_laws_szObjectS (a0 : (Sl DObject)) (a1 : Int) (r : Int) (h : B_laws_szObjectS a0 a1 = some r) : F_laws_szObjectS a0 a1 = some r := by
 unfold B_laws_szObjectS at h
 refine semW_of E_i64_inj rfl rfl ok_57 rfl (all_cons (by kernel_rfl) (all_cons (by kernel_rfl) all_nil)) ?_
 intro σ0 s hS hH
 have hS := sub_to (L' := [(0, a0.t), (1, i4 a1)]) hS (by kernel_rfl)
 refine c_seq (c_region ?_)
 refine qs 1 [(0, a0.t), (1, i4 a1)] hS ?_; intro s hS
 refine x_nil (sq_n (c_seq (c_region ?_)))
 refine qs 5 [(0, a0.t), (1, i4 (IntKind.i64.wrap (a1 - (a0.l.length : Int))))] hS ?_; intro s hS
 refine x_nil (sq_n (c_seq (c_seq (c_region ?_))))
 refine qs 2 [(0, a0.t), (1, i4 (IntKind.i64.wrap (a1 - (a0.l.length : Int)))), (11, .bool (decide ((IntKind.i64.wrap (a1 - (a0.l.length : Int))) < 0)))] hS ?_; intro s hS
 refine x_nil (sq_n ?_)
 by_cases hc1 : (decide ((IntKind.i64.wrap (a1 - (a0.l.length : Int))) < 0)) = true
 ·have h := it_pos hc1 h
  refine c_cond hS rfl (fun _ => ?_) (fun hf => ff_absurd hc1 hf)
  refine c_seq (c_region ?_)
  refine qs 1 [(4, i4 (-1))] hS ?_; intro s hS
  refine x_nil (sq_n (c_ret (sq_r ?_)))
  injection h with h; subst h
  exact end_W hH (r_tmp (v := i4 (-1)) hS rfl r_nil) rfl (by kernel_rfl) (by simp [pureT, pureL, E_i64])
 ·have h := it_neg hc1 h
  refine c_cond hS rfl (fun hf => tt_absurd hc1 hf) (fun _ => ?_)
  refine c_skip (sq_n (c_seq (c_seq (c_region ?_))))
  refine qs 1 [(0, a0.t), (1, i4 (IntKind.i64.wrap (a1 - (a0.l.length : Int)))), (5, i4 0)] hS ?_; intro s hS
  refine x_nil (sq_n (c_block ?_))
  obtain ⟨y1, hy1, h⟩ := bind_some h
  refine c_loop (fun (st1 : (Int × Int)) (fr : Fr) => Sub [(0, a0.t), (1, i4 st1.1), (5, i4 st1.2)] fr.s ∧ Heap σ0 fr.σ []) (fun (y1 : (Int ⊕ Int)) (e : AExit) (fr : Fr) => (Sum.elim (fun y => e = (.exit 0) ∧ Sub [(1, i4 y)] fr.s ∧ Heap σ0 fr.σ []) (fun y => e = .ret ∧ endW Try.prog (Try.f57.results.toList) σ0 (E_i64 y) .ret fr)) y1) hy1 (And.intro (sub_to hS (by kernel_rfl)) hH) ?_ ?_
  ·clear h hy1 hS hH; clear y1; intro st1 x fr h HI; obtain ⟨s, σ⟩ := fr; obtain ⟨hS, hH⟩ := HI
   refine c_seq (c_seq (c_region ?_))
   refine qs 4 [(0, a0.t), (1, i4 st1.1), (5, i4 st1.2), (15, .bool (decide (st1.2 < (a0.l.length : Int))))] hS ?_; intro s hS
   refine x_nil (sq_n ?_)
   by_cases hc2 : (decide (st1.2 < (a0.l.length : Int))) = true
   ·have h := it_pos hc2 h
    refine c_cond hS rfl (fun _ => ?_) (fun hf => ff_absurd hc2 hf)
    refine c_skip (sq_n (c_seq (c_block (c_seq (c_region ?_)))))
    refine qs 2 [(0, a0.t), (1, i4 st1.1), (5, i4 st1.2), (18, a0.t), (19, i4 st1.2)] hS ?_; intro s hS
    obtain ⟨y2, hy2, h⟩ := bind_some h
    refine q_elt (sl := a0) (e := 45) [i4 y2.Id, i4 y2.Kind, .str y2.Name, i4 y2.Low, y2.Keys.t, y2.Vals.t, i4 y2.Default.Kind, i4 y2.Default.Num, .str y2.Default.Text, i4 y2.Default.Ref] rfl hS rfl rfl (by kernel_rfl) (by kernel_rfl) hy2 rfl ?_; intro rest1 s hS
    refine qs 2 [(0, a0.t), (5, i4 st1.2), (21, .agg (DObject.cells y2)), (22, i4 st1.1)] hS ?_; intro s hS
    obtain ⟨y3, hy3, h⟩ := bind_some h
    refine q_callF (a := []) (b := []) (xs := [.agg (DObject.cells y2), i4 st1.1]) rfl hS rfl rfl hy3 ?_; intro s hS
    refine qs 1 [(0, a0.t), (1, i4 y3), (5, i4 st1.2)] hS ?_; intro s hS
    refine x_nil (sq_n (c_seq (c_region ?_)))
    refine qs 2 [(0, a0.t), (1, i4 y3), (5, i4 st1.2), (25, .bool (decide (y3 < 0)))] hS ?_; intro s hS
    refine x_nil (sq_n ?_)
    by_cases hc3 : (decide (y3 < 0)) = true
    ·have h := it_pos hc3 h
     refine c_cond hS rfl (fun _ => ?_) (fun hf => ff_absurd hc3 hf)
     refine c_seq (c_region ?_)
     refine qs 1 [(4, i4 (-1))] hS ?_; intro s hS
     refine x_nil (sq_n (c_ret (bk_r (sq_r ?_))))
     injection h with h; subst h
     exact And.intro rfl (end_W hH (r_tmp (v := i4 (-1)) hS rfl r_nil) rfl (by kernel_rfl) (by simp [pureT, pureL, E_i64]))
    ·have h := it_neg hc3 h
     refine c_cond hS rfl (fun hf => tt_absurd hc3 hf) (fun _ => ?_)
     refine c_skip (bk_n (sq_n (c_region ?_)))
     refine qs 3 [(0, a0.t), (1, i4 y3), (5, i4 (IntKind.i64.wrap (st1.2 + 1)))] hS ?_; intro s hS
     refine x_nil ?_
     injection h with h; subst h
     exact And.intro (sub_to hS (by kernel_rfl)) hH
   ·have h := it_neg hc2 h
    refine c_cond hS rfl (fun hf => tt_absurd hc2 hf) (fun _ => ?_)
    refine c_exit (sq_x ?_)
    injection h with h; subst h
    exact And.intro rfl (And.intro (sub_to hS (by kernel_rfl)) hH)
  ·clear hS hH; intro e fr HF; obtain ⟨s, σ⟩ := fr
   rcases y1 with y1 | y1
   ·obtain ⟨rfl, hS, hH⟩ := HF
    refine bk_e (sq_n (c_seq (c_region ?_)))
    refine qs 2 [(4, i4 y1)] hS ?_; intro s hS
    refine x_nil (sq_n (c_ret ?_))
    injection h with h; subst h
    exact end_W hH (r_tmp (v := i4 y1) hS rfl r_nil) rfl (by kernel_rfl) (by simp [pureT, pureL, E_i64])
   ·obtain ⟨rfl, HE⟩ := HF
    refine bk_r (sq_r ?_)
    injection h with h; subst h; exact HE
end Go.Am
