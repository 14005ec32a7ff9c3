/- Functions of the program. -/
import Derived.Test.YtfnjieagnkmceaaAd0
set_option maxRecDepth 100000
set_option maxHeartbeats 4000000
set_option linter.unusedVariables false
set_option linter.unusedSimpArgs false
namespace Go.Am
open Go.Proofs
noncomputable def B_impl_objectKind (a0 : Int) : Option Int := (some (IntKind.i64.wrap ((IntKind.i64.wrap (a0 - 4)) + 1)))
theorem u_impl_objectKind (a0 : Int) (r : Int) (h : B_impl_objectKind a0 = some r) : F_impl_objectKind a0 = some r := by
 unfold B_impl_objectKind at h
 refine semW_of E_i64_inj rfl rfl ok_128 rfl (all_cons (by kernel_rfl) all_nil) ?_
 intro σ0 s hS hH
 have hS := sub_to (L' := [(0, i4 a0)]) hS (by kernel_rfl)
 refine c_seq (c_region ?_)
 refine qs 1 [(0, i4 a0)] hS ?_; intro s hS
 refine x_nil (sq_n (c_seq (c_region ?_)))
 refine qs 4 [(2, i4 (IntKind.i64.wrap ((IntKind.i64.wrap (a0 - 4)) + 1)))] hS ?_; intro s hS
 refine x_nil (sq_n (c_ret ?_))
 injection h with h; subst h
 exact end_W hH (r_tmp (v := i4 (IntKind.i64.wrap ((IntKind.i64.wrap (a0 - 4)) + 1))) hS rfl r_nil) rfl (by kernel_rfl) (by simp [pureT, pureL, E_i64])
noncomputable def B_slices_Index_Value (a0 : (Sl DValue)) (a1 : DValue) : Option Int := ((loopO (S := Int) (R := (Unit ⊕ Int)) (fun st1 => (if (decide (st1 < (a0.l.length : Int))) = true then ((elt a0 st1).bind fun y2 => (if ((decide (a1.Kind = y2.Kind) && (decide (a1.Num = y2.Num) && (decide (a1.Text = y2.Text) && (decide (a1.Ref = y2.Ref) && true))))) = true then (some (.inr (.inr st1))) else (some (.inl (IntKind.i64.wrap (st1 + 1)))))) else (some (.inr (.inl ()))))) 0).bind fun y1 => (Sum.elim (fun y1 => (some (-1))) (fun y1 => (some y1)) y1))
theorem u_slices_Index_Value (a0 : (Sl DValue)) (a1 : DValue) (r : Int) (h : B_slices_Index_Value a0 a1 = some r) : F_slices_Index_Value a0 a1 = some r := by
 unfold B_slices_Index_Value at h
 refine semW_of E_i64_inj rfl rfl ok_131 rfl (all_cons (by kernel_rfl) (all_cons (by kernel_rfl) all_nil)) ?_
 intro σ0 s hS hH
 have hS := sub_to (L' := [(0, a0.t), (1, .agg (DValue.cells a1))]) hS (by kernel_rfl)
 refine c_seq (c_region ?_)
 refine q_box (v := .agg (DValue.cells a1)) (cs := [i4 a1.Kind, i4 a1.Num, .str a1.Text, i4 a1.Ref]) rfl hS hH rfl rfl (by kernel_rfl) ?_; intro b1 σ s hH hS
 refine qs 1 [(0, a0.t), (3, .ptr b1 0 0 4)] hS ?_; intro s hS
 refine x_nil (sq_n (c_seq (c_seq (c_region ?_))))
 refine qs 3 [(0, a0.t), (3, .ptr b1 0 0 4), (7, i4 (a0.l.length : Int)), (8, i4 0)] hS ?_; intro s hS
 refine x_nil (sq_n (c_block ?_))
 obtain ⟨y1, hy1, h⟩ := bind_some h
 refine c_loop (fun (st1 : Int) (fr : Fr) => Sub [(0, a0.t), (3, .ptr b1 0 0 4), (7, i4 (a0.l.length : Int)), (8, i4 st1)] fr.s ∧ Heap σ0 fr.σ [.box b1 (DValue.cells a1)]) (fun (y1 : (Unit ⊕ Int)) (e : AExit) (fr : Fr) => (Sum.elim (fun y => e = (.exit 0) ∧ Sub [] fr.s ∧ Heap σ0 fr.σ []) (fun y => e = .ret ∧ endW Try.prog (Try.f131.results.toList) σ0 (E_i64 y) .ret fr)) y1) hy1 (And.intro (sub_to hS (by kernel_rfl)) hH) ?_ ?_
 ·clear h hy1 hS hH; clear y1; intro st1 x fr h HI; obtain ⟨s, σ⟩ := fr; obtain ⟨hS, hH⟩ := HI
  refine c_seq (c_region ?_)
  refine qs 1 [(0, a0.t), (3, .ptr b1 0 0 4), (7, i4 (a0.l.length : Int)), (8, i4 st1), (9, .bool (decide (st1 < (a0.l.length : Int))))] hS ?_; intro s hS
  refine x_nil (sq_n (c_seq ?_))
  by_cases hc1 : (decide (st1 < (a0.l.length : Int))) = true
  ·have h := it_pos hc1 h
   refine c_cond hS rfl (fun _ => ?_) (fun hf => ff_absurd hc1 hf)
   refine c_skip (sq_n (c_seq (c_block (c_seq (c_region ?_)))))
   refine qs 2 [(0, a0.t), (3, .ptr b1 0 0 4), (5, i4 st1), (7, i4 (a0.l.length : Int)), (8, i4 st1)] hS ?_; intro s hS
   refine x_nil (sq_n (c_seq ?_))
   refine c_draw (by kernel_rfl) hH ?_; intro mb σ hH
   refine q_load (v := .agg (DValue.cells a1)) 0 trivial rfl hS hH rfl rfl (by kernel_rfl) ?_; intro s hS
   refine qs 2 [(0, a0.t), (3, .ptr b1 0 0 4), (5, i4 st1), (7, i4 (a0.l.length : Int)), (8, i4 st1), (11, .agg (DValue.cells a1)), (12, a0.t), (13, i4 st1)] hS ?_; intro s hS
   obtain ⟨y2, hy2, h⟩ := bind_some h
   refine q_elt (sl := a0) (e := 28) [i4 y2.Kind, i4 y2.Num, .str y2.Text, i4 y2.Ref] rfl hS rfl rfl (by kernel_rfl) (by kernel_rfl) hy2 rfl ?_; intro rest1 s hS
   refine qs 1 [(0, a0.t), (3, .ptr b1 0 0 4), (5, i4 st1), (7, i4 (a0.l.length : Int)), (8, i4 st1), (11, .agg (DValue.cells a1)), (15, .agg (DValue.cells y2))] hS ?_; intro s hS
   refine q_eqS (xs := [i4 a1.Kind, i4 a1.Num, .str a1.Text, i4 a1.Ref]) (ys := [i4 y2.Kind, i4 y2.Num, .str y2.Text, i4 y2.Ref]) (v := (decide (a1.Kind = y2.Kind) && (decide (a1.Num = y2.Num) && (decide (a1.Text = y2.Text) && (decide (a1.Ref = y2.Ref) && true))))) rfl hS rfl rfl (by kernel_rfl) (by kernel_rfl) ?_; intro s hS
   refine x_nil (sq_n ?_)
   by_cases hc2 : ((decide (a1.Kind = y2.Kind) && (decide (a1.Num = y2.Num) && (decide (a1.Text = y2.Text) && (decide (a1.Ref = y2.Ref) && true))))) = true
   ·have h := it_pos hc2 h
    refine c_cond hS rfl (fun _ => ?_) (fun hf => ff_absurd hc2 hf)
    refine c_seq (c_region ?_)
    refine qs 2 [(4, i4 st1)] hS ?_; intro s hS
    refine x_nil (sq_n (c_ret (bk_r (sq_r ?_))))
    injection h with h; subst h
    exact And.intro rfl (end_W hH (r_tmp (v := i4 st1) hS rfl r_nil) rfl (by kernel_rfl) (by simp [pureT, pureL, E_i64]))
   ·have h := it_neg hc2 h
    refine c_cond hS rfl (fun hf => tt_absurd hc2 hf) (fun _ => ?_)
    refine c_skip (bk_n (sq_n (c_region ?_)))
    refine qs 2 [(0, a0.t), (3, .ptr b1 0 0 4), (7, i4 (a0.l.length : Int)), (8, i4 (IntKind.i64.wrap (st1 + 1)))] hS ?_; intro s hS
    refine x_nil ?_
    injection h with h; subst h
    exact And.intro (sub_to hS (by kernel_rfl)) hH
  ·have h := it_neg hc1 h
   refine c_cond hS rfl (fun hf => tt_absurd hc1 hf) (fun _ => ?_)
   refine c_exit (sq_x ?_)
   injection h with h; subst h
   exact And.intro rfl (And.intro (sub_to hS (by kernel_rfl)) (Heap.sel hH [] rfl (by kernel_rfl)))
 ·clear hS hH; intro e fr HF; obtain ⟨s, σ⟩ := fr
  rcases y1 with y1 | y1
  ·obtain ⟨rfl, hS, hH⟩ := HF
   refine bk_e (sq_n (c_seq (c_region ?_)))
   refine qs 1 [(4, i4 (-1))] hS ?_; intro s hS
   refine x_nil (sq_n (c_ret ?_))
   injection h with h; subst h
   exact end_W hH (r_tmp (v := i4 (-1)) hS rfl r_nil) rfl (by kernel_rfl) (by simp [pureT, pureL, E_i64])
  ·obtain ⟨rfl, HE⟩ := HF
   refine bk_r (sq_r ?_)
   injection h with h; subst h; exact HE
noncomputable def B_impl_textOf (a0 : ByteArray) : Option DValue := (some (⟨1, 0, a0, 0⟩ : DValue))
theorem u_impl_textOf (a0 : ByteArray) (r : DValue) (h : B_impl_textOf a0 = some r) : F_impl_textOf a0 = some r := by
 unfold B_impl_textOf at h
 refine semW_of E_DValue_inj rfl rfl ok_132 rfl (all_cons (by kernel_rfl) all_nil) ?_
 intro σ0 s hS hH
 have hS := sub_to (L' := [(0, .str a0)]) hS (by kernel_rfl)
 refine c_seq (c_region ?_)
 refine q_alloc (z := [i4 0, i4 0, .str ⟨#[]⟩, i4 0]) rfl hS hH (by kernel_rfl) ?_; intro b1 σ s hH hS
 refine x_nil (sq_n (c_seq (c_region ?_)))
 refine qs 2 [(2, .ptr b1 0 0 4), (4, .agg [i4 1, i4 0, .str a0, i4 0])] hS ?_; intro s hS
 refine q_storeA (cs := [i4 1, i4 0, .str a0, i4 0]) rfl hS hH rfl rfl (by kernel_rfl) ?_; intro σ s hH hS
 refine x_nil (sq_n (c_ret ?_))
 injection h with h; subst h
 exact end_W hH (r_cell (v := .agg [i4 1, i4 0, .str a0, i4 0]) hS hH rfl (by kernel_rfl) r_nil) rfl (by kernel_rfl) (by simp [pureT, pureL, E_DValue, DValue.cells])
noncomputable def B_cmp_isNaN_int64 (a0 : Int) : Option Bool := (some (!decide (a0 = a0)))
theorem u_cmp_isNaN_int64 (a0 : Int) (r : Bool) (h : B_cmp_isNaN_int64 a0 = some r) : F_cmp_isNaN_int64 a0 = some r := by
 unfold B_cmp_isNaN_int64 at h
 refine semW_of E_bool_inj rfl rfl ok_147 rfl (all_cons (by kernel_rfl) all_nil) ?_
 intro σ0 s hS hH
 have hS := sub_to (L' := [(0, i4 a0)]) hS (by kernel_rfl)
 refine c_seq (c_region ?_)
 refine qs 1 [(0, i4 a0)] hS ?_; intro s hS
 refine x_nil (sq_n (c_seq (c_region ?_)))
 refine qs 4 [(2, .bool (!decide (a0 = a0)))] hS ?_; intro s hS
 refine x_nil (sq_n (c_ret ?_))
 injection h with h; subst h
 exact end_W hH (r_tmp (v := .bool (!decide (a0 = a0))) hS rfl r_nil) rfl (by kernel_rfl) (by simp [pureT, pureL, E_bool])
noncomputable def B_spec_SameValue (a0 : DValue) (a1 : DValue) : Option Bool := (some (decide (a0.Kind = a1.Kind) && (decide (a0.Num = a1.Num) && (decide (a0.Text = a1.Text) && (decide (a0.Ref = a1.Ref) && true)))))
theorem u_spec_SameValue (a0 : DValue) (a1 : DValue) (r : Bool) (h : B_spec_SameValue a0 a1 = some r) : F_spec_SameValue a0 a1 = some r := by
 unfold B_spec_SameValue at h
 refine semW_of E_bool_inj rfl rfl ok_148 rfl (all_cons (by kernel_rfl) (all_cons (by kernel_rfl) all_nil)) ?_
 intro σ0 s hS hH
 have hS := sub_to (L' := [(0, .agg (DValue.cells a0)), (1, .agg (DValue.cells a1))]) hS (by kernel_rfl)
 refine c_seq (c_region ?_)
 refine q_box (v := .agg (DValue.cells a0)) (cs := [i4 a0.Kind, i4 a0.Num, .str a0.Text, i4 a0.Ref]) rfl hS hH rfl rfl (by kernel_rfl) ?_; intro b1 σ s hH hS
 refine q_box (v := .agg (DValue.cells a1)) (cs := [i4 a1.Kind, i4 a1.Num, .str a1.Text, i4 a1.Ref]) rfl hS hH rfl rfl (by kernel_rfl) ?_; intro b2 σ s hH hS
 refine qs 1 [(2, .ptr b1 0 0 4), (3, .ptr b2 0 0 4)] hS ?_; intro s hS
 refine x_nil (sq_n (c_seq (c_region ?_)))
 refine q_load (v := .agg (DValue.cells a0)) 1 trivial rfl hS hH rfl rfl (by kernel_rfl) ?_; intro s hS
 refine q_load (v := .agg (DValue.cells a1)) 0 trivial rfl hS hH rfl rfl (by kernel_rfl) ?_; intro s hS
 refine q_eqS (xs := [i4 a0.Kind, i4 a0.Num, .str a0.Text, i4 a0.Ref]) (ys := [i4 a1.Kind, i4 a1.Num, .str a1.Text, i4 a1.Ref]) (v := (decide (a0.Kind = a1.Kind) && (decide (a0.Num = a1.Num) && (decide (a0.Text = a1.Text) && (decide (a0.Ref = a1.Ref) && true))))) rfl hS rfl rfl (by kernel_rfl) (by kernel_rfl) ?_; intro s hS
 refine qs 1 [(4, .bool ((decide (a0.Kind = a1.Kind) && (decide (a0.Num = a1.Num) && (decide (a0.Text = a1.Text) && (decide (a0.Ref = a1.Ref) && true))))))] hS ?_; intro s hS
 refine x_nil (sq_n (c_ret ?_))
 injection h with h; subst h
 exact end_W hH (r_tmp (v := .bool ((decide (a0.Kind = a1.Kind) && (decide (a0.Num = a1.Num) && (decide (a0.Text = a1.Text) && (decide (a0.Ref = a1.Ref) && true)))))) hS rfl r_nil) rfl (by kernel_rfl) (by simp [pureT, pureL, E_bool])
noncomputable def B_spec_l06Plain (a0 : DValue) (a1 : Bool) (a2 : Bool) (a3 : Bool) : Option Bool := (if a1 = true then (if a2 = true then (if a3 = true then (some true) else (some (decide (a0.Ref = 0)))) else (if (decide (a0.Text = (⟨#[]⟩ : ByteArray))) = true then (if a3 = true then (some true) else (some (decide (a0.Ref = 0)))) else (some false))) else (if (decide (a0.Num = 0)) = true then (if a2 = true then (if a3 = true then (some true) else (some (decide (a0.Ref = 0)))) else (if (decide (a0.Text = (⟨#[]⟩ : ByteArray))) = true then (if a3 = true then (some true) else (some (decide (a0.Ref = 0)))) else (some false))) else (some false)))
theorem u_spec_l06Plain (a0 : DValue) (a1 : Bool) (a2 : Bool) (a3 : Bool) (r : Bool) (h : B_spec_l06Plain a0 a1 a2 a3 = some r) : F_spec_l06Plain a0 a1 a2 a3 = some r := by
 unfold B_spec_l06Plain at h
 refine semW_of E_bool_inj rfl rfl ok_149 rfl (all_cons (by kernel_rfl) (all_cons (by kernel_rfl) (all_cons (by kernel_rfl) (all_cons (by kernel_rfl) all_nil)))) ?_
 intro σ0 s hS hH
 have hS := sub_to (L' := [(0, .agg (DValue.cells a0)), (1, .bool a1), (2, .bool a2), (3, .bool a3)]) hS (by kernel_rfl)
 refine c_seq (c_region ?_)
 refine q_box (v := .agg (DValue.cells a0)) (cs := [i4 a0.Kind, i4 a0.Num, .str a0.Text, i4 a0.Ref]) rfl hS hH rfl rfl (by kernel_rfl) ?_; intro b1 σ s hH hS
 refine qs 1 [(1, .bool a1), (2, .bool a2), (3, .bool a3), (4, .ptr b1 0 0 4)] hS ?_; intro s hS
 refine x_nil (sq_n (c_seq (c_region ?_)))
 refine qs 2 [(10, .bool a1), (2, .bool a2), (3, .bool a3), (4, .ptr b1 0 0 4)] hS ?_; intro s hS
 by_cases hc1 : a1 = true
 ·have h := it_pos hc1 h
  have hS := sub_bt hS hc1
  refine qs 7 [(17, .bool a2), (3, .bool a3), (4, .ptr b1 0 0 4), (15, .bool true)] hS ?_; intro s hS
  by_cases hc2 : a2 = true
  ·have h := it_pos hc2 h
   have hS := sub_bt hS hc2
   refine qs 8 [(25, .bool a3), (4, .ptr b1 0 0 4), (23, .bool true)] hS ?_; intro s hS
   by_cases hc3 : a3 = true
   ·have h := it_pos hc3 h
    have hS := sub_bt hS hc3
    refine qs 6 [(8, .bool true)] hS ?_; intro s hS
    refine x_nil (sq_n (c_ret ?_))
    injection h with h; subst h
    exact end_W hH (r_tmp (v := .bool true) hS rfl r_nil) rfl (by kernel_rfl) (by simp [pureT, pureL, E_bool])
   ·have h := it_neg hc3 h
    have hS := sub_bt hS (tt_of hc3)
    refine qs 1 [(23, .bool true), (25, .bool false), (26, .ptr b1 0 3 1)] hS ?_; intro s hS
    refine q_load (v := i4 a0.Ref) 0 trivial rfl hS hH rfl rfl (by kernel_rfl) ?_; intro s hS
    refine qs 4 [(8, .bool (decide (a0.Ref = 0)))] hS ?_; intro s hS
    refine x_nil (sq_n (c_ret ?_))
    injection h with h; subst h
    exact end_W hH (r_tmp (v := .bool (decide (a0.Ref = 0))) hS rfl r_nil) rfl (by kernel_rfl) (by simp [pureT, pureL, E_bool])
  ·have h := it_neg hc2 h
   have hS := sub_bt hS (tt_of hc2)
   refine qs 1 [(3, .bool a3), (4, .ptr b1 0 0 4), (15, .bool true), (17, .bool false), (18, .ptr b1 0 2 1)] hS ?_; intro s hS
   refine q_load (v := .str a0.Text) 0 trivial rfl hS hH rfl rfl (by kernel_rfl) ?_; intro s hS
   refine qs 4 [(23, .bool (decide (a0.Text = (⟨#[]⟩ : ByteArray)))), (3, .bool a3), (4, .ptr b1 0 0 4)] hS ?_; intro s hS
   by_cases hc4 : (decide (a0.Text = (⟨#[]⟩ : ByteArray))) = true
   ·have h := it_pos hc4 h
    have hS := sub_bt hS hc4
    refine qs 2 [(25, .bool a3), (4, .ptr b1 0 0 4), (23, .bool true)] hS ?_; intro s hS
    by_cases hc5 : a3 = true
    ·have h := it_pos hc5 h
     have hS := sub_bt hS hc5
     refine qs 6 [(8, .bool true)] hS ?_; intro s hS
     refine x_nil (sq_n (c_ret ?_))
     injection h with h; subst h
     exact end_W hH (r_tmp (v := .bool true) hS rfl r_nil) rfl (by kernel_rfl) (by simp [pureT, pureL, E_bool])
    ·have h := it_neg hc5 h
     have hS := sub_bt hS (tt_of hc5)
     refine qs 1 [(23, .bool true), (25, .bool false), (26, .ptr b1 0 3 1)] hS ?_; intro s hS
     refine q_load (v := i4 a0.Ref) 0 trivial rfl hS hH rfl rfl (by kernel_rfl) ?_; intro s hS
     refine qs 4 [(8, .bool (decide (a0.Ref = 0)))] hS ?_; intro s hS
     refine x_nil (sq_n (c_ret ?_))
     injection h with h; subst h
     exact end_W hH (r_tmp (v := .bool (decide (a0.Ref = 0))) hS rfl r_nil) rfl (by kernel_rfl) (by simp [pureT, pureL, E_bool])
   ·have h := it_neg hc4 h
    have hS := sub_bt hS (tt_of hc4)
    refine qs 8 [(8, .bool false)] hS ?_; intro s hS
    refine x_nil (sq_n (c_ret ?_))
    injection h with h; subst h
    exact end_W hH (r_tmp (v := .bool false) hS rfl r_nil) rfl (by kernel_rfl) (by simp [pureT, pureL, E_bool])
 ·have h := it_neg hc1 h
  have hS := sub_bt hS (tt_of hc1)
  refine qs 1 [(2, .bool a2), (3, .bool a3), (4, .ptr b1 0 0 4), (10, .bool false), (11, .ptr b1 0 1 1)] hS ?_; intro s hS
  refine q_load (v := i4 a0.Num) 0 trivial rfl hS hH rfl rfl (by kernel_rfl) ?_; intro s hS
  refine qs 3 [(15, .bool (decide (a0.Num = 0))), (2, .bool a2), (3, .bool a3), (4, .ptr b1 0 0 4)] hS ?_; intro s hS
  by_cases hc6 : (decide (a0.Num = 0)) = true
  ·have h := it_pos hc6 h
   have hS := sub_bt hS hc6
   refine qs 2 [(17, .bool a2), (3, .bool a3), (4, .ptr b1 0 0 4), (15, .bool true)] hS ?_; intro s hS
   by_cases hc7 : a2 = true
   ·have h := it_pos hc7 h
    have hS := sub_bt hS hc7
    refine qs 8 [(25, .bool a3), (4, .ptr b1 0 0 4), (23, .bool true)] hS ?_; intro s hS
    by_cases hc8 : a3 = true
    ·have h := it_pos hc8 h
     have hS := sub_bt hS hc8
     refine qs 6 [(8, .bool true)] hS ?_; intro s hS
     refine x_nil (sq_n (c_ret ?_))
     injection h with h; subst h
     exact end_W hH (r_tmp (v := .bool true) hS rfl r_nil) rfl (by kernel_rfl) (by simp [pureT, pureL, E_bool])
    ·have h := it_neg hc8 h
     have hS := sub_bt hS (tt_of hc8)
     refine qs 1 [(23, .bool true), (25, .bool false), (26, .ptr b1 0 3 1)] hS ?_; intro s hS
     refine q_load (v := i4 a0.Ref) 0 trivial rfl hS hH rfl rfl (by kernel_rfl) ?_; intro s hS
     refine qs 4 [(8, .bool (decide (a0.Ref = 0)))] hS ?_; intro s hS
     refine x_nil (sq_n (c_ret ?_))
     injection h with h; subst h
     exact end_W hH (r_tmp (v := .bool (decide (a0.Ref = 0))) hS rfl r_nil) rfl (by kernel_rfl) (by simp [pureT, pureL, E_bool])
   ·have h := it_neg hc7 h
    have hS := sub_bt hS (tt_of hc7)
    refine qs 1 [(3, .bool a3), (4, .ptr b1 0 0 4), (15, .bool true), (17, .bool false), (18, .ptr b1 0 2 1)] hS ?_; intro s hS
    refine q_load (v := .str a0.Text) 0 trivial rfl hS hH rfl rfl (by kernel_rfl) ?_; intro s hS
    refine qs 4 [(23, .bool (decide (a0.Text = (⟨#[]⟩ : ByteArray)))), (3, .bool a3), (4, .ptr b1 0 0 4)] hS ?_; intro s hS
    by_cases hc9 : (decide (a0.Text = (⟨#[]⟩ : ByteArray))) = true
    ·have h := it_pos hc9 h
     have hS := sub_bt hS hc9
     refine qs 2 [(25, .bool a3), (4, .ptr b1 0 0 4), (23, .bool true)] hS ?_; intro s hS
     by_cases hc10 : a3 = true
     ·have h := it_pos hc10 h
      have hS := sub_bt hS hc10
      refine qs 6 [(8, .bool true)] hS ?_; intro s hS
      refine x_nil (sq_n (c_ret ?_))
      injection h with h; subst h
      exact end_W hH (r_tmp (v := .bool true) hS rfl r_nil) rfl (by kernel_rfl) (by simp [pureT, pureL, E_bool])
     ·have h := it_neg hc10 h
      have hS := sub_bt hS (tt_of hc10)
      refine qs 1 [(23, .bool true), (25, .bool false), (26, .ptr b1 0 3 1)] hS ?_; intro s hS
      refine q_load (v := i4 a0.Ref) 0 trivial rfl hS hH rfl rfl (by kernel_rfl) ?_; intro s hS
      refine qs 4 [(8, .bool (decide (a0.Ref = 0)))] hS ?_; intro s hS
      refine x_nil (sq_n (c_ret ?_))
      injection h with h; subst h
      exact end_W hH (r_tmp (v := .bool (decide (a0.Ref = 0))) hS rfl r_nil) rfl (by kernel_rfl) (by simp [pureT, pureL, E_bool])
    ·have h := it_neg hc9 h
     have hS := sub_bt hS (tt_of hc9)
     refine qs 8 [(8, .bool false)] hS ?_; intro s hS
     refine x_nil (sq_n (c_ret ?_))
     injection h with h; subst h
     exact end_W hH (r_tmp (v := .bool false) hS rfl r_nil) rfl (by kernel_rfl) (by simp [pureT, pureL, E_bool])
  ·have h := it_neg hc6 h
   have hS := sub_bt hS (tt_of hc6)
   refine qs 16 [(8, .bool false)] hS ?_; intro s hS
   refine x_nil (sq_n (c_ret ?_))
   injection h with h; subst h
   exact end_W hH (r_tmp (v := .bool false) hS rfl r_nil) rfl (by kernel_rfl) (by simp [pureT, pureL, E_bool])
noncomputable def B_spec_l02NameEnd (a0 : ByteArray) (a1 : Int) : Option Int := (if (decide ((a0.size : Int) ≤ a1)) = true then (some a1) else ((byteAt a0 a1).bind fun y1 => ((F_spec_l02Letter y1).bind fun y2 => (if (!y2) = true then (some a1) else ((loopO (S := Int) (R := Int) (fun st1 => (if (decide (st1 < (a0.size : Int))) = true then ((byteAt a0 st1).bind fun y4 => ((F_spec_l02Letter y4).bind fun y5 => (if y5 = true then (some (.inl (IntKind.i64.wrap (st1 + 1)))) else ((byteAt a0 st1).bind fun y6 => ((F_spec_l02Digit y6).bind fun y7 => (if y7 = true then (some (.inl (IntKind.i64.wrap (st1 + 1)))) else ((byteAt a0 st1).bind fun y8 => (if (decide (y8 = 95)) = true then (some (.inl (IntKind.i64.wrap (st1 + 1)))) else (some (.inr st1)))))))))) else (some (.inr st1)))) a1).bind fun y3 => (some y3))))))
theorem u_spec_l02NameEnd (a0 : ByteArray) (a1 : Int) (r : Int) (h : B_spec_l02NameEnd a0 a1 = some r) : F_spec_l02NameEnd a0 a1 = some r := by
 unfold B_spec_l02NameEnd at h
 refine semW_of E_i64_inj rfl rfl ok_150 rfl (all_cons (by kernel_rfl) (all_cons (by kernel_rfl) all_nil)) ?_
 intro σ0 s hS hH
 have hS := sub_to (L' := [(0, .str a0), (1, i4 a1)]) hS (by kernel_rfl)
 refine c_seq (c_region ?_)
 refine qs 1 [(0, .str a0), (1, i4 a1)] hS ?_; intro s hS
 refine x_nil (sq_n (c_seq (c_seq (c_region ?_))))
 refine qs 5 [(9, .bool (decide ((a0.size : Int) ≤ a1))), (0, .str a0), (1, i4 a1)] hS ?_; intro s hS
 by_cases hc1 : (decide ((a0.size : Int) ≤ a1)) = true
 ·have h := it_pos hc1 h
  have hS := sub_bt hS hc1
  refine qs 6 [(0, .str a0), (1, i4 a1), (15, .bool true)] hS ?_; intro s hS
  refine x_nil (sq_n ?_)
  refine c_cond (t := true) hS rfl (fun _ => ?_) (fun hf => by cases hf)
  refine c_seq (c_region ?_)
  refine qs 2 [(4, i4 a1)] hS ?_; intro s hS
  refine x_nil (sq_n (c_ret (sq_r ?_)))
  injection h with h; subst h
  exact end_W hH (r_tmp (v := i4 a1) hS rfl r_nil) rfl (by kernel_rfl) (by simp [pureT, pureL, E_i64])
 ·have h := it_neg hc1 h
  have hS := sub_bt hS (tt_of hc1)
  refine qs 2 [(0, .str a0), (1, i4 a1), (9, .bool false), (10, .str a0), (11, i4 a1)] hS ?_; intro s hS
  obtain ⟨y1, hy1, h⟩ := bind_some h
  refine q_byteO rfl hS rfl rfl (by kernel_rfl) hy1 ?_; intro s hS
  obtain ⟨y2, hy2, h⟩ := bind_some h
  refine q_callF (a := []) (b := []) (xs := [.int .u8 y1]) rfl hS rfl rfl hy2 ?_; intro s hS
  refine qs 2 [(0, .str a0), (1, i4 a1), (15, .bool (!y2))] hS ?_; intro s hS
  refine x_nil (sq_n ?_)
  by_cases hc2 : (!y2) = true
  ·have h := it_pos hc2 h
   refine c_cond hS rfl (fun _ => ?_) (fun hf => ff_absurd hc2 hf)
   refine c_seq (c_region ?_)
   refine qs 2 [(4, i4 a1)] hS ?_; intro s hS
   refine x_nil (sq_n (c_ret (sq_r ?_)))
   injection h with h; subst h
   exact end_W hH (r_tmp (v := i4 a1) hS rfl r_nil) rfl (by kernel_rfl) (by simp [pureT, pureL, E_i64])
  ·have h := it_neg hc2 h
   refine c_cond hS rfl (fun hf => tt_absurd hc2 hf) (fun _ => ?_)
   refine c_skip (sq_n (c_seq (c_block ?_)))
   obtain ⟨y3, hy3, h⟩ := bind_some h
   refine c_loop (fun (st1 : Int) (fr : Fr) => Sub [(0, .str a0), (1, i4 st1)] fr.s ∧ Heap σ0 fr.σ []) (fun (y3 : Int) (e : AExit) (fr : Fr) => e = (.exit 0) ∧ Sub [(1, i4 y3)] fr.s ∧ Heap σ0 fr.σ []) hy3 (And.intro (sub_to hS (by kernel_rfl)) hH) ?_ ?_
   ·clear h hy3 hS hH; clear y3; intro st1 x fr h HI; obtain ⟨s, σ⟩ := fr; obtain ⟨hS, hH⟩ := HI
    refine c_seq (c_seq (c_region ?_))
    refine qs 5 [(21, .bool (decide (st1 < (a0.size : Int)))), (0, .str a0), (1, i4 st1)] hS ?_; intro s hS
    by_cases hc3 : (decide (st1 < (a0.size : Int))) = true
    ·have h := it_pos hc3 h
     have hS := sub_bt hS hc3
     refine qs 2 [(0, .str a0), (1, i4 st1), (21, .bool true), (22, .str a0), (23, i4 st1)] hS ?_; intro s hS
     obtain ⟨y4, hy4, h⟩ := bind_some h
     refine q_byteO rfl hS rfl rfl (by kernel_rfl) hy4 ?_; intro s hS
     obtain ⟨y5, hy5, h⟩ := bind_some h
     refine q_callF (a := []) (b := []) (xs := [.int .u8 y4]) rfl hS rfl rfl hy5 ?_; intro s hS
     refine qs 1 [(26, .bool y5), (0, .str a0), (1, i4 st1), (21, .bool true)] hS ?_; intro s hS
     by_cases hc4 : y5 = true
     ·have h := it_pos hc4 h
      have hS := sub_bt hS hc4
      refine qs 12 [(0, .str a0), (1, i4 st1), (38, .bool true)] hS ?_; intro s hS
      refine x_nil (sq_n ?_)
      refine c_cond (t := true) hS rfl (fun _ => ?_) (fun hf => by cases hf)
      refine c_skip (sq_n (c_block (c_region ?_)))
      refine qs 3 [(0, .str a0), (1, i4 (IntKind.i64.wrap (st1 + 1)))] hS ?_; intro s hS
      refine x_nil (bk_n ?_)
      injection h with h; subst h
      exact And.intro (sub_to hS (by kernel_rfl)) hH
     ·have h := it_neg hc4 h
      have hS := sub_bt hS (tt_of hc4)
      refine qs 2 [(0, .str a0), (1, i4 st1), (21, .bool true), (26, .bool false), (27, .str a0), (28, i4 st1)] hS ?_; intro s hS
      obtain ⟨y6, hy6, h⟩ := bind_some h
      refine q_byteO rfl hS rfl rfl (by kernel_rfl) hy6 ?_; intro s hS
      obtain ⟨y7, hy7, h⟩ := bind_some h
      refine q_callF (a := []) (b := []) (xs := [.int .u8 y6]) rfl hS rfl rfl hy7 ?_; intro s hS
      refine qs 2 [(32, .bool y7), (0, .str a0), (1, i4 st1), (21, .bool true)] hS ?_; intro s hS
      by_cases hc5 : y7 = true
      ·have h := it_pos hc5 h
       have hS := sub_bt hS hc5
       refine qs 6 [(0, .str a0), (1, i4 st1), (38, .bool true)] hS ?_; intro s hS
       refine x_nil (sq_n ?_)
       refine c_cond (t := true) hS rfl (fun _ => ?_) (fun hf => by cases hf)
       refine c_skip (sq_n (c_block (c_region ?_)))
       refine qs 3 [(0, .str a0), (1, i4 (IntKind.i64.wrap (st1 + 1)))] hS ?_; intro s hS
       refine x_nil (bk_n ?_)
       injection h with h; subst h
       exact And.intro (sub_to hS (by kernel_rfl)) hH
      ·have h := it_neg hc5 h
       have hS := sub_bt hS (tt_of hc5)
       refine qs 2 [(0, .str a0), (1, i4 st1), (21, .bool true), (32, .bool false), (33, .str a0), (34, i4 st1)] hS ?_; intro s hS
       obtain ⟨y8, hy8, h⟩ := bind_some h
       refine q_byteO rfl hS rfl rfl (by kernel_rfl) hy8 ?_; intro s hS
       refine qs 3 [(0, .str a0), (1, i4 st1), (38, .bool (decide (y8 = 95)))] hS ?_; intro s hS
       refine x_nil (sq_n ?_)
       by_cases hc6 : (decide (y8 = 95)) = true
       ·have h := it_pos hc6 h
        refine c_cond hS rfl (fun _ => ?_) (fun hf => ff_absurd hc6 hf)
        refine c_skip (sq_n (c_block (c_region ?_)))
        refine qs 3 [(0, .str a0), (1, i4 (IntKind.i64.wrap (st1 + 1)))] hS ?_; intro s hS
        refine x_nil (bk_n ?_)
        injection h with h; subst h
        exact And.intro (sub_to hS (by kernel_rfl)) hH
       ·have h := it_neg hc6 h
        refine c_cond hS rfl (fun hf => tt_absurd hc6 hf) (fun _ => ?_)
        refine c_exit (sq_x ?_)
        injection h with h; subst h
        exact And.intro rfl (And.intro (sub_to hS (by kernel_rfl)) hH)
    ·have h := it_neg hc3 h
     have hS := sub_bt hS (tt_of hc3)
     refine qs 17 [(0, .str a0), (1, i4 st1), (38, .bool false)] hS ?_; intro s hS
     refine x_nil (sq_n ?_)
     refine c_cond (t := false) hS rfl (fun hf => by cases hf) (fun _ => ?_)
     refine c_exit (sq_x ?_)
     injection h with h; subst h
     exact And.intro rfl (And.intro (sub_to hS (by kernel_rfl)) hH)
   ·clear hS hH; intro e fr HF; obtain ⟨s, σ⟩ := fr
    obtain ⟨rfl, hS, hH⟩ := HF
    refine bk_e (sq_n (c_seq (c_region ?_)))
    refine qs 2 [(4, i4 y3)] hS ?_; intro s hS
    refine x_nil (sq_n (c_ret ?_))
    injection h with h; subst h
    exact end_W hH (r_tmp (v := i4 y3) hS rfl r_nil) rfl (by kernel_rfl) (by simp [pureT, pureL, E_i64])
noncomputable def B_spec_l07ObjectKind (a0 : Int) : Option Int := (some (IntKind.i64.wrap ((IntKind.i64.wrap (a0 - 4)) + 1)))
theorem u_spec_l07ObjectKind (a0 : Int) (r : Int) (h : B_spec_l07ObjectKind a0 = some r) : F_spec_l07ObjectKind a0 = some r := by
 unfold B_spec_l07ObjectKind at h
 refine semW_of E_i64_inj rfl rfl ok_151 rfl (all_cons (by kernel_rfl) all_nil) ?_
 intro σ0 s hS hH
 have hS := sub_to (L' := [(0, i4 a0)]) hS (by kernel_rfl)
 refine c_seq (c_region ?_)
 refine qs 1 [(0, i4 a0)] hS ?_; intro s hS
 refine x_nil (sq_n (c_seq (c_region ?_)))
 refine qs 4 [(2, i4 (IntKind.i64.wrap ((IntKind.i64.wrap (a0 - 4)) + 1)))] hS ?_; intro s hS
 refine x_nil (sq_n (c_ret ?_))
 injection h with h; subst h
 exact end_W hH (r_tmp (v := i4 (IntKind.i64.wrap ((IntKind.i64.wrap (a0 - 4)) + 1))) hS rfl r_nil) rfl (by kernel_rfl) (by simp [pureT, pureL, E_i64])
noncomputable def B_slices_Contains_Value (a0 : (Sl DValue)) (a1 : DValue) : Option Bool := ((F_slices_Index_Value a0 a1).bind fun y1 => (some (decide (0 ≤ y1))))
theorem u_slices_Contains_Value (a0 : (Sl DValue)) (a1 : DValue) (r : Bool) (h : B_slices_Contains_Value a0 a1 = some r) : F_slices_Contains_Value a0 a1 = some r := by
 unfold B_slices_Contains_Value at h
 refine semW_of E_bool_inj rfl rfl ok_152 rfl (all_cons (by kernel_rfl) (all_cons (by kernel_rfl) all_nil)) ?_
 intro σ0 s hS hH
 have hS := sub_to (L' := [(0, a0.t), (1, .agg (DValue.cells a1))]) hS (by kernel_rfl)
 refine c_seq (c_region ?_)
 refine q_box (v := .agg (DValue.cells a1)) (cs := [i4 a1.Kind, i4 a1.Num, .str a1.Text, i4 a1.Ref]) rfl hS hH rfl rfl (by kernel_rfl) ?_; intro b1 σ s hH hS
 refine qs 1 [(0, a0.t), (3, .ptr b1 0 0 4)] hS ?_; intro s hS
 refine x_nil (sq_n (c_seq (c_region ?_)))
 refine qs 1 [(3, .ptr b1 0 0 4), (5, a0.t)] hS ?_; intro s hS
 refine q_load (v := .agg (DValue.cells a1)) 0 trivial rfl hS hH rfl rfl (by kernel_rfl) ?_; intro s hS
 obtain ⟨y1, hy1, h⟩ := bind_some h
 refine q_callF (a := []) (b := []) (xs := [a0.t, .agg (DValue.cells a1)]) rfl hS rfl rfl hy1 ?_; intro s hS
 refine qs 2 [(4, .bool (decide (0 ≤ y1)))] hS ?_; intro s hS
 refine x_nil (sq_n (c_ret ?_))
 injection h with h; subst h
 exact end_W hH (r_tmp (v := .bool (decide (0 ≤ y1))) hS rfl r_nil) rfl (by kernel_rfl) (by simp [pureT, pureL, E_bool])
noncomputable def B_impl_isLetter (a0 : Int) : Option Bool := (if (decide (65 ≤ a0)) = true then (if (decide (a0 ≤ 90)) = true then (some true) else (if (decide (97 ≤ a0)) = true then (some (decide (a0 ≤ 122))) else (some false))) else (if (decide (97 ≤ a0)) = true then (some (decide (a0 ≤ 122))) else (some false)))
theorem u_impl_isLetter (a0 : Int) (r : Bool) (h : B_impl_isLetter a0 = some r) : F_impl_isLetter a0 = some r := by
 unfold B_impl_isLetter at h
 refine semW_of E_bool_inj rfl rfl ok_153 rfl (all_cons (by kernel_rfl) all_nil) ?_
 intro σ0 s hS hH
 have hS := sub_to (L' := [(0, .int .u8 a0)]) hS (by kernel_rfl)
 refine c_seq (c_region ?_)
 refine qs 1 [(0, .int .u8 a0)] hS ?_; intro s hS
 refine x_nil (sq_n (c_seq (c_region ?_)))
 refine qs 3 [(5, .bool (decide (65 ≤ a0))), (0, .int .u8 a0)] hS ?_; intro s hS
 by_cases hc1 : (decide (65 ≤ a0)) = true
 ·have h := it_pos hc1 h
  have hS := sub_bt hS hc1
  refine qs 4 [(9, .bool (decide (a0 ≤ 90))), (0, .int .u8 a0)] hS ?_; intro s hS
  by_cases hc2 : (decide (a0 ≤ 90)) = true
  ·have h := it_pos hc2 h
   have hS := sub_bt hS hc2
   refine qs 8 [(2, .bool true)] hS ?_; intro s hS
   refine x_nil (sq_n (c_ret ?_))
   injection h with h; subst h
   exact end_W hH (r_tmp (v := .bool true) hS rfl r_nil) rfl (by kernel_rfl) (by simp [pureT, pureL, E_bool])
  ·have h := it_neg hc2 h
   have hS := sub_bt hS (tt_of hc2)
   refine qs 3 [(12, .bool (decide (97 ≤ a0))), (0, .int .u8 a0), (9, .bool false)] hS ?_; intro s hS
   by_cases hc3 : (decide (97 ≤ a0)) = true
   ·have h := it_pos hc3 h
    have hS := sub_bt hS hc3
    refine qs 5 [(2, .bool (decide (a0 ≤ 122)))] hS ?_; intro s hS
    refine x_nil (sq_n (c_ret ?_))
    injection h with h; subst h
    exact end_W hH (r_tmp (v := .bool (decide (a0 ≤ 122))) hS rfl r_nil) rfl (by kernel_rfl) (by simp [pureT, pureL, E_bool])
   ·have h := it_neg hc3 h
    have hS := sub_bt hS (tt_of hc3)
    refine qs 5 [(2, .bool false)] hS ?_; intro s hS
    refine x_nil (sq_n (c_ret ?_))
    injection h with h; subst h
    exact end_W hH (r_tmp (v := .bool false) hS rfl r_nil) rfl (by kernel_rfl) (by simp [pureT, pureL, E_bool])
 ·have h := it_neg hc1 h
  have hS := sub_bt hS (tt_of hc1)
  refine qs 7 [(12, .bool (decide (97 ≤ a0))), (0, .int .u8 a0), (9, .bool false)] hS ?_; intro s hS
  by_cases hc4 : (decide (97 ≤ a0)) = true
  ·have h := it_pos hc4 h
   have hS := sub_bt hS hc4
   refine qs 5 [(2, .bool (decide (a0 ≤ 122)))] hS ?_; intro s hS
   refine x_nil (sq_n (c_ret ?_))
   injection h with h; subst h
   exact end_W hH (r_tmp (v := .bool (decide (a0 ≤ 122))) hS rfl r_nil) rfl (by kernel_rfl) (by simp [pureT, pureL, E_bool])
  ·have h := it_neg hc4 h
   have hS := sub_bt hS (tt_of hc4)
   refine qs 5 [(2, .bool false)] hS ?_; intro s hS
   refine x_nil (sq_n (c_ret ?_))
   injection h with h; subst h
   exact end_W hH (r_tmp (v := .bool false) hS rfl r_nil) rfl (by kernel_rfl) (by simp [pureT, pureL, E_bool])
noncomputable def B_impl_areAll_byte (a0 : (Sl (Iv .u8))) (a1 : T) : Option Bool := (if flat1 a1 = true then ((loopO (S := Int) (R := (Unit ⊕ Bool)) (fun st1 => (if (decide (st1 < (a0.l.length : Int))) = true then ((elt a0 st1).bind fun y2 => ((callV Try.prog md ext E_bool a1 [.int .u8 y2.v]).bind fun y3 => (if (!y3) = true then (some (.inr (.inr false))) else (some (.inl (IntKind.i64.wrap (st1 + 1))))))) else (some (.inr (.inl ()))))) 0).bind fun y1 => (Sum.elim (fun y1 => (some true)) (fun y1 => (some y1)) y1)) else none)
theorem u_impl_areAll_byte (a0 : (Sl (Iv .u8))) (a1 : T) (r : Bool) (h : B_impl_areAll_byte a0 a1 = some r) : F_impl_areAll_byte a0 a1 = some r := by
 unfold B_impl_areAll_byte at h
 obtain ⟨hf_a1, h⟩ := if_some h
 refine semW_of E_bool_inj rfl rfl ok_154 rfl (all_cons (by kernel_rfl) (all_cons (flat3_of hf_a1) all_nil)) ?_
 intro σ0 s hS hH
 have hS := sub_to (L' := [(0, a0.t), (1, a1)]) hS (by kernel_rfl)
 refine c_seq (c_region ?_)
 refine qs 1 [(0, a0.t), (1, a1)] hS ?_; intro s hS
 refine x_nil (sq_n (c_seq (c_seq (c_region ?_))))
 refine qs 3 [(1, a1), (7, a0.t), (8, i4 (a0.l.length : Int)), (9, i4 0)] hS ?_; intro s hS
 refine x_nil (sq_n (c_block ?_))
 obtain ⟨y1, hy1, h⟩ := bind_some h
 refine c_loop (fun (st1 : Int) (fr : Fr) => Sub [(1, a1), (7, a0.t), (8, i4 (a0.l.length : Int)), (9, i4 st1)] fr.s ∧ Heap σ0 fr.σ []) (fun (y1 : (Unit ⊕ Bool)) (e : AExit) (fr : Fr) => (Sum.elim (fun y => e = (.exit 0) ∧ Sub [] fr.s ∧ Heap σ0 fr.σ []) (fun y => e = .ret ∧ endW Try.prog (Try.f154.results.toList) σ0 (E_bool y) .ret fr)) y1) hy1 (And.intro (sub_to hS (by kernel_rfl)) hH) ?_ ?_
 ·clear h hy1 hS hH; clear y1; intro st1 x fr h HI; obtain ⟨s, σ⟩ := fr; obtain ⟨hS, hH⟩ := HI
  refine c_seq (c_region ?_)
  refine qs 1 [(1, a1), (7, a0.t), (8, i4 (a0.l.length : Int)), (9, i4 st1), (10, .bool (decide (st1 < (a0.l.length : Int))))] hS ?_; intro s hS
  refine x_nil (sq_n (c_seq ?_))
  by_cases hc1 : (decide (st1 < (a0.l.length : Int))) = true
  ·have h := it_pos hc1 h
   refine c_cond hS rfl (fun _ => ?_) (fun hf => ff_absurd hc1 hf)
   refine c_skip (sq_n (c_seq (c_block (c_seq (c_region ?_)))))
   obtain ⟨y2, hy2, h⟩ := bind_some h
   refine q_elt (sl := a0) (e := 5) [.int .u8 y2.v] rfl hS rfl rfl (by kernel_rfl) (by kernel_rfl) hy2 rfl ?_; intro rest1 s hS
   refine qs 2 [(1, a1), (6, .int .u8 y2.v), (7, a0.t), (8, i4 (a0.l.length : Int)), (9, i4 st1)] hS ?_; intro s hS
   refine x_nil (sq_n (c_seq (c_region ?_)))
   refine qs 2 [(1, a1), (7, a0.t), (8, i4 (a0.l.length : Int)), (9, i4 st1), (13, a1), (14, .int .u8 y2.v)] hS ?_; intro s hS
   obtain ⟨y3, hy3, h⟩ := bind_some h
   refine q_callP (p := a1) (xs := [.int .u8 y2.v]) rfl hS rfl rfl hy3 ?_; intro s hS
   refine qs 1 [(1, a1), (7, a0.t), (8, i4 (a0.l.length : Int)), (9, i4 st1), (16, .bool (!y3))] hS ?_; intro s hS
   refine x_nil (sq_n ?_)
   by_cases hc2 : (!y3) = true
   ·have h := it_pos hc2 h
    refine c_cond hS rfl (fun _ => ?_) (fun hf => ff_absurd hc2 hf)
    refine c_seq (c_region ?_)
    refine qs 1 [(4, .bool false)] hS ?_; intro s hS
    refine x_nil (sq_n (c_ret (bk_r (sq_r ?_))))
    injection h with h; subst h
    exact And.intro rfl (end_W hH (r_tmp (v := .bool false) hS rfl r_nil) rfl (by kernel_rfl) (by simp [pureT, pureL, E_bool]))
   ·have h := it_neg hc2 h
    refine c_cond hS rfl (fun hf => tt_absurd hc2 hf) (fun _ => ?_)
    refine c_skip (bk_n (sq_n (c_region ?_)))
    refine qs 2 [(1, a1), (7, a0.t), (8, i4 (a0.l.length : Int)), (9, i4 (IntKind.i64.wrap (st1 + 1)))] hS ?_; intro s hS
    refine x_nil ?_
    injection h with h; subst h
    exact And.intro (sub_to hS (by kernel_rfl)) hH
  ·have h := it_neg hc1 h
   refine c_cond hS rfl (fun hf => tt_absurd hc1 hf) (fun _ => ?_)
   refine c_exit (sq_x ?_)
   injection h with h; subst h
   exact And.intro rfl (And.intro (sub_to hS (by kernel_rfl)) hH)
 ·clear hS hH; intro e fr HF; obtain ⟨s, σ⟩ := fr
  rcases y1 with y1 | y1
  ·obtain ⟨rfl, hS, hH⟩ := HF
   refine bk_e (sq_n (c_seq (c_region ?_)))
   refine qs 1 [(4, .bool true)] hS ?_; intro s hS
   refine x_nil (sq_n (c_ret ?_))
   injection h with h; subst h
   exact end_W hH (r_tmp (v := .bool true) hS rfl r_nil) rfl (by kernel_rfl) (by simp [pureT, pureL, E_bool])
  ·obtain ⟨rfl, HE⟩ := HF
   refine bk_r (sq_r ?_)
   injection h with h; subst h; exact HE
noncomputable def B_impl_isNameByte (a0 : Int) : Option Bool := ((F_impl_isLetter a0).bind fun y1 => (if y1 = true then (some true) else ((F_impl_isDigit a0).bind fun y2 => (if y2 = true then (some true) else (some (decide (a0 = 95)))))))
theorem u_impl_isNameByte (a0 : Int) (r : Bool) (h : B_impl_isNameByte a0 = some r) : F_impl_isNameByte a0 = some r := by
 unfold B_impl_isNameByte at h
 refine semW_of E_bool_inj rfl rfl ok_155 rfl (all_cons (by kernel_rfl) all_nil) ?_
 intro σ0 s hS hH
 have hS := sub_to (L' := [(0, .int .u8 a0)]) hS (by kernel_rfl)
 refine c_seq (c_region ?_)
 refine qs 1 [(0, .int .u8 a0)] hS ?_; intro s hS
 refine x_nil (sq_n (c_seq (c_region ?_)))
 refine qs 1 [(0, .int .u8 a0), (3, .int .u8 a0)] hS ?_; intro s hS
 obtain ⟨y1, hy1, h⟩ := bind_some h
 refine q_callF (a := []) (b := []) (xs := [.int .u8 a0]) rfl hS rfl rfl hy1 ?_; intro s hS
 refine qs 1 [(5, .bool y1), (0, .int .u8 a0)] hS ?_; intro s hS
 by_cases hc1 : y1 = true
 ·have h := it_pos hc1 h
  have hS := sub_bt hS hc1
  refine qs 8 [(2, .bool true)] hS ?_; intro s hS
  refine x_nil (sq_n (c_ret ?_))
  injection h with h; subst h
  exact end_W hH (r_tmp (v := .bool true) hS rfl r_nil) rfl (by kernel_rfl) (by simp [pureT, pureL, E_bool])
 ·have h := it_neg hc1 h
  have hS := sub_bt hS (tt_of hc1)
  refine qs 1 [(0, .int .u8 a0), (5, .bool false), (6, .int .u8 a0)] hS ?_; intro s hS
  obtain ⟨y2, hy2, h⟩ := bind_some h
  refine q_callF (a := []) (b := []) (xs := [.int .u8 a0]) rfl hS rfl rfl hy2 ?_; intro s hS
  refine qs 2 [(9, .bool y2), (0, .int .u8 a0)] hS ?_; intro s hS
  by_cases hc2 : y2 = true
  ·have h := it_pos hc2 h
   have hS := sub_bt hS hc2
   refine qs 4 [(2, .bool true)] hS ?_; intro s hS
   refine x_nil (sq_n (c_ret ?_))
   injection h with h; subst h
   exact end_W hH (r_tmp (v := .bool true) hS rfl r_nil) rfl (by kernel_rfl) (by simp [pureT, pureL, E_bool])
  ·have h := it_neg hc2 h
   have hS := sub_bt hS (tt_of hc2)
   refine qs 4 [(2, .bool (decide (a0 = 95)))] hS ?_; intro s hS
   refine x_nil (sq_n (c_ret ?_))
   injection h with h; subst h
   exact end_W hH (r_tmp (v := .bool (decide (a0 = 95))) hS rfl r_nil) rfl (by kernel_rfl) (by simp [pureT, pureL, E_bool])
noncomputable def B_spec_l02Letter (a0 : Int) : Option Bool := (if (decide (65 ≤ a0)) = true then (if (decide (a0 ≤ 90)) = true then (some true) else (if (decide (97 ≤ a0)) = true then (some (decide (a0 ≤ 122))) else (some false))) else (if (decide (97 ≤ a0)) = true then (some (decide (a0 ≤ 122))) else (some false)))
theorem u_spec_l02Letter (a0 : Int) (r : Bool) (h : B_spec_l02Letter a0 = some r) : F_spec_l02Letter a0 = some r := by
 unfold B_spec_l02Letter at h
 refine semW_of E_bool_inj rfl rfl ok_171 rfl (all_cons (by kernel_rfl) all_nil) ?_
 intro σ0 s hS hH
 have hS := sub_to (L' := [(0, .int .u8 a0)]) hS (by kernel_rfl)
 refine c_seq (c_region ?_)
 refine qs 1 [(0, .int .u8 a0)] hS ?_; intro s hS
 refine x_nil (sq_n (c_seq (c_region ?_)))
 refine qs 3 [(5, .bool (decide (65 ≤ a0))), (0, .int .u8 a0)] hS ?_; intro s hS
 by_cases hc1 : (decide (65 ≤ a0)) = true
 ·have h := it_pos hc1 h
  have hS := sub_bt hS hc1
  refine qs 4 [(9, .bool (decide (a0 ≤ 90))), (0, .int .u8 a0)] hS ?_; intro s hS
  by_cases hc2 : (decide (a0 ≤ 90)) = true
  ·have h := it_pos hc2 h
   have hS := sub_bt hS hc2
   refine qs 8 [(2, .bool true)] hS ?_; intro s hS
   refine x_nil (sq_n (c_ret ?_))
   injection h with h; subst h
   exact end_W hH (r_tmp (v := .bool true) hS rfl r_nil) rfl (by kernel_rfl) (by simp [pureT, pureL, E_bool])
  ·have h := it_neg hc2 h
   have hS := sub_bt hS (tt_of hc2)
   refine qs 3 [(12, .bool (decide (97 ≤ a0))), (0, .int .u8 a0), (9, .bool false)] hS ?_; intro s hS
   by_cases hc3 : (decide (97 ≤ a0)) = true
   ·have h := it_pos hc3 h
    have hS := sub_bt hS hc3
    refine qs 5 [(2, .bool (decide (a0 ≤ 122)))] hS ?_; intro s hS
    refine x_nil (sq_n (c_ret ?_))
    injection h with h; subst h
    exact end_W hH (r_tmp (v := .bool (decide (a0 ≤ 122))) hS rfl r_nil) rfl (by kernel_rfl) (by simp [pureT, pureL, E_bool])
   ·have h := it_neg hc3 h
    have hS := sub_bt hS (tt_of hc3)
    refine qs 5 [(2, .bool false)] hS ?_; intro s hS
    refine x_nil (sq_n (c_ret ?_))
    injection h with h; subst h
    exact end_W hH (r_tmp (v := .bool false) hS rfl r_nil) rfl (by kernel_rfl) (by simp [pureT, pureL, E_bool])
 ·have h := it_neg hc1 h
  have hS := sub_bt hS (tt_of hc1)
  refine qs 7 [(12, .bool (decide (97 ≤ a0))), (0, .int .u8 a0), (9, .bool false)] hS ?_; intro s hS
  by_cases hc4 : (decide (97 ≤ a0)) = true
  ·have h := it_pos hc4 h
   have hS := sub_bt hS hc4
   refine qs 5 [(2, .bool (decide (a0 ≤ 122)))] hS ?_; intro s hS
   refine x_nil (sq_n (c_ret ?_))
   injection h with h; subst h
   exact end_W hH (r_tmp (v := .bool (decide (a0 ≤ 122))) hS rfl r_nil) rfl (by kernel_rfl) (by simp [pureT, pureL, E_bool])
  ·have h := it_neg hc4 h
   have hS := sub_bt hS (tt_of hc4)
   refine qs 5 [(2, .bool false)] hS ?_; intro s hS
   refine x_nil (sq_n (c_ret ?_))
   injection h with h; subst h
   exact end_W hH (r_tmp (v := .bool false) hS rfl r_nil) rfl (by kernel_rfl) (by simp [pureT, pureL, E_bool])
noncomputable def B_spec_l02Digit (a0 : Int) : Option Bool := (if (decide (48 ≤ a0)) = true then (some (decide (a0 ≤ 57))) else (some false))
theorem u_spec_l02Digit (a0 : Int) (r : Bool) (h : B_spec_l02Digit a0 = some r) : F_spec_l02Digit a0 = some r := by
 unfold B_spec_l02Digit at h
 refine semW_of E_bool_inj rfl rfl ok_172 rfl (all_cons (by kernel_rfl) all_nil) ?_
 intro σ0 s hS hH
 have hS := sub_to (L' := [(0, .int .u8 a0)]) hS (by kernel_rfl)
 refine c_seq (c_region ?_)
 refine qs 1 [(0, .int .u8 a0)] hS ?_; intro s hS
 refine x_nil (sq_n (c_seq (c_region ?_)))
 refine qs 3 [(5, .bool (decide (48 ≤ a0))), (0, .int .u8 a0)] hS ?_; intro s hS
 by_cases hc1 : (decide (48 ≤ a0)) = true
 ·have h := it_pos hc1 h
  have hS := sub_bt hS hc1
  refine qs 4 [(2, .bool (decide (a0 ≤ 57)))] hS ?_; intro s hS
  refine x_nil (sq_n (c_ret ?_))
  injection h with h; subst h
  exact end_W hH (r_tmp (v := .bool (decide (a0 ≤ 57))) hS rfl r_nil) rfl (by kernel_rfl) (by simp [pureT, pureL, E_bool])
 ·have h := it_neg hc1 h
  have hS := sub_bt hS (tt_of hc1)
  refine qs 4 [(2, .bool false)] hS ?_; intro s hS
  refine x_nil (sq_n (c_ret ?_))
  injection h with h; subst h
  exact end_W hH (r_tmp (v := .bool false) hS rfl r_nil) rfl (by kernel_rfl) (by simp [pureT, pureL, E_bool])
noncomputable def B_impl_isDigit (a0 : Int) : Option Bool := (if (decide (48 ≤ a0)) = true then (some (decide (a0 ≤ 57))) else (some false))
theorem u_impl_isDigit (a0 : Int) (r : Bool) (h : B_impl_isDigit a0 = some r) : F_impl_isDigit a0 = some r := by
 unfold B_impl_isDigit at h
 refine semW_of E_bool_inj rfl rfl ok_173 rfl (all_cons (by kernel_rfl) all_nil) ?_
 intro σ0 s hS hH
 have hS := sub_to (L' := [(0, .int .u8 a0)]) hS (by kernel_rfl)
 refine c_seq (c_region ?_)
 refine qs 1 [(0, .int .u8 a0)] hS ?_; intro s hS
 refine x_nil (sq_n (c_seq (c_region ?_)))
 refine qs 3 [(5, .bool (decide (48 ≤ a0))), (0, .int .u8 a0)] hS ?_; intro s hS
 by_cases hc1 : (decide (48 ≤ a0)) = true
 ·have h := it_pos hc1 h
  have hS := sub_bt hS hc1
  refine qs 4 [(2, .bool (decide (a0 ≤ 57)))] hS ?_; intro s hS
  refine x_nil (sq_n (c_ret ?_))
  injection h with h; subst h
  exact end_W hH (r_tmp (v := .bool (decide (a0 ≤ 57))) hS rfl r_nil) rfl (by kernel_rfl) (by simp [pureT, pureL, E_bool])
 ·have h := it_neg hc1 h
  have hS := sub_bt hS (tt_of hc1)
  refine qs 4 [(2, .bool false)] hS ?_; intro s hS
  refine x_nil (sq_n (c_ret ?_))
  injection h with h; subst h
  exact end_W hH (r_tmp (v := .bool false) hS rfl r_nil) rfl (by kernel_rfl) (by simp [pureT, pureL, E_bool])
end Go.Am
