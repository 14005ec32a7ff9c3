/- Functions of the program. -/
import Derived.Test.YtfnjieagnkmceaaAd0
import Derived.Test.YtfnjieagnkmceaaAg0
set_option maxRecDepth 100000
set_option maxHeartbeats 4000000
set_option linter.unusedVariables false
set_option linter.unusedSimpArgs false
namespace Go.Am
open Go.Proofs
noncomputable def B_laws_FnExactCopyObject (a0 : DHeap) (a1 : DValue) : Option Bool := ((F_laws_szHeap a0 1048576).bind fun y1 => (if (decide (y1 < 0)) = true then (some true) else ((F_laws_szValue a1 y1).bind fun y2 => (if (decide (y2 < 0)) = true then (some true) else ((F_laws_toHeap a0).bind fun y3 => ((F_laws_toValue a1).bind fun y4 => ((F_spec_CopyObject y3 y4).bind fun y5 => ((F_laws_toHeap a0).bind fun y6 => ((F_laws_toValue a1).bind fun y7 => ((F_impl_CopyObject y6 y7).bind fun y8 => ((F_laws_eqHeap y8.1 y5.1).bind fun y9 => (if (!y9) = true then (some false) else ((F_laws_eqValue y8.2.1 y5.2.1).bind fun y10 => (if (!y10) = true then (some false) else (if (!decide (y8.2.2 = y5.2.2)) = true then (some false) else ((F_laws_toHeap a0).bind fun y11 => ((F_laws_eqHeap y6 y11).bind fun y12 => (if (!y12) = true then (some false) else ((B_laws_markHeap y6 1).bind fun y13 => (if (decide (y13.1 < 0)) = true then (some false) else ((F_laws_eqHeap y8.1 y5.1).bind fun y14 => (if (!y14) = true then (some false) else ((F_laws_eqValue y8.2.1 y5.2.1).bind fun y15 => (if (!y15) = true then (some false) else ((B_laws_markHeap y8.1 1).bind fun y16 => ((F_laws_heldHeap (⟨y8.1.Next, y16.2.Objects⟩ : DHeap) 1).bind fun y17 => (if (decide (y17 < 0)) = true then (some false) else (if (!decide (y17 = y16.1)) = true then (some false) else ((F_laws_toHeap a0).bind fun y18 => ((F_laws_toValue a1).bind fun y19 => ((F_impl_CopyObject y18 y19).bind fun y20 => ((F_laws_eqHeap y20.1 y5.1).bind fun y21 => (if (!y21) = true then (some false) else ((F_laws_eqValue y20.2.1 y5.2.1).bind fun y22 => (if (!y22) = true then (some false) else (if (!decide (y20.2.2 = y5.2.2)) = true then (some false) else ((F_laws_heldHeap (⟨y8.1.Next, y16.2.Objects⟩ : DHeap) 1).bind fun y23 => (if (decide (y23 < 0)) = true then (some false) else (if (!decide (y23 = y16.1)) = true then (some false) else (some true))))))))))))))))))))))))))))))))))))))))
theorem u_laws_FnExactCopyObject (a0 : DHeap) (a1 : DValue) (r : Bool) (h : B_laws_FnExactCopyObject a0 a1 = some r) : F_laws_FnExactCopyObject a0 a1 = some r := by
 unfold B_laws_FnExactCopyObject at h
 refine semW_of E_bool_inj rfl rfl ok_8 rfl (all_cons (by kernel_rfl) (all_cons (by kernel_rfl) all_nil)) ?_
 intro σ0 s hS hH
 have hS := sub_to (L' := [(0, .agg (DHeap.cells a0)), (1, .agg (DValue.cells a1))]) hS (by kernel_rfl)
 refine c_seq (c_region ?_)
 refine q_box (v := .agg (DHeap.cells a0)) (cs := [i4 a0.Next, a0.Objects.t]) rfl hS hH rfl rfl (by kernel_rfl) ?_; intro b1 σ s hH hS
 refine q_box (v := .agg (DValue.cells a1)) (cs := [i4 a1.Kind, i4 a1.Num, .str a1.Text, i4 a1.Ref]) rfl hS hH rfl rfl (by kernel_rfl) ?_; intro b2 σ s hH hS
 refine qs 1 [(2, .ptr b1 0 0 2), (3, .ptr b2 0 0 4)] hS ?_; intro s hS
 refine x_nil (sq_n (c_seq (c_region ?_)))
 refine qs 1 [(2, .ptr b1 0 0 2), (3, .ptr b2 0 0 4), (5, i4 1048576)] hS ?_; intro s hS
 refine x_nil (sq_n (c_seq (c_region ?_)))
 refine q_load (v := .agg (DHeap.cells a0)) 1 trivial rfl hS hH rfl rfl (by kernel_rfl) ?_; intro s hS
 refine qs 1 [(2, .ptr b1 0 0 2), (3, .ptr b2 0 0 4), (19, .agg (DHeap.cells a0)), (20, i4 1048576)] hS ?_; intro s hS
 obtain ⟨y1, hy1, h⟩ := bind_some h
 refine q_callF (a := []) (b := []) (xs := [.agg (DHeap.cells a0), i4 1048576]) rfl hS rfl rfl hy1 ?_; intro s hS
 refine qs 1 [(2, .ptr b1 0 0 2), (3, .ptr b2 0 0 4), (5, i4 y1)] hS ?_; intro s hS
 refine x_nil (sq_n (c_seq (c_seq (c_region ?_))))
 refine qs 2 [(2, .ptr b1 0 0 2), (3, .ptr b2 0 0 4), (5, i4 y1), (23, .bool (decide (y1 < 0)))] hS ?_; intro s hS
 refine x_nil (sq_n ?_)
 by_cases hc1 : (decide (y1 < 0)) = true
 ·have h := it_pos hc1 h
  refine c_cond hS rfl (fun _ => ?_) (fun hf => ff_absurd hc1 hf)
  refine c_seq (c_region ?_)
  refine qs 1 [(4, .bool true)] hS ?_; intro s hS
  refine x_nil (sq_n (c_ret (sq_r ?_)))
  injection h with h; subst h
  exact end_W hH (r_tmp (v := .bool true) hS rfl r_nil) rfl (by kernel_rfl) (by simp [pureT, pureL, E_bool])
 ·have h := it_neg hc1 h
  refine c_cond hS rfl (fun hf => tt_absurd hc1 hf) (fun _ => ?_)
  refine c_skip (sq_n (c_seq (c_region ?_)))
  refine q_load (v := .agg (DValue.cells a1)) 0 trivial rfl hS hH rfl rfl (by kernel_rfl) ?_; intro s hS
  refine qs 1 [(2, .ptr b1 0 0 2), (3, .ptr b2 0 0 4), (24, .agg (DValue.cells a1)), (25, i4 y1)] hS ?_; intro s hS
  obtain ⟨y2, hy2, h⟩ := bind_some h
  refine q_callF (a := []) (b := []) (xs := [.agg (DValue.cells a1), i4 y1]) rfl hS rfl rfl hy2 ?_; intro s hS
  refine qs 1 [(2, .ptr b1 0 0 2), (3, .ptr b2 0 0 4), (5, i4 y2)] hS ?_; intro s hS
  refine x_nil (sq_n (c_seq (c_seq (c_region ?_))))
  refine qs 2 [(2, .ptr b1 0 0 2), (3, .ptr b2 0 0 4), (28, .bool (decide (y2 < 0)))] hS ?_; intro s hS
  refine x_nil (sq_n ?_)
  by_cases hc2 : (decide (y2 < 0)) = true
  ·have h := it_pos hc2 h
   refine c_cond hS rfl (fun _ => ?_) (fun hf => ff_absurd hc2 hf)
   refine c_seq (c_region ?_)
   refine qs 1 [(4, .bool true)] hS ?_; intro s hS
   refine x_nil (sq_n (c_ret (sq_r ?_)))
   injection h with h; subst h
   exact end_W hH (r_tmp (v := .bool true) hS rfl r_nil) rfl (by kernel_rfl) (by simp [pureT, pureL, E_bool])
  ·have h := it_neg hc2 h
   refine c_cond hS rfl (fun hf => tt_absurd hc2 hf) (fun _ => ?_)
   refine c_skip (sq_n (c_seq ?_))
   refine c_chain (W2 (fun _ => False) (fun _ => False)) (fun _ => rfl) (by kernel_rfl) (by kernel_rfl) hH ?_; intro mb σs σ hn0 hlt hlto hH
   have hlt_b2 : b2 < mb := hlt b2 _ (List.Mem.head _)
   refine q_load (v := .agg (DHeap.cells a0)) 1 (Or.inl (by kernel_rfl)) rfl hS hH rfl rfl (by kernel_rfl) ?_; intro s hS
   obtain ⟨y3, hy3, h⟩ := bind_some h
   refine q_callO (ents := []) (z := false) (ts := [.agg (DHeap.cells a0)]) (vs := [.agg (DHeap.cells a0)]) rfl rfl hS rfl rfl rfl hH (HL.agg (es1 := []) (es2 := []) (HLi (HLp HL.nil)) HL.nil) hy3 ?_; intro hs σ s hl hH hS
   obtain ⟨t1, rfl⟩ := len1 hl
   have hH : Heap σ0 σ [.own true 10 t1 y3.Objects.t, .box b2 (DValue.cells a1), .box b1 (DHeap.cells a0)] := hH
   have ht1 : IsOne t1 := Heap.one hH
   refine q_load (v := .agg (DValue.cells a1)) 1 (Or.inr ⟨hlt_b2, Or.inl (by kernel_rfl)⟩) rfl hS hH rfl rfl (by kernel_rfl) ?_; intro s hS
   obtain ⟨y4, hy4, h⟩ := bind_some h
   refine q_callF (a := []) (b := []) (xs := [.agg (DValue.cells a1)]) rfl hS rfl rfl hy4 ?_; intro s hS
   obtain ⟨y5, hy5, h⟩ := bind_some h
   refine q_callO (ents := [.own true 10 t1 y3.Objects.t]) (z := false) (ts := [.agg [i4 y3.Next, t1], .agg (DValue.cells y4)]) (vs := [.agg (DHeap.cells y3), .agg (DValue.cells y4)]) rfl rfl hS rfl rfl rfl hH (HL.agg (es1 := [.own true 10 t1 y3.Objects.t]) (es2 := []) (HLi (HL.own rfl HL.nil)) (HL.agg (es1 := []) (es2 := []) (HLi (HLi (HLs (HLi HL.nil)))) HL.nil)) hy5 ?_; intro hs σ s hl hH hS
   obtain ⟨t2, rfl⟩ := len1 hl
   have hH : Heap σ0 σ [.own true 10 t2 y5.1.Objects.t, .own true 10 t1 y3.Objects.t, .box b2 (DValue.cells a1), .box b1 (DHeap.cells a0)] := hH
   have ht2 : IsOne t2 := Heap.one hH
   refine qs 4 [(2, .ptr b1 0 0 2), (3, .ptr b2 0 0 4), (35, .agg [i4 y5.1.Next, t2]), (36, .agg (DValue.cells y5.2.1)), (37, i4 y5.2.2)] hS ?_; intro s hS
   refine q_allocC rfl (by exact hn0) (z := [i4 0, (nt DObject)]) rfl hS hH (by kernel_rfl) ?_; intro b3 σ s hwr_b3 hH hS
   refine q_allocC rfl (by exact hn0) (z := [i4 0, i4 0, .str ⟨#[]⟩, i4 0]) rfl hS hH (by kernel_rfl) ?_; intro b4 σ s hwr_b4 hH hS
   have hH : Heap σ0 σ [.box b3 [i4 0, (nt DObject)], .box b4 [i4 0, i4 0, .str ⟨#[]⟩, i4 0], .own true 10 t2 y5.1.Objects.t, .own true 10 t1 y3.Objects.t, .box b2 (DValue.cells a1), .box b1 (DHeap.cells a0)] := hH.sel [1, 0, 2, 3, 4, 5] rfl (by kernel_rfl)
   refine q_storeC rfl (v := .agg [i4 y5.1.Next, t2]) (cs := [i4 y5.1.Next, t2]) (cells' := [i4 y5.1.Next, t2]) (by exact Or.inl hwr_b3) rfl hS hH rfl rfl rfl (by simp [ht2.1, ht2.2]) (by kernel_rfl) ?_; intro σ s hH hS
   have hH : Heap σ0 σ [.box b4 [i4 0, i4 0, .str ⟨#[]⟩, i4 0], .box b3 [i4 y5.1.Next, t2], .own true 10 t2 y5.1.Objects.t, .own true 10 t1 y3.Objects.t, .box b2 (DValue.cells a1), .box b1 (DHeap.cells a0)] := hH.sel [1, 0, 2, 3, 4, 5] rfl (by kernel_rfl)
   refine q_storeC rfl (v := .agg (DValue.cells y5.2.1)) (cs := [i4 y5.2.1.Kind, i4 y5.2.1.Num, .str y5.2.1.Text, i4 y5.2.1.Ref]) (cells' := [i4 y5.2.1.Kind, i4 y5.2.1.Num, .str y5.2.1.Text, i4 y5.2.1.Ref]) (by exact Or.inl hwr_b4) rfl hS hH rfl rfl rfl (by kernel_rfl) (by kernel_rfl) ?_; intro σ s hH hS
   refine qs 1 [(2, .ptr b1 0 0 2), (3, .ptr b2 0 0 4), (6, .ptr b3 0 0 2), (7, .ptr b4 0 0 4), (8, i4 y5.2.2)] hS ?_; intro s hS
   refine x_nil (sq_n (c_seq (c_region ?_)))
   refine q_load (v := .agg (DHeap.cells a0)) 5 trivial rfl hS hH rfl rfl (by kernel_rfl) ?_; intro s hS
   obtain ⟨y6, hy6, h⟩ := bind_some h
   refine q_callO (ents := []) (z := false) (ts := [.agg (DHeap.cells a0)]) (vs := [.agg (DHeap.cells a0)]) rfl rfl hS rfl rfl rfl hH (HL.agg (es1 := []) (es2 := []) (HLi (HLp HL.nil)) HL.nil) hy6 ?_; intro hs σ s hl hH hS
   obtain ⟨t3, rfl⟩ := len1 hl
   have hH : Heap σ0 σ [.own true 10 t3 y6.Objects.t, .box b4 (DValue.cells y5.2.1), .box b3 [i4 y5.1.Next, t2], .own true 10 t2 y5.1.Objects.t, .own true 10 t1 y3.Objects.t, .box b2 (DValue.cells a1), .box b1 (DHeap.cells a0)] := hH
   have ht3 : IsOne t3 := Heap.one hH
   refine q_alloc (z := [i4 0, (nt DObject)]) rfl hS hH (by kernel_rfl) ?_; intro b5 σ s hH hS
   refine q_storeA (cs := [i4 y6.Next, t3]) rfl hS hH rfl rfl (by simp [ht3.1, ht3.2]) ?_; intro σ s hH hS
   refine x_nil (sq_n (c_seq ?_))
   refine c_chain (W2 (fun _ => False) (fun _ => False)) (fun _ => rfl) (by kernel_rfl) (by kernel_rfl) hH ?_; intro mb σs σ hn0 hlt hlto hH
   have hlt_b5 : b5 < mb := hlt b5 _ (List.Mem.head _)
   refine q_load (v := .agg [i4 y6.Next, t3]) 0 (Or.inr ⟨hlt_b5, Or.inl (by kernel_rfl)⟩) rfl hS hH rfl rfl (by kernel_rfl) ?_; intro s hS
   refine q_load (v := .agg (DValue.cells a1)) 6 (Or.inl (by kernel_rfl)) rfl hS hH rfl rfl (by kernel_rfl) ?_; intro s hS
   obtain ⟨y7, hy7, h⟩ := bind_some h
   refine q_callF (a := []) (b := []) (xs := [.agg (DValue.cells a1)]) rfl hS rfl rfl hy7 ?_; intro s hS
   obtain ⟨y8, hy8, h⟩ := bind_some h
   have hH : Heap σ0 σ [.own true 10 t3 y6.Objects.t, .box b5 [i4 y6.Next, t3], .box b4 (DValue.cells y5.2.1), .box b3 [i4 y5.1.Next, t2], .own true 10 t2 y5.1.Objects.t, .own true 10 t1 y3.Objects.t, .box b2 (DValue.cells a1), .box b1 (DHeap.cells a0)] := hH.sel [1, 0, 2, 3, 4, 5, 6, 7] rfl (by kernel_rfl)
   refine q_callO (ents := [.own true 10 t3 y6.Objects.t]) (z := false) (ts := [.agg [i4 y6.Next, t3], .agg (DValue.cells y7)]) (vs := [.agg (DHeap.cells y6), .agg (DValue.cells y7)]) rfl rfl hS rfl rfl rfl hH (HL.agg (es1 := [.own true 10 t3 y6.Objects.t]) (es2 := []) (HLi (HL.own rfl HL.nil)) (HL.agg (es1 := []) (es2 := []) (HLi (HLi (HLs (HLi HL.nil)))) HL.nil)) hy8 ?_; intro hs σ s hl hH hS
   obtain ⟨t4, rfl⟩ := len1 hl
   have hH : Heap σ0 σ [.own true 10 t4 y8.1.Objects.t, .own true 10 t3 y6.Objects.t, .box b5 [i4 y6.Next, t3], .box b4 (DValue.cells y5.2.1), .box b3 [i4 y5.1.Next, t2], .own true 10 t2 y5.1.Objects.t, .own true 10 t1 y3.Objects.t, .box b2 (DValue.cells a1), .box b1 (DHeap.cells a0)] := hH
   have ht4 : IsOne t4 := Heap.one hH
   refine qs 4 [(2, .ptr b1 0 0 2), (3, .ptr b2 0 0 4), (6, .ptr b3 0 0 2), (7, .ptr b4 0 0 4), (8, i4 y5.2.2), (9, .ptr b5 0 0 2), (45, .agg [i4 y8.1.Next, t4]), (46, .agg (DValue.cells y8.2.1)), (47, i4 y8.2.2)] hS ?_; intro s hS
   refine q_allocC rfl (by exact hn0) (z := [i4 0, (nt DObject)]) rfl hS hH (by kernel_rfl) ?_; intro b6 σ s hwr_b6 hH hS
   refine q_allocC rfl (by exact hn0) (z := [i4 0, i4 0, .str ⟨#[]⟩, i4 0]) rfl hS hH (by kernel_rfl) ?_; intro b7 σ s hwr_b7 hH hS
   have hH : Heap σ0 σ [.box b6 [i4 0, (nt DObject)], .box b7 [i4 0, i4 0, .str ⟨#[]⟩, i4 0], .own true 10 t4 y8.1.Objects.t, .own true 10 t3 y6.Objects.t, .box b5 [i4 y6.Next, t3], .box b4 (DValue.cells y5.2.1), .box b3 [i4 y5.1.Next, t2], .own true 10 t2 y5.1.Objects.t, .own true 10 t1 y3.Objects.t, .box b2 (DValue.cells a1), .box b1 (DHeap.cells a0)] := hH.sel [1, 0, 2, 3, 4, 5, 6, 7, 8, 9, 10] rfl (by kernel_rfl)
   refine q_storeC rfl (v := .agg [i4 y8.1.Next, t4]) (cs := [i4 y8.1.Next, t4]) (cells' := [i4 y8.1.Next, t4]) (by exact Or.inl hwr_b6) rfl hS hH rfl rfl rfl (by simp [ht4.1, ht4.2]) (by kernel_rfl) ?_; intro σ s hH hS
   have hH : Heap σ0 σ [.box b7 [i4 0, i4 0, .str ⟨#[]⟩, i4 0], .box b6 [i4 y8.1.Next, t4], .own true 10 t4 y8.1.Objects.t, .own true 10 t3 y6.Objects.t, .box b5 [i4 y6.Next, t3], .box b4 (DValue.cells y5.2.1), .box b3 [i4 y5.1.Next, t2], .own true 10 t2 y5.1.Objects.t, .own true 10 t1 y3.Objects.t, .box b2 (DValue.cells a1), .box b1 (DHeap.cells a0)] := hH.sel [1, 0, 2, 3, 4, 5, 6, 7, 8, 9, 10] rfl (by kernel_rfl)
   refine q_storeC rfl (v := .agg (DValue.cells y8.2.1)) (cs := [i4 y8.2.1.Kind, i4 y8.2.1.Num, .str y8.2.1.Text, i4 y8.2.1.Ref]) (cells' := [i4 y8.2.1.Kind, i4 y8.2.1.Num, .str y8.2.1.Text, i4 y8.2.1.Ref]) (by exact Or.inl hwr_b7) rfl hS hH rfl rfl rfl (by kernel_rfl) (by kernel_rfl) ?_; intro σ s hH hS
   refine qs 1 [(2, .ptr b1 0 0 2), (3, .ptr b2 0 0 4), (6, .ptr b3 0 0 2), (7, .ptr b4 0 0 4), (8, i4 y5.2.2), (9, .ptr b5 0 0 2), (10, .ptr b6 0 0 2), (11, .ptr b7 0 0 4), (12, i4 y8.2.2)] hS ?_; intro s hS
   refine x_nil (sq_n (c_seq (c_seq (c_region ?_))))
   refine q_load (v := .agg [i4 y8.1.Next, t4]) 1 trivial rfl hS hH rfl rfl (by kernel_rfl) ?_; intro s hS
   refine q_load (v := .agg [i4 y5.1.Next, t2]) 6 trivial rfl hS hH rfl rfl (by kernel_rfl) ?_; intro s hS
   obtain ⟨y9, hy9, h⟩ := bind_some h
   have hH : Heap σ0 σ [.own true 10 t4 y8.1.Objects.t, .own true 10 t2 y5.1.Objects.t, .box b7 (DValue.cells y8.2.1), .box b6 [i4 y8.1.Next, t4], .own true 10 t3 y6.Objects.t, .box b5 [i4 y6.Next, t3], .box b4 (DValue.cells y5.2.1), .box b3 [i4 y5.1.Next, t2], .own true 10 t1 y3.Objects.t, .box b2 (DValue.cells a1), .box b1 (DHeap.cells a0)] := hH.sel [2, 7, 0, 1, 3, 4, 5, 6, 8, 9, 10] rfl (by kernel_rfl)
   refine q_callH (ents := [.own true 10 t4 y8.1.Objects.t, .own true 10 t2 y5.1.Objects.t]) (z := false) (ts := [.agg [i4 y8.1.Next, t4], .agg [i4 y5.1.Next, t2]]) (vs := [.agg (DHeap.cells y8.1), .agg (DHeap.cells y5.1)]) rfl hS rfl rfl rfl hH (HL.agg (es1 := [.own true 10 t4 y8.1.Objects.t]) (es2 := [.own true 10 t2 y5.1.Objects.t]) (HLi (HL.own rfl HL.nil)) (HL.agg (es1 := [.own true 10 t2 y5.1.Objects.t]) (es2 := []) (HLi (HL.own rfl HL.nil)) HL.nil)) hy9 (by kernel_rfl) ?_; intro s hS
   refine qs 2 [(52, .bool (!y9)), (2, .ptr b1 0 0 2), (3, .ptr b2 0 0 4), (6, .ptr b3 0 0 2), (7, .ptr b4 0 0 4), (8, i4 y5.2.2), (9, .ptr b5 0 0 2), (10, .ptr b6 0 0 2), (11, .ptr b7 0 0 4), (12, i4 y8.2.2)] hS ?_; intro s hS
   by_cases hc3 : (!y9) = true
   ·have h := it_pos hc3 h
    have hS := sub_bt hS hc3
    refine qs 10 [(2, .ptr b1 0 0 2), (3, .ptr b2 0 0 4), (6, .ptr b3 0 0 2), (7, .ptr b4 0 0 4), (8, i4 y5.2.2), (9, .ptr b5 0 0 2), (10, .ptr b6 0 0 2), (11, .ptr b7 0 0 4), (12, i4 y8.2.2), (62, .bool true)] hS ?_; intro s hS
    refine x_nil (sq_n ?_)
    refine c_cond (t := true) hS rfl (fun _ => ?_) (fun hf => by cases hf)
    refine c_seq (c_region ?_)
    refine qs 1 [(4, .bool false)] hS ?_; intro s hS
    refine x_nil (sq_n (c_ret (sq_r ?_)))
    injection h with h; subst h
    exact end_W hH (r_tmp (v := .bool false) hS rfl r_nil) rfl (by kernel_rfl) (by simp [pureT, pureL, E_bool])
   ·have h := it_neg hc3 h
    have hS := sub_bt hS (tt_of hc3)
    refine q_load (v := .agg (DValue.cells y8.2.1)) 2 trivial rfl hS hH rfl rfl (by kernel_rfl) ?_; intro s hS
    refine q_load (v := .agg (DValue.cells y5.2.1)) 6 trivial rfl hS hH rfl rfl (by kernel_rfl) ?_; intro s hS
    obtain ⟨y10, hy10, h⟩ := bind_some h
    refine q_callF (a := []) (b := []) (xs := [.agg (DValue.cells y8.2.1), .agg (DValue.cells y5.2.1)]) rfl hS rfl rfl hy10 ?_; intro s hS
    refine qs 3 [(58, .bool (!y10)), (2, .ptr b1 0 0 2), (3, .ptr b2 0 0 4), (6, .ptr b3 0 0 2), (7, .ptr b4 0 0 4), (8, i4 y5.2.2), (9, .ptr b5 0 0 2), (10, .ptr b6 0 0 2), (11, .ptr b7 0 0 4), (12, i4 y8.2.2)] hS ?_; intro s hS
    by_cases hc4 : (!y10) = true
    ·have h := it_pos hc4 h
     have hS := sub_bt hS hc4
     refine qs 4 [(2, .ptr b1 0 0 2), (3, .ptr b2 0 0 4), (6, .ptr b3 0 0 2), (7, .ptr b4 0 0 4), (8, i4 y5.2.2), (9, .ptr b5 0 0 2), (10, .ptr b6 0 0 2), (11, .ptr b7 0 0 4), (12, i4 y8.2.2), (62, .bool true)] hS ?_; intro s hS
     refine x_nil (sq_n ?_)
     refine c_cond (t := true) hS rfl (fun _ => ?_) (fun hf => by cases hf)
     refine c_seq (c_region ?_)
     refine qs 1 [(4, .bool false)] hS ?_; intro s hS
     refine x_nil (sq_n (c_ret (sq_r ?_)))
     injection h with h; subst h
     exact end_W hH (r_tmp (v := .bool false) hS rfl r_nil) rfl (by kernel_rfl) (by simp [pureT, pureL, E_bool])
    ·have h := it_neg hc4 h
     have hS := sub_bt hS (tt_of hc4)
     refine qs 4 [(2, .ptr b1 0 0 2), (3, .ptr b2 0 0 4), (6, .ptr b3 0 0 2), (7, .ptr b4 0 0 4), (8, i4 y5.2.2), (9, .ptr b5 0 0 2), (10, .ptr b6 0 0 2), (11, .ptr b7 0 0 4), (12, i4 y8.2.2), (62, .bool (!decide (y8.2.2 = y5.2.2)))] hS ?_; intro s hS
     refine x_nil (sq_n ?_)
     by_cases hc5 : (!decide (y8.2.2 = y5.2.2)) = true
     ·have h := it_pos hc5 h
      refine c_cond hS rfl (fun _ => ?_) (fun hf => ff_absurd hc5 hf)
      refine c_seq (c_region ?_)
      refine qs 1 [(4, .bool false)] hS ?_; intro s hS
      refine x_nil (sq_n (c_ret (sq_r ?_)))
      injection h with h; subst h
      exact end_W hH (r_tmp (v := .bool false) hS rfl r_nil) rfl (by kernel_rfl) (by simp [pureT, pureL, E_bool])
     ·have h := it_neg hc5 h
      refine c_cond hS rfl (fun hf => tt_absurd hc5 hf) (fun _ => ?_)
      refine c_skip (sq_n (c_seq (c_seq ?_)))
      refine c_chain (W2 (fun _ => False) (fun _ => False)) (fun _ => rfl) (by kernel_rfl) (by kernel_rfl) hH ?_; intro mb σs σ hn0 hlt hlto hH
      have hlt_b5 : b5 < mb := hlt b5 _ (List.Mem.tail _ (List.Mem.tail _ (List.Mem.tail _ (List.Mem.tail _ (List.Mem.tail _ (List.Mem.head _))))))
      refine q_load (v := .agg [i4 y6.Next, t3]) 5 (Or.inr ⟨hlt_b5, Or.inl (by kernel_rfl)⟩) rfl hS hH rfl rfl (by kernel_rfl) ?_; intro s hS
      refine q_load (v := .agg (DHeap.cells a0)) 10 (Or.inl (by kernel_rfl)) rfl hS hH rfl rfl (by kernel_rfl) ?_; intro s hS
      obtain ⟨y11, hy11, h⟩ := bind_some h
      refine q_callO (ents := []) (z := false) (ts := [.agg (DHeap.cells a0)]) (vs := [.agg (DHeap.cells a0)]) rfl rfl hS rfl rfl rfl hH (HL.agg (es1 := []) (es2 := []) (HLi (HLp HL.nil)) HL.nil) hy11 ?_; intro hs σ s hl hH hS
      obtain ⟨t5, rfl⟩ := len1 hl
      have hH : Heap σ0 σ [.own true 10 t5 y11.Objects.t, .own true 10 t4 y8.1.Objects.t, .own true 10 t2 y5.1.Objects.t, .box b7 (DValue.cells y8.2.1), .box b6 [i4 y8.1.Next, t4], .own true 10 t3 y6.Objects.t, .box b5 [i4 y6.Next, t3], .box b4 (DValue.cells y5.2.1), .box b3 [i4 y5.1.Next, t2], .own true 10 t1 y3.Objects.t, .box b2 (DValue.cells a1), .box b1 (DHeap.cells a0)] := hH
      have ht5 : IsOne t5 := Heap.one hH
      obtain ⟨y12, hy12, h⟩ := bind_some h
      have hH : Heap σ0 σ [.own true 10 t3 y6.Objects.t, .own true 10 t5 y11.Objects.t, .own true 10 t4 y8.1.Objects.t, .own true 10 t2 y5.1.Objects.t, .box b7 (DValue.cells y8.2.1), .box b6 [i4 y8.1.Next, t4], .box b5 [i4 y6.Next, t3], .box b4 (DValue.cells y5.2.1), .box b3 [i4 y5.1.Next, t2], .own true 10 t1 y3.Objects.t, .box b2 (DValue.cells a1), .box b1 (DHeap.cells a0)] := hH.sel [5, 0, 1, 2, 3, 4, 6, 7, 8, 9, 10, 11] rfl (by kernel_rfl)
      refine q_callH (ents := [.own true 10 t3 y6.Objects.t, .own true 10 t5 y11.Objects.t]) (z := false) (ts := [.agg [i4 y6.Next, t3], .agg [i4 y11.Next, t5]]) (vs := [.agg (DHeap.cells y6), .agg (DHeap.cells y11)]) rfl hS rfl rfl rfl hH (HL.agg (es1 := [.own true 10 t3 y6.Objects.t]) (es2 := [.own true 10 t5 y11.Objects.t]) (HLi (HL.own rfl HL.nil)) (HL.agg (es1 := [.own true 10 t5 y11.Objects.t]) (es2 := []) (HLi (HL.own rfl HL.nil)) HL.nil)) hy12 (by kernel_rfl) ?_; intro s hS
      refine qs 1 [(2, .ptr b1 0 0 2), (3, .ptr b2 0 0 4), (6, .ptr b3 0 0 2), (7, .ptr b4 0 0 4), (8, i4 y5.2.2), (9, .ptr b5 0 0 2), (10, .ptr b6 0 0 2), (11, .ptr b7 0 0 4), (12, i4 y8.2.2), (67, .bool (!y12))] hS ?_; intro s hS
      refine x_nil (sq_n ?_)
      by_cases hc6 : (!y12) = true
      ·have h := it_pos hc6 h
       refine c_cond hS rfl (fun _ => ?_) (fun hf => ff_absurd hc6 hf)
       refine c_seq (c_region ?_)
       refine qs 1 [(4, .bool false)] hS ?_; intro s hS
       refine x_nil (sq_n (c_ret (sq_r ?_)))
       injection h with h; subst h
       exact end_W hH (r_tmp (v := .bool false) hS rfl r_nil) rfl (by kernel_rfl) (by simp [pureT, pureL, E_bool])
      ·have h := it_neg hc6 h
       refine c_cond hS rfl (fun hf => tt_absurd hc6 hf) (fun _ => ?_)
       refine c_skip (sq_n (c_seq (c_region ?_)))
       refine qs 1 [(2, .ptr b1 0 0 2), (3, .ptr b2 0 0 4), (6, .ptr b3 0 0 2), (7, .ptr b4 0 0 4), (8, i4 y5.2.2), (9, .ptr b5 0 0 2), (10, .ptr b6 0 0 2), (11, .ptr b7 0 0 4), (12, i4 y8.2.2), (13, i4 1)] hS ?_; intro s hS
       refine x_nil (sq_n (c_seq (c_region ?_)))
       refine q_load (v := .agg [i4 y6.Next, t3]) 6 trivial rfl hS hH rfl rfl (by kernel_rfl) ?_; intro s hS
       refine qs 1 [(2, .ptr b1 0 0 2), (3, .ptr b2 0 0 4), (6, .ptr b3 0 0 2), (7, .ptr b4 0 0 4), (8, i4 y5.2.2), (10, .ptr b6 0 0 2), (11, .ptr b7 0 0 4), (12, i4 y8.2.2), (68, .agg [i4 y6.Next, t3]), (69, i4 1)] hS ?_; intro s hS
       obtain ⟨y13, hy13, h⟩ := bind_some h
       refine q_callR (a := []) (b := []) (xs := [.agg [i4 y6.Next, t3], i4 1]) (ents := [.own true 10 t3 y6.Objects.t]) rfl hS rfl rfl hH (u_laws_markHeap y6 1 y13 hy13 10 t3) ?_; intro hs σ s hl hH hS
       have hH : Heap σ0 σ [.own true 10 t3 y13.2.Objects.t, .own true 10 t5 y11.Objects.t, .own true 10 t4 y8.1.Objects.t, .own true 10 t2 y5.1.Objects.t, .box b7 (DValue.cells y8.2.1), .box b6 [i4 y8.1.Next, t4], .box b5 [i4 y6.Next, t3], .box b4 (DValue.cells y5.2.1), .box b3 [i4 y5.1.Next, t2], .own true 10 t1 y3.Objects.t, .box b2 (DValue.cells a1), .box b1 (DHeap.cells a0)] := hH
       refine qs 1 [(2, .ptr b1 0 0 2), (3, .ptr b2 0 0 4), (6, .ptr b3 0 0 2), (7, .ptr b4 0 0 4), (8, i4 y5.2.2), (10, .ptr b6 0 0 2), (11, .ptr b7 0 0 4), (12, i4 y8.2.2), (13, i4 y13.1)] hS ?_; intro s hS
       refine x_nil (sq_n (c_seq (c_seq (c_region ?_))))
       refine qs 3 [(73, .bool (decide (y13.1 < 0))), (2, .ptr b1 0 0 2), (3, .ptr b2 0 0 4), (6, .ptr b3 0 0 2), (7, .ptr b4 0 0 4), (8, i4 y5.2.2), (10, .ptr b6 0 0 2), (11, .ptr b7 0 0 4), (12, i4 y8.2.2)] hS ?_; intro s hS
       by_cases hc7 : (decide (y13.1 < 0)) = true
       ·have h := it_pos hc7 h
        have hS := sub_bt hS hc7
        refine qs 16 [(2, .ptr b1 0 0 2), (3, .ptr b2 0 0 4), (6, .ptr b3 0 0 2), (7, .ptr b4 0 0 4), (8, i4 y5.2.2), (10, .ptr b6 0 0 2), (89, .bool true)] hS ?_; intro s hS
        refine x_nil (sq_n ?_)
        refine c_cond (t := true) hS rfl (fun _ => ?_) (fun hf => by cases hf)
        refine c_seq (c_region ?_)
        refine qs 1 [(4, .bool false)] hS ?_; intro s hS
        refine x_nil (sq_n (c_ret (sq_r ?_)))
        injection h with h; subst h
        exact end_W hH (r_tmp (v := .bool false) hS rfl r_nil) rfl (by kernel_rfl) (by simp [pureT, pureL, E_bool])
       ·have h := it_neg hc7 h
        have hS := sub_bt hS (tt_of hc7)
        refine q_load (v := .agg [i4 y8.1.Next, t4]) 5 trivial rfl hS hH rfl rfl (by kernel_rfl) ?_; intro s hS
        refine q_load (v := .agg [i4 y5.1.Next, t2]) 8 trivial rfl hS hH rfl rfl (by kernel_rfl) ?_; intro s hS
        obtain ⟨y14, hy14, h⟩ := bind_some h
        have hH : Heap σ0 σ [.own true 10 t4 y8.1.Objects.t, .own true 10 t2 y5.1.Objects.t, .own true 10 t3 y13.2.Objects.t, .own true 10 t5 y11.Objects.t, .box b7 (DValue.cells y8.2.1), .box b6 [i4 y8.1.Next, t4], .box b5 [i4 y6.Next, t3], .box b4 (DValue.cells y5.2.1), .box b3 [i4 y5.1.Next, t2], .own true 10 t1 y3.Objects.t, .box b2 (DValue.cells a1), .box b1 (DHeap.cells a0)] := hH.sel [2, 3, 0, 1, 4, 5, 6, 7, 8, 9, 10, 11] rfl (by kernel_rfl)
        refine q_callH (ents := [.own true 10 t4 y8.1.Objects.t, .own true 10 t2 y5.1.Objects.t]) (z := false) (ts := [.agg [i4 y8.1.Next, t4], .agg [i4 y5.1.Next, t2]]) (vs := [.agg (DHeap.cells y8.1), .agg (DHeap.cells y5.1)]) rfl hS rfl rfl rfl hH (HL.agg (es1 := [.own true 10 t4 y8.1.Objects.t]) (es2 := [.own true 10 t2 y5.1.Objects.t]) (HLi (HL.own rfl HL.nil)) (HL.agg (es1 := [.own true 10 t2 y5.1.Objects.t]) (es2 := []) (HLi (HL.own rfl HL.nil)) HL.nil)) hy14 (by kernel_rfl) ?_; intro s hS
        refine qs 3 [(79, .bool (!y14)), (2, .ptr b1 0 0 2), (3, .ptr b2 0 0 4), (6, .ptr b3 0 0 2), (7, .ptr b4 0 0 4), (8, i4 y5.2.2), (10, .ptr b6 0 0 2), (11, .ptr b7 0 0 4), (12, i4 y8.2.2)] hS ?_; intro s hS
        by_cases hc8 : (!y14) = true
        ·have h := it_pos hc8 h
         have hS := sub_bt hS hc8
         refine qs 10 [(2, .ptr b1 0 0 2), (3, .ptr b2 0 0 4), (6, .ptr b3 0 0 2), (7, .ptr b4 0 0 4), (8, i4 y5.2.2), (10, .ptr b6 0 0 2), (89, .bool true)] hS ?_; intro s hS
         refine x_nil (sq_n ?_)
         refine c_cond (t := true) hS rfl (fun _ => ?_) (fun hf => by cases hf)
         refine c_seq (c_region ?_)
         refine qs 1 [(4, .bool false)] hS ?_; intro s hS
         refine x_nil (sq_n (c_ret (sq_r ?_)))
         injection h with h; subst h
         exact end_W hH (r_tmp (v := .bool false) hS rfl r_nil) rfl (by kernel_rfl) (by simp [pureT, pureL, E_bool])
        ·have h := it_neg hc8 h
         have hS := sub_bt hS (tt_of hc8)
         refine q_load (v := .agg (DValue.cells y8.2.1)) 4 trivial rfl hS hH rfl rfl (by kernel_rfl) ?_; intro s hS
         refine q_load (v := .agg (DValue.cells y5.2.1)) 7 trivial rfl hS hH rfl rfl (by kernel_rfl) ?_; intro s hS
         obtain ⟨y15, hy15, h⟩ := bind_some h
         refine q_callF (a := []) (b := []) (xs := [.agg (DValue.cells y8.2.1), .agg (DValue.cells y5.2.1)]) rfl hS rfl rfl hy15 ?_; intro s hS
         refine qs 3 [(85, .bool (!y15)), (2, .ptr b1 0 0 2), (3, .ptr b2 0 0 4), (6, .ptr b3 0 0 2), (7, .ptr b4 0 0 4), (8, i4 y5.2.2), (10, .ptr b6 0 0 2), (12, i4 y8.2.2)] hS ?_; intro s hS
         by_cases hc9 : (!y15) = true
         ·have h := it_pos hc9 h
          have hS := sub_bt hS hc9
          refine qs 4 [(2, .ptr b1 0 0 2), (3, .ptr b2 0 0 4), (6, .ptr b3 0 0 2), (7, .ptr b4 0 0 4), (8, i4 y5.2.2), (10, .ptr b6 0 0 2), (89, .bool true)] hS ?_; intro s hS
          refine x_nil (sq_n ?_)
          refine c_cond (t := true) hS rfl (fun _ => ?_) (fun hf => by cases hf)
          refine c_seq (c_region ?_)
          refine qs 1 [(4, .bool false)] hS ?_; intro s hS
          refine x_nil (sq_n (c_ret (sq_r ?_)))
          injection h with h; subst h
          exact end_W hH (r_tmp (v := .bool false) hS rfl r_nil) rfl (by kernel_rfl) (by simp [pureT, pureL, E_bool])
         ·have h := it_neg hc9 h
          have hS := sub_bt hS (tt_of hc9)
          refine qs 4 [(2, .ptr b1 0 0 2), (3, .ptr b2 0 0 4), (6, .ptr b3 0 0 2), (7, .ptr b4 0 0 4), (8, i4 y5.2.2), (10, .ptr b6 0 0 2), (89, .bool (!decide (y8.2.2 = y5.2.2)))] hS ?_; intro s hS
          refine x_nil (sq_n ?_)
          refine c_cond hS rfl (fun hf => tt_absurd hc5 hf) (fun _ => ?_)
          refine c_skip (sq_n (c_seq (c_region ?_)))
          refine qs 1 [(2, .ptr b1 0 0 2), (3, .ptr b2 0 0 4), (6, .ptr b3 0 0 2), (7, .ptr b4 0 0 4), (8, i4 y5.2.2), (10, .ptr b6 0 0 2), (14, i4 1)] hS ?_; intro s hS
          refine x_nil (sq_n (c_seq (c_region ?_)))
          refine q_load (v := .agg [i4 y8.1.Next, t4]) 5 trivial rfl hS hH rfl rfl (by kernel_rfl) ?_; intro s hS
          refine qs 1 [(2, .ptr b1 0 0 2), (3, .ptr b2 0 0 4), (6, .ptr b3 0 0 2), (7, .ptr b4 0 0 4), (8, i4 y5.2.2), (10, .ptr b6 0 0 2), (90, .agg [i4 y8.1.Next, t4]), (91, i4 1)] hS ?_; intro s hS
          obtain ⟨y16, hy16, h⟩ := bind_some h
          refine q_callR (a := []) (b := []) (xs := [.agg [i4 y8.1.Next, t4], i4 1]) (ents := [.own true 10 t4 y8.1.Objects.t]) rfl hS rfl rfl hH (u_laws_markHeap y8.1 1 y16 hy16 10 t4) ?_; intro hs σ s hl hH hS
          have hH : Heap σ0 σ [.own true 10 t4 y16.2.Objects.t, .own true 10 t2 y5.1.Objects.t, .own true 10 t3 y13.2.Objects.t, .own true 10 t5 y11.Objects.t, .box b7 (DValue.cells y8.2.1), .box b6 [i4 y8.1.Next, t4], .box b5 [i4 y6.Next, t3], .box b4 (DValue.cells y5.2.1), .box b3 [i4 y5.1.Next, t2], .own true 10 t1 y3.Objects.t, .box b2 (DValue.cells a1), .box b1 (DHeap.cells a0)] := hH
          refine qs 1 [(2, .ptr b1 0 0 2), (3, .ptr b2 0 0 4), (6, .ptr b3 0 0 2), (7, .ptr b4 0 0 4), (8, i4 y5.2.2), (10, .ptr b6 0 0 2), (14, i4 y16.1)] hS ?_; intro s hS
          refine x_nil (sq_n (c_seq (c_region ?_)))
          refine qs 1 [(2, .ptr b1 0 0 2), (3, .ptr b2 0 0 4), (6, .ptr b3 0 0 2), (7, .ptr b4 0 0 4), (8, i4 y5.2.2), (10, .ptr b6 0 0 2), (14, i4 y16.1), (15, i4 1)] hS ?_; intro s hS
          refine x_nil (sq_n (c_seq (c_region ?_)))
          refine q_load (v := .agg [i4 y8.1.Next, t4]) 5 trivial rfl hS hH rfl rfl (by kernel_rfl) ?_; intro s hS
          refine qs 1 [(2, .ptr b1 0 0 2), (3, .ptr b2 0 0 4), (6, .ptr b3 0 0 2), (7, .ptr b4 0 0 4), (8, i4 y5.2.2), (10, .ptr b6 0 0 2), (14, i4 y16.1), (93, .agg [i4 y8.1.Next, t4]), (94, i4 1)] hS ?_; intro s hS
          obtain ⟨y17, hy17, h⟩ := bind_some h
          refine q_callH (ents := [.own true 10 t4 y16.2.Objects.t]) (z := false) (ts := [.agg [i4 y8.1.Next, t4], i4 1]) (vs := [.agg [i4 y8.1.Next, y16.2.Objects.t], i4 1]) rfl hS rfl rfl rfl hH (HL.agg (es1 := [.own true 10 t4 y16.2.Objects.t]) (es2 := []) (HLi (HL.own rfl HL.nil)) (HLi HL.nil)) hy17 (by kernel_rfl) ?_; intro s hS
          refine qs 1 [(2, .ptr b1 0 0 2), (3, .ptr b2 0 0 4), (6, .ptr b3 0 0 2), (7, .ptr b4 0 0 4), (8, i4 y5.2.2), (10, .ptr b6 0 0 2), (14, i4 y16.1), (15, i4 y17)] hS ?_; intro s hS
          refine x_nil (sq_n (c_seq (c_seq (c_region ?_))))
          refine qs 2 [(2, .ptr b1 0 0 2), (3, .ptr b2 0 0 4), (6, .ptr b3 0 0 2), (7, .ptr b4 0 0 4), (8, i4 y5.2.2), (10, .ptr b6 0 0 2), (14, i4 y16.1), (15, i4 y17), (97, .bool (decide (y17 < 0)))] hS ?_; intro s hS
          refine x_nil (sq_n ?_)
          by_cases hc10 : (decide (y17 < 0)) = true
          ·have h := it_pos hc10 h
           refine c_cond hS rfl (fun _ => ?_) (fun hf => ff_absurd hc10 hf)
           refine c_seq (c_region ?_)
           refine qs 1 [(4, .bool false)] hS ?_; intro s hS
           refine x_nil (sq_n (c_ret (sq_r ?_)))
           injection h with h; subst h
           exact end_W hH (r_tmp (v := .bool false) hS rfl r_nil) rfl (by kernel_rfl) (by simp [pureT, pureL, E_bool])
          ·have h := it_neg hc10 h
           refine c_cond hS rfl (fun hf => tt_absurd hc10 hf) (fun _ => ?_)
           refine c_skip (sq_n (c_seq (c_seq (c_region ?_))))
           refine qs 3 [(2, .ptr b1 0 0 2), (3, .ptr b2 0 0 4), (6, .ptr b3 0 0 2), (7, .ptr b4 0 0 4), (8, i4 y5.2.2), (10, .ptr b6 0 0 2), (14, i4 y16.1), (100, .bool (!decide (y17 = y16.1)))] hS ?_; intro s hS
           refine x_nil (sq_n ?_)
           by_cases hc11 : (!decide (y17 = y16.1)) = true
           ·have h := it_pos hc11 h
            refine c_cond hS rfl (fun _ => ?_) (fun hf => ff_absurd hc11 hf)
            refine c_seq (c_region ?_)
            refine qs 1 [(4, .bool false)] hS ?_; intro s hS
            refine x_nil (sq_n (c_ret (sq_r ?_)))
            injection h with h; subst h
            exact end_W hH (r_tmp (v := .bool false) hS rfl r_nil) rfl (by kernel_rfl) (by simp [pureT, pureL, E_bool])
           ·have h := it_neg hc11 h
            refine c_cond hS rfl (fun hf => tt_absurd hc11 hf) (fun _ => ?_)
            refine c_skip (sq_n (c_seq ?_))
            refine c_chain (W2 (fun _ => False) (fun _ => False)) (fun _ => rfl) (by kernel_rfl) (by kernel_rfl) hH ?_; intro mb σs σ hn0 hlt hlto hH
            have hlt_b2 : b2 < mb := hlt b2 _ (List.Mem.tail _ (List.Mem.tail _ (List.Mem.tail _ (List.Mem.tail _ (List.Mem.tail _ (List.Mem.tail _ (List.Mem.tail _ (List.Mem.tail _ (List.Mem.tail _ (List.Mem.tail _ (List.Mem.head _)))))))))))
            refine q_load (v := .agg (DHeap.cells a0)) 11 (Or.inl (by kernel_rfl)) rfl hS hH rfl rfl (by kernel_rfl) ?_; intro s hS
            obtain ⟨y18, hy18, h⟩ := bind_some h
            refine q_callO (ents := []) (z := false) (ts := [.agg (DHeap.cells a0)]) (vs := [.agg (DHeap.cells a0)]) rfl rfl hS rfl rfl rfl hH (HL.agg (es1 := []) (es2 := []) (HLi (HLp HL.nil)) HL.nil) hy18 ?_; intro hs σ s hl hH hS
            obtain ⟨t6, rfl⟩ := len1 hl
            have hH : Heap σ0 σ [.own true 10 t6 y18.Objects.t, .own true 10 t4 y16.2.Objects.t, .own true 10 t2 y5.1.Objects.t, .own true 10 t3 y13.2.Objects.t, .own true 10 t5 y11.Objects.t, .box b7 (DValue.cells y8.2.1), .box b6 [i4 y8.1.Next, t4], .box b5 [i4 y6.Next, t3], .box b4 (DValue.cells y5.2.1), .box b3 [i4 y5.1.Next, t2], .own true 10 t1 y3.Objects.t, .box b2 (DValue.cells a1), .box b1 (DHeap.cells a0)] := hH
            have ht6 : IsOne t6 := Heap.one hH
            refine q_load (v := .agg (DValue.cells a1)) 11 (Or.inr ⟨hlt_b2, Or.inl (by kernel_rfl)⟩) rfl hS hH rfl rfl (by kernel_rfl) ?_; intro s hS
            obtain ⟨y19, hy19, h⟩ := bind_some h
            refine q_callF (a := []) (b := []) (xs := [.agg (DValue.cells a1)]) rfl hS rfl rfl hy19 ?_; intro s hS
            obtain ⟨y20, hy20, h⟩ := bind_some h
            refine q_callO (ents := [.own true 10 t6 y18.Objects.t]) (z := false) (ts := [.agg [i4 y18.Next, t6], .agg (DValue.cells y19)]) (vs := [.agg (DHeap.cells y18), .agg (DValue.cells y19)]) rfl rfl hS rfl rfl rfl hH (HL.agg (es1 := [.own true 10 t6 y18.Objects.t]) (es2 := []) (HLi (HL.own rfl HL.nil)) (HL.agg (es1 := []) (es2 := []) (HLi (HLi (HLs (HLi HL.nil)))) HL.nil)) hy20 ?_; intro hs σ s hl hH hS
            obtain ⟨t7, rfl⟩ := len1 hl
            have hH : Heap σ0 σ [.own true 10 t7 y20.1.Objects.t, .own true 10 t6 y18.Objects.t, .own true 10 t4 y16.2.Objects.t, .own true 10 t2 y5.1.Objects.t, .own true 10 t3 y13.2.Objects.t, .own true 10 t5 y11.Objects.t, .box b7 (DValue.cells y8.2.1), .box b6 [i4 y8.1.Next, t4], .box b5 [i4 y6.Next, t3], .box b4 (DValue.cells y5.2.1), .box b3 [i4 y5.1.Next, t2], .own true 10 t1 y3.Objects.t, .box b2 (DValue.cells a1), .box b1 (DHeap.cells a0)] := hH
            have ht7 : IsOne t7 := Heap.one hH
            refine qs 4 [(6, .ptr b3 0 0 2), (7, .ptr b4 0 0 4), (8, i4 y5.2.2), (10, .ptr b6 0 0 2), (14, i4 y16.1), (107, .agg [i4 y20.1.Next, t7]), (108, .agg (DValue.cells y20.2.1)), (109, i4 y20.2.2)] hS ?_; intro s hS
            refine q_allocC rfl (by exact hn0) (z := [i4 0, (nt DObject)]) rfl hS hH (by kernel_rfl) ?_; intro b8 σ s hwr_b8 hH hS
            refine q_allocC rfl (by exact hn0) (z := [i4 0, i4 0, .str ⟨#[]⟩, i4 0]) rfl hS hH (by kernel_rfl) ?_; intro b9 σ s hwr_b9 hH hS
            have hH : Heap σ0 σ [.box b8 [i4 0, (nt DObject)], .box b9 [i4 0, i4 0, .str ⟨#[]⟩, i4 0], .own true 10 t7 y20.1.Objects.t, .own true 10 t6 y18.Objects.t, .own true 10 t4 y16.2.Objects.t, .own true 10 t2 y5.1.Objects.t, .own true 10 t3 y13.2.Objects.t, .own true 10 t5 y11.Objects.t, .box b7 (DValue.cells y8.2.1), .box b6 [i4 y8.1.Next, t4], .box b5 [i4 y6.Next, t3], .box b4 (DValue.cells y5.2.1), .box b3 [i4 y5.1.Next, t2], .own true 10 t1 y3.Objects.t, .box b2 (DValue.cells a1), .box b1 (DHeap.cells a0)] := hH.sel [1, 0, 2, 3, 4, 5, 6, 7, 8, 9, 10, 11, 12, 13, 14, 15] rfl (by kernel_rfl)
            refine q_storeC rfl (v := .agg [i4 y20.1.Next, t7]) (cs := [i4 y20.1.Next, t7]) (cells' := [i4 y20.1.Next, t7]) (by exact Or.inl hwr_b8) rfl hS hH rfl rfl rfl (by simp [ht7.1, ht7.2]) (by kernel_rfl) ?_; intro σ s hH hS
            have hH : Heap σ0 σ [.box b9 [i4 0, i4 0, .str ⟨#[]⟩, i4 0], .box b8 [i4 y20.1.Next, t7], .own true 10 t7 y20.1.Objects.t, .own true 10 t6 y18.Objects.t, .own true 10 t4 y16.2.Objects.t, .own true 10 t2 y5.1.Objects.t, .own true 10 t3 y13.2.Objects.t, .own true 10 t5 y11.Objects.t, .box b7 (DValue.cells y8.2.1), .box b6 [i4 y8.1.Next, t4], .box b5 [i4 y6.Next, t3], .box b4 (DValue.cells y5.2.1), .box b3 [i4 y5.1.Next, t2], .own true 10 t1 y3.Objects.t, .box b2 (DValue.cells a1), .box b1 (DHeap.cells a0)] := hH.sel [1, 0, 2, 3, 4, 5, 6, 7, 8, 9, 10, 11, 12, 13, 14, 15] rfl (by kernel_rfl)
            refine q_storeC rfl (v := .agg (DValue.cells y20.2.1)) (cs := [i4 y20.2.1.Kind, i4 y20.2.1.Num, .str y20.2.1.Text, i4 y20.2.1.Ref]) (cells' := [i4 y20.2.1.Kind, i4 y20.2.1.Num, .str y20.2.1.Text, i4 y20.2.1.Ref]) (by exact Or.inl hwr_b9) rfl hS hH rfl rfl rfl (by kernel_rfl) (by kernel_rfl) ?_; intro σ s hH hS
            refine qs 1 [(6, .ptr b3 0 0 2), (7, .ptr b4 0 0 4), (8, i4 y5.2.2), (10, .ptr b6 0 0 2), (14, i4 y16.1), (16, .ptr b8 0 0 2), (17, .ptr b9 0 0 4), (18, i4 y20.2.2)] hS ?_; intro s hS
            refine x_nil (sq_n (c_seq (c_seq (c_region ?_))))
            refine q_load (v := .agg [i4 y20.1.Next, t7]) 1 trivial rfl hS hH rfl rfl (by kernel_rfl) ?_; intro s hS
            refine q_load (v := .agg [i4 y5.1.Next, t2]) 12 trivial rfl hS hH rfl rfl (by kernel_rfl) ?_; intro s hS
            obtain ⟨y21, hy21, h⟩ := bind_some h
            have hH : Heap σ0 σ [.own true 10 t7 y20.1.Objects.t, .own true 10 t2 y5.1.Objects.t, .box b9 (DValue.cells y20.2.1), .box b8 [i4 y20.1.Next, t7], .own true 10 t6 y18.Objects.t, .own true 10 t4 y16.2.Objects.t, .own true 10 t3 y13.2.Objects.t, .own true 10 t5 y11.Objects.t, .box b7 (DValue.cells y8.2.1), .box b6 [i4 y8.1.Next, t4], .box b5 [i4 y6.Next, t3], .box b4 (DValue.cells y5.2.1), .box b3 [i4 y5.1.Next, t2], .own true 10 t1 y3.Objects.t, .box b2 (DValue.cells a1), .box b1 (DHeap.cells a0)] := hH.sel [2, 5, 0, 1, 3, 4, 6, 7, 8, 9, 10, 11, 12, 13, 14, 15] rfl (by kernel_rfl)
            refine q_callH (ents := [.own true 10 t7 y20.1.Objects.t, .own true 10 t2 y5.1.Objects.t]) (z := false) (ts := [.agg [i4 y20.1.Next, t7], .agg [i4 y5.1.Next, t2]]) (vs := [.agg (DHeap.cells y20.1), .agg (DHeap.cells y5.1)]) rfl hS rfl rfl rfl hH (HL.agg (es1 := [.own true 10 t7 y20.1.Objects.t]) (es2 := [.own true 10 t2 y5.1.Objects.t]) (HLi (HL.own rfl HL.nil)) (HL.agg (es1 := [.own true 10 t2 y5.1.Objects.t]) (es2 := []) (HLi (HL.own rfl HL.nil)) HL.nil)) hy21 (by kernel_rfl) ?_; intro s hS
            refine qs 2 [(114, .bool (!y21)), (7, .ptr b4 0 0 4), (8, i4 y5.2.2), (10, .ptr b6 0 0 2), (14, i4 y16.1), (17, .ptr b9 0 0 4), (18, i4 y20.2.2)] hS ?_; intro s hS
            by_cases hc12 : (!y21) = true
            ·have h := it_pos hc12 h
             have hS := sub_bt hS hc12
             refine qs 10 [(10, .ptr b6 0 0 2), (14, i4 y16.1), (124, .bool true)] hS ?_; intro s hS
             refine x_nil (sq_n ?_)
             refine c_cond (t := true) hS rfl (fun _ => ?_) (fun hf => by cases hf)
             refine c_seq (c_region ?_)
             refine qs 1 [(4, .bool false)] hS ?_; intro s hS
             refine x_nil (sq_n (c_ret (sq_r ?_)))
             injection h with h; subst h
             exact end_W hH (r_tmp (v := .bool false) hS rfl r_nil) rfl (by kernel_rfl) (by simp [pureT, pureL, E_bool])
            ·have h := it_neg hc12 h
             have hS := sub_bt hS (tt_of hc12)
             refine q_load (v := .agg (DValue.cells y20.2.1)) 2 trivial rfl hS hH rfl rfl (by kernel_rfl) ?_; intro s hS
             refine q_load (v := .agg (DValue.cells y5.2.1)) 11 trivial rfl hS hH rfl rfl (by kernel_rfl) ?_; intro s hS
             obtain ⟨y22, hy22, h⟩ := bind_some h
             refine q_callF (a := []) (b := []) (xs := [.agg (DValue.cells y20.2.1), .agg (DValue.cells y5.2.1)]) rfl hS rfl rfl hy22 ?_; intro s hS
             refine qs 3 [(120, .bool (!y22)), (8, i4 y5.2.2), (10, .ptr b6 0 0 2), (14, i4 y16.1), (18, i4 y20.2.2)] hS ?_; intro s hS
             by_cases hc13 : (!y22) = true
             ·have h := it_pos hc13 h
              have hS := sub_bt hS hc13
              refine qs 4 [(10, .ptr b6 0 0 2), (14, i4 y16.1), (124, .bool true)] hS ?_; intro s hS
              refine x_nil (sq_n ?_)
              refine c_cond (t := true) hS rfl (fun _ => ?_) (fun hf => by cases hf)
              refine c_seq (c_region ?_)
              refine qs 1 [(4, .bool false)] hS ?_; intro s hS
              refine x_nil (sq_n (c_ret (sq_r ?_)))
              injection h with h; subst h
              exact end_W hH (r_tmp (v := .bool false) hS rfl r_nil) rfl (by kernel_rfl) (by simp [pureT, pureL, E_bool])
             ·have h := it_neg hc13 h
              have hS := sub_bt hS (tt_of hc13)
              refine qs 4 [(10, .ptr b6 0 0 2), (14, i4 y16.1), (124, .bool (!decide (y20.2.2 = y5.2.2)))] hS ?_; intro s hS
              refine x_nil (sq_n ?_)
              by_cases hc14 : (!decide (y20.2.2 = y5.2.2)) = true
              ·have h := it_pos hc14 h
               refine c_cond hS rfl (fun _ => ?_) (fun hf => ff_absurd hc14 hf)
               refine c_seq (c_region ?_)
               refine qs 1 [(4, .bool false)] hS ?_; intro s hS
               refine x_nil (sq_n (c_ret (sq_r ?_)))
               injection h with h; subst h
               exact end_W hH (r_tmp (v := .bool false) hS rfl r_nil) rfl (by kernel_rfl) (by simp [pureT, pureL, E_bool])
              ·have h := it_neg hc14 h
               refine c_cond hS rfl (fun hf => tt_absurd hc14 hf) (fun _ => ?_)
               refine c_skip (sq_n (c_seq (c_region ?_)))
               refine qs 1 [(10, .ptr b6 0 0 2), (14, i4 y16.1), (15, i4 1)] hS ?_; intro s hS
               refine x_nil (sq_n (c_seq (c_region ?_)))
               refine q_load (v := .agg [i4 y8.1.Next, t4]) 9 trivial rfl hS hH rfl rfl (by kernel_rfl) ?_; intro s hS
               refine qs 1 [(14, i4 y16.1), (125, .agg [i4 y8.1.Next, t4]), (126, i4 1)] hS ?_; intro s hS
               obtain ⟨y23, hy23, h⟩ := bind_some h
               have hH : Heap σ0 σ [.own true 10 t4 y16.2.Objects.t, .own true 10 t7 y20.1.Objects.t, .own true 10 t2 y5.1.Objects.t, .box b9 (DValue.cells y20.2.1), .box b8 [i4 y20.1.Next, t7], .own true 10 t6 y18.Objects.t, .own true 10 t3 y13.2.Objects.t, .own true 10 t5 y11.Objects.t, .box b7 (DValue.cells y8.2.1), .box b6 [i4 y8.1.Next, t4], .box b5 [i4 y6.Next, t3], .box b4 (DValue.cells y5.2.1), .box b3 [i4 y5.1.Next, t2], .own true 10 t1 y3.Objects.t, .box b2 (DValue.cells a1), .box b1 (DHeap.cells a0)] := hH.sel [5, 0, 1, 2, 3, 4, 6, 7, 8, 9, 10, 11, 12, 13, 14, 15] rfl (by kernel_rfl)
               refine q_callH (ents := [.own true 10 t4 y16.2.Objects.t]) (z := false) (ts := [.agg [i4 y8.1.Next, t4], i4 1]) (vs := [.agg [i4 y8.1.Next, y16.2.Objects.t], i4 1]) rfl hS rfl rfl rfl hH (HL.agg (es1 := [.own true 10 t4 y16.2.Objects.t]) (es2 := []) (HLi (HL.own rfl HL.nil)) (HLi HL.nil)) hy23 (by kernel_rfl) ?_; intro s hS
               refine qs 1 [(14, i4 y16.1), (15, i4 y23)] hS ?_; intro s hS
               refine x_nil (sq_n (c_seq (c_seq (c_region ?_))))
               refine qs 2 [(14, i4 y16.1), (15, i4 y23), (129, .bool (decide (y23 < 0)))] hS ?_; intro s hS
               refine x_nil (sq_n ?_)
               by_cases hc15 : (decide (y23 < 0)) = true
               ·have h := it_pos hc15 h
                refine c_cond hS rfl (fun _ => ?_) (fun hf => ff_absurd hc15 hf)
                refine c_seq (c_region ?_)
                refine qs 1 [(4, .bool false)] hS ?_; intro s hS
                refine x_nil (sq_n (c_ret (sq_r ?_)))
                injection h with h; subst h
                exact end_W hH (r_tmp (v := .bool false) hS rfl r_nil) rfl (by kernel_rfl) (by simp [pureT, pureL, E_bool])
               ·have h := it_neg hc15 h
                refine c_cond hS rfl (fun hf => tt_absurd hc15 hf) (fun _ => ?_)
                refine c_skip (sq_n (c_seq (c_seq (c_region ?_))))
                refine qs 3 [(132, .bool (!decide (y23 = y16.1)))] hS ?_; intro s hS
                refine x_nil (sq_n ?_)
                by_cases hc16 : (!decide (y23 = y16.1)) = true
                ·have h := it_pos hc16 h
                 refine c_cond hS rfl (fun _ => ?_) (fun hf => ff_absurd hc16 hf)
                 refine c_seq (c_region ?_)
                 refine qs 1 [(4, .bool false)] hS ?_; intro s hS
                 refine x_nil (sq_n (c_ret (sq_r ?_)))
                 injection h with h; subst h
                 exact end_W hH (r_tmp (v := .bool false) hS rfl r_nil) rfl (by kernel_rfl) (by simp [pureT, pureL, E_bool])
                ·have h := it_neg hc16 h
                 refine c_cond hS rfl (fun hf => tt_absurd hc16 hf) (fun _ => ?_)
                 refine c_skip (sq_n (c_seq (c_region ?_)))
                 refine qs 1 [(4, .bool true)] hS ?_; intro s hS
                 refine x_nil (sq_n (c_ret ?_))
                 injection h with h; subst h
                 exact end_W hH (r_tmp (v := .bool true) hS rfl r_nil) rfl (by kernel_rfl) (by simp [pureT, pureL, E_bool])
noncomputable def B_laws_szHeap (a0 : DHeap) (a1 : Int) : Option Int := ((F_laws_szObjectS a0.Objects a1).bind fun y1 => (if (decide (y1 < 0)) = true then (some (-1)) else (some y1)))
theorem u_laws_szHeap (a0 : DHeap) (a1 : Int) (r : Int) (h : B_laws_szHeap a0 a1 = some r) : F_laws_szHeap a0 a1 = some r := by
 unfold B_laws_szHeap at h
 refine semW_of E_i64_inj rfl rfl ok_14 rfl (all_cons (by kernel_rfl) (all_cons (by kernel_rfl) all_nil)) ?_
 intro σ0 s hS hH
 have hS := sub_to (L' := [(0, .agg (DHeap.cells a0)), (1, i4 a1)]) hS (by kernel_rfl)
 refine c_seq (c_region ?_)
 refine q_box (v := .agg (DHeap.cells a0)) (cs := [i4 a0.Next, a0.Objects.t]) rfl hS hH rfl rfl (by kernel_rfl) ?_; intro b1 σ s hH hS
 refine qs 1 [(1, i4 a1), (2, .ptr b1 0 0 2)] hS ?_; intro s hS
 refine x_nil (sq_n (c_seq (c_region ?_)))
 refine qs 1 [(1, i4 a1), (5, .ptr b1 0 1 1)] hS ?_; intro s hS
 refine q_load (v := a0.Objects.t) 0 trivial rfl hS hH rfl rfl (by kernel_rfl) ?_; intro s hS
 refine qs 1 [(6, a0.Objects.t), (7, i4 a1)] hS ?_; intro s hS
 obtain ⟨y1, hy1, h⟩ := bind_some h
 refine q_callF (a := []) (b := []) (xs := [a0.Objects.t, i4 a1]) rfl hS rfl rfl hy1 ?_; intro s hS
 refine qs 1 [(1, i4 y1)] hS ?_; intro s hS
 refine x_nil (sq_n (c_seq (c_seq (c_region ?_))))
 refine qs 2 [(1, i4 y1), (10, .bool (decide (y1 < 0)))] hS ?_; intro s hS
 refine x_nil (sq_n ?_)
 by_cases hc1 : (decide (y1 < 0)) = true
 ·have h := it_pos hc1 h
  refine c_cond hS rfl (fun _ => ?_) (fun hf => ff_absurd hc1 hf)
  refine c_seq (c_region ?_)
  refine qs 1 [(4, i4 (-1))] hS ?_; intro s hS
  refine x_nil (sq_n (c_ret (sq_r ?_)))
  injection h with h; subst h
  exact end_W hH (r_tmp (v := i4 (-1)) hS rfl r_nil) rfl (by kernel_rfl) (by simp [pureT, pureL, E_i64])
 ·have h := it_neg hc1 h
  refine c_cond hS rfl (fun hf => tt_absurd hc1 hf) (fun _ => ?_)
  refine c_skip (sq_n (c_seq (c_region ?_)))
  refine qs 2 [(4, i4 y1)] hS ?_; intro s hS
  refine x_nil (sq_n (c_ret ?_))
  injection h with h; subst h
  exact end_W hH (r_tmp (v := i4 y1) hS rfl r_nil) rfl (by kernel_rfl) (by simp [pureT, pureL, E_i64])
noncomputable def B_laws_toHeap (a0 : DHeap) : Option DHeap := ((F_laws_toObjectS a0.Objects).bind fun y1 => (some (⟨a0.Next, y1⟩ : DHeap)))
theorem u_laws_toHeap (a0 : DHeap) (r : DHeap) (h : B_laws_toHeap a0 = some r) : F_laws_toHeap a0 = some r := by
 unfold B_laws_toHeap at h
 refine semO_of rfl rfl ok_16 rfl (all_cons (by kernel_rfl) all_nil) ?_
 intro σ0 s hS hH
 have hS := sub_to (L' := [(0, .agg (DHeap.cells a0))]) hS (by kernel_rfl)
 refine c_seq (c_region ?_)
 refine q_box (v := .agg (DHeap.cells a0)) (cs := [i4 a0.Next, a0.Objects.t]) rfl hS hH rfl rfl (by kernel_rfl) ?_; intro b1 σ s hH hS
 refine q_alloc (z := [i4 0, (nt DObject)]) rfl hS hH (by kernel_rfl) ?_; intro b2 σ s hH hS
 refine x_nil (sq_n (c_seq (c_region ?_)))
 refine q_alloc (z := [i4 0, (nt DObject)]) rfl hS hH (by kernel_rfl) ?_; intro b3 σ s hH hS
 refine x_nil (sq_n (c_seq (c_region ?_)))
 refine qs 1 [(1, .ptr b1 0 0 2), (2, .ptr b2 0 0 2), (3, .ptr b3 0 0 2), (4, .ptr b1 0 0 1)] hS ?_; intro s hS
 refine q_load (v := i4 a0.Next) 2 trivial rfl hS hH rfl rfl (by kernel_rfl) ?_; intro s hS
 refine qs 1 [(1, .ptr b1 0 0 2), (2, .ptr b2 0 0 2), (3, .ptr b3 0 0 2), (5, i4 a0.Next), (6, .ptr b3 0 0 1)] hS ?_; intro s hS
 refine q_store (v := i4 a0.Next) (cs := [i4 a0.Next]) (cells' := [i4 a0.Next, (nt DObject)]) rfl hS hH rfl rfl rfl (by kernel_rfl) (by kernel_rfl) ?_; intro σ s hH hS
 refine x_nil (sq_n (c_seq (c_region ?_)))
 refine qs 1 [(2, .ptr b2 0 0 2), (3, .ptr b3 0 0 2), (7, .ptr b1 0 1 1)] hS ?_; intro s hS
 refine q_load (v := a0.Objects.t) 2 trivial rfl hS hH rfl rfl (by kernel_rfl) ?_; intro s hS
 obtain ⟨y1, hy1, h⟩ := bind_some h
 refine q_callO (ents := []) (z := false) (ts := [a0.Objects.t]) (vs := [a0.Objects.t]) rfl rfl hS rfl rfl rfl hH (HLp HL.nil) hy1 ?_; intro hs σ s hl hH hS
 obtain ⟨t1, rfl⟩ := len1 hl
 have hH : Heap σ0 σ [.own true 10 t1 y1.t, .box b3 [i4 a0.Next, (nt DObject)], .box b2 [i4 0, (nt DObject)], .box b1 (DHeap.cells a0)] := hH
 have ht1 : IsOne t1 := Heap.one hH
 refine qs 1 [(2, .ptr b2 0 0 2), (3, .ptr b3 0 0 2), (9, t1), (10, .ptr b3 0 1 1)] hS ?_; intro s hS
 have hH : Heap σ0 σ [.box b3 [i4 a0.Next, (nt DObject)], .own true 10 t1 y1.t, .box b2 [i4 0, (nt DObject)], .box b1 (DHeap.cells a0)] := hH.sel [1, 0, 2, 3] rfl (by kernel_rfl)
 refine q_store (v := t1) (cs := [t1]) (cells' := [i4 a0.Next, t1]) rfl hS hH rfl rfl (by simp [ht1.1, ht1.2]) (by simp [ht1.1, ht1.2]) (by kernel_rfl) ?_; intro σ s hH hS
 refine x_nil (sq_n (c_seq (c_region ?_)))
 refine q_load (v := .agg [i4 a0.Next, t1]) 0 trivial rfl hS hH rfl rfl (by kernel_rfl) ?_; intro s hS
 have hH : Heap σ0 σ [.box b2 [i4 0, (nt DObject)], .box b3 [i4 a0.Next, t1], .own true 10 t1 y1.t, .box b1 (DHeap.cells a0)] := hH.sel [2, 0, 1, 3] rfl (by kernel_rfl)
 refine q_storeA (cs := [i4 a0.Next, t1]) rfl hS hH rfl rfl (by simp [ht1.1, ht1.2]) ?_; intro σ s hH hS
 refine x_nil (sq_n (c_ret ?_))
 injection h with h; subst h
 have hH : Heap σ0 σ [.own true 10 t1 y1.t, .box b2 [i4 a0.Next, t1], .box b3 [i4 a0.Next, t1], .box b1 (DHeap.cells a0)] := hH.sel [2, 0, 1, 3] rfl (by kernel_rfl)
 exact end_Ow [t1] [.box b2 [i4 a0.Next, t1], .box b3 [i4 a0.Next, t1], .box b1 (DHeap.cells a0)] (r_cell (v := .agg [i4 a0.Next, t1]) hS (hH.at 1 rfl) rfl (by kernel_rfl) r_nil) (by kernel_rfl) rfl hH (by kernel_rfl)
noncomputable def B_laws_eqObject (a0 : DObject) (a1 : DObject) : Option Bool := (if (!decide (a0.Id = a1.Id)) = true then (some false) else (if (!decide (a0.Kind = a1.Kind)) = true then (some false) else (if (!decide (a0.Name = a1.Name)) = true then (some false) else (if (!decide (a0.Low = a1.Low)) = true then (some false) else ((F_laws_eqValueS a0.Keys a1.Keys).bind fun y1 => (if (!y1) = true then (some false) else ((F_laws_eqValueS a0.Vals a1.Vals).bind fun y2 => (if (!y2) = true then (some false) else ((F_laws_eqValue a0.Default a1.Default).bind fun y3 => (if (!y3) = true then (some false) else (some true)))))))))))
theorem u_laws_eqObject (a0 : DObject) (a1 : DObject) (r : Bool) (h : B_laws_eqObject a0 a1 = some r) : F_laws_eqObject a0 a1 = some r := by
 unfold B_laws_eqObject at h
 refine semW_of E_bool_inj rfl rfl ok_18 rfl (all_cons (by kernel_rfl) (all_cons (by kernel_rfl) all_nil)) ?_
 intro σ0 s hS hH
 have hS := sub_to (L' := [(0, .agg (DObject.cells a0)), (1, .agg (DObject.cells a1))]) hS (by kernel_rfl)
 refine c_seq (c_region ?_)
 refine q_box (v := .agg (DObject.cells a0)) (cs := [i4 a0.Id, i4 a0.Kind, .str a0.Name, i4 a0.Low, a0.Keys.t, a0.Vals.t, i4 a0.Default.Kind, i4 a0.Default.Num, .str a0.Default.Text, i4 a0.Default.Ref]) rfl hS hH rfl rfl (by kernel_rfl) ?_; intro b1 σ s hH hS
 refine q_box (v := .agg (DObject.cells a1)) (cs := [i4 a1.Id, i4 a1.Kind, .str a1.Name, i4 a1.Low, a1.Keys.t, a1.Vals.t, i4 a1.Default.Kind, i4 a1.Default.Num, .str a1.Default.Text, i4 a1.Default.Ref]) rfl hS hH rfl rfl (by kernel_rfl) ?_; intro b2 σ s hH hS
 refine qs 1 [(2, .ptr b1 0 0 10), (3, .ptr b2 0 0 10)] hS ?_; intro s hS
 refine x_nil (sq_n (c_seq (c_seq (c_region ?_))))
 refine qs 1 [(2, .ptr b1 0 0 10), (3, .ptr b2 0 0 10), (5, .ptr b1 0 0 1)] hS ?_; intro s hS
 refine q_load (v := i4 a0.Id) 1 trivial rfl hS hH rfl rfl (by kernel_rfl) ?_; intro s hS
 refine qs 1 [(2, .ptr b1 0 0 10), (3, .ptr b2 0 0 10), (6, i4 a0.Id), (7, .ptr b2 0 0 1)] hS ?_; intro s hS
 refine q_load (v := i4 a1.Id) 0 trivial rfl hS hH rfl rfl (by kernel_rfl) ?_; intro s hS
 refine qs 1 [(2, .ptr b1 0 0 10), (3, .ptr b2 0 0 10), (9, .bool (!decide (a0.Id = a1.Id)))] hS ?_; intro s hS
 refine x_nil (sq_n ?_)
 by_cases hc1 : (!decide (a0.Id = a1.Id)) = true
 ·have h := it_pos hc1 h
  refine c_cond hS rfl (fun _ => ?_) (fun hf => ff_absurd hc1 hf)
  refine c_seq (c_region ?_)
  refine qs 1 [(4, .bool false)] hS ?_; intro s hS
  refine x_nil (sq_n (c_ret (sq_r ?_)))
  injection h with h; subst h
  exact end_W hH (r_tmp (v := .bool false) hS rfl r_nil) rfl (by kernel_rfl) (by simp [pureT, pureL, E_bool])
 ·have h := it_neg hc1 h
  refine c_cond hS rfl (fun hf => tt_absurd hc1 hf) (fun _ => ?_)
  refine c_skip (sq_n (c_seq (c_seq (c_region ?_))))
  refine qs 1 [(2, .ptr b1 0 0 10), (3, .ptr b2 0 0 10), (10, .ptr b1 0 1 1)] hS ?_; intro s hS
  refine q_load (v := i4 a0.Kind) 1 trivial rfl hS hH rfl rfl (by kernel_rfl) ?_; intro s hS
  refine qs 1 [(2, .ptr b1 0 0 10), (3, .ptr b2 0 0 10), (11, i4 a0.Kind), (12, .ptr b2 0 1 1)] hS ?_; intro s hS
  refine q_load (v := i4 a1.Kind) 0 trivial rfl hS hH rfl rfl (by kernel_rfl) ?_; intro s hS
  refine qs 1 [(2, .ptr b1 0 0 10), (3, .ptr b2 0 0 10), (14, .bool (!decide (a0.Kind = a1.Kind)))] hS ?_; intro s hS
  refine x_nil (sq_n ?_)
  by_cases hc2 : (!decide (a0.Kind = a1.Kind)) = true
  ·have h := it_pos hc2 h
   refine c_cond hS rfl (fun _ => ?_) (fun hf => ff_absurd hc2 hf)
   refine c_seq (c_region ?_)
   refine qs 1 [(4, .bool false)] hS ?_; intro s hS
   refine x_nil (sq_n (c_ret (sq_r ?_)))
   injection h with h; subst h
   exact end_W hH (r_tmp (v := .bool false) hS rfl r_nil) rfl (by kernel_rfl) (by simp [pureT, pureL, E_bool])
  ·have h := it_neg hc2 h
   refine c_cond hS rfl (fun hf => tt_absurd hc2 hf) (fun _ => ?_)
   refine c_skip (sq_n (c_seq (c_seq (c_region ?_))))
   refine qs 1 [(2, .ptr b1 0 0 10), (3, .ptr b2 0 0 10), (15, .ptr b1 0 2 1)] hS ?_; intro s hS
   refine q_load (v := .str a0.Name) 1 trivial rfl hS hH rfl rfl (by kernel_rfl) ?_; intro s hS
   refine qs 1 [(2, .ptr b1 0 0 10), (3, .ptr b2 0 0 10), (16, .str a0.Name), (17, .ptr b2 0 2 1)] hS ?_; intro s hS
   refine q_load (v := .str a1.Name) 0 trivial rfl hS hH rfl rfl (by kernel_rfl) ?_; intro s hS
   refine qs 1 [(2, .ptr b1 0 0 10), (3, .ptr b2 0 0 10), (19, .bool (!decide (a0.Name = a1.Name)))] hS ?_; intro s hS
   refine x_nil (sq_n ?_)
   by_cases hc3 : (!decide (a0.Name = a1.Name)) = true
   ·have h := it_pos hc3 h
    refine c_cond hS rfl (fun _ => ?_) (fun hf => ff_absurd hc3 hf)
    refine c_seq (c_region ?_)
    refine qs 1 [(4, .bool false)] hS ?_; intro s hS
    refine x_nil (sq_n (c_ret (sq_r ?_)))
    injection h with h; subst h
    exact end_W hH (r_tmp (v := .bool false) hS rfl r_nil) rfl (by kernel_rfl) (by simp [pureT, pureL, E_bool])
   ·have h := it_neg hc3 h
    refine c_cond hS rfl (fun hf => tt_absurd hc3 hf) (fun _ => ?_)
    refine c_skip (sq_n (c_seq (c_seq (c_region ?_))))
    refine qs 1 [(2, .ptr b1 0 0 10), (3, .ptr b2 0 0 10), (20, .ptr b1 0 3 1)] hS ?_; intro s hS
    refine q_load (v := i4 a0.Low) 1 trivial rfl hS hH rfl rfl (by kernel_rfl) ?_; intro s hS
    refine qs 1 [(2, .ptr b1 0 0 10), (3, .ptr b2 0 0 10), (21, i4 a0.Low), (22, .ptr b2 0 3 1)] hS ?_; intro s hS
    refine q_load (v := i4 a1.Low) 0 trivial rfl hS hH rfl rfl (by kernel_rfl) ?_; intro s hS
    refine qs 1 [(2, .ptr b1 0 0 10), (3, .ptr b2 0 0 10), (24, .bool (!decide (a0.Low = a1.Low)))] hS ?_; intro s hS
    refine x_nil (sq_n ?_)
    by_cases hc4 : (!decide (a0.Low = a1.Low)) = true
    ·have h := it_pos hc4 h
     refine c_cond hS rfl (fun _ => ?_) (fun hf => ff_absurd hc4 hf)
     refine c_seq (c_region ?_)
     refine qs 1 [(4, .bool false)] hS ?_; intro s hS
     refine x_nil (sq_n (c_ret (sq_r ?_)))
     injection h with h; subst h
     exact end_W hH (r_tmp (v := .bool false) hS rfl r_nil) rfl (by kernel_rfl) (by simp [pureT, pureL, E_bool])
    ·have h := it_neg hc4 h
     refine c_cond hS rfl (fun hf => tt_absurd hc4 hf) (fun _ => ?_)
     refine c_skip (sq_n (c_seq (c_seq (c_region ?_))))
     refine qs 1 [(2, .ptr b1 0 0 10), (3, .ptr b2 0 0 10), (25, .ptr b1 0 4 1)] hS ?_; intro s hS
     refine q_load (v := a0.Keys.t) 1 trivial rfl hS hH rfl rfl (by kernel_rfl) ?_; intro s hS
     refine qs 1 [(2, .ptr b1 0 0 10), (3, .ptr b2 0 0 10), (26, a0.Keys.t), (27, .ptr b2 0 4 1)] hS ?_; intro s hS
     refine q_load (v := a1.Keys.t) 0 trivial rfl hS hH rfl rfl (by kernel_rfl) ?_; intro s hS
     obtain ⟨y1, hy1, h⟩ := bind_some h
     refine q_callF (a := []) (b := []) (xs := [a0.Keys.t, a1.Keys.t]) rfl hS rfl rfl hy1 ?_; intro s hS
     refine qs 1 [(2, .ptr b1 0 0 10), (3, .ptr b2 0 0 10), (30, .bool (!y1))] hS ?_; intro s hS
     refine x_nil (sq_n ?_)
     by_cases hc5 : (!y1) = true
     ·have h := it_pos hc5 h
      refine c_cond hS rfl (fun _ => ?_) (fun hf => ff_absurd hc5 hf)
      refine c_seq (c_region ?_)
      refine qs 1 [(4, .bool false)] hS ?_; intro s hS
      refine x_nil (sq_n (c_ret (sq_r ?_)))
      injection h with h; subst h
      exact end_W hH (r_tmp (v := .bool false) hS rfl r_nil) rfl (by kernel_rfl) (by simp [pureT, pureL, E_bool])
     ·have h := it_neg hc5 h
      refine c_cond hS rfl (fun hf => tt_absurd hc5 hf) (fun _ => ?_)
      refine c_skip (sq_n (c_seq (c_seq (c_region ?_))))
      refine qs 1 [(2, .ptr b1 0 0 10), (3, .ptr b2 0 0 10), (31, .ptr b1 0 5 1)] hS ?_; intro s hS
      refine q_load (v := a0.Vals.t) 1 trivial rfl hS hH rfl rfl (by kernel_rfl) ?_; intro s hS
      refine qs 1 [(2, .ptr b1 0 0 10), (3, .ptr b2 0 0 10), (32, a0.Vals.t), (33, .ptr b2 0 5 1)] hS ?_; intro s hS
      refine q_load (v := a1.Vals.t) 0 trivial rfl hS hH rfl rfl (by kernel_rfl) ?_; intro s hS
      obtain ⟨y2, hy2, h⟩ := bind_some h
      refine q_callF (a := []) (b := []) (xs := [a0.Vals.t, a1.Vals.t]) rfl hS rfl rfl hy2 ?_; intro s hS
      refine qs 1 [(2, .ptr b1 0 0 10), (3, .ptr b2 0 0 10), (36, .bool (!y2))] hS ?_; intro s hS
      refine x_nil (sq_n ?_)
      by_cases hc6 : (!y2) = true
      ·have h := it_pos hc6 h
       refine c_cond hS rfl (fun _ => ?_) (fun hf => ff_absurd hc6 hf)
       refine c_seq (c_region ?_)
       refine qs 1 [(4, .bool false)] hS ?_; intro s hS
       refine x_nil (sq_n (c_ret (sq_r ?_)))
       injection h with h; subst h
       exact end_W hH (r_tmp (v := .bool false) hS rfl r_nil) rfl (by kernel_rfl) (by simp [pureT, pureL, E_bool])
      ·have h := it_neg hc6 h
       refine c_cond hS rfl (fun hf => tt_absurd hc6 hf) (fun _ => ?_)
       refine c_skip (sq_n (c_seq (c_seq (c_region ?_))))
       refine qs 1 [(3, .ptr b2 0 0 10), (37, .ptr b1 0 6 4)] hS ?_; intro s hS
       refine q_load (v := .agg (DValue.cells a0.Default)) 1 trivial rfl hS hH rfl rfl (by kernel_rfl) ?_; intro s hS
       refine qs 1 [(38, .agg (DValue.cells a0.Default)), (39, .ptr b2 0 6 4)] hS ?_; intro s hS
       refine q_load (v := .agg (DValue.cells a1.Default)) 0 trivial rfl hS hH rfl rfl (by kernel_rfl) ?_; intro s hS
       obtain ⟨y3, hy3, h⟩ := bind_some h
       refine q_callF (a := []) (b := []) (xs := [.agg (DValue.cells a0.Default), .agg (DValue.cells a1.Default)]) rfl hS rfl rfl hy3 ?_; intro s hS
       refine qs 1 [(42, .bool (!y3))] hS ?_; intro s hS
       refine x_nil (sq_n ?_)
       by_cases hc7 : (!y3) = true
       ·have h := it_pos hc7 h
        refine c_cond hS rfl (fun _ => ?_) (fun hf => ff_absurd hc7 hf)
        refine c_seq (c_region ?_)
        refine qs 1 [(4, .bool false)] hS ?_; intro s hS
        refine x_nil (sq_n (c_ret (sq_r ?_)))
        injection h with h; subst h
        exact end_W hH (r_tmp (v := .bool false) hS rfl r_nil) rfl (by kernel_rfl) (by simp [pureT, pureL, E_bool])
       ·have h := it_neg hc7 h
        refine c_cond hS rfl (fun hf => tt_absurd hc7 hf) (fun _ => ?_)
        refine c_skip (sq_n (c_seq (c_region ?_)))
        refine qs 1 [(4, .bool true)] hS ?_; intro s hS
        refine x_nil (sq_n (c_ret ?_))
        injection h with h; subst h
        exact end_W hH (r_tmp (v := .bool true) hS rfl r_nil) rfl (by kernel_rfl) (by simp [pureT, pureL, E_bool])
noncomputable def B_laws_eqHeap (a0 : DHeap) (a1 : DHeap) : Option Bool := (if (!decide (a0.Next = a1.Next)) = true then (some false) else ((F_laws_eqObjectS a0.Objects a1.Objects).bind fun y1 => (if (!y1) = true then (some false) else (some true))))
theorem u_laws_eqHeap (a0 : DHeap) (a1 : DHeap) (r : Bool) (h : B_laws_eqHeap a0 a1 = some r) : F_laws_eqHeap a0 a1 = some r := by
 unfold B_laws_eqHeap at h
 refine semW_of E_bool_inj rfl rfl ok_19 rfl (all_cons (by kernel_rfl) (all_cons (by kernel_rfl) all_nil)) ?_
 intro σ0 s hS hH
 have hS := sub_to (L' := [(0, .agg (DHeap.cells a0)), (1, .agg (DHeap.cells a1))]) hS (by kernel_rfl)
 refine c_seq (c_region ?_)
 refine q_box (v := .agg (DHeap.cells a0)) (cs := [i4 a0.Next, a0.Objects.t]) rfl hS hH rfl rfl (by kernel_rfl) ?_; intro b1 σ s hH hS
 refine q_box (v := .agg (DHeap.cells a1)) (cs := [i4 a1.Next, a1.Objects.t]) rfl hS hH rfl rfl (by kernel_rfl) ?_; intro b2 σ s hH hS
 refine qs 1 [(2, .ptr b1 0 0 2), (3, .ptr b2 0 0 2)] hS ?_; intro s hS
 refine x_nil (sq_n (c_seq (c_seq (c_region ?_))))
 refine qs 1 [(2, .ptr b1 0 0 2), (3, .ptr b2 0 0 2), (5, .ptr b1 0 0 1)] hS ?_; intro s hS
 refine q_load (v := i4 a0.Next) 1 trivial rfl hS hH rfl rfl (by kernel_rfl) ?_; intro s hS
 refine qs 1 [(2, .ptr b1 0 0 2), (3, .ptr b2 0 0 2), (6, i4 a0.Next), (7, .ptr b2 0 0 1)] hS ?_; intro s hS
 refine q_load (v := i4 a1.Next) 0 trivial rfl hS hH rfl rfl (by kernel_rfl) ?_; intro s hS
 refine qs 1 [(2, .ptr b1 0 0 2), (3, .ptr b2 0 0 2), (9, .bool (!decide (a0.Next = a1.Next)))] hS ?_; intro s hS
 refine x_nil (sq_n ?_)
 by_cases hc1 : (!decide (a0.Next = a1.Next)) = true
 ·have h := it_pos hc1 h
  refine c_cond hS rfl (fun _ => ?_) (fun hf => ff_absurd hc1 hf)
  refine c_seq (c_region ?_)
  refine qs 1 [(4, .bool false)] hS ?_; intro s hS
  refine x_nil (sq_n (c_ret (sq_r ?_)))
  injection h with h; subst h
  exact end_W hH (r_tmp (v := .bool false) hS rfl r_nil) rfl (by kernel_rfl) (by simp [pureT, pureL, E_bool])
 ·have h := it_neg hc1 h
  refine c_cond hS rfl (fun hf => tt_absurd hc1 hf) (fun _ => ?_)
  refine c_skip (sq_n (c_seq (c_seq (c_region ?_))))
  refine qs 1 [(3, .ptr b2 0 0 2), (10, .ptr b1 0 1 1)] hS ?_; intro s hS
  refine q_load (v := a0.Objects.t) 1 trivial rfl hS hH rfl rfl (by kernel_rfl) ?_; intro s hS
  refine qs 1 [(11, a0.Objects.t), (12, .ptr b2 0 1 1)] hS ?_; intro s hS
  refine q_load (v := a1.Objects.t) 0 trivial rfl hS hH rfl rfl (by kernel_rfl) ?_; intro s hS
  obtain ⟨y1, hy1, h⟩ := bind_some h
  refine q_callF (a := []) (b := []) (xs := [a0.Objects.t, a1.Objects.t]) rfl hS rfl rfl hy1 ?_; intro s hS
  refine qs 1 [(15, .bool (!y1))] hS ?_; intro s hS
  refine x_nil (sq_n ?_)
  by_cases hc2 : (!y1) = true
  ·have h := it_pos hc2 h
   refine c_cond hS rfl (fun _ => ?_) (fun hf => ff_absurd hc2 hf)
   refine c_seq (c_region ?_)
   refine qs 1 [(4, .bool false)] hS ?_; intro s hS
   refine x_nil (sq_n (c_ret (sq_r ?_)))
   injection h with h; subst h
   exact end_W hH (r_tmp (v := .bool false) hS rfl r_nil) rfl (by kernel_rfl) (by simp [pureT, pureL, E_bool])
  ·have h := it_neg hc2 h
   refine c_cond hS rfl (fun hf => tt_absurd hc2 hf) (fun _ => ?_)
   refine c_skip (sq_n (c_seq (c_region ?_)))
   refine qs 1 [(4, .bool true)] hS ?_; intro s hS
   refine x_nil (sq_n (c_ret ?_))
   injection h with h; subst h
   exact end_W hH (r_tmp (v := .bool true) hS rfl r_nil) rfl (by kernel_rfl) (by simp [pureT, pureL, E_bool])
noncomputable def B_laws_markObject (a0 : DObject) (a1 : Int) : Option (Int × DObject) := ((B_laws_markValueS a0.Keys a1).bind fun y1 => ((B_laws_markValueS a0.Vals y1.1).bind fun y2 => (some (y2.1, (⟨a0.Id, a0.Kind, a0.Name, a0.Low, y1.2, y2.2, a0.Default⟩ : DObject)))))
theorem u_laws_markObject (a0 : DObject) (a1 : Int) (r : (Int × DObject)) (h : B_laws_markObject a0 a1 = some r) (wp0_1 : Nat) (p0_1 : T) (wp0_2 : Nat) (p0_2 : T) : RawS Try.prog md ext 21 [.agg [i4 a0.Id, i4 a0.Kind, .str a0.Name, i4 a0.Low, p0_1, p0_2, i4 a0.Default.Kind, i4 a0.Default.Num, .str a0.Default.Text, i4 a0.Default.Ref], i4 a1] 0 (fun hs => E_i64 r.1) [.own true wp0_1 p0_1 a0.Keys.t, .own true wp0_2 p0_2 a0.Vals.t] (fun hs => [.own true wp0_1 p0_1 r.2.Keys.t, .own true wp0_2 p0_2 r.2.Vals.t]) := by
 unfold B_laws_markObject at h
 refine rawS_of rfl rfl ok_21 rfl ?_
 intro σ0 σ F σk s hS hH
 have hp0_1 : IsOne p0_1 := Heap.one hH
 have hp0_2 : IsOne p0_2 := Heap.one (hH.at 1 rfl)
 have hS := sub_to (L' := [(0, .agg [i4 a0.Id, i4 a0.Kind, .str a0.Name, i4 a0.Low, p0_1, p0_2, i4 a0.Default.Kind, i4 a0.Default.Num, .str a0.Default.Text, i4 a0.Default.Ref]), (1, i4 a1)]) hS (by kernel_rfl)
 refine c_seq (c_region ?_)
 refine q_box (v := .agg [i4 a0.Id, i4 a0.Kind, .str a0.Name, i4 a0.Low, p0_1, p0_2, i4 a0.Default.Kind, i4 a0.Default.Num, .str a0.Default.Text, i4 a0.Default.Ref]) (cs := [i4 a0.Id, i4 a0.Kind, .str a0.Name, i4 a0.Low, p0_1, p0_2, i4 a0.Default.Kind, i4 a0.Default.Num, .str a0.Default.Text, i4 a0.Default.Ref]) rfl hS hH rfl rfl (by simp [hp0_1.1, hp0_1.2, hp0_2.1, hp0_2.2]) ?_; intro b1 σ s hH hS
 refine qs 1 [(1, i4 a1), (2, .ptr b1 0 0 10)] hS ?_; intro s hS
 refine x_nil (sq_n (c_seq (c_region ?_)))
 refine qs 1 [(1, i4 a1), (2, .ptr b1 0 0 10), (5, .ptr b1 0 4 1)] hS ?_; intro s hS
 refine q_load (v := p0_1) 0 trivial rfl hS hH rfl rfl (by kernel_rfl) ?_; intro s hS
 refine qs 1 [(2, .ptr b1 0 0 10), (6, p0_1), (7, i4 a1)] hS ?_; intro s hS
 have hH : Heap σ0 σ [.own true wp0_1 p0_1 a0.Keys.t, .box b1 [i4 a0.Id, i4 a0.Kind, .str a0.Name, i4 a0.Low, p0_1, p0_2, i4 a0.Default.Kind, i4 a0.Default.Num, .str a0.Default.Text, i4 a0.Default.Ref], .own true wp0_2 p0_2 a0.Vals.t, .keep F σk] := hH.sel [1, 0, 2, 3] rfl (by kernel_rfl)
 obtain ⟨y1, hy1, h⟩ := bind_some h
 refine q_callR (a := []) (b := []) (xs := [p0_1, i4 a1]) (ents := [.own true wp0_1 p0_1 a0.Keys.t]) rfl hS rfl rfl hH (u_laws_markValueS a0.Keys a1 y1 hy1 wp0_1 p0_1) ?_; intro hs σ s hl hH hS
 have hH : Heap σ0 σ [.own true wp0_1 p0_1 y1.2.t, .box b1 [i4 a0.Id, i4 a0.Kind, .str a0.Name, i4 a0.Low, p0_1, p0_2, i4 a0.Default.Kind, i4 a0.Default.Num, .str a0.Default.Text, i4 a0.Default.Ref], .own true wp0_2 p0_2 a0.Vals.t, .keep F σk] := hH
 refine qs 1 [(1, i4 y1.1), (2, .ptr b1 0 0 10)] hS ?_; intro s hS
 refine x_nil (sq_n (c_seq (c_region ?_)))
 refine qs 1 [(1, i4 y1.1), (9, .ptr b1 0 5 1)] hS ?_; intro s hS
 refine q_load (v := p0_2) 1 trivial rfl hS hH rfl rfl (by kernel_rfl) ?_; intro s hS
 refine qs 1 [(10, p0_2), (11, i4 y1.1)] hS ?_; intro s hS
 have hH : Heap σ0 σ [.own true wp0_2 p0_2 a0.Vals.t, .own true wp0_1 p0_1 y1.2.t, .box b1 [i4 a0.Id, i4 a0.Kind, .str a0.Name, i4 a0.Low, p0_1, p0_2, i4 a0.Default.Kind, i4 a0.Default.Num, .str a0.Default.Text, i4 a0.Default.Ref], .keep F σk] := hH.sel [2, 0, 1, 3] rfl (by kernel_rfl)
 obtain ⟨y2, hy2, h⟩ := bind_some h
 refine q_callR (a := []) (b := []) (xs := [p0_2, i4 y1.1]) (ents := [.own true wp0_2 p0_2 a0.Vals.t]) rfl hS rfl rfl hH (u_laws_markValueS a0.Vals y1.1 y2 hy2 wp0_2 p0_2) ?_; intro hs σ s hl hH hS
 have hH : Heap σ0 σ [.own true wp0_2 p0_2 y2.2.t, .own true wp0_1 p0_1 y1.2.t, .box b1 [i4 a0.Id, i4 a0.Kind, .str a0.Name, i4 a0.Low, p0_1, p0_2, i4 a0.Default.Kind, i4 a0.Default.Num, .str a0.Default.Text, i4 a0.Default.Ref], .keep F σk] := hH
 refine qs 1 [(1, i4 y2.1)] hS ?_; intro s hS
 refine x_nil (sq_n (c_seq (c_region ?_)))
 refine qs 2 [(4, i4 y2.1)] hS ?_; intro s hS
 refine x_nil (sq_n (c_ret ?_))
 injection h with h; subst h
 exact end_M [] (r_tmp (v := i4 y2.1) hS rfl r_nil) rfl rfl (Heap.sel hH [1, 0, 3] rfl (by kernel_rfl))
noncomputable def B_laws_heldObject (a0 : DObject) (a1 : Int) : Option Int := ((F_laws_heldValueS a0.Keys a1).bind fun y1 => (if (decide (y1 < 0)) = true then (some (-1)) else ((F_laws_heldValueS a0.Vals y1).bind fun y2 => (if (decide (y2 < 0)) = true then (some (-1)) else (some y2)))))
theorem u_laws_heldObject (a0 : DObject) (a1 : Int) (r : Int) (h : B_laws_heldObject a0 a1 = some r) : F_laws_heldObject a0 a1 = some r := by
 unfold B_laws_heldObject at h
 refine semW_of E_i64_inj rfl rfl ok_22 rfl (all_cons (by kernel_rfl) (all_cons (by kernel_rfl) all_nil)) ?_
 intro σ0 s hS hH
 have hS := sub_to (L' := [(0, .agg (DObject.cells a0)), (1, i4 a1)]) hS (by kernel_rfl)
 refine c_seq (c_region ?_)
 refine q_box (v := .agg (DObject.cells a0)) (cs := [i4 a0.Id, i4 a0.Kind, .str a0.Name, i4 a0.Low, a0.Keys.t, a0.Vals.t, i4 a0.Default.Kind, i4 a0.Default.Num, .str a0.Default.Text, i4 a0.Default.Ref]) rfl hS hH rfl rfl (by kernel_rfl) ?_; intro b1 σ s hH hS
 refine qs 1 [(1, i4 a1), (2, .ptr b1 0 0 10)] hS ?_; intro s hS
 refine x_nil (sq_n (c_seq (c_region ?_)))
 refine qs 1 [(1, i4 a1), (2, .ptr b1 0 0 10), (5, .ptr b1 0 4 1)] hS ?_; intro s hS
 refine q_load (v := a0.Keys.t) 0 trivial rfl hS hH rfl rfl (by kernel_rfl) ?_; intro s hS
 refine qs 1 [(2, .ptr b1 0 0 10), (6, a0.Keys.t), (7, i4 a1)] hS ?_; intro s hS
 obtain ⟨y1, hy1, h⟩ := bind_some h
 refine q_callF (a := []) (b := []) (xs := [a0.Keys.t, i4 a1]) rfl hS rfl rfl hy1 ?_; intro s hS
 refine qs 1 [(1, i4 y1), (2, .ptr b1 0 0 10)] hS ?_; intro s hS
 refine x_nil (sq_n (c_seq (c_seq (c_region ?_))))
 refine qs 2 [(1, i4 y1), (2, .ptr b1 0 0 10), (10, .bool (decide (y1 < 0)))] hS ?_; intro s hS
 refine x_nil (sq_n ?_)
 by_cases hc1 : (decide (y1 < 0)) = true
 ·have h := it_pos hc1 h
  refine c_cond hS rfl (fun _ => ?_) (fun hf => ff_absurd hc1 hf)
  refine c_seq (c_region ?_)
  refine qs 1 [(4, i4 (-1))] hS ?_; intro s hS
  refine x_nil (sq_n (c_ret (sq_r ?_)))
  injection h with h; subst h
  exact end_W hH (r_tmp (v := i4 (-1)) hS rfl r_nil) rfl (by kernel_rfl) (by simp [pureT, pureL, E_i64])
 ·have h := it_neg hc1 h
  refine c_cond hS rfl (fun hf => tt_absurd hc1 hf) (fun _ => ?_)
  refine c_skip (sq_n (c_seq (c_region ?_)))
  refine qs 1 [(1, i4 y1), (11, .ptr b1 0 5 1)] hS ?_; intro s hS
  refine q_load (v := a0.Vals.t) 0 trivial rfl hS hH rfl rfl (by kernel_rfl) ?_; intro s hS
  refine qs 1 [(12, a0.Vals.t), (13, i4 y1)] hS ?_; intro s hS
  obtain ⟨y2, hy2, h⟩ := bind_some h
  refine q_callF (a := []) (b := []) (xs := [a0.Vals.t, i4 y1]) rfl hS rfl rfl hy2 ?_; intro s hS
  refine qs 1 [(1, i4 y2)] hS ?_; intro s hS
  refine x_nil (sq_n (c_seq (c_seq (c_region ?_))))
  refine qs 2 [(1, i4 y2), (16, .bool (decide (y2 < 0)))] hS ?_; intro s hS
  refine x_nil (sq_n ?_)
  by_cases hc2 : (decide (y2 < 0)) = true
  ·have h := it_pos hc2 h
   refine c_cond hS rfl (fun _ => ?_) (fun hf => ff_absurd hc2 hf)
   refine c_seq (c_region ?_)
   refine qs 1 [(4, i4 (-1))] hS ?_; intro s hS
   refine x_nil (sq_n (c_ret (sq_r ?_)))
   injection h with h; subst h
   exact end_W hH (r_tmp (v := i4 (-1)) hS rfl r_nil) rfl (by kernel_rfl) (by simp [pureT, pureL, E_i64])
  ·have h := it_neg hc2 h
   refine c_cond hS rfl (fun hf => tt_absurd hc2 hf) (fun _ => ?_)
   refine c_skip (sq_n (c_seq (c_region ?_)))
   refine qs 2 [(4, i4 y2)] hS ?_; intro s hS
   refine x_nil (sq_n (c_ret ?_))
   injection h with h; subst h
   exact end_W hH (r_tmp (v := i4 y2) hS rfl r_nil) rfl (by kernel_rfl) (by simp [pureT, pureL, E_i64])
noncomputable def B_laws_szObject (a0 : DObject) (a1 : Int) : Option Int := (if (decide ((IntKind.i64.wrap (a1 - (a0.Name.size : Int))) < 0)) = true then (some (-1)) else ((F_laws_szValueS a0.Keys (IntKind.i64.wrap (a1 - (a0.Name.size : Int)))).bind fun y1 => (if (decide (y1 < 0)) = true then (some (-1)) else ((F_laws_szValueS a0.Vals y1).bind fun y2 => (if (decide (y2 < 0)) = true then (some (-1)) else ((F_laws_szValue a0.Default y2).bind fun y3 => (if (decide (y3 < 0)) = true then (some (-1)) else (some y3))))))))
theorem u_laws_szObject (a0 : DObject) (a1 : Int) (r : Int) (h : B_laws_szObject a0 a1 = some r) : F_laws_szObject a0 a1 = some r := by
 unfold B_laws_szObject at h
 refine semW_of E_i64_inj rfl rfl ok_23 rfl (all_cons (by kernel_rfl) (all_cons (by kernel_rfl) all_nil)) ?_
 intro σ0 s hS hH
 have hS := sub_to (L' := [(0, .agg (DObject.cells a0)), (1, i4 a1)]) hS (by kernel_rfl)
 refine c_seq (c_region ?_)
 refine q_box (v := .agg (DObject.cells a0)) (cs := [i4 a0.Id, i4 a0.Kind, .str a0.Name, i4 a0.Low, a0.Keys.t, a0.Vals.t, i4 a0.Default.Kind, i4 a0.Default.Num, .str a0.Default.Text, i4 a0.Default.Ref]) rfl hS hH rfl rfl (by kernel_rfl) ?_; intro b1 σ s hH hS
 refine qs 1 [(1, i4 a1), (2, .ptr b1 0 0 10)] hS ?_; intro s hS
 refine x_nil (sq_n (c_seq (c_region ?_)))
 refine qs 2 [(2, .ptr b1 0 0 10), (5, i4 a1), (6, .ptr b1 0 2 1)] hS ?_; intro s hS
 refine q_load (v := .str a0.Name) 0 trivial rfl hS hH rfl rfl (by kernel_rfl) ?_; intro s hS
 refine qs 3 [(1, i4 (IntKind.i64.wrap (a1 - (a0.Name.size : Int)))), (2, .ptr b1 0 0 10)] hS ?_; intro s hS
 refine x_nil (sq_n (c_seq (c_seq (c_region ?_))))
 refine qs 2 [(1, i4 (IntKind.i64.wrap (a1 - (a0.Name.size : Int)))), (2, .ptr b1 0 0 10), (11, .bool (decide ((IntKind.i64.wrap (a1 - (a0.Name.size : Int))) < 0)))] hS ?_; intro s hS
 refine x_nil (sq_n ?_)
 by_cases hc1 : (decide ((IntKind.i64.wrap (a1 - (a0.Name.size : Int))) < 0)) = true
 ·have h := it_pos hc1 h
  refine c_cond hS rfl (fun _ => ?_) (fun hf => ff_absurd hc1 hf)
  refine c_seq (c_region ?_)
  refine qs 1 [(4, i4 (-1))] hS ?_; intro s hS
  refine x_nil (sq_n (c_ret (sq_r ?_)))
  injection h with h; subst h
  exact end_W hH (r_tmp (v := i4 (-1)) hS rfl r_nil) rfl (by kernel_rfl) (by simp [pureT, pureL, E_i64])
 ·have h := it_neg hc1 h
  refine c_cond hS rfl (fun hf => tt_absurd hc1 hf) (fun _ => ?_)
  refine c_skip (sq_n (c_seq (c_region ?_)))
  refine qs 1 [(1, i4 (IntKind.i64.wrap (a1 - (a0.Name.size : Int)))), (2, .ptr b1 0 0 10), (12, .ptr b1 0 4 1)] hS ?_; intro s hS
  refine q_load (v := a0.Keys.t) 0 trivial rfl hS hH rfl rfl (by kernel_rfl) ?_; intro s hS
  refine qs 1 [(2, .ptr b1 0 0 10), (13, a0.Keys.t), (14, i4 (IntKind.i64.wrap (a1 - (a0.Name.size : Int))))] hS ?_; intro s hS
  obtain ⟨y1, hy1, h⟩ := bind_some h
  refine q_callF (a := []) (b := []) (xs := [a0.Keys.t, i4 (IntKind.i64.wrap (a1 - (a0.Name.size : Int)))]) rfl hS rfl rfl hy1 ?_; intro s hS
  refine qs 1 [(1, i4 y1), (2, .ptr b1 0 0 10)] hS ?_; intro s hS
  refine x_nil (sq_n (c_seq (c_seq (c_region ?_))))
  refine qs 2 [(1, i4 y1), (2, .ptr b1 0 0 10), (17, .bool (decide (y1 < 0)))] hS ?_; intro s hS
  refine x_nil (sq_n ?_)
  by_cases hc2 : (decide (y1 < 0)) = true
  ·have h := it_pos hc2 h
   refine c_cond hS rfl (fun _ => ?_) (fun hf => ff_absurd hc2 hf)
   refine c_seq (c_region ?_)
   refine qs 1 [(4, i4 (-1))] hS ?_; intro s hS
   refine x_nil (sq_n (c_ret (sq_r ?_)))
   injection h with h; subst h
   exact end_W hH (r_tmp (v := i4 (-1)) hS rfl r_nil) rfl (by kernel_rfl) (by simp [pureT, pureL, E_i64])
  ·have h := it_neg hc2 h
   refine c_cond hS rfl (fun hf => tt_absurd hc2 hf) (fun _ => ?_)
   refine c_skip (sq_n (c_seq (c_region ?_)))
   refine qs 1 [(1, i4 y1), (2, .ptr b1 0 0 10), (18, .ptr b1 0 5 1)] hS ?_; intro s hS
   refine q_load (v := a0.Vals.t) 0 trivial rfl hS hH rfl rfl (by kernel_rfl) ?_; intro s hS
   refine qs 1 [(2, .ptr b1 0 0 10), (19, a0.Vals.t), (20, i4 y1)] hS ?_; intro s hS
   obtain ⟨y2, hy2, h⟩ := bind_some h
   refine q_callF (a := []) (b := []) (xs := [a0.Vals.t, i4 y1]) rfl hS rfl rfl hy2 ?_; intro s hS
   refine qs 1 [(1, i4 y2), (2, .ptr b1 0 0 10)] hS ?_; intro s hS
   refine x_nil (sq_n (c_seq (c_seq (c_region ?_))))
   refine qs 2 [(1, i4 y2), (2, .ptr b1 0 0 10), (23, .bool (decide (y2 < 0)))] hS ?_; intro s hS
   refine x_nil (sq_n ?_)
   by_cases hc3 : (decide (y2 < 0)) = true
   ·have h := it_pos hc3 h
    refine c_cond hS rfl (fun _ => ?_) (fun hf => ff_absurd hc3 hf)
    refine c_seq (c_region ?_)
    refine qs 1 [(4, i4 (-1))] hS ?_; intro s hS
    refine x_nil (sq_n (c_ret (sq_r ?_)))
    injection h with h; subst h
    exact end_W hH (r_tmp (v := i4 (-1)) hS rfl r_nil) rfl (by kernel_rfl) (by simp [pureT, pureL, E_i64])
   ·have h := it_neg hc3 h
    refine c_cond hS rfl (fun hf => tt_absurd hc3 hf) (fun _ => ?_)
    refine c_skip (sq_n (c_seq (c_region ?_)))
    refine qs 1 [(1, i4 y2), (24, .ptr b1 0 6 4)] hS ?_; intro s hS
    refine q_load (v := .agg (DValue.cells a0.Default)) 0 trivial rfl hS hH rfl rfl (by kernel_rfl) ?_; intro s hS
    refine qs 1 [(25, .agg (DValue.cells a0.Default)), (26, i4 y2)] hS ?_; intro s hS
    obtain ⟨y3, hy3, h⟩ := bind_some h
    refine q_callF (a := []) (b := []) (xs := [.agg (DValue.cells a0.Default), i4 y2]) rfl hS rfl rfl hy3 ?_; intro s hS
    refine qs 1 [(1, i4 y3)] hS ?_; intro s hS
    refine x_nil (sq_n (c_seq (c_seq (c_region ?_))))
    refine qs 2 [(1, i4 y3), (29, .bool (decide (y3 < 0)))] hS ?_; intro s hS
    refine x_nil (sq_n ?_)
    by_cases hc4 : (decide (y3 < 0)) = true
    ·have h := it_pos hc4 h
     refine c_cond hS rfl (fun _ => ?_) (fun hf => ff_absurd hc4 hf)
     refine c_seq (c_region ?_)
     refine qs 1 [(4, i4 (-1))] hS ?_; intro s hS
     refine x_nil (sq_n (c_ret (sq_r ?_)))
     injection h with h; subst h
     exact end_W hH (r_tmp (v := i4 (-1)) hS rfl r_nil) rfl (by kernel_rfl) (by simp [pureT, pureL, E_i64])
    ·have h := it_neg hc4 h
     refine c_cond hS rfl (fun hf => tt_absurd hc4 hf) (fun _ => ?_)
     refine c_skip (sq_n (c_seq (c_region ?_)))
     refine qs 2 [(4, i4 y3)] hS ?_; intro s hS
     refine x_nil (sq_n (c_ret ?_))
     injection h with h; subst h
     exact end_W hH (r_tmp (v := i4 y3) hS rfl r_nil) rfl (by kernel_rfl) (by simp [pureT, pureL, E_i64])
noncomputable def B_laws_toObject (a0 : DObject) : Option DObject := ((F_laws_toValueS a0.Keys).bind fun y1 => ((F_laws_toValueS a0.Vals).bind fun y2 => ((F_laws_toValue a0.Default).bind fun y3 => (some (⟨a0.Id, a0.Kind, a0.Name, a0.Low, y1, y2, y3⟩ : DObject)))))
theorem u_laws_toObject (a0 : DObject) (r : DObject) (h : B_laws_toObject a0 = some r) : F_laws_toObject a0 = some r := by
 unfold B_laws_toObject at h
 refine semO_of rfl rfl ok_25 rfl (all_cons (by kernel_rfl) all_nil) ?_
 intro σ0 s hS hH
 have hS := sub_to (L' := [(0, .agg (DObject.cells a0))]) hS (by kernel_rfl)
 refine c_seq (c_region ?_)
 refine q_box (v := .agg (DObject.cells a0)) (cs := [i4 a0.Id, i4 a0.Kind, .str a0.Name, i4 a0.Low, a0.Keys.t, a0.Vals.t, i4 a0.Default.Kind, i4 a0.Default.Num, .str a0.Default.Text, i4 a0.Default.Ref]) rfl hS hH rfl rfl (by kernel_rfl) ?_; intro b1 σ s hH hS
 refine q_alloc (z := [i4 0, i4 0, .str ⟨#[]⟩, i4 0, (nt DValue), (nt DValue), i4 0, i4 0, .str ⟨#[]⟩, i4 0]) rfl hS hH (by kernel_rfl) ?_; intro b2 σ s hH hS
 refine x_nil (sq_n (c_seq (c_region ?_)))
 refine q_alloc (z := [i4 0, i4 0, .str ⟨#[]⟩, i4 0, (nt DValue), (nt DValue), i4 0, i4 0, .str ⟨#[]⟩, i4 0]) rfl hS hH (by kernel_rfl) ?_; intro b3 σ s hH hS
 refine x_nil (sq_n (c_seq (c_region ?_)))
 refine qs 1 [(1, .ptr b1 0 0 10), (2, .ptr b2 0 0 10), (3, .ptr b3 0 0 10), (4, .ptr b1 0 0 1)] hS ?_; intro s hS
 refine q_load (v := i4 a0.Id) 2 trivial rfl hS hH rfl rfl (by kernel_rfl) ?_; intro s hS
 refine qs 1 [(1, .ptr b1 0 0 10), (2, .ptr b2 0 0 10), (3, .ptr b3 0 0 10), (5, i4 a0.Id), (6, .ptr b3 0 0 1)] hS ?_; intro s hS
 refine q_store (v := i4 a0.Id) (cs := [i4 a0.Id]) (cells' := [i4 a0.Id, i4 0, .str ⟨#[]⟩, i4 0, (nt DValue), (nt DValue), i4 0, i4 0, .str ⟨#[]⟩, i4 0]) rfl hS hH rfl rfl rfl (by kernel_rfl) (by kernel_rfl) ?_; intro σ s hH hS
 refine x_nil (sq_n (c_seq (c_region ?_)))
 refine qs 1 [(1, .ptr b1 0 0 10), (2, .ptr b2 0 0 10), (3, .ptr b3 0 0 10), (7, .ptr b1 0 1 1)] hS ?_; intro s hS
 refine q_load (v := i4 a0.Kind) 2 trivial rfl hS hH rfl rfl (by kernel_rfl) ?_; intro s hS
 refine qs 1 [(1, .ptr b1 0 0 10), (2, .ptr b2 0 0 10), (3, .ptr b3 0 0 10), (8, i4 a0.Kind), (9, .ptr b3 0 1 1)] hS ?_; intro s hS
 refine q_store (v := i4 a0.Kind) (cs := [i4 a0.Kind]) (cells' := [i4 a0.Id, i4 a0.Kind, .str ⟨#[]⟩, i4 0, (nt DValue), (nt DValue), i4 0, i4 0, .str ⟨#[]⟩, i4 0]) rfl hS hH rfl rfl rfl (by kernel_rfl) (by kernel_rfl) ?_; intro σ s hH hS
 refine x_nil (sq_n (c_seq (c_region ?_)))
 refine qs 1 [(1, .ptr b1 0 0 10), (2, .ptr b2 0 0 10), (3, .ptr b3 0 0 10), (10, .ptr b1 0 2 1)] hS ?_; intro s hS
 refine q_load (v := .str a0.Name) 2 trivial rfl hS hH rfl rfl (by kernel_rfl) ?_; intro s hS
 refine qs 1 [(1, .ptr b1 0 0 10), (2, .ptr b2 0 0 10), (3, .ptr b3 0 0 10), (11, .str a0.Name), (12, .ptr b3 0 2 1)] hS ?_; intro s hS
 refine q_store (v := .str a0.Name) (cs := [.str a0.Name]) (cells' := [i4 a0.Id, i4 a0.Kind, .str a0.Name, i4 0, (nt DValue), (nt DValue), i4 0, i4 0, .str ⟨#[]⟩, i4 0]) rfl hS hH rfl rfl rfl (by kernel_rfl) (by kernel_rfl) ?_; intro σ s hH hS
 refine x_nil (sq_n (c_seq (c_region ?_)))
 refine qs 1 [(1, .ptr b1 0 0 10), (2, .ptr b2 0 0 10), (3, .ptr b3 0 0 10), (13, .ptr b1 0 3 1)] hS ?_; intro s hS
 refine q_load (v := i4 a0.Low) 2 trivial rfl hS hH rfl rfl (by kernel_rfl) ?_; intro s hS
 refine qs 1 [(1, .ptr b1 0 0 10), (2, .ptr b2 0 0 10), (3, .ptr b3 0 0 10), (14, i4 a0.Low), (15, .ptr b3 0 3 1)] hS ?_; intro s hS
 refine q_store (v := i4 a0.Low) (cs := [i4 a0.Low]) (cells' := [i4 a0.Id, i4 a0.Kind, .str a0.Name, i4 a0.Low, (nt DValue), (nt DValue), i4 0, i4 0, .str ⟨#[]⟩, i4 0]) rfl hS hH rfl rfl rfl (by kernel_rfl) (by kernel_rfl) ?_; intro σ s hH hS
 refine x_nil (sq_n (c_seq (c_region ?_)))
 refine qs 1 [(1, .ptr b1 0 0 10), (2, .ptr b2 0 0 10), (3, .ptr b3 0 0 10), (16, .ptr b1 0 4 1)] hS ?_; intro s hS
 refine q_load (v := a0.Keys.t) 2 trivial rfl hS hH rfl rfl (by kernel_rfl) ?_; intro s hS
 obtain ⟨y1, hy1, h⟩ := bind_some h
 refine q_callO (ents := []) (z := false) (ts := [a0.Keys.t]) (vs := [a0.Keys.t]) rfl rfl hS rfl rfl rfl hH (HLp HL.nil) hy1 ?_; intro hs σ s hl hH hS
 obtain ⟨t1, rfl⟩ := len1 hl
 have hH : Heap σ0 σ [.own true 4 t1 y1.t, .box b3 [i4 a0.Id, i4 a0.Kind, .str a0.Name, i4 a0.Low, (nt DValue), (nt DValue), i4 0, i4 0, .str ⟨#[]⟩, i4 0], .box b2 [i4 0, i4 0, .str ⟨#[]⟩, i4 0, (nt DValue), (nt DValue), i4 0, i4 0, .str ⟨#[]⟩, i4 0], .box b1 (DObject.cells a0)] := hH
 have ht1 : IsOne t1 := Heap.one hH
 refine qs 1 [(1, .ptr b1 0 0 10), (2, .ptr b2 0 0 10), (3, .ptr b3 0 0 10), (18, t1), (19, .ptr b3 0 4 1)] hS ?_; intro s hS
 have hH : Heap σ0 σ [.box b3 [i4 a0.Id, i4 a0.Kind, .str a0.Name, i4 a0.Low, (nt DValue), (nt DValue), i4 0, i4 0, .str ⟨#[]⟩, i4 0], .own true 4 t1 y1.t, .box b2 [i4 0, i4 0, .str ⟨#[]⟩, i4 0, (nt DValue), (nt DValue), i4 0, i4 0, .str ⟨#[]⟩, i4 0], .box b1 (DObject.cells a0)] := hH.sel [1, 0, 2, 3] rfl (by kernel_rfl)
 refine q_store (v := t1) (cs := [t1]) (cells' := [i4 a0.Id, i4 a0.Kind, .str a0.Name, i4 a0.Low, t1, (nt DValue), i4 0, i4 0, .str ⟨#[]⟩, i4 0]) rfl hS hH rfl rfl (by simp [ht1.1, ht1.2]) (by simp [ht1.1, ht1.2]) (by kernel_rfl) ?_; intro σ s hH hS
 refine x_nil (sq_n (c_seq (c_region ?_)))
 refine qs 1 [(1, .ptr b1 0 0 10), (2, .ptr b2 0 0 10), (3, .ptr b3 0 0 10), (20, .ptr b1 0 5 1)] hS ?_; intro s hS
 refine q_load (v := a0.Vals.t) 3 trivial rfl hS hH rfl rfl (by kernel_rfl) ?_; intro s hS
 obtain ⟨y2, hy2, h⟩ := bind_some h
 refine q_callO (ents := []) (z := false) (ts := [a0.Vals.t]) (vs := [a0.Vals.t]) rfl rfl hS rfl rfl rfl hH (HLp HL.nil) hy2 ?_; intro hs σ s hl hH hS
 obtain ⟨t2, rfl⟩ := len1 hl
 have hH : Heap σ0 σ [.own true 4 t2 y2.t, .box b3 [i4 a0.Id, i4 a0.Kind, .str a0.Name, i4 a0.Low, t1, (nt DValue), i4 0, i4 0, .str ⟨#[]⟩, i4 0], .own true 4 t1 y1.t, .box b2 [i4 0, i4 0, .str ⟨#[]⟩, i4 0, (nt DValue), (nt DValue), i4 0, i4 0, .str ⟨#[]⟩, i4 0], .box b1 (DObject.cells a0)] := hH
 have ht2 : IsOne t2 := Heap.one hH
 refine qs 1 [(1, .ptr b1 0 0 10), (2, .ptr b2 0 0 10), (3, .ptr b3 0 0 10), (22, t2), (23, .ptr b3 0 5 1)] hS ?_; intro s hS
 have hH : Heap σ0 σ [.box b3 [i4 a0.Id, i4 a0.Kind, .str a0.Name, i4 a0.Low, t1, (nt DValue), i4 0, i4 0, .str ⟨#[]⟩, i4 0], .own true 4 t2 y2.t, .own true 4 t1 y1.t, .box b2 [i4 0, i4 0, .str ⟨#[]⟩, i4 0, (nt DValue), (nt DValue), i4 0, i4 0, .str ⟨#[]⟩, i4 0], .box b1 (DObject.cells a0)] := hH.sel [1, 0, 2, 3, 4] rfl (by kernel_rfl)
 refine q_store (v := t2) (cs := [t2]) (cells' := [i4 a0.Id, i4 a0.Kind, .str a0.Name, i4 a0.Low, t1, t2, i4 0, i4 0, .str ⟨#[]⟩, i4 0]) rfl hS hH rfl rfl (by simp [ht2.1, ht2.2]) (by simp [ht2.1, ht2.2]) (by kernel_rfl) ?_; intro σ s hH hS
 refine x_nil (sq_n (c_seq (c_region ?_)))
 refine qs 1 [(2, .ptr b2 0 0 10), (3, .ptr b3 0 0 10), (24, .ptr b1 0 6 4)] hS ?_; intro s hS
 refine q_load (v := .agg (DValue.cells a0.Default)) 4 trivial rfl hS hH rfl rfl (by kernel_rfl) ?_; intro s hS
 obtain ⟨y3, hy3, h⟩ := bind_some h
 refine q_callF (a := []) (b := []) (xs := [.agg (DValue.cells a0.Default)]) rfl hS rfl rfl hy3 ?_; intro s hS
 refine qs 1 [(2, .ptr b2 0 0 10), (3, .ptr b3 0 0 10), (26, .agg (DValue.cells y3)), (27, .ptr b3 0 6 4)] hS ?_; intro s hS
 refine q_store (v := .agg (DValue.cells y3)) (cs := [i4 y3.Kind, i4 y3.Num, .str y3.Text, i4 y3.Ref]) (cells' := [i4 a0.Id, i4 a0.Kind, .str a0.Name, i4 a0.Low, t1, t2, i4 y3.Kind, i4 y3.Num, .str y3.Text, i4 y3.Ref]) rfl hS hH rfl rfl rfl (by kernel_rfl) (by kernel_rfl) ?_; intro σ s hH hS
 refine x_nil (sq_n (c_seq (c_region ?_)))
 refine q_load (v := .agg [i4 a0.Id, i4 a0.Kind, .str a0.Name, i4 a0.Low, t1, t2, i4 y3.Kind, i4 y3.Num, .str y3.Text, i4 y3.Ref]) 0 trivial rfl hS hH rfl rfl (by kernel_rfl) ?_; intro s hS
 have hH : Heap σ0 σ [.box b2 [i4 0, i4 0, .str ⟨#[]⟩, i4 0, (nt DValue), (nt DValue), i4 0, i4 0, .str ⟨#[]⟩, i4 0], .box b3 [i4 a0.Id, i4 a0.Kind, .str a0.Name, i4 a0.Low, t1, t2, i4 y3.Kind, i4 y3.Num, .str y3.Text, i4 y3.Ref], .own true 4 t2 y2.t, .own true 4 t1 y1.t, .box b1 (DObject.cells a0)] := hH.sel [3, 0, 1, 2, 4] rfl (by kernel_rfl)
 refine q_storeA (cs := [i4 a0.Id, i4 a0.Kind, .str a0.Name, i4 a0.Low, t1, t2, i4 y3.Kind, i4 y3.Num, .str y3.Text, i4 y3.Ref]) rfl hS hH rfl rfl (by simp [ht1.1, ht1.2, ht2.1, ht2.2]) ?_; intro σ s hH hS
 refine x_nil (sq_n (c_ret ?_))
 injection h with h; subst h
 have hH : Heap σ0 σ [.own true 4 t1 y1.t, .own true 4 t2 y2.t, .box b2 [i4 a0.Id, i4 a0.Kind, .str a0.Name, i4 a0.Low, t1, t2, i4 y3.Kind, i4 y3.Num, .str y3.Text, i4 y3.Ref], .box b3 [i4 a0.Id, i4 a0.Kind, .str a0.Name, i4 a0.Low, t1, t2, i4 y3.Kind, i4 y3.Num, .str y3.Text, i4 y3.Ref], .box b1 (DObject.cells a0)] := hH.sel [3, 2, 0, 1, 4] rfl (by kernel_rfl)
 exact end_Ow [t1, t2] [.box b2 [i4 a0.Id, i4 a0.Kind, .str a0.Name, i4 a0.Low, t1, t2, i4 y3.Kind, i4 y3.Num, .str y3.Text, i4 y3.Ref], .box b3 [i4 a0.Id, i4 a0.Kind, .str a0.Name, i4 a0.Low, t1, t2, i4 y3.Kind, i4 y3.Num, .str y3.Text, i4 y3.Ref], .box b1 (DObject.cells a0)] (r_cell (v := .agg [i4 a0.Id, i4 a0.Kind, .str a0.Name, i4 a0.Low, t1, t2, i4 y3.Kind, i4 y3.Num, .str y3.Text, i4 y3.Ref]) hS (hH.at 2 rfl) rfl (by kernel_rfl) r_nil) (by kernel_rfl) rfl hH (by kernel_rfl)
end Go.Am
