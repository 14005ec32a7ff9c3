/- Functions of the program. -/
import Derived.Test.YtfnjieagnkmceaaAd0
import Derived.Test.YtfnjieagnkmceaaAg0
set_option maxRecDepth 100000
set_option maxHeartbeats 4000000
set_option linter.unusedVariables false
set_option linter.unusedSimpArgs false
namespace Go.Am
open Go.Proofs
noncomputable def B_laws_FnExactNewObject (a0 : DHeap) (a1 : DObject) : Option Bool := ((F_laws_szHeap a0 1048576).bind fun y1 => (if (decide (y1 < 0)) = true then (some true) else ((F_laws_szObject a1 y1).bind fun y2 => (if (decide (y2 < 0)) = true then (some true) else ((F_laws_toHeap a0).bind fun y3 => ((F_laws_toObject a1).bind fun y4 => ((F_spec_NewObject y3 y4).bind fun y5 => ((F_laws_toHeap a0).bind fun y6 => ((F_laws_toObject a1).bind fun y7 => ((F_impl_NewObject y6 y7).bind fun y8 => ((F_laws_eqHeap y8.1 y5.1).bind fun y9 => (if (!y9) = true then (some false) else (if (!decide (y8.2.1 = y5.2.1)) = true then (some false) else (if (!decide (y8.2.2 = y5.2.2)) = true then (some false) else ((F_laws_toHeap a0).bind fun y10 => ((F_laws_eqHeap y6 y10).bind fun y11 => (if (!y11) = true then (some false) else ((F_laws_toObject a1).bind fun y12 => ((F_laws_eqObject y7 y12).bind fun y13 => (if (!y13) = true then (some false) else ((B_laws_markHeap y6 1).bind fun y14 => ((B_laws_markObject y7 y14.1).bind fun y15 => (if (decide (y15.1 < 0)) = true then (some false) else ((F_laws_eqHeap y8.1 y5.1).bind fun y16 => (if (!y16) = true then (some false) else ((B_laws_markHeap y8.1 1).bind fun y17 => ((F_laws_heldHeap (⟨y8.1.Next, y17.2.Objects⟩ : DHeap) 1).bind fun y18 => (if (decide (y18 < 0)) = true then (some false) else (if (!decide (y18 = y17.1)) = true then (some false) else ((F_laws_toHeap a0).bind fun y19 => ((F_laws_toObject a1).bind fun y20 => ((F_impl_NewObject y19 y20).bind fun y21 => ((F_laws_eqHeap y21.1 y5.1).bind fun y22 => (if (!y22) = true then (some false) else (if (!decide (y21.2.1 = y5.2.1)) = true then (some false) else (if (!decide (y21.2.2 = y5.2.2)) = true then (some false) else ((F_laws_heldHeap (⟨y8.1.Next, y17.2.Objects⟩ : DHeap) 1).bind fun y23 => (if (decide (y23 < 0)) = true then (some false) else (if (!decide (y23 = y17.1)) = true then (some false) else (some true))))))))))))))))))))))))))))))))))))))))
theorem u_laws_FnExactNewObject (a0 : DHeap) (a1 : DObject) (r : Bool) (h : B_laws_FnExactNewObject a0 a1 = some r) : F_laws_FnExactNewObject a0 a1 = some r := by
 unfold B_laws_FnExactNewObject at h
 refine semW_of E_bool_inj rfl rfl ok_5 rfl (all_cons (by kernel_rfl) (all_cons (by kernel_rfl) all_nil)) ?_
 intro σ0 s hS hH
 have hS := sub_to (L' := [(0, .agg (DHeap.cells a0)), (1, .agg (DObject.cells a1))]) hS (by kernel_rfl)
 refine c_seq (c_region ?_)
 refine q_box (v := .agg (DHeap.cells a0)) (cs := [i4 a0.Next, a0.Objects.t]) rfl hS hH rfl rfl (by kernel_rfl) ?_; intro b1 σ s hH hS
 refine q_box (v := .agg (DObject.cells a1)) (cs := [i4 a1.Id, i4 a1.Kind, .str a1.Name, i4 a1.Low, a1.Keys.t, a1.Vals.t, i4 a1.Default.Kind, i4 a1.Default.Num, .str a1.Default.Text, i4 a1.Default.Ref]) rfl hS hH rfl rfl (by kernel_rfl) ?_; intro b2 σ s hH hS
 refine qs 1 [(2, .ptr b1 0 0 2), (3, .ptr b2 0 0 10)] hS ?_; intro s hS
 refine x_nil (sq_n (c_seq (c_region ?_)))
 refine qs 1 [(2, .ptr b1 0 0 2), (3, .ptr b2 0 0 10), (5, i4 1048576)] hS ?_; intro s hS
 refine x_nil (sq_n (c_seq (c_region ?_)))
 refine q_load (v := .agg (DHeap.cells a0)) 1 trivial rfl hS hH rfl rfl (by kernel_rfl) ?_; intro s hS
 refine qs 1 [(2, .ptr b1 0 0 2), (3, .ptr b2 0 0 10), (20, .agg (DHeap.cells a0)), (21, i4 1048576)] hS ?_; intro s hS
 obtain ⟨y1, hy1, h⟩ := bind_some h
 refine q_callF (a := []) (b := []) (xs := [.agg (DHeap.cells a0), i4 1048576]) rfl hS rfl rfl hy1 ?_; intro s hS
 refine qs 1 [(2, .ptr b1 0 0 2), (3, .ptr b2 0 0 10), (5, i4 y1)] hS ?_; intro s hS
 refine x_nil (sq_n (c_seq (c_seq (c_region ?_))))
 refine qs 2 [(2, .ptr b1 0 0 2), (3, .ptr b2 0 0 10), (5, i4 y1), (24, .bool (decide (y1 < 0)))] hS ?_; intro s hS
 refine x_nil (sq_n ?_)
 by_cases hc1 : (decide (y1 < 0)) = true
 ·have h := it_pos hc1 h
  refine c_cond hS rfl (fun _ => ?_) (fun hf => ff_absurd hc1 hf)
  refine c_seq (c_region ?_)
  refine qs 1 [(4, .bool true)] hS ?_; intro s hS
  refine x_nil (sq_n (c_ret (sq_r ?_)))
  injection h with h; subst h
  exact end_W hH (r_tmp (v := .bool true) hS rfl r_nil) rfl (by kernel_rfl) (by simp [pureT, pureL, E_bool])
 ·have h := it_neg hc1 h
  refine c_cond hS rfl (fun hf => tt_absurd hc1 hf) (fun _ => ?_)
  refine c_skip (sq_n (c_seq (c_region ?_)))
  refine q_load (v := .agg (DObject.cells a1)) 0 trivial rfl hS hH rfl rfl (by kernel_rfl) ?_; intro s hS
  refine qs 1 [(2, .ptr b1 0 0 2), (3, .ptr b2 0 0 10), (25, .agg (DObject.cells a1)), (26, i4 y1)] hS ?_; intro s hS
  obtain ⟨y2, hy2, h⟩ := bind_some h
  refine q_callF (a := []) (b := []) (xs := [.agg (DObject.cells a1), i4 y1]) rfl hS rfl rfl hy2 ?_; intro s hS
  refine qs 1 [(2, .ptr b1 0 0 2), (3, .ptr b2 0 0 10), (5, i4 y2)] hS ?_; intro s hS
  refine x_nil (sq_n (c_seq (c_seq (c_region ?_))))
  refine qs 2 [(2, .ptr b1 0 0 2), (3, .ptr b2 0 0 10), (29, .bool (decide (y2 < 0)))] hS ?_; intro s hS
  refine x_nil (sq_n ?_)
  by_cases hc2 : (decide (y2 < 0)) = true
  ·have h := it_pos hc2 h
   refine c_cond hS rfl (fun _ => ?_) (fun hf => ff_absurd hc2 hf)
   refine c_seq (c_region ?_)
   refine qs 1 [(4, .bool true)] hS ?_; intro s hS
   refine x_nil (sq_n (c_ret (sq_r ?_)))
   injection h with h; subst h
   exact end_W hH (r_tmp (v := .bool true) hS rfl r_nil) rfl (by kernel_rfl) (by simp [pureT, pureL, E_bool])
  ·have h := it_neg hc2 h
   refine c_cond hS rfl (fun hf => tt_absurd hc2 hf) (fun _ => ?_)
   refine c_skip (sq_n (c_seq ?_))
   refine c_chain (W2 (fun _ => False) (fun _ => False)) (fun _ => rfl) (by kernel_rfl) (by kernel_rfl) hH ?_; intro mb σs σ hn0 hlt hlto hH
   have hlt_b2 : b2 < mb := hlt b2 _ (List.Mem.head _)
   refine q_load (v := .agg (DHeap.cells a0)) 1 (Or.inl (by kernel_rfl)) rfl hS hH rfl rfl (by kernel_rfl) ?_; intro s hS
   obtain ⟨y3, hy3, h⟩ := bind_some h
   refine q_callO (ents := []) (z := false) (ts := [.agg (DHeap.cells a0)]) (vs := [.agg (DHeap.cells a0)]) rfl rfl hS rfl rfl rfl hH (HL.agg (es1 := []) (es2 := []) (HLi (HLp HL.nil)) HL.nil) hy3 ?_; intro hs σ s hl hH hS
   obtain ⟨t1, rfl⟩ := len1 hl
   have hH : Heap σ0 σ [.own true 10 t1 y3.Objects.t, .box b2 (DObject.cells a1), .box b1 (DHeap.cells a0)] := hH
   have ht1 : IsOne t1 := Heap.one hH
   refine q_load (v := .agg (DObject.cells a1)) 1 (Or.inr ⟨hlt_b2, Or.inl (by kernel_rfl)⟩) rfl hS hH rfl rfl (by kernel_rfl) ?_; intro s hS
   obtain ⟨y4, hy4, h⟩ := bind_some h
   refine q_callO (ents := []) (z := false) (ts := [.agg (DObject.cells a1)]) (vs := [.agg (DObject.cells a1)]) rfl rfl hS rfl rfl rfl hH (HL.agg (es1 := []) (es2 := []) (HLi (HLi (HLs (HLi (HLp (HLp (HLi (HLi (HLs (HLi HL.nil)))))))))) HL.nil) hy4 ?_; intro hs σ s hl hH hS
   obtain ⟨t2, t3, rfl⟩ := len2 hl
   have hH : Heap σ0 σ [.own true 4 t2 y4.Keys.t, .own true 4 t3 y4.Vals.t, .own true 10 t1 y3.Objects.t, .box b2 (DObject.cells a1), .box b1 (DHeap.cells a0)] := hH
   have ht2 : IsOne t2 := Heap.one hH
   have ht3 : IsOne t3 := Heap.one (hH.at 1 rfl)
   obtain ⟨y5, hy5, h⟩ := bind_some h
   have hH : Heap σ0 σ [.own true 10 t1 y3.Objects.t, .own true 4 t2 y4.Keys.t, .own true 4 t3 y4.Vals.t, .box b2 (DObject.cells a1), .box b1 (DHeap.cells a0)] := hH.sel [2, 0, 1, 3, 4] rfl (by kernel_rfl)
   refine q_callO (ents := [.own true 10 t1 y3.Objects.t, .own true 4 t2 y4.Keys.t, .own true 4 t3 y4.Vals.t]) (z := false) (ts := [.agg [i4 y3.Next, t1], .agg [i4 y4.Id, i4 y4.Kind, .str y4.Name, i4 y4.Low, t2, t3, i4 y4.Default.Kind, i4 y4.Default.Num, .str y4.Default.Text, i4 y4.Default.Ref]]) (vs := [.agg (DHeap.cells y3), .agg (DObject.cells y4)]) rfl rfl hS rfl rfl rfl hH (HL.agg (es1 := [.own true 10 t1 y3.Objects.t]) (es2 := [.own true 4 t2 y4.Keys.t, .own true 4 t3 y4.Vals.t]) (HLi (HL.own rfl HL.nil)) (HL.agg (es1 := [.own true 4 t2 y4.Keys.t, .own true 4 t3 y4.Vals.t]) (es2 := []) (HLi (HLi (HLs (HLi (HL.own rfl (HL.own rfl (HLi (HLi (HLs (HLi HL.nil)))))))))) HL.nil)) hy5 ?_; intro hs σ s hl hH hS
   obtain ⟨t4, rfl⟩ := len1 hl
   have hH : Heap σ0 σ [.own true 10 t4 y5.1.Objects.t, .own true 10 t1 y3.Objects.t, .own true 4 t2 y4.Keys.t, .own true 4 t3 y4.Vals.t, .box b2 (DObject.cells a1), .box b1 (DHeap.cells a0)] := hH
   have ht4 : IsOne t4 := Heap.one hH
   refine qs 4 [(2, .ptr b1 0 0 2), (3, .ptr b2 0 0 10), (36, .agg [i4 y5.1.Next, t4]), (37, i4 y5.2.1), (38, i4 y5.2.2)] hS ?_; intro s hS
   refine q_allocC rfl (by exact hn0) (z := [i4 0, (nt DObject)]) rfl hS hH (by kernel_rfl) ?_; intro b3 σ s hwr_b3 hH hS
   refine q_storeC rfl (v := .agg [i4 y5.1.Next, t4]) (cs := [i4 y5.1.Next, t4]) (cells' := [i4 y5.1.Next, t4]) (by exact Or.inl hwr_b3) rfl hS hH rfl rfl rfl (by simp [ht4.1, ht4.2]) (by kernel_rfl) ?_; intro σ s hH hS
   refine qs 2 [(2, .ptr b1 0 0 2), (3, .ptr b2 0 0 10), (6, .ptr b3 0 0 2), (7, i4 y5.2.1), (8, i4 y5.2.2)] hS ?_; intro s hS
   refine x_nil (sq_n (c_seq (c_region ?_)))
   refine q_load (v := .agg (DHeap.cells a0)) 6 trivial rfl hS hH rfl rfl (by kernel_rfl) ?_; intro s hS
   obtain ⟨y6, hy6, h⟩ := bind_some h
   refine q_callO (ents := []) (z := false) (ts := [.agg (DHeap.cells a0)]) (vs := [.agg (DHeap.cells a0)]) rfl rfl hS rfl rfl rfl hH (HL.agg (es1 := []) (es2 := []) (HLi (HLp HL.nil)) HL.nil) hy6 ?_; intro hs σ s hl hH hS
   obtain ⟨t5, rfl⟩ := len1 hl
   have hH : Heap σ0 σ [.own true 10 t5 y6.Objects.t, .box b3 [i4 y5.1.Next, t4], .own true 10 t4 y5.1.Objects.t, .own true 10 t1 y3.Objects.t, .own true 4 t2 y4.Keys.t, .own true 4 t3 y4.Vals.t, .box b2 (DObject.cells a1), .box b1 (DHeap.cells a0)] := hH
   have ht5 : IsOne t5 := Heap.one hH
   refine q_alloc (z := [i4 0, (nt DObject)]) rfl hS hH (by kernel_rfl) ?_; intro b4 σ s hH hS
   refine q_storeA (cs := [i4 y6.Next, t5]) rfl hS hH rfl rfl (by simp [ht5.1, ht5.2]) ?_; intro σ s hH hS
   refine x_nil (sq_n (c_seq (c_region ?_)))
   refine q_load (v := .agg (DObject.cells a1)) 7 trivial rfl hS hH rfl rfl (by kernel_rfl) ?_; intro s hS
   obtain ⟨y7, hy7, h⟩ := bind_some h
   refine q_callO (ents := []) (z := false) (ts := [.agg (DObject.cells a1)]) (vs := [.agg (DObject.cells a1)]) rfl rfl hS rfl rfl rfl hH (HL.agg (es1 := []) (es2 := []) (HLi (HLi (HLs (HLi (HLp (HLp (HLi (HLi (HLs (HLi HL.nil)))))))))) HL.nil) hy7 ?_; intro hs σ s hl hH hS
   obtain ⟨t6, t7, rfl⟩ := len2 hl
   have hH : Heap σ0 σ [.own true 4 t6 y7.Keys.t, .own true 4 t7 y7.Vals.t, .box b4 [i4 y6.Next, t5], .own true 10 t5 y6.Objects.t, .box b3 [i4 y5.1.Next, t4], .own true 10 t4 y5.1.Objects.t, .own true 10 t1 y3.Objects.t, .own true 4 t2 y4.Keys.t, .own true 4 t3 y4.Vals.t, .box b2 (DObject.cells a1), .box b1 (DHeap.cells a0)] := hH
   have ht6 : IsOne t6 := Heap.one hH
   have ht7 : IsOne t7 := Heap.one (hH.at 1 rfl)
   refine q_alloc (z := [i4 0, i4 0, .str ⟨#[]⟩, i4 0, (nt DValue), (nt DValue), i4 0, i4 0, .str ⟨#[]⟩, i4 0]) rfl hS hH (by kernel_rfl) ?_; intro b5 σ s hH hS
   refine q_storeA (cs := [i4 y7.Id, i4 y7.Kind, .str y7.Name, i4 y7.Low, t6, t7, i4 y7.Default.Kind, i4 y7.Default.Num, .str y7.Default.Text, i4 y7.Default.Ref]) rfl hS hH rfl rfl (by simp [ht6.1, ht6.2, ht7.1, ht7.2]) ?_; intro σ s hH hS
   refine x_nil (sq_n (c_seq (c_region ?_)))
   refine q_load (v := .agg [i4 y6.Next, t5]) 3 trivial rfl hS hH rfl rfl (by kernel_rfl) ?_; intro s hS
   refine q_load (v := .agg [i4 y7.Id, i4 y7.Kind, .str y7.Name, i4 y7.Low, t6, t7, i4 y7.Default.Kind, i4 y7.Default.Num, .str y7.Default.Text, i4 y7.Default.Ref]) 0 trivial rfl hS hH rfl rfl (by kernel_rfl) ?_; intro s hS
   obtain ⟨y8, hy8, h⟩ := bind_some h
   have hH : Heap σ0 σ [.own true 10 t5 y6.Objects.t, .own true 4 t6 y7.Keys.t, .own true 4 t7 y7.Vals.t, .box b5 [i4 y7.Id, i4 y7.Kind, .str y7.Name, i4 y7.Low, t6, t7, i4 y7.Default.Kind, i4 y7.Default.Num, .str y7.Default.Text, i4 y7.Default.Ref], .box b4 [i4 y6.Next, t5], .box b3 [i4 y5.1.Next, t4], .own true 10 t4 y5.1.Objects.t, .own true 10 t1 y3.Objects.t, .own true 4 t2 y4.Keys.t, .own true 4 t3 y4.Vals.t, .box b2 (DObject.cells a1), .box b1 (DHeap.cells a0)] := hH.sel [4, 1, 2, 0, 3, 5, 6, 7, 8, 9, 10, 11] rfl (by kernel_rfl)
   refine q_callO (ents := [.own true 10 t5 y6.Objects.t, .own true 4 t6 y7.Keys.t, .own true 4 t7 y7.Vals.t]) (z := false) (ts := [.agg [i4 y6.Next, t5], .agg [i4 y7.Id, i4 y7.Kind, .str y7.Name, i4 y7.Low, t6, t7, i4 y7.Default.Kind, i4 y7.Default.Num, .str y7.Default.Text, i4 y7.Default.Ref]]) (vs := [.agg (DHeap.cells y6), .agg (DObject.cells y7)]) rfl rfl hS rfl rfl rfl hH (HL.agg (es1 := [.own true 10 t5 y6.Objects.t]) (es2 := [.own true 4 t6 y7.Keys.t, .own true 4 t7 y7.Vals.t]) (HLi (HL.own rfl HL.nil)) (HL.agg (es1 := [.own true 4 t6 y7.Keys.t, .own true 4 t7 y7.Vals.t]) (es2 := []) (HLi (HLi (HLs (HLi (HL.own rfl (HL.own rfl (HLi (HLi (HLs (HLi HL.nil)))))))))) HL.nil)) hy8 ?_; intro hs σ s hl hH hS
   obtain ⟨t8, rfl⟩ := len1 hl
   have hH : Heap σ0 σ [.own true 10 t8 y8.1.Objects.t, .own true 10 t5 y6.Objects.t, .own true 4 t6 y7.Keys.t, .own true 4 t7 y7.Vals.t, .box b5 [i4 y7.Id, i4 y7.Kind, .str y7.Name, i4 y7.Low, t6, t7, i4 y7.Default.Kind, i4 y7.Default.Num, .str y7.Default.Text, i4 y7.Default.Ref], .box b4 [i4 y6.Next, t5], .box b3 [i4 y5.1.Next, t4], .own true 10 t4 y5.1.Objects.t, .own true 10 t1 y3.Objects.t, .own true 4 t2 y4.Keys.t, .own true 4 t3 y4.Vals.t, .box b2 (DObject.cells a1), .box b1 (DHeap.cells a0)] := hH
   have ht8 : IsOne t8 := Heap.one hH
   refine qs 4 [(2, .ptr b1 0 0 2), (3, .ptr b2 0 0 10), (6, .ptr b3 0 0 2), (7, i4 y5.2.1), (8, i4 y5.2.2), (9, .ptr b4 0 0 2), (10, .ptr b5 0 0 10), (47, .agg [i4 y8.1.Next, t8]), (48, i4 y8.2.1), (49, i4 y8.2.2)] hS ?_; intro s hS
   refine q_alloc (z := [i4 0, (nt DObject)]) rfl hS hH (by kernel_rfl) ?_; intro b6 σ s hH hS
   refine q_storeA (cs := [i4 y8.1.Next, t8]) rfl hS hH rfl rfl (by simp [ht8.1, ht8.2]) ?_; intro σ s hH hS
   refine qs 2 [(2, .ptr b1 0 0 2), (3, .ptr b2 0 0 10), (6, .ptr b3 0 0 2), (7, i4 y5.2.1), (8, i4 y5.2.2), (9, .ptr b4 0 0 2), (10, .ptr b5 0 0 10), (11, .ptr b6 0 0 2), (12, i4 y8.2.1), (13, i4 y8.2.2)] hS ?_; intro s hS
   refine x_nil (sq_n (c_seq (c_seq (c_region ?_))))
   refine q_load (v := .agg [i4 y8.1.Next, t8]) 0 trivial rfl hS hH rfl rfl (by kernel_rfl) ?_; intro s hS
   refine q_load (v := .agg [i4 y5.1.Next, t4]) 7 trivial rfl hS hH rfl rfl (by kernel_rfl) ?_; intro s hS
   obtain ⟨y9, hy9, h⟩ := bind_some h
   have hH : Heap σ0 σ [.own true 10 t8 y8.1.Objects.t, .own true 10 t4 y5.1.Objects.t, .box b6 [i4 y8.1.Next, t8], .own true 10 t5 y6.Objects.t, .own true 4 t6 y7.Keys.t, .own true 4 t7 y7.Vals.t, .box b5 [i4 y7.Id, i4 y7.Kind, .str y7.Name, i4 y7.Low, t6, t7, i4 y7.Default.Kind, i4 y7.Default.Num, .str y7.Default.Text, i4 y7.Default.Ref], .box b4 [i4 y6.Next, t5], .box b3 [i4 y5.1.Next, t4], .own true 10 t1 y3.Objects.t, .own true 4 t2 y4.Keys.t, .own true 4 t3 y4.Vals.t, .box b2 (DObject.cells a1), .box b1 (DHeap.cells a0)] := hH.sel [1, 8, 0, 2, 3, 4, 5, 6, 7, 9, 10, 11, 12, 13] rfl (by kernel_rfl)
   refine q_callH (ents := [.own true 10 t8 y8.1.Objects.t, .own true 10 t4 y5.1.Objects.t]) (z := false) (ts := [.agg [i4 y8.1.Next, t8], .agg [i4 y5.1.Next, t4]]) (vs := [.agg (DHeap.cells y8.1), .agg (DHeap.cells y5.1)]) rfl hS rfl rfl rfl hH (HL.agg (es1 := [.own true 10 t8 y8.1.Objects.t]) (es2 := [.own true 10 t4 y5.1.Objects.t]) (HLi (HL.own rfl HL.nil)) (HL.agg (es1 := [.own true 10 t4 y5.1.Objects.t]) (es2 := []) (HLi (HL.own rfl HL.nil)) HL.nil)) hy9 (by kernel_rfl) ?_; intro s hS
   refine qs 2 [(54, .bool (!y9)), (2, .ptr b1 0 0 2), (3, .ptr b2 0 0 10), (6, .ptr b3 0 0 2), (7, i4 y5.2.1), (8, i4 y5.2.2), (9, .ptr b4 0 0 2), (10, .ptr b5 0 0 10), (11, .ptr b6 0 0 2), (12, i4 y8.2.1), (13, i4 y8.2.2)] hS ?_; intro s hS
   by_cases hc3 : (!y9) = true
   ·have h := it_pos hc3 h
    have hS := sub_bt hS hc3
    refine qs 9 [(2, .ptr b1 0 0 2), (3, .ptr b2 0 0 10), (6, .ptr b3 0 0 2), (7, i4 y5.2.1), (8, i4 y5.2.2), (9, .ptr b4 0 0 2), (10, .ptr b5 0 0 10), (11, .ptr b6 0 0 2), (12, i4 y8.2.1), (13, i4 y8.2.2), (63, .bool true)] hS ?_; intro s hS
    refine x_nil (sq_n ?_)
    refine c_cond (t := true) hS rfl (fun _ => ?_) (fun hf => by cases hf)
    refine c_seq (c_region ?_)
    refine qs 1 [(4, .bool false)] hS ?_; intro s hS
    refine x_nil (sq_n (c_ret (sq_r ?_)))
    injection h with h; subst h
    exact end_W hH (r_tmp (v := .bool false) hS rfl r_nil) rfl (by kernel_rfl) (by simp [pureT, pureL, E_bool])
   ·have h := it_neg hc3 h
    have hS := sub_bt hS (tt_of hc3)
    refine qs 5 [(59, .bool (!decide (y8.2.1 = y5.2.1))), (2, .ptr b1 0 0 2), (3, .ptr b2 0 0 10), (6, .ptr b3 0 0 2), (7, i4 y5.2.1), (8, i4 y5.2.2), (9, .ptr b4 0 0 2), (10, .ptr b5 0 0 10), (11, .ptr b6 0 0 2), (12, i4 y8.2.1), (13, i4 y8.2.2)] hS ?_; intro s hS
    by_cases hc4 : (!decide (y8.2.1 = y5.2.1)) = true
    ·have h := it_pos hc4 h
     have hS := sub_bt hS hc4
     refine qs 4 [(2, .ptr b1 0 0 2), (3, .ptr b2 0 0 10), (6, .ptr b3 0 0 2), (7, i4 y5.2.1), (8, i4 y5.2.2), (9, .ptr b4 0 0 2), (10, .ptr b5 0 0 10), (11, .ptr b6 0 0 2), (12, i4 y8.2.1), (13, i4 y8.2.2), (63, .bool true)] hS ?_; intro s hS
     refine x_nil (sq_n ?_)
     refine c_cond (t := true) hS rfl (fun _ => ?_) (fun hf => by cases hf)
     refine c_seq (c_region ?_)
     refine qs 1 [(4, .bool false)] hS ?_; intro s hS
     refine x_nil (sq_n (c_ret (sq_r ?_)))
     injection h with h; subst h
     exact end_W hH (r_tmp (v := .bool false) hS rfl r_nil) rfl (by kernel_rfl) (by simp [pureT, pureL, E_bool])
    ·have h := it_neg hc4 h
     have hS := sub_bt hS (tt_of hc4)
     refine qs 4 [(2, .ptr b1 0 0 2), (3, .ptr b2 0 0 10), (6, .ptr b3 0 0 2), (7, i4 y5.2.1), (8, i4 y5.2.2), (9, .ptr b4 0 0 2), (10, .ptr b5 0 0 10), (11, .ptr b6 0 0 2), (12, i4 y8.2.1), (13, i4 y8.2.2), (63, .bool (!decide (y8.2.2 = y5.2.2)))] hS ?_; intro s hS
     refine x_nil (sq_n ?_)
     by_cases hc5 : (!decide (y8.2.2 = y5.2.2)) = true
     ·have h := it_pos hc5 h
      refine c_cond hS rfl (fun _ => ?_) (fun hf => ff_absurd hc5 hf)
      refine c_seq (c_region ?_)
      refine qs 1 [(4, .bool false)] hS ?_; intro s hS
      refine x_nil (sq_n (c_ret (sq_r ?_)))
      injection h with h; subst h
      exact end_W hH (r_tmp (v := .bool false) hS rfl r_nil) rfl (by kernel_rfl) (by simp [pureT, pureL, E_bool])
     ·have h := it_neg hc5 h
      refine c_cond hS rfl (fun hf => tt_absurd hc5 hf) (fun _ => ?_)
      refine c_skip (sq_n (c_seq (c_seq ?_)))
      refine c_chain (W2 (fun _ => False) (fun _ => False)) (fun _ => rfl) (by kernel_rfl) (by kernel_rfl) hH ?_; intro mb σs σ hn0 hlt hlto hH
      have hlt_b4 : b4 < mb := hlt b4 _ (List.Mem.tail _ (List.Mem.tail _ (List.Mem.tail _ (List.Mem.tail _ (List.Mem.tail _ (List.Mem.tail _ (List.Mem.tail _ (List.Mem.head _))))))))
      refine q_load (v := .agg [i4 y6.Next, t5]) 7 (Or.inr ⟨hlt_b4, Or.inl (by kernel_rfl)⟩) rfl hS hH rfl rfl (by kernel_rfl) ?_; intro s hS
      refine q_load (v := .agg (DHeap.cells a0)) 13 (Or.inl (by kernel_rfl)) rfl hS hH rfl rfl (by kernel_rfl) ?_; intro s hS
      obtain ⟨y10, hy10, h⟩ := bind_some h
      refine q_callO (ents := []) (z := false) (ts := [.agg (DHeap.cells a0)]) (vs := [.agg (DHeap.cells a0)]) rfl rfl hS rfl rfl rfl hH (HL.agg (es1 := []) (es2 := []) (HLi (HLp HL.nil)) HL.nil) hy10 ?_; intro hs σ s hl hH hS
      obtain ⟨t9, rfl⟩ := len1 hl
      have hH : Heap σ0 σ [.own true 10 t9 y10.Objects.t, .own true 10 t8 y8.1.Objects.t, .own true 10 t4 y5.1.Objects.t, .box b6 [i4 y8.1.Next, t8], .own true 10 t5 y6.Objects.t, .own true 4 t6 y7.Keys.t, .own true 4 t7 y7.Vals.t, .box b5 [i4 y7.Id, i4 y7.Kind, .str y7.Name, i4 y7.Low, t6, t7, i4 y7.Default.Kind, i4 y7.Default.Num, .str y7.Default.Text, i4 y7.Default.Ref], .box b4 [i4 y6.Next, t5], .box b3 [i4 y5.1.Next, t4], .own true 10 t1 y3.Objects.t, .own true 4 t2 y4.Keys.t, .own true 4 t3 y4.Vals.t, .box b2 (DObject.cells a1), .box b1 (DHeap.cells a0)] := hH
      have ht9 : IsOne t9 := Heap.one hH
      obtain ⟨y11, hy11, h⟩ := bind_some h
      have hH : Heap σ0 σ [.own true 10 t5 y6.Objects.t, .own true 10 t9 y10.Objects.t, .own true 10 t8 y8.1.Objects.t, .own true 10 t4 y5.1.Objects.t, .box b6 [i4 y8.1.Next, t8], .own true 4 t6 y7.Keys.t, .own true 4 t7 y7.Vals.t, .box b5 [i4 y7.Id, i4 y7.Kind, .str y7.Name, i4 y7.Low, t6, t7, i4 y7.Default.Kind, i4 y7.Default.Num, .str y7.Default.Text, i4 y7.Default.Ref], .box b4 [i4 y6.Next, t5], .box b3 [i4 y5.1.Next, t4], .own true 10 t1 y3.Objects.t, .own true 4 t2 y4.Keys.t, .own true 4 t3 y4.Vals.t, .box b2 (DObject.cells a1), .box b1 (DHeap.cells a0)] := hH.sel [4, 0, 1, 2, 3, 5, 6, 7, 8, 9, 10, 11, 12, 13, 14] rfl (by kernel_rfl)
      refine q_callH (ents := [.own true 10 t5 y6.Objects.t, .own true 10 t9 y10.Objects.t]) (z := false) (ts := [.agg [i4 y6.Next, t5], .agg [i4 y10.Next, t9]]) (vs := [.agg (DHeap.cells y6), .agg (DHeap.cells y10)]) rfl hS rfl rfl rfl hH (HL.agg (es1 := [.own true 10 t5 y6.Objects.t]) (es2 := [.own true 10 t9 y10.Objects.t]) (HLi (HL.own rfl HL.nil)) (HL.agg (es1 := [.own true 10 t9 y10.Objects.t]) (es2 := []) (HLi (HL.own rfl HL.nil)) HL.nil)) hy11 (by kernel_rfl) ?_; intro s hS
      refine qs 1 [(2, .ptr b1 0 0 2), (3, .ptr b2 0 0 10), (6, .ptr b3 0 0 2), (7, i4 y5.2.1), (8, i4 y5.2.2), (9, .ptr b4 0 0 2), (10, .ptr b5 0 0 10), (11, .ptr b6 0 0 2), (12, i4 y8.2.1), (13, i4 y8.2.2), (68, .bool (!y11))] hS ?_; intro s hS
      refine x_nil (sq_n ?_)
      by_cases hc6 : (!y11) = true
      ·have h := it_pos hc6 h
       refine c_cond hS rfl (fun _ => ?_) (fun hf => ff_absurd hc6 hf)
       refine c_seq (c_region ?_)
       refine qs 1 [(4, .bool false)] hS ?_; intro s hS
       refine x_nil (sq_n (c_ret (sq_r ?_)))
       injection h with h; subst h
       exact end_W hH (r_tmp (v := .bool false) hS rfl r_nil) rfl (by kernel_rfl) (by simp [pureT, pureL, E_bool])
      ·have h := it_neg hc6 h
       refine c_cond hS rfl (fun hf => tt_absurd hc6 hf) (fun _ => ?_)
       refine c_skip (sq_n (c_seq (c_seq ?_)))
       refine c_chain (W2 (fun _ => False) (fun _ => False)) (fun _ => rfl) (by kernel_rfl) (by kernel_rfl) hH ?_; intro mb σs σ hn0 hlt hlto hH
       have hlt_b5 : b5 < mb := hlt b5 _ (List.Mem.tail _ (List.Mem.tail _ (List.Mem.tail _ (List.Mem.tail _ (List.Mem.tail _ (List.Mem.tail _ (List.Mem.tail _ (List.Mem.head _))))))))
       refine q_load (v := .agg [i4 y7.Id, i4 y7.Kind, .str y7.Name, i4 y7.Low, t6, t7, i4 y7.Default.Kind, i4 y7.Default.Num, .str y7.Default.Text, i4 y7.Default.Ref]) 7 (Or.inr ⟨hlt_b5, Or.inl (by kernel_rfl)⟩) rfl hS hH rfl rfl (by kernel_rfl) ?_; intro s hS
       refine q_load (v := .agg (DObject.cells a1)) 13 (Or.inl (by kernel_rfl)) rfl hS hH rfl rfl (by kernel_rfl) ?_; intro s hS
       obtain ⟨y12, hy12, h⟩ := bind_some h
       refine q_callO (ents := []) (z := false) (ts := [.agg (DObject.cells a1)]) (vs := [.agg (DObject.cells a1)]) rfl rfl hS rfl rfl rfl hH (HL.agg (es1 := []) (es2 := []) (HLi (HLi (HLs (HLi (HLp (HLp (HLi (HLi (HLs (HLi HL.nil)))))))))) HL.nil) hy12 ?_; intro hs σ s hl hH hS
       obtain ⟨t10, t11, rfl⟩ := len2 hl
       have hH : Heap σ0 σ [.own true 4 t10 y12.Keys.t, .own true 4 t11 y12.Vals.t, .own true 10 t5 y6.Objects.t, .own true 10 t9 y10.Objects.t, .own true 10 t8 y8.1.Objects.t, .own true 10 t4 y5.1.Objects.t, .box b6 [i4 y8.1.Next, t8], .own true 4 t6 y7.Keys.t, .own true 4 t7 y7.Vals.t, .box b5 [i4 y7.Id, i4 y7.Kind, .str y7.Name, i4 y7.Low, t6, t7, i4 y7.Default.Kind, i4 y7.Default.Num, .str y7.Default.Text, i4 y7.Default.Ref], .box b4 [i4 y6.Next, t5], .box b3 [i4 y5.1.Next, t4], .own true 10 t1 y3.Objects.t, .own true 4 t2 y4.Keys.t, .own true 4 t3 y4.Vals.t, .box b2 (DObject.cells a1), .box b1 (DHeap.cells a0)] := hH
       have ht10 : IsOne t10 := Heap.one hH
       have ht11 : IsOne t11 := Heap.one (hH.at 1 rfl)
       obtain ⟨y13, hy13, h⟩ := bind_some h
       have hH : Heap σ0 σ [.own true 4 t6 y7.Keys.t, .own true 4 t7 y7.Vals.t, .own true 4 t10 y12.Keys.t, .own true 4 t11 y12.Vals.t, .own true 10 t5 y6.Objects.t, .own true 10 t9 y10.Objects.t, .own true 10 t8 y8.1.Objects.t, .own true 10 t4 y5.1.Objects.t, .box b6 [i4 y8.1.Next, t8], .box b5 [i4 y7.Id, i4 y7.Kind, .str y7.Name, i4 y7.Low, t6, t7, i4 y7.Default.Kind, i4 y7.Default.Num, .str y7.Default.Text, i4 y7.Default.Ref], .box b4 [i4 y6.Next, t5], .box b3 [i4 y5.1.Next, t4], .own true 10 t1 y3.Objects.t, .own true 4 t2 y4.Keys.t, .own true 4 t3 y4.Vals.t, .box b2 (DObject.cells a1), .box b1 (DHeap.cells a0)] := hH.sel [7, 8, 0, 1, 2, 3, 4, 5, 6, 9, 10, 11, 12, 13, 14, 15, 16] rfl (by kernel_rfl)
       refine q_callH (ents := [.own true 4 t6 y7.Keys.t, .own true 4 t7 y7.Vals.t, .own true 4 t10 y12.Keys.t, .own true 4 t11 y12.Vals.t]) (z := false) (ts := [.agg [i4 y7.Id, i4 y7.Kind, .str y7.Name, i4 y7.Low, t6, t7, i4 y7.Default.Kind, i4 y7.Default.Num, .str y7.Default.Text, i4 y7.Default.Ref], .agg [i4 y12.Id, i4 y12.Kind, .str y12.Name, i4 y12.Low, t10, t11, i4 y12.Default.Kind, i4 y12.Default.Num, .str y12.Default.Text, i4 y12.Default.Ref]]) (vs := [.agg (DObject.cells y7), .agg (DObject.cells y12)]) rfl hS rfl rfl rfl hH (HL.agg (es1 := [.own true 4 t6 y7.Keys.t, .own true 4 t7 y7.Vals.t]) (es2 := [.own true 4 t10 y12.Keys.t, .own true 4 t11 y12.Vals.t]) (HLi (HLi (HLs (HLi (HL.own rfl (HL.own rfl (HLi (HLi (HLs (HLi HL.nil)))))))))) (HL.agg (es1 := [.own true 4 t10 y12.Keys.t, .own true 4 t11 y12.Vals.t]) (es2 := []) (HLi (HLi (HLs (HLi (HL.own rfl (HL.own rfl (HLi (HLi (HLs (HLi HL.nil)))))))))) HL.nil)) hy13 (by kernel_rfl) ?_; intro s hS
       refine qs 1 [(2, .ptr b1 0 0 2), (3, .ptr b2 0 0 10), (6, .ptr b3 0 0 2), (7, i4 y5.2.1), (8, i4 y5.2.2), (9, .ptr b4 0 0 2), (10, .ptr b5 0 0 10), (11, .ptr b6 0 0 2), (12, i4 y8.2.1), (13, i4 y8.2.2), (73, .bool (!y13))] hS ?_; intro s hS
       refine x_nil (sq_n ?_)
       by_cases hc7 : (!y13) = true
       ·have h := it_pos hc7 h
        refine c_cond hS rfl (fun _ => ?_) (fun hf => ff_absurd hc7 hf)
        refine c_seq (c_region ?_)
        refine qs 1 [(4, .bool false)] hS ?_; intro s hS
        refine x_nil (sq_n (c_ret (sq_r ?_)))
        injection h with h; subst h
        exact end_W hH (r_tmp (v := .bool false) hS rfl r_nil) rfl (by kernel_rfl) (by simp [pureT, pureL, E_bool])
       ·have h := it_neg hc7 h
        refine c_cond hS rfl (fun hf => tt_absurd hc7 hf) (fun _ => ?_)
        refine c_skip (sq_n (c_seq (c_region ?_)))
        refine qs 1 [(2, .ptr b1 0 0 2), (3, .ptr b2 0 0 10), (6, .ptr b3 0 0 2), (7, i4 y5.2.1), (8, i4 y5.2.2), (9, .ptr b4 0 0 2), (10, .ptr b5 0 0 10), (11, .ptr b6 0 0 2), (12, i4 y8.2.1), (13, i4 y8.2.2), (14, i4 1)] hS ?_; intro s hS
        refine x_nil (sq_n (c_seq (c_region ?_)))
        refine q_load (v := .agg [i4 y6.Next, t5]) 10 trivial rfl hS hH rfl rfl (by kernel_rfl) ?_; intro s hS
        refine qs 1 [(2, .ptr b1 0 0 2), (3, .ptr b2 0 0 10), (6, .ptr b3 0 0 2), (7, i4 y5.2.1), (8, i4 y5.2.2), (10, .ptr b5 0 0 10), (11, .ptr b6 0 0 2), (12, i4 y8.2.1), (13, i4 y8.2.2), (74, .agg [i4 y6.Next, t5]), (75, i4 1)] hS ?_; intro s hS
        have hH : Heap σ0 σ [.own true 10 t5 y6.Objects.t, .own true 4 t6 y7.Keys.t, .own true 4 t7 y7.Vals.t, .own true 4 t10 y12.Keys.t, .own true 4 t11 y12.Vals.t, .own true 10 t9 y10.Objects.t, .own true 10 t8 y8.1.Objects.t, .own true 10 t4 y5.1.Objects.t, .box b6 [i4 y8.1.Next, t8], .box b5 [i4 y7.Id, i4 y7.Kind, .str y7.Name, i4 y7.Low, t6, t7, i4 y7.Default.Kind, i4 y7.Default.Num, .str y7.Default.Text, i4 y7.Default.Ref], .box b4 [i4 y6.Next, t5], .box b3 [i4 y5.1.Next, t4], .own true 10 t1 y3.Objects.t, .own true 4 t2 y4.Keys.t, .own true 4 t3 y4.Vals.t, .box b2 (DObject.cells a1), .box b1 (DHeap.cells a0)] := hH.sel [4, 0, 1, 2, 3, 5, 6, 7, 8, 9, 10, 11, 12, 13, 14, 15, 16] rfl (by kernel_rfl)
        obtain ⟨y14, hy14, h⟩ := bind_some h
        refine q_callR (a := []) (b := []) (xs := [.agg [i4 y6.Next, t5], i4 1]) (ents := [.own true 10 t5 y6.Objects.t]) rfl hS rfl rfl hH (u_laws_markHeap y6 1 y14 hy14 10 t5) ?_; intro hs σ s hl hH hS
        have hH : Heap σ0 σ [.own true 10 t5 y14.2.Objects.t, .own true 4 t6 y7.Keys.t, .own true 4 t7 y7.Vals.t, .own true 4 t10 y12.Keys.t, .own true 4 t11 y12.Vals.t, .own true 10 t9 y10.Objects.t, .own true 10 t8 y8.1.Objects.t, .own true 10 t4 y5.1.Objects.t, .box b6 [i4 y8.1.Next, t8], .box b5 [i4 y7.Id, i4 y7.Kind, .str y7.Name, i4 y7.Low, t6, t7, i4 y7.Default.Kind, i4 y7.Default.Num, .str y7.Default.Text, i4 y7.Default.Ref], .box b4 [i4 y6.Next, t5], .box b3 [i4 y5.1.Next, t4], .own true 10 t1 y3.Objects.t, .own true 4 t2 y4.Keys.t, .own true 4 t3 y4.Vals.t, .box b2 (DObject.cells a1), .box b1 (DHeap.cells a0)] := hH
        refine qs 1 [(2, .ptr b1 0 0 2), (3, .ptr b2 0 0 10), (6, .ptr b3 0 0 2), (7, i4 y5.2.1), (8, i4 y5.2.2), (10, .ptr b5 0 0 10), (11, .ptr b6 0 0 2), (12, i4 y8.2.1), (13, i4 y8.2.2), (14, i4 y14.1)] hS ?_; intro s hS
        refine x_nil (sq_n (c_seq (c_region ?_)))
        refine q_load (v := .agg [i4 y7.Id, i4 y7.Kind, .str y7.Name, i4 y7.Low, t6, t7, i4 y7.Default.Kind, i4 y7.Default.Num, .str y7.Default.Text, i4 y7.Default.Ref]) 9 trivial rfl hS hH rfl rfl (by kernel_rfl) ?_; intro s hS
        refine qs 1 [(2, .ptr b1 0 0 2), (3, .ptr b2 0 0 10), (6, .ptr b3 0 0 2), (7, i4 y5.2.1), (8, i4 y5.2.2), (11, .ptr b6 0 0 2), (12, i4 y8.2.1), (13, i4 y8.2.2), (77, .agg [i4 y7.Id, i4 y7.Kind, .str y7.Name, i4 y7.Low, t6, t7, i4 y7.Default.Kind, i4 y7.Default.Num, .str y7.Default.Text, i4 y7.Default.Ref]), (78, i4 y14.1)] hS ?_; intro s hS
        have hH : Heap σ0 σ [.own true 4 t6 y7.Keys.t, .own true 4 t7 y7.Vals.t, .own true 10 t5 y14.2.Objects.t, .own true 4 t10 y12.Keys.t, .own true 4 t11 y12.Vals.t, .own true 10 t9 y10.Objects.t, .own true 10 t8 y8.1.Objects.t, .own true 10 t4 y5.1.Objects.t, .box b6 [i4 y8.1.Next, t8], .box b5 [i4 y7.Id, i4 y7.Kind, .str y7.Name, i4 y7.Low, t6, t7, i4 y7.Default.Kind, i4 y7.Default.Num, .str y7.Default.Text, i4 y7.Default.Ref], .box b4 [i4 y6.Next, t5], .box b3 [i4 y5.1.Next, t4], .own true 10 t1 y3.Objects.t, .own true 4 t2 y4.Keys.t, .own true 4 t3 y4.Vals.t, .box b2 (DObject.cells a1), .box b1 (DHeap.cells a0)] := hH.sel [1, 2, 0, 3, 4, 5, 6, 7, 8, 9, 10, 11, 12, 13, 14, 15, 16] rfl (by kernel_rfl)
        obtain ⟨y15, hy15, h⟩ := bind_some h
        refine q_callR (a := []) (b := []) (xs := [.agg [i4 y7.Id, i4 y7.Kind, .str y7.Name, i4 y7.Low, t6, t7, i4 y7.Default.Kind, i4 y7.Default.Num, .str y7.Default.Text, i4 y7.Default.Ref], i4 y14.1]) (ents := [.own true 4 t6 y7.Keys.t, .own true 4 t7 y7.Vals.t]) rfl hS rfl rfl hH (u_laws_markObject y7 y14.1 y15 hy15 4 t6 4 t7) ?_; intro hs σ s hl hH hS
        have hH : Heap σ0 σ [.own true 4 t6 y15.2.Keys.t, .own true 4 t7 y15.2.Vals.t, .own true 10 t5 y14.2.Objects.t, .own true 4 t10 y12.Keys.t, .own true 4 t11 y12.Vals.t, .own true 10 t9 y10.Objects.t, .own true 10 t8 y8.1.Objects.t, .own true 10 t4 y5.1.Objects.t, .box b6 [i4 y8.1.Next, t8], .box b5 [i4 y7.Id, i4 y7.Kind, .str y7.Name, i4 y7.Low, t6, t7, i4 y7.Default.Kind, i4 y7.Default.Num, .str y7.Default.Text, i4 y7.Default.Ref], .box b4 [i4 y6.Next, t5], .box b3 [i4 y5.1.Next, t4], .own true 10 t1 y3.Objects.t, .own true 4 t2 y4.Keys.t, .own true 4 t3 y4.Vals.t, .box b2 (DObject.cells a1), .box b1 (DHeap.cells a0)] := hH
        refine qs 1 [(2, .ptr b1 0 0 2), (3, .ptr b2 0 0 10), (6, .ptr b3 0 0 2), (7, i4 y5.2.1), (8, i4 y5.2.2), (11, .ptr b6 0 0 2), (12, i4 y8.2.1), (13, i4 y8.2.2), (14, i4 y15.1)] hS ?_; intro s hS
        refine x_nil (sq_n (c_seq (c_seq (c_region ?_))))
        refine qs 3 [(82, .bool (decide (y15.1 < 0))), (2, .ptr b1 0 0 2), (3, .ptr b2 0 0 10), (6, .ptr b3 0 0 2), (7, i4 y5.2.1), (8, i4 y5.2.2), (11, .ptr b6 0 0 2), (12, i4 y8.2.1), (13, i4 y8.2.2)] hS ?_; intro s hS
        by_cases hc8 : (decide (y15.1 < 0)) = true
        ·have h := it_pos hc8 h
         have hS := sub_bt hS hc8
         refine qs 15 [(2, .ptr b1 0 0 2), (3, .ptr b2 0 0 10), (6, .ptr b3 0 0 2), (7, i4 y5.2.1), (8, i4 y5.2.2), (11, .ptr b6 0 0 2), (97, .bool true)] hS ?_; intro s hS
         refine x_nil (sq_n ?_)
         refine c_cond (t := true) hS rfl (fun _ => ?_) (fun hf => by cases hf)
         refine c_seq (c_region ?_)
         refine qs 1 [(4, .bool false)] hS ?_; intro s hS
         refine x_nil (sq_n (c_ret (sq_r ?_)))
         injection h with h; subst h
         exact end_W hH (r_tmp (v := .bool false) hS rfl r_nil) rfl (by kernel_rfl) (by simp [pureT, pureL, E_bool])
        ·have h := it_neg hc8 h
         have hS := sub_bt hS (tt_of hc8)
         refine q_load (v := .agg [i4 y8.1.Next, t8]) 8 trivial rfl hS hH rfl rfl (by kernel_rfl) ?_; intro s hS
         refine q_load (v := .agg [i4 y5.1.Next, t4]) 11 trivial rfl hS hH rfl rfl (by kernel_rfl) ?_; intro s hS
         obtain ⟨y16, hy16, h⟩ := bind_some h
         have hH : Heap σ0 σ [.own true 10 t8 y8.1.Objects.t, .own true 10 t4 y5.1.Objects.t, .own true 4 t6 y15.2.Keys.t, .own true 4 t7 y15.2.Vals.t, .own true 10 t5 y14.2.Objects.t, .own true 4 t10 y12.Keys.t, .own true 4 t11 y12.Vals.t, .own true 10 t9 y10.Objects.t, .box b6 [i4 y8.1.Next, t8], .box b5 [i4 y7.Id, i4 y7.Kind, .str y7.Name, i4 y7.Low, t6, t7, i4 y7.Default.Kind, i4 y7.Default.Num, .str y7.Default.Text, i4 y7.Default.Ref], .box b4 [i4 y6.Next, t5], .box b3 [i4 y5.1.Next, t4], .own true 10 t1 y3.Objects.t, .own true 4 t2 y4.Keys.t, .own true 4 t3 y4.Vals.t, .box b2 (DObject.cells a1), .box b1 (DHeap.cells a0)] := hH.sel [6, 7, 0, 1, 2, 3, 4, 5, 8, 9, 10, 11, 12, 13, 14, 15, 16] rfl (by kernel_rfl)
         refine q_callH (ents := [.own true 10 t8 y8.1.Objects.t, .own true 10 t4 y5.1.Objects.t]) (z := false) (ts := [.agg [i4 y8.1.Next, t8], .agg [i4 y5.1.Next, t4]]) (vs := [.agg (DHeap.cells y8.1), .agg (DHeap.cells y5.1)]) rfl hS rfl rfl rfl hH (HL.agg (es1 := [.own true 10 t8 y8.1.Objects.t]) (es2 := [.own true 10 t4 y5.1.Objects.t]) (HLi (HL.own rfl HL.nil)) (HL.agg (es1 := [.own true 10 t4 y5.1.Objects.t]) (es2 := []) (HLi (HL.own rfl HL.nil)) HL.nil)) hy16 (by kernel_rfl) ?_; intro s hS
         refine qs 3 [(88, .bool (!y16)), (2, .ptr b1 0 0 2), (3, .ptr b2 0 0 10), (6, .ptr b3 0 0 2), (7, i4 y5.2.1), (8, i4 y5.2.2), (11, .ptr b6 0 0 2), (12, i4 y8.2.1), (13, i4 y8.2.2)] hS ?_; intro s hS
         by_cases hc9 : (!y16) = true
         ·have h := it_pos hc9 h
          have hS := sub_bt hS hc9
          refine qs 9 [(2, .ptr b1 0 0 2), (3, .ptr b2 0 0 10), (6, .ptr b3 0 0 2), (7, i4 y5.2.1), (8, i4 y5.2.2), (11, .ptr b6 0 0 2), (97, .bool true)] hS ?_; intro s hS
          refine x_nil (sq_n ?_)
          refine c_cond (t := true) hS rfl (fun _ => ?_) (fun hf => by cases hf)
          refine c_seq (c_region ?_)
          refine qs 1 [(4, .bool false)] hS ?_; intro s hS
          refine x_nil (sq_n (c_ret (sq_r ?_)))
          injection h with h; subst h
          exact end_W hH (r_tmp (v := .bool false) hS rfl r_nil) rfl (by kernel_rfl) (by simp [pureT, pureL, E_bool])
         ·have h := it_neg hc9 h
          have hS := sub_bt hS (tt_of hc9)
          refine qs 5 [(93, .bool (!decide (y8.2.1 = y5.2.1))), (2, .ptr b1 0 0 2), (3, .ptr b2 0 0 10), (6, .ptr b3 0 0 2), (7, i4 y5.2.1), (8, i4 y5.2.2), (11, .ptr b6 0 0 2), (13, i4 y8.2.2)] hS ?_; intro s hS
          have hS := sub_bt hS (tt_of hc4)
          refine qs 4 [(2, .ptr b1 0 0 2), (3, .ptr b2 0 0 10), (6, .ptr b3 0 0 2), (7, i4 y5.2.1), (8, i4 y5.2.2), (11, .ptr b6 0 0 2), (97, .bool (!decide (y8.2.2 = y5.2.2)))] hS ?_; intro s hS
          refine x_nil (sq_n ?_)
          refine c_cond hS rfl (fun hf => tt_absurd hc5 hf) (fun _ => ?_)
          refine c_skip (sq_n (c_seq (c_region ?_)))
          refine qs 1 [(2, .ptr b1 0 0 2), (3, .ptr b2 0 0 10), (6, .ptr b3 0 0 2), (7, i4 y5.2.1), (8, i4 y5.2.2), (11, .ptr b6 0 0 2), (15, i4 1)] hS ?_; intro s hS
          refine x_nil (sq_n (c_seq (c_region ?_)))
          refine q_load (v := .agg [i4 y8.1.Next, t8]) 8 trivial rfl hS hH rfl rfl (by kernel_rfl) ?_; intro s hS
          refine qs 1 [(2, .ptr b1 0 0 2), (3, .ptr b2 0 0 10), (6, .ptr b3 0 0 2), (7, i4 y5.2.1), (8, i4 y5.2.2), (11, .ptr b6 0 0 2), (98, .agg [i4 y8.1.Next, t8]), (99, i4 1)] hS ?_; intro s hS
          obtain ⟨y17, hy17, h⟩ := bind_some h
          refine q_callR (a := []) (b := []) (xs := [.agg [i4 y8.1.Next, t8], i4 1]) (ents := [.own true 10 t8 y8.1.Objects.t]) rfl hS rfl rfl hH (u_laws_markHeap y8.1 1 y17 hy17 10 t8) ?_; intro hs σ s hl hH hS
          have hH : Heap σ0 σ [.own true 10 t8 y17.2.Objects.t, .own true 10 t4 y5.1.Objects.t, .own true 4 t6 y15.2.Keys.t, .own true 4 t7 y15.2.Vals.t, .own true 10 t5 y14.2.Objects.t, .own true 4 t10 y12.Keys.t, .own true 4 t11 y12.Vals.t, .own true 10 t9 y10.Objects.t, .box b6 [i4 y8.1.Next, t8], .box b5 [i4 y7.Id, i4 y7.Kind, .str y7.Name, i4 y7.Low, t6, t7, i4 y7.Default.Kind, i4 y7.Default.Num, .str y7.Default.Text, i4 y7.Default.Ref], .box b4 [i4 y6.Next, t5], .box b3 [i4 y5.1.Next, t4], .own true 10 t1 y3.Objects.t, .own true 4 t2 y4.Keys.t, .own true 4 t3 y4.Vals.t, .box b2 (DObject.cells a1), .box b1 (DHeap.cells a0)] := hH
          refine qs 1 [(2, .ptr b1 0 0 2), (3, .ptr b2 0 0 10), (6, .ptr b3 0 0 2), (7, i4 y5.2.1), (8, i4 y5.2.2), (11, .ptr b6 0 0 2), (15, i4 y17.1)] hS ?_; intro s hS
          refine x_nil (sq_n (c_seq (c_region ?_)))
          refine qs 1 [(2, .ptr b1 0 0 2), (3, .ptr b2 0 0 10), (6, .ptr b3 0 0 2), (7, i4 y5.2.1), (8, i4 y5.2.2), (11, .ptr b6 0 0 2), (15, i4 y17.1), (16, i4 1)] hS ?_; intro s hS
          refine x_nil (sq_n (c_seq (c_region ?_)))
          refine q_load (v := .agg [i4 y8.1.Next, t8]) 8 trivial rfl hS hH rfl rfl (by kernel_rfl) ?_; intro s hS
          refine qs 1 [(2, .ptr b1 0 0 2), (3, .ptr b2 0 0 10), (6, .ptr b3 0 0 2), (7, i4 y5.2.1), (8, i4 y5.2.2), (11, .ptr b6 0 0 2), (15, i4 y17.1), (101, .agg [i4 y8.1.Next, t8]), (102, i4 1)] hS ?_; intro s hS
          obtain ⟨y18, hy18, h⟩ := bind_some h
          refine q_callH (ents := [.own true 10 t8 y17.2.Objects.t]) (z := false) (ts := [.agg [i4 y8.1.Next, t8], i4 1]) (vs := [.agg [i4 y8.1.Next, y17.2.Objects.t], i4 1]) rfl hS rfl rfl rfl hH (HL.agg (es1 := [.own true 10 t8 y17.2.Objects.t]) (es2 := []) (HLi (HL.own rfl HL.nil)) (HLi HL.nil)) hy18 (by kernel_rfl) ?_; intro s hS
          refine qs 1 [(2, .ptr b1 0 0 2), (3, .ptr b2 0 0 10), (6, .ptr b3 0 0 2), (7, i4 y5.2.1), (8, i4 y5.2.2), (11, .ptr b6 0 0 2), (15, i4 y17.1), (16, i4 y18)] hS ?_; intro s hS
          refine x_nil (sq_n (c_seq (c_seq (c_region ?_))))
          refine qs 2 [(2, .ptr b1 0 0 2), (3, .ptr b2 0 0 10), (6, .ptr b3 0 0 2), (7, i4 y5.2.1), (8, i4 y5.2.2), (11, .ptr b6 0 0 2), (15, i4 y17.1), (16, i4 y18), (105, .bool (decide (y18 < 0)))] hS ?_; intro s hS
          refine x_nil (sq_n ?_)
          by_cases hc10 : (decide (y18 < 0)) = true
          ·have h := it_pos hc10 h
           refine c_cond hS rfl (fun _ => ?_) (fun hf => ff_absurd hc10 hf)
           refine c_seq (c_region ?_)
           refine qs 1 [(4, .bool false)] hS ?_; intro s hS
           refine x_nil (sq_n (c_ret (sq_r ?_)))
           injection h with h; subst h
           exact end_W hH (r_tmp (v := .bool false) hS rfl r_nil) rfl (by kernel_rfl) (by simp [pureT, pureL, E_bool])
          ·have h := it_neg hc10 h
           refine c_cond hS rfl (fun hf => tt_absurd hc10 hf) (fun _ => ?_)
           refine c_skip (sq_n (c_seq (c_seq (c_region ?_))))
           refine qs 3 [(2, .ptr b1 0 0 2), (3, .ptr b2 0 0 10), (6, .ptr b3 0 0 2), (7, i4 y5.2.1), (8, i4 y5.2.2), (11, .ptr b6 0 0 2), (15, i4 y17.1), (108, .bool (!decide (y18 = y17.1)))] hS ?_; intro s hS
           refine x_nil (sq_n ?_)
           by_cases hc11 : (!decide (y18 = y17.1)) = true
           ·have h := it_pos hc11 h
            refine c_cond hS rfl (fun _ => ?_) (fun hf => ff_absurd hc11 hf)
            refine c_seq (c_region ?_)
            refine qs 1 [(4, .bool false)] hS ?_; intro s hS
            refine x_nil (sq_n (c_ret (sq_r ?_)))
            injection h with h; subst h
            exact end_W hH (r_tmp (v := .bool false) hS rfl r_nil) rfl (by kernel_rfl) (by simp [pureT, pureL, E_bool])
           ·have h := it_neg hc11 h
            refine c_cond hS rfl (fun hf => tt_absurd hc11 hf) (fun _ => ?_)
            refine c_skip (sq_n (c_seq ?_))
            refine c_chain (W2 (fun _ => False) (fun _ => False)) (fun _ => rfl) (by kernel_rfl) (by kernel_rfl) hH ?_; intro mb σs σ hn0 hlt hlto hH
            have hlt_b2 : b2 < mb := hlt b2 _ (List.Mem.tail _ (List.Mem.tail _ (List.Mem.tail _ (List.Mem.tail _ (List.Mem.tail _ (List.Mem.tail _ (List.Mem.tail _ (List.Mem.tail _ (List.Mem.tail _ (List.Mem.tail _ (List.Mem.tail _ (List.Mem.tail _ (List.Mem.tail _ (List.Mem.tail _ (List.Mem.tail _ (List.Mem.head _))))))))))))))))
            refine q_load (v := .agg (DHeap.cells a0)) 16 (Or.inl (by kernel_rfl)) rfl hS hH rfl rfl (by kernel_rfl) ?_; intro s hS
            obtain ⟨y19, hy19, h⟩ := bind_some h
            refine q_callO (ents := []) (z := false) (ts := [.agg (DHeap.cells a0)]) (vs := [.agg (DHeap.cells a0)]) rfl rfl hS rfl rfl rfl hH (HL.agg (es1 := []) (es2 := []) (HLi (HLp HL.nil)) HL.nil) hy19 ?_; intro hs σ s hl hH hS
            obtain ⟨t12, rfl⟩ := len1 hl
            have hH : Heap σ0 σ [.own true 10 t12 y19.Objects.t, .own true 10 t8 y17.2.Objects.t, .own true 10 t4 y5.1.Objects.t, .own true 4 t6 y15.2.Keys.t, .own true 4 t7 y15.2.Vals.t, .own true 10 t5 y14.2.Objects.t, .own true 4 t10 y12.Keys.t, .own true 4 t11 y12.Vals.t, .own true 10 t9 y10.Objects.t, .box b6 [i4 y8.1.Next, t8], .box b5 [i4 y7.Id, i4 y7.Kind, .str y7.Name, i4 y7.Low, t6, t7, i4 y7.Default.Kind, i4 y7.Default.Num, .str y7.Default.Text, i4 y7.Default.Ref], .box b4 [i4 y6.Next, t5], .box b3 [i4 y5.1.Next, t4], .own true 10 t1 y3.Objects.t, .own true 4 t2 y4.Keys.t, .own true 4 t3 y4.Vals.t, .box b2 (DObject.cells a1), .box b1 (DHeap.cells a0)] := hH
            have ht12 : IsOne t12 := Heap.one hH
            refine q_load (v := .agg (DObject.cells a1)) 16 (Or.inr ⟨hlt_b2, Or.inl (by kernel_rfl)⟩) rfl hS hH rfl rfl (by kernel_rfl) ?_; intro s hS
            obtain ⟨y20, hy20, h⟩ := bind_some h
            refine q_callO (ents := []) (z := false) (ts := [.agg (DObject.cells a1)]) (vs := [.agg (DObject.cells a1)]) rfl rfl hS rfl rfl rfl hH (HL.agg (es1 := []) (es2 := []) (HLi (HLi (HLs (HLi (HLp (HLp (HLi (HLi (HLs (HLi HL.nil)))))))))) HL.nil) hy20 ?_; intro hs σ s hl hH hS
            obtain ⟨t13, t14, rfl⟩ := len2 hl
            have hH : Heap σ0 σ [.own true 4 t13 y20.Keys.t, .own true 4 t14 y20.Vals.t, .own true 10 t12 y19.Objects.t, .own true 10 t8 y17.2.Objects.t, .own true 10 t4 y5.1.Objects.t, .own true 4 t6 y15.2.Keys.t, .own true 4 t7 y15.2.Vals.t, .own true 10 t5 y14.2.Objects.t, .own true 4 t10 y12.Keys.t, .own true 4 t11 y12.Vals.t, .own true 10 t9 y10.Objects.t, .box b6 [i4 y8.1.Next, t8], .box b5 [i4 y7.Id, i4 y7.Kind, .str y7.Name, i4 y7.Low, t6, t7, i4 y7.Default.Kind, i4 y7.Default.Num, .str y7.Default.Text, i4 y7.Default.Ref], .box b4 [i4 y6.Next, t5], .box b3 [i4 y5.1.Next, t4], .own true 10 t1 y3.Objects.t, .own true 4 t2 y4.Keys.t, .own true 4 t3 y4.Vals.t, .box b2 (DObject.cells a1), .box b1 (DHeap.cells a0)] := hH
            have ht13 : IsOne t13 := Heap.one hH
            have ht14 : IsOne t14 := Heap.one (hH.at 1 rfl)
            obtain ⟨y21, hy21, h⟩ := bind_some h
            have hH : Heap σ0 σ [.own true 10 t12 y19.Objects.t, .own true 4 t13 y20.Keys.t, .own true 4 t14 y20.Vals.t, .own true 10 t8 y17.2.Objects.t, .own true 10 t4 y5.1.Objects.t, .own true 4 t6 y15.2.Keys.t, .own true 4 t7 y15.2.Vals.t, .own true 10 t5 y14.2.Objects.t, .own true 4 t10 y12.Keys.t, .own true 4 t11 y12.Vals.t, .own true 10 t9 y10.Objects.t, .box b6 [i4 y8.1.Next, t8], .box b5 [i4 y7.Id, i4 y7.Kind, .str y7.Name, i4 y7.Low, t6, t7, i4 y7.Default.Kind, i4 y7.Default.Num, .str y7.Default.Text, i4 y7.Default.Ref], .box b4 [i4 y6.Next, t5], .box b3 [i4 y5.1.Next, t4], .own true 10 t1 y3.Objects.t, .own true 4 t2 y4.Keys.t, .own true 4 t3 y4.Vals.t, .box b2 (DObject.cells a1), .box b1 (DHeap.cells a0)] := hH.sel [2, 0, 1, 3, 4, 5, 6, 7, 8, 9, 10, 11, 12, 13, 14, 15, 16, 17, 18, 19] rfl (by kernel_rfl)
            refine q_callO (ents := [.own true 10 t12 y19.Objects.t, .own true 4 t13 y20.Keys.t, .own true 4 t14 y20.Vals.t]) (z := false) (ts := [.agg [i4 y19.Next, t12], .agg [i4 y20.Id, i4 y20.Kind, .str y20.Name, i4 y20.Low, t13, t14, i4 y20.Default.Kind, i4 y20.Default.Num, .str y20.Default.Text, i4 y20.Default.Ref]]) (vs := [.agg (DHeap.cells y19), .agg (DObject.cells y20)]) rfl rfl hS rfl rfl rfl hH (HL.agg (es1 := [.own true 10 t12 y19.Objects.t]) (es2 := [.own true 4 t13 y20.Keys.t, .own true 4 t14 y20.Vals.t]) (HLi (HL.own rfl HL.nil)) (HL.agg (es1 := [.own true 4 t13 y20.Keys.t, .own true 4 t14 y20.Vals.t]) (es2 := []) (HLi (HLi (HLs (HLi (HL.own rfl (HL.own rfl (HLi (HLi (HLs (HLi HL.nil)))))))))) HL.nil)) hy21 ?_; intro hs σ s hl hH hS
            obtain ⟨t15, rfl⟩ := len1 hl
            have hH : Heap σ0 σ [.own true 10 t15 y21.1.Objects.t, .own true 10 t12 y19.Objects.t, .own true 4 t13 y20.Keys.t, .own true 4 t14 y20.Vals.t, .own true 10 t8 y17.2.Objects.t, .own true 10 t4 y5.1.Objects.t, .own true 4 t6 y15.2.Keys.t, .own true 4 t7 y15.2.Vals.t, .own true 10 t5 y14.2.Objects.t, .own true 4 t10 y12.Keys.t, .own true 4 t11 y12.Vals.t, .own true 10 t9 y10.Objects.t, .box b6 [i4 y8.1.Next, t8], .box b5 [i4 y7.Id, i4 y7.Kind, .str y7.Name, i4 y7.Low, t6, t7, i4 y7.Default.Kind, i4 y7.Default.Num, .str y7.Default.Text, i4 y7.Default.Ref], .box b4 [i4 y6.Next, t5], .box b3 [i4 y5.1.Next, t4], .own true 10 t1 y3.Objects.t, .own true 4 t2 y4.Keys.t, .own true 4 t3 y4.Vals.t, .box b2 (DObject.cells a1), .box b1 (DHeap.cells a0)] := hH
            have ht15 : IsOne t15 := Heap.one hH
            refine qs 4 [(6, .ptr b3 0 0 2), (7, i4 y5.2.1), (8, i4 y5.2.2), (11, .ptr b6 0 0 2), (15, i4 y17.1), (115, .agg [i4 y21.1.Next, t15]), (116, i4 y21.2.1), (117, i4 y21.2.2)] hS ?_; intro s hS
            refine q_allocC rfl (by exact hn0) (z := [i4 0, (nt DObject)]) rfl hS hH (by kernel_rfl) ?_; intro b7 σ s hwr_b7 hH hS
            refine q_storeC rfl (v := .agg [i4 y21.1.Next, t15]) (cs := [i4 y21.1.Next, t15]) (cells' := [i4 y21.1.Next, t15]) (by exact Or.inl hwr_b7) rfl hS hH rfl rfl rfl (by simp [ht15.1, ht15.2]) (by kernel_rfl) ?_; intro σ s hH hS
            refine qs 2 [(6, .ptr b3 0 0 2), (7, i4 y5.2.1), (8, i4 y5.2.2), (11, .ptr b6 0 0 2), (15, i4 y17.1), (17, .ptr b7 0 0 2), (18, i4 y21.2.1), (19, i4 y21.2.2)] hS ?_; intro s hS
            refine x_nil (sq_n (c_seq (c_seq (c_region ?_))))
            refine q_load (v := .agg [i4 y21.1.Next, t15]) 0 trivial rfl hS hH rfl rfl (by kernel_rfl) ?_; intro s hS
            refine q_load (v := .agg [i4 y5.1.Next, t4]) 16 trivial rfl hS hH rfl rfl (by kernel_rfl) ?_; intro s hS
            obtain ⟨y22, hy22, h⟩ := bind_some h
            have hH : Heap σ0 σ [.own true 10 t15 y21.1.Objects.t, .own true 10 t4 y5.1.Objects.t, .box b7 [i4 y21.1.Next, t15], .own true 10 t12 y19.Objects.t, .own true 4 t13 y20.Keys.t, .own true 4 t14 y20.Vals.t, .own true 10 t8 y17.2.Objects.t, .own true 4 t6 y15.2.Keys.t, .own true 4 t7 y15.2.Vals.t, .own true 10 t5 y14.2.Objects.t, .own true 4 t10 y12.Keys.t, .own true 4 t11 y12.Vals.t, .own true 10 t9 y10.Objects.t, .box b6 [i4 y8.1.Next, t8], .box b5 [i4 y7.Id, i4 y7.Kind, .str y7.Name, i4 y7.Low, t6, t7, i4 y7.Default.Kind, i4 y7.Default.Num, .str y7.Default.Text, i4 y7.Default.Ref], .box b4 [i4 y6.Next, t5], .box b3 [i4 y5.1.Next, t4], .own true 10 t1 y3.Objects.t, .own true 4 t2 y4.Keys.t, .own true 4 t3 y4.Vals.t, .box b2 (DObject.cells a1), .box b1 (DHeap.cells a0)] := hH.sel [1, 6, 0, 2, 3, 4, 5, 7, 8, 9, 10, 11, 12, 13, 14, 15, 16, 17, 18, 19, 20, 21] rfl (by kernel_rfl)
            refine q_callH (ents := [.own true 10 t15 y21.1.Objects.t, .own true 10 t4 y5.1.Objects.t]) (z := false) (ts := [.agg [i4 y21.1.Next, t15], .agg [i4 y5.1.Next, t4]]) (vs := [.agg (DHeap.cells y21.1), .agg (DHeap.cells y5.1)]) rfl hS rfl rfl rfl hH (HL.agg (es1 := [.own true 10 t15 y21.1.Objects.t]) (es2 := [.own true 10 t4 y5.1.Objects.t]) (HLi (HL.own rfl HL.nil)) (HL.agg (es1 := [.own true 10 t4 y5.1.Objects.t]) (es2 := []) (HLi (HL.own rfl HL.nil)) HL.nil)) hy22 (by kernel_rfl) ?_; intro s hS
            refine qs 2 [(122, .bool (!y22)), (7, i4 y5.2.1), (8, i4 y5.2.2), (11, .ptr b6 0 0 2), (15, i4 y17.1), (18, i4 y21.2.1), (19, i4 y21.2.2)] hS ?_; intro s hS
            by_cases hc12 : (!y22) = true
            ·have h := it_pos hc12 h
             have hS := sub_bt hS hc12
             refine qs 9 [(11, .ptr b6 0 0 2), (15, i4 y17.1), (131, .bool true)] hS ?_; intro s hS
             refine x_nil (sq_n ?_)
             refine c_cond (t := true) hS rfl (fun _ => ?_) (fun hf => by cases hf)
             refine c_seq (c_region ?_)
             refine qs 1 [(4, .bool false)] hS ?_; intro s hS
             refine x_nil (sq_n (c_ret (sq_r ?_)))
             injection h with h; subst h
             exact end_W hH (r_tmp (v := .bool false) hS rfl r_nil) rfl (by kernel_rfl) (by simp [pureT, pureL, E_bool])
            ·have h := it_neg hc12 h
             have hS := sub_bt hS (tt_of hc12)
             refine qs 5 [(127, .bool (!decide (y21.2.1 = y5.2.1))), (8, i4 y5.2.2), (11, .ptr b6 0 0 2), (15, i4 y17.1), (19, i4 y21.2.2)] hS ?_; intro s hS
             by_cases hc13 : (!decide (y21.2.1 = y5.2.1)) = true
             ·have h := it_pos hc13 h
              have hS := sub_bt hS hc13
              refine qs 4 [(11, .ptr b6 0 0 2), (15, i4 y17.1), (131, .bool true)] hS ?_; intro s hS
              refine x_nil (sq_n ?_)
              refine c_cond (t := true) hS rfl (fun _ => ?_) (fun hf => by cases hf)
              refine c_seq (c_region ?_)
              refine qs 1 [(4, .bool false)] hS ?_; intro s hS
              refine x_nil (sq_n (c_ret (sq_r ?_)))
              injection h with h; subst h
              exact end_W hH (r_tmp (v := .bool false) hS rfl r_nil) rfl (by kernel_rfl) (by simp [pureT, pureL, E_bool])
             ·have h := it_neg hc13 h
              have hS := sub_bt hS (tt_of hc13)
              refine qs 4 [(11, .ptr b6 0 0 2), (15, i4 y17.1), (131, .bool (!decide (y21.2.2 = y5.2.2)))] hS ?_; intro s hS
              refine x_nil (sq_n ?_)
              by_cases hc14 : (!decide (y21.2.2 = y5.2.2)) = true
              ·have h := it_pos hc14 h
               refine c_cond hS rfl (fun _ => ?_) (fun hf => ff_absurd hc14 hf)
               refine c_seq (c_region ?_)
               refine qs 1 [(4, .bool false)] hS ?_; intro s hS
               refine x_nil (sq_n (c_ret (sq_r ?_)))
               injection h with h; subst h
               exact end_W hH (r_tmp (v := .bool false) hS rfl r_nil) rfl (by kernel_rfl) (by simp [pureT, pureL, E_bool])
              ·have h := it_neg hc14 h
               refine c_cond hS rfl (fun hf => tt_absurd hc14 hf) (fun _ => ?_)
               refine c_skip (sq_n (c_seq (c_region ?_)))
               refine qs 1 [(11, .ptr b6 0 0 2), (15, i4 y17.1), (16, i4 1)] hS ?_; intro s hS
               refine x_nil (sq_n (c_seq (c_region ?_)))
               refine q_load (v := .agg [i4 y8.1.Next, t8]) 13 trivial rfl hS hH rfl rfl (by kernel_rfl) ?_; intro s hS
               refine qs 1 [(15, i4 y17.1), (132, .agg [i4 y8.1.Next, t8]), (133, i4 1)] hS ?_; intro s hS
               obtain ⟨y23, hy23, h⟩ := bind_some h
               have hH : Heap σ0 σ [.own true 10 t8 y17.2.Objects.t, .own true 10 t15 y21.1.Objects.t, .own true 10 t4 y5.1.Objects.t, .box b7 [i4 y21.1.Next, t15], .own true 10 t12 y19.Objects.t, .own true 4 t13 y20.Keys.t, .own true 4 t14 y20.Vals.t, .own true 4 t6 y15.2.Keys.t, .own true 4 t7 y15.2.Vals.t, .own true 10 t5 y14.2.Objects.t, .own true 4 t10 y12.Keys.t, .own true 4 t11 y12.Vals.t, .own true 10 t9 y10.Objects.t, .box b6 [i4 y8.1.Next, t8], .box b5 [i4 y7.Id, i4 y7.Kind, .str y7.Name, i4 y7.Low, t6, t7, i4 y7.Default.Kind, i4 y7.Default.Num, .str y7.Default.Text, i4 y7.Default.Ref], .box b4 [i4 y6.Next, t5], .box b3 [i4 y5.1.Next, t4], .own true 10 t1 y3.Objects.t, .own true 4 t2 y4.Keys.t, .own true 4 t3 y4.Vals.t, .box b2 (DObject.cells a1), .box b1 (DHeap.cells a0)] := hH.sel [6, 0, 1, 2, 3, 4, 5, 7, 8, 9, 10, 11, 12, 13, 14, 15, 16, 17, 18, 19, 20, 21] rfl (by kernel_rfl)
               refine q_callH (ents := [.own true 10 t8 y17.2.Objects.t]) (z := false) (ts := [.agg [i4 y8.1.Next, t8], i4 1]) (vs := [.agg [i4 y8.1.Next, y17.2.Objects.t], i4 1]) rfl hS rfl rfl rfl hH (HL.agg (es1 := [.own true 10 t8 y17.2.Objects.t]) (es2 := []) (HLi (HL.own rfl HL.nil)) (HLi HL.nil)) hy23 (by kernel_rfl) ?_; intro s hS
               refine qs 1 [(15, i4 y17.1), (16, i4 y23)] hS ?_; intro s hS
               refine x_nil (sq_n (c_seq (c_seq (c_region ?_))))
               refine qs 2 [(15, i4 y17.1), (16, i4 y23), (136, .bool (decide (y23 < 0)))] hS ?_; intro s hS
               refine x_nil (sq_n ?_)
               by_cases hc15 : (decide (y23 < 0)) = true
               ·have h := it_pos hc15 h
                refine c_cond hS rfl (fun _ => ?_) (fun hf => ff_absurd hc15 hf)
                refine c_seq (c_region ?_)
                refine qs 1 [(4, .bool false)] hS ?_; intro s hS
                refine x_nil (sq_n (c_ret (sq_r ?_)))
                injection h with h; subst h
                exact end_W hH (r_tmp (v := .bool false) hS rfl r_nil) rfl (by kernel_rfl) (by simp [pureT, pureL, E_bool])
               ·have h := it_neg hc15 h
                refine c_cond hS rfl (fun hf => tt_absurd hc15 hf) (fun _ => ?_)
                refine c_skip (sq_n (c_seq (c_seq (c_region ?_))))
                refine qs 3 [(139, .bool (!decide (y23 = y17.1)))] hS ?_; intro s hS
                refine x_nil (sq_n ?_)
                by_cases hc16 : (!decide (y23 = y17.1)) = true
                ·have h := it_pos hc16 h
                 refine c_cond hS rfl (fun _ => ?_) (fun hf => ff_absurd hc16 hf)
                 refine c_seq (c_region ?_)
                 refine qs 1 [(4, .bool false)] hS ?_; intro s hS
                 refine x_nil (sq_n (c_ret (sq_r ?_)))
                 injection h with h; subst h
                 exact end_W hH (r_tmp (v := .bool false) hS rfl r_nil) rfl (by kernel_rfl) (by simp [pureT, pureL, E_bool])
                ·have h := it_neg hc16 h
                 refine c_cond hS rfl (fun hf => tt_absurd hc16 hf) (fun _ => ?_)
                 refine c_skip (sq_n (c_seq (c_region ?_)))
                 refine qs 1 [(4, .bool true)] hS ?_; intro s hS
                 refine x_nil (sq_n (c_ret ?_))
                 injection h with h; subst h
                 exact end_W hH (r_tmp (v := .bool true) hS rfl r_nil) rfl (by kernel_rfl) (by simp [pureT, pureL, E_bool])
noncomputable def B_laws_szHeap (a0 : DHeap) (a1 : Int) : Option Int := ((F_laws_szObjectS a0.Objects a1).bind fun y1 => (if (decide (y1 < 0)) = true then (some (-1)) else (some y1)))
theorem u_laws_szHeap (a0 : DHeap) (a1 : Int) (r : Int) (h : B_laws_szHeap a0 a1 = some r) : F_laws_szHeap a0 a1 = some r := by
 unfold B_laws_szHeap at h
 refine semW_of E_i64_inj rfl rfl ok_14 rfl (all_cons (by kernel_rfl) (all_cons (by kernel_rfl) all_nil)) ?_
 intro σ0 s hS hH
 have hS := sub_to (L' := [(0, .agg (DHeap.cells a0)), (1, i4 a1)]) hS (by kernel_rfl)
 refine c_seq (c_region ?_)
 refine q_box (v := .agg (DHeap.cells a0)) (cs := [i4 a0.Next, a0.Objects.t]) rfl hS hH rfl rfl (by kernel_rfl) ?_; intro b1 σ s hH hS
 refine qs 1 [(1, i4 a1), (2, .ptr b1 0 0 2)] hS ?_; intro s hS
 refine x_nil (sq_n (c_seq (c_region ?_)))
 refine qs 1 [(1, i4 a1), (5, .ptr b1 0 1 1)] hS ?_; intro s hS
 refine q_load (v := a0.Objects.t) 0 trivial rfl hS hH rfl rfl (by kernel_rfl) ?_; intro s hS
 refine qs 1 [(6, a0.Objects.t), (7, i4 a1)] hS ?_; intro s hS
 obtain ⟨y1, hy1, h⟩ := bind_some h
 refine q_callF (a := []) (b := []) (xs := [a0.Objects.t, i4 a1]) rfl hS rfl rfl hy1 ?_; intro s hS
 refine qs 1 [(1, i4 y1)] hS ?_; intro s hS
 refine x_nil (sq_n (c_seq (c_seq (c_region ?_))))
 refine qs 2 [(1, i4 y1), (10, .bool (decide (y1 < 0)))] hS ?_; intro s hS
 refine x_nil (sq_n ?_)
 by_cases hc1 : (decide (y1 < 0)) = true
 ·have h := it_pos hc1 h
  refine c_cond hS rfl (fun _ => ?_) (fun hf => ff_absurd hc1 hf)
  refine c_seq (c_region ?_)
  refine qs 1 [(4, i4 (-1))] hS ?_; intro s hS
  refine x_nil (sq_n (c_ret (sq_r ?_)))
  injection h with h; subst h
  exact end_W hH (r_tmp (v := i4 (-1)) hS rfl r_nil) rfl (by kernel_rfl) (by simp [pureT, pureL, E_i64])
 ·have h := it_neg hc1 h
  refine c_cond hS rfl (fun hf => tt_absurd hc1 hf) (fun _ => ?_)
  refine c_skip (sq_n (c_seq (c_region ?_)))
  refine qs 2 [(4, i4 y1)] hS ?_; intro s hS
  refine x_nil (sq_n (c_ret ?_))
  injection h with h; subst h
  exact end_W hH (r_tmp (v := i4 y1) hS rfl r_nil) rfl (by kernel_rfl) (by simp [pureT, pureL, E_i64])
noncomputable def B_laws_toHeap (a0 : DHeap) : Option DHeap := ((F_laws_toObjectS a0.Objects).bind fun y1 => (some (⟨a0.Next, y1⟩ : DHeap)))
theorem u_laws_toHeap (a0 : DHeap) (r : DHeap) (h : B_laws_toHeap a0 = some r) : F_laws_toHeap a0 = some r := by
 unfold B_laws_toHeap at h
 refine semO_of rfl rfl ok_16 rfl (all_cons (by kernel_rfl) all_nil) ?_
 intro σ0 s hS hH
 have hS := sub_to (L' := [(0, .agg (DHeap.cells a0))]) hS (by kernel_rfl)
 refine c_seq (c_region ?_)
 refine q_box (v := .agg (DHeap.cells a0)) (cs := [i4 a0.Next, a0.Objects.t]) rfl hS hH rfl rfl (by kernel_rfl) ?_; intro b1 σ s hH hS
 refine q_alloc (z := [i4 0, (nt DObject)]) rfl hS hH (by kernel_rfl) ?_; intro b2 σ s hH hS
 refine x_nil (sq_n (c_seq (c_region ?_)))
 refine q_alloc (z := [i4 0, (nt DObject)]) rfl hS hH (by kernel_rfl) ?_; intro b3 σ s hH hS
 refine x_nil (sq_n (c_seq (c_region ?_)))
 refine qs 1 [(1, .ptr b1 0 0 2), (2, .ptr b2 0 0 2), (3, .ptr b3 0 0 2), (4, .ptr b1 0 0 1)] hS ?_; intro s hS
 refine q_load (v := i4 a0.Next) 2 trivial rfl hS hH rfl rfl (by kernel_rfl) ?_; intro s hS
 refine qs 1 [(1, .ptr b1 0 0 2), (2, .ptr b2 0 0 2), (3, .ptr b3 0 0 2), (5, i4 a0.Next), (6, .ptr b3 0 0 1)] hS ?_; intro s hS
 refine q_store (v := i4 a0.Next) (cs := [i4 a0.Next]) (cells' := [i4 a0.Next, (nt DObject)]) rfl hS hH rfl rfl rfl (by kernel_rfl) (by kernel_rfl) ?_; intro σ s hH hS
 refine x_nil (sq_n (c_seq (c_region ?_)))
 refine qs 1 [(2, .ptr b2 0 0 2), (3, .ptr b3 0 0 2), (7, .ptr b1 0 1 1)] hS ?_; intro s hS
 refine q_load (v := a0.Objects.t) 2 trivial rfl hS hH rfl rfl (by kernel_rfl) ?_; intro s hS
 obtain ⟨y1, hy1, h⟩ := bind_some h
 refine q_callO (ents := []) (z := false) (ts := [a0.Objects.t]) (vs := [a0.Objects.t]) rfl rfl hS rfl rfl rfl hH (HLp HL.nil) hy1 ?_; intro hs σ s hl hH hS
 obtain ⟨t1, rfl⟩ := len1 hl
 have hH : Heap σ0 σ [.own true 10 t1 y1.t, .box b3 [i4 a0.Next, (nt DObject)], .box b2 [i4 0, (nt DObject)], .box b1 (DHeap.cells a0)] := hH
 have ht1 : IsOne t1 := Heap.one hH
 refine qs 1 [(2, .ptr b2 0 0 2), (3, .ptr b3 0 0 2), (9, t1), (10, .ptr b3 0 1 1)] hS ?_; intro s hS
 have hH : Heap σ0 σ [.box b3 [i4 a0.Next, (nt DObject)], .own true 10 t1 y1.t, .box b2 [i4 0, (nt DObject)], .box b1 (DHeap.cells a0)] := hH.sel [1, 0, 2, 3] rfl (by kernel_rfl)
 refine q_store (v := t1) (cs := [t1]) (cells' := [i4 a0.Next, t1]) rfl hS hH rfl rfl (by simp [ht1.1, ht1.2]) (by simp [ht1.1, ht1.2]) (by kernel_rfl) ?_; intro σ s hH hS
 refine x_nil (sq_n (c_seq (c_region ?_)))
 refine q_load (v := .agg [i4 a0.Next, t1]) 0 trivial rfl hS hH rfl rfl (by kernel_rfl) ?_; intro s hS
 have hH : Heap σ0 σ [.box b2 [i4 0, (nt DObject)], .box b3 [i4 a0.Next, t1], .own true 10 t1 y1.t, .box b1 (DHeap.cells a0)] := hH.sel [2, 0, 1, 3] rfl (by kernel_rfl)
 refine q_storeA (cs := [i4 a0.Next, t1]) rfl hS hH rfl rfl (by simp [ht1.1, ht1.2]) ?_; intro σ s hH hS
 refine x_nil (sq_n (c_ret ?_))
 injection h with h; subst h
 have hH : Heap σ0 σ [.own true 10 t1 y1.t, .box b2 [i4 a0.Next, t1], .box b3 [i4 a0.Next, t1], .box b1 (DHeap.cells a0)] := hH.sel [2, 0, 1, 3] rfl (by kernel_rfl)
 exact end_Ow [t1] [.box b2 [i4 a0.Next, t1], .box b3 [i4 a0.Next, t1], .box b1 (DHeap.cells a0)] (r_cell (v := .agg [i4 a0.Next, t1]) hS (hH.at 1 rfl) rfl (by kernel_rfl) r_nil) (by kernel_rfl) rfl hH (by kernel_rfl)
noncomputable def B_laws_eqObject (a0 : DObject) (a1 : DObject) : Option Bool := (if (!decide (a0.Id = a1.Id)) = true then (some false) else (if (!decide (a0.Kind = a1.Kind)) = true then (some false) else (if (!decide (a0.Name = a1.Name)) = true then (some false) else (if (!decide (a0.Low = a1.Low)) = true then (some false) else ((F_laws_eqValueS a0.Keys a1.Keys).bind fun y1 => (if (!y1) = true then (some false) else ((F_laws_eqValueS a0.Vals a1.Vals).bind fun y2 => (if (!y2) = true then (some false) else ((F_laws_eqValue a0.Default a1.Default).bind fun y3 => (if (!y3) = true then (some false) else (some true)))))))))))
theorem u_laws_eqObject (a0 : DObject) (a1 : DObject) (r : Bool) (h : B_laws_eqObject a0 a1 = some r) : F_laws_eqObject a0 a1 = some r := by
 unfold B_laws_eqObject at h
 refine semW_of E_bool_inj rfl rfl ok_18 rfl (all_cons (by kernel_rfl) (all_cons (by kernel_rfl) all_nil)) ?_
 intro σ0 s hS hH
 have hS := sub_to (L' := [(0, .agg (DObject.cells a0)), (1, .agg (DObject.cells a1))]) hS (by kernel_rfl)
 refine c_seq (c_region ?_)
 refine q_box (v := .agg (DObject.cells a0)) (cs := [i4 a0.Id, i4 a0.Kind, .str a0.Name, i4 a0.Low, a0.Keys.t, a0.Vals.t, i4 a0.Default.Kind, i4 a0.Default.Num, .str a0.Default.Text, i4 a0.Default.Ref]) rfl hS hH rfl rfl (by kernel_rfl) ?_; intro b1 σ s hH hS
 refine q_box (v := .agg (DObject.cells a1)) (cs := [i4 a1.Id, i4 a1.Kind, .str a1.Name, i4 a1.Low, a1.Keys.t, a1.Vals.t, i4 a1.Default.Kind, i4 a1.Default.Num, .str a1.Default.Text, i4 a1.Default.Ref]) rfl hS hH rfl rfl (by kernel_rfl) ?_; intro b2 σ s hH hS
 refine qs 1 [(2, .ptr b1 0 0 10), (3, .ptr b2 0 0 10)] hS ?_; intro s hS
 refine x_nil (sq_n (c_seq (c_seq (c_region ?_))))
 refine qs 1 [(2, .ptr b1 0 0 10), (3, .ptr b2 0 0 10), (5, .ptr b1 0 0 1)] hS ?_; intro s hS
 refine q_load (v := i4 a0.Id) 1 trivial rfl hS hH rfl rfl (by kernel_rfl) ?_; intro s hS
 refine qs 1 [(2, .ptr b1 0 0 10), (3, .ptr b2 0 0 10), (6, i4 a0.Id), (7, .ptr b2 0 0 1)] hS ?_; intro s hS
 refine q_load (v := i4 a1.Id) 0 trivial rfl hS hH rfl rfl (by kernel_rfl) ?_; intro s hS
 refine qs 1 [(2, .ptr b1 0 0 10), (3, .ptr b2 0 0 10), (9, .bool (!decide (a0.Id = a1.Id)))] hS ?_; intro s hS
 refine x_nil (sq_n ?_)
 by_cases hc1 : (!decide (a0.Id = a1.Id)) = true
 ·have h := it_pos hc1 h
  refine c_cond hS rfl (fun _ => ?_) (fun hf => ff_absurd hc1 hf)
  refine c_seq (c_region ?_)
  refine qs 1 [(4, .bool false)] hS ?_; intro s hS
  refine x_nil (sq_n (c_ret (sq_r ?_)))
  injection h with h; subst h
  exact end_W hH (r_tmp (v := .bool false) hS rfl r_nil) rfl (by kernel_rfl) (by simp [pureT, pureL, E_bool])
 ·have h := it_neg hc1 h
  refine c_cond hS rfl (fun hf => tt_absurd hc1 hf) (fun _ => ?_)
  refine c_skip (sq_n (c_seq (c_seq (c_region ?_))))
  refine qs 1 [(2, .ptr b1 0 0 10), (3, .ptr b2 0 0 10), (10, .ptr b1 0 1 1)] hS ?_; intro s hS
  refine q_load (v := i4 a0.Kind) 1 trivial rfl hS hH rfl rfl (by kernel_rfl) ?_; intro s hS
  refine qs 1 [(2, .ptr b1 0 0 10), (3, .ptr b2 0 0 10), (11, i4 a0.Kind), (12, .ptr b2 0 1 1)] hS ?_; intro s hS
  refine q_load (v := i4 a1.Kind) 0 trivial rfl hS hH rfl rfl (by kernel_rfl) ?_; intro s hS
  refine qs 1 [(2, .ptr b1 0 0 10), (3, .ptr b2 0 0 10), (14, .bool (!decide (a0.Kind = a1.Kind)))] hS ?_; intro s hS
  refine x_nil (sq_n ?_)
  by_cases hc2 : (!decide (a0.Kind = a1.Kind)) = true
  ·have h := it_pos hc2 h
   refine c_cond hS rfl (fun _ => ?_) (fun hf => ff_absurd hc2 hf)
   refine c_seq (c_region ?_)
   refine qs 1 [(4, .bool false)] hS ?_; intro s hS
   refine x_nil (sq_n (c_ret (sq_r ?_)))
   injection h with h; subst h
   exact end_W hH (r_tmp (v := .bool false) hS rfl r_nil) rfl (by kernel_rfl) (by simp [pureT, pureL, E_bool])
  ·have h := it_neg hc2 h
   refine c_cond hS rfl (fun hf => tt_absurd hc2 hf) (fun _ => ?_)
   refine c_skip (sq_n (c_seq (c_seq (c_region ?_))))
   refine qs 1 [(2, .ptr b1 0 0 10), (3, .ptr b2 0 0 10), (15, .ptr b1 0 2 1)] hS ?_; intro s hS
   refine q_load (v := .str a0.Name) 1 trivial rfl hS hH rfl rfl (by kernel_rfl) ?_; intro s hS
   refine qs 1 [(2, .ptr b1 0 0 10), (3, .ptr b2 0 0 10), (16, .str a0.Name), (17, .ptr b2 0 2 1)] hS ?_; intro s hS
   refine q_load (v := .str a1.Name) 0 trivial rfl hS hH rfl rfl (by kernel_rfl) ?_; intro s hS
   refine qs 1 [(2, .ptr b1 0 0 10), (3, .ptr b2 0 0 10), (19, .bool (!decide (a0.Name = a1.Name)))] hS ?_; intro s hS
   refine x_nil (sq_n ?_)
   by_cases hc3 : (!decide (a0.Name = a1.Name)) = true
   ·have h := it_pos hc3 h
    refine c_cond hS rfl (fun _ => ?_) (fun hf => ff_absurd hc3 hf)
    refine c_seq (c_region ?_)
    refine qs 1 [(4, .bool false)] hS ?_; intro s hS
    refine x_nil (sq_n (c_ret (sq_r ?_)))
    injection h with h; subst h
    exact end_W hH (r_tmp (v := .bool false) hS rfl r_nil) rfl (by kernel_rfl) (by simp [pureT, pureL, E_bool])
   ·have h := it_neg hc3 h
    refine c_cond hS rfl (fun hf => tt_absurd hc3 hf) (fun _ => ?_)
    refine c_skip (sq_n (c_seq (c_seq (c_region ?_))))
    refine qs 1 [(2, .ptr b1 0 0 10), (3, .ptr b2 0 0 10), (20, .ptr b1 0 3 1)] hS ?_; intro s hS
    refine q_load (v := i4 a0.Low) 1 trivial rfl hS hH rfl rfl (by kernel_rfl) ?_; intro s hS
    refine qs 1 [(2, .ptr b1 0 0 10), (3, .ptr b2 0 0 10), (21, i4 a0.Low), (22, .ptr b2 0 3 1)] hS ?_; intro s hS
    refine q_load (v := i4 a1.Low) 0 trivial rfl hS hH rfl rfl (by kernel_rfl) ?_; intro s hS
    refine qs 1 [(2, .ptr b1 0 0 10), (3, .ptr b2 0 0 10), (24, .bool (!decide (a0.Low = a1.Low)))] hS ?_; intro s hS
    refine x_nil (sq_n ?_)
    by_cases hc4 : (!decide (a0.Low = a1.Low)) = true
    ·have h := it_pos hc4 h
     refine c_cond hS rfl (fun _ => ?_) (fun hf => ff_absurd hc4 hf)
     refine c_seq (c_region ?_)
     refine qs 1 [(4, .bool false)] hS ?_; intro s hS
     refine x_nil (sq_n (c_ret (sq_r ?_)))
     injection h with h; subst h
     exact end_W hH (r_tmp (v := .bool false) hS rfl r_nil) rfl (by kernel_rfl) (by simp [pureT, pureL, E_bool])
    ·have h := it_neg hc4 h
     refine c_cond hS rfl (fun hf => tt_absurd hc4 hf) (fun _ => ?_)
     refine c_skip (sq_n (c_seq (c_seq (c_region ?_))))
     refine qs 1 [(2, .ptr b1 0 0 10), (3, .ptr b2 0 0 10), (25, .ptr b1 0 4 1)] hS ?_; intro s hS
     refine q_load (v := a0.Keys.t) 1 trivial rfl hS hH rfl rfl (by kernel_rfl) ?_; intro s hS
     refine qs 1 [(2, .ptr b1 0 0 10), (3, .ptr b2 0 0 10), (26, a0.Keys.t), (27, .ptr b2 0 4 1)] hS ?_; intro s hS
     refine q_load (v := a1.Keys.t) 0 trivial rfl hS hH rfl rfl (by kernel_rfl) ?_; intro s hS
     obtain ⟨y1, hy1, h⟩ := bind_some h
     refine q_callF (a := []) (b := []) (xs := [a0.Keys.t, a1.Keys.t]) rfl hS rfl rfl hy1 ?_; intro s hS
     refine qs 1 [(2, .ptr b1 0 0 10), (3, .ptr b2 0 0 10), (30, .bool (!y1))] hS ?_; intro s hS
     refine x_nil (sq_n ?_)
     by_cases hc5 : (!y1) = true
     ·have h := it_pos hc5 h
      refine c_cond hS rfl (fun _ => ?_) (fun hf => ff_absurd hc5 hf)
      refine c_seq (c_region ?_)
      refine qs 1 [(4, .bool false)] hS ?_; intro s hS
      refine x_nil (sq_n (c_ret (sq_r ?_)))
      injection h with h; subst h
      exact end_W hH (r_tmp (v := .bool false) hS rfl r_nil) rfl (by kernel_rfl) (by simp [pureT, pureL, E_bool])
     ·have h := it_neg hc5 h
      refine c_cond hS rfl (fun hf => tt_absurd hc5 hf) (fun _ => ?_)
      refine c_skip (sq_n (c_seq (c_seq (c_region ?_))))
      refine qs 1 [(2, .ptr b1 0 0 10), (3, .ptr b2 0 0 10), (31, .ptr b1 0 5 1)] hS ?_; intro s hS
      refine q_load (v := a0.Vals.t) 1 trivial rfl hS hH rfl rfl (by kernel_rfl) ?_; intro s hS
      refine qs 1 [(2, .ptr b1 0 0 10), (3, .ptr b2 0 0 10), (32, a0.Vals.t), (33, .ptr b2 0 5 1)] hS ?_; intro s hS
      refine q_load (v := a1.Vals.t) 0 trivial rfl hS hH rfl rfl (by kernel_rfl) ?_; intro s hS
      obtain ⟨y2, hy2, h⟩ := bind_some h
      refine q_callF (a := []) (b := []) (xs := [a0.Vals.t, a1.Vals.t]) rfl hS rfl rfl hy2 ?_; intro s hS
      refine qs 1 [(2, .ptr b1 0 0 10), (3, .ptr b2 0 0 10), (36, .bool (!y2))] hS ?_; intro s hS
      refine x_nil (sq_n ?_)
      by_cases hc6 : (!y2) = true
      ·have h := it_pos hc6 h
       refine c_cond hS rfl (fun _ => ?_) (fun hf => ff_absurd hc6 hf)
       refine c_seq (c_region ?_)
       refine qs 1 [(4, .bool false)] hS ?_; intro s hS
       refine x_nil (sq_n (c_ret (sq_r ?_)))
       injection h with h; subst h
       exact end_W hH (r_tmp (v := .bool false) hS rfl r_nil) rfl (by kernel_rfl) (by simp [pureT, pureL, E_bool])
      ·have h := it_neg hc6 h
       refine c_cond hS rfl (fun hf => tt_absurd hc6 hf) (fun _ => ?_)
       refine c_skip (sq_n (c_seq (c_seq (c_region ?_))))
       refine qs 1 [(3, .ptr b2 0 0 10), (37, .ptr b1 0 6 4)] hS ?_; intro s hS
       refine q_load (v := .agg (DValue.cells a0.Default)) 1 trivial rfl hS hH rfl rfl (by kernel_rfl) ?_; intro s hS
       refine qs 1 [(38, .agg (DValue.cells a0.Default)), (39, .ptr b2 0 6 4)] hS ?_; intro s hS
       refine q_load (v := .agg (DValue.cells a1.Default)) 0 trivial rfl hS hH rfl rfl (by kernel_rfl) ?_; intro s hS
       obtain ⟨y3, hy3, h⟩ := bind_some h
       refine q_callF (a := []) (b := []) (xs := [.agg (DValue.cells a0.Default), .agg (DValue.cells a1.Default)]) rfl hS rfl rfl hy3 ?_; intro s hS
       refine qs 1 [(42, .bool (!y3))] hS ?_; intro s hS
       refine x_nil (sq_n ?_)
       by_cases hc7 : (!y3) = true
       ·have h := it_pos hc7 h
        refine c_cond hS rfl (fun _ => ?_) (fun hf => ff_absurd hc7 hf)
        refine c_seq (c_region ?_)
        refine qs 1 [(4, .bool false)] hS ?_; intro s hS
        refine x_nil (sq_n (c_ret (sq_r ?_)))
        injection h with h; subst h
        exact end_W hH (r_tmp (v := .bool false) hS rfl r_nil) rfl (by kernel_rfl) (by simp [pureT, pureL, E_bool])
       ·have h := it_neg hc7 h
        refine c_cond hS rfl (fun hf => tt_absurd hc7 hf) (fun _ => ?_)
        refine c_skip (sq_n (c_seq (c_region ?_)))
        refine qs 1 [(4, .bool true)] hS ?_; intro s hS
        refine x_nil (sq_n (c_ret ?_))
        injection h with h; subst h
        exact end_W hH (r_tmp (v := .bool true) hS rfl r_nil) rfl (by kernel_rfl) (by simp [pureT, pureL, E_bool])
noncomputable def B_laws_eqHeap (a0 : DHeap) (a1 : DHeap) : Option Bool := (if (!decide (a0.Next = a1.Next)) = true then (some false) else ((F_laws_eqObjectS a0.Objects a1.Objects).bind fun y1 => (if (!y1) = true then (some false) else (some true))))
theorem u_laws_eqHeap (a0 : DHeap) (a1 : DHeap) (r : Bool) (h : B_laws_eqHeap a0 a1 = some r) : F_laws_eqHeap a0 a1 = some r := by
 unfold B_laws_eqHeap at h
 refine semW_of E_bool_inj rfl rfl ok_19 rfl (all_cons (by kernel_rfl) (all_cons (by kernel_rfl) all_nil)) ?_
 intro σ0 s hS hH
 have hS := sub_to (L' := [(0, .agg (DHeap.cells a0)), (1, .agg (DHeap.cells a1))]) hS (by kernel_rfl)
 refine c_seq (c_region ?_)
 refine q_box (v := .agg (DHeap.cells a0)) (cs := [i4 a0.Next, a0.Objects.t]) rfl hS hH rfl rfl (by kernel_rfl) ?_; intro b1 σ s hH hS
 refine q_box (v := .agg (DHeap.cells a1)) (cs := [i4 a1.Next, a1.Objects.t]) rfl hS hH rfl rfl (by kernel_rfl) ?_; intro b2 σ s hH hS
 refine qs 1 [(2, .ptr b1 0 0 2), (3, .ptr b2 0 0 2)] hS ?_; intro s hS
 refine x_nil (sq_n (c_seq (c_seq (c_region ?_))))
 refine qs 1 [(2, .ptr b1 0 0 2), (3, .ptr b2 0 0 2), (5, .ptr b1 0 0 1)] hS ?_; intro s hS
 refine q_load (v := i4 a0.Next) 1 trivial rfl hS hH rfl rfl (by kernel_rfl) ?_; intro s hS
 refine qs 1 [(2, .ptr b1 0 0 2), (3, .ptr b2 0 0 2), (6, i4 a0.Next), (7, .ptr b2 0 0 1)] hS ?_; intro s hS
 refine q_load (v := i4 a1.Next) 0 trivial rfl hS hH rfl rfl (by kernel_rfl) ?_; intro s hS
 refine qs 1 [(2, .ptr b1 0 0 2), (3, .ptr b2 0 0 2), (9, .bool (!decide (a0.Next = a1.Next)))] hS ?_; intro s hS
 refine x_nil (sq_n ?_)
 by_cases hc1 : (!decide (a0.Next = a1.Next)) = true
 ·have h := it_pos hc1 h
  refine c_cond hS rfl (fun _ => ?_) (fun hf => ff_absurd hc1 hf)
  refine c_seq (c_region ?_)
  refine qs 1 [(4, .bool false)] hS ?_; intro s hS
  refine x_nil (sq_n (c_ret (sq_r ?_)))
  injection h with h; subst h
  exact end_W hH (r_tmp (v := .bool false) hS rfl r_nil) rfl (by kernel_rfl) (by simp [pureT, pureL, E_bool])
 ·have h := it_neg hc1 h
  refine c_cond hS rfl (fun hf => tt_absurd hc1 hf) (fun _ => ?_)
  refine c_skip (sq_n (c_seq (c_seq (c_region ?_))))
  refine qs 1 [(3, .ptr b2 0 0 2), (10, .ptr b1 0 1 1)] hS ?_; intro s hS
  refine q_load (v := a0.Objects.t) 1 trivial rfl hS hH rfl rfl (by kernel_rfl) ?_; intro s hS
  refine qs 1 [(11, a0.Objects.t), (12, .ptr b2 0 1 1)] hS ?_; intro s hS
  refine q_load (v := a1.Objects.t) 0 trivial rfl hS hH rfl rfl (by kernel_rfl) ?_; intro s hS
  obtain ⟨y1, hy1, h⟩ := bind_some h
  refine q_callF (a := []) (b := []) (xs := [a0.Objects.t, a1.Objects.t]) rfl hS rfl rfl hy1 ?_; intro s hS
  refine qs 1 [(15, .bool (!y1))] hS ?_; intro s hS
  refine x_nil (sq_n ?_)
  by_cases hc2 : (!y1) = true
  ·have h := it_pos hc2 h
   refine c_cond hS rfl (fun _ => ?_) (fun hf => ff_absurd hc2 hf)
   refine c_seq (c_region ?_)
   refine qs 1 [(4, .bool false)] hS ?_; intro s hS
   refine x_nil (sq_n (c_ret (sq_r ?_)))
   injection h with h; subst h
   exact end_W hH (r_tmp (v := .bool false) hS rfl r_nil) rfl (by kernel_rfl) (by simp [pureT, pureL, E_bool])
  ·have h := it_neg hc2 h
   refine c_cond hS rfl (fun hf => tt_absurd hc2 hf) (fun _ => ?_)
   refine c_skip (sq_n (c_seq (c_region ?_)))
   refine qs 1 [(4, .bool true)] hS ?_; intro s hS
   refine x_nil (sq_n (c_ret ?_))
   injection h with h; subst h
   exact end_W hH (r_tmp (v := .bool true) hS rfl r_nil) rfl (by kernel_rfl) (by simp [pureT, pureL, E_bool])
noncomputable def B_laws_heldObject (a0 : DObject) (a1 : Int) : Option Int := ((F_laws_heldValueS a0.Keys a1).bind fun y1 => (if (decide (y1 < 0)) = true then (some (-1)) else ((F_laws_heldValueS a0.Vals y1).bind fun y2 => (if (decide (y2 < 0)) = true then (some (-1)) else (some y2)))))
theorem u_laws_heldObject (a0 : DObject) (a1 : Int) (r : Int) (h : B_laws_heldObject a0 a1 = some r) : F_laws_heldObject a0 a1 = some r := by
 unfold B_laws_heldObject at h
 refine semW_of E_i64_inj rfl rfl ok_22 rfl (all_cons (by kernel_rfl) (all_cons (by kernel_rfl) all_nil)) ?_
 intro σ0 s hS hH
 have hS := sub_to (L' := [(0, .agg (DObject.cells a0)), (1, i4 a1)]) hS (by kernel_rfl)
 refine c_seq (c_region ?_)
 refine q_box (v := .agg (DObject.cells a0)) (cs := [i4 a0.Id, i4 a0.Kind, .str a0.Name, i4 a0.Low, a0.Keys.t, a0.Vals.t, i4 a0.Default.Kind, i4 a0.Default.Num, .str a0.Default.Text, i4 a0.Default.Ref]) rfl hS hH rfl rfl (by kernel_rfl) ?_; intro b1 σ s hH hS
 refine qs 1 [(1, i4 a1), (2, .ptr b1 0 0 10)] hS ?_; intro s hS
 refine x_nil (sq_n (c_seq (c_region ?_)))
 refine qs 1 [(1, i4 a1), (2, .ptr b1 0 0 10), (5, .ptr b1 0 4 1)] hS ?_; intro s hS
 refine q_load (v := a0.Keys.t) 0 trivial rfl hS hH rfl rfl (by kernel_rfl) ?_; intro s hS
 refine qs 1 [(2, .ptr b1 0 0 10), (6, a0.Keys.t), (7, i4 a1)] hS ?_; intro s hS
 obtain ⟨y1, hy1, h⟩ := bind_some h
 refine q_callF (a := []) (b := []) (xs := [a0.Keys.t, i4 a1]) rfl hS rfl rfl hy1 ?_; intro s hS
 refine qs 1 [(1, i4 y1), (2, .ptr b1 0 0 10)] hS ?_; intro s hS
 refine x_nil (sq_n (c_seq (c_seq (c_region ?_))))
 refine qs 2 [(1, i4 y1), (2, .ptr b1 0 0 10), (10, .bool (decide (y1 < 0)))] hS ?_; intro s hS
 refine x_nil (sq_n ?_)
 by_cases hc1 : (decide (y1 < 0)) = true
 ·have h := it_pos hc1 h
  refine c_cond hS rfl (fun _ => ?_) (fun hf => ff_absurd hc1 hf)
  refine c_seq (c_region ?_)
  refine qs 1 [(4, i4 (-1))] hS ?_; intro s hS
  refine x_nil (sq_n (c_ret (sq_r ?_)))
  injection h with h; subst h
  exact end_W hH (r_tmp (v := i4 (-1)) hS rfl r_nil) rfl (by kernel_rfl) (by simp [pureT, pureL, E_i64])
 ·have h := it_neg hc1 h
  refine c_cond hS rfl (fun hf => tt_absurd hc1 hf) (fun _ => ?_)
  refine c_skip (sq_n (c_seq (c_region ?_)))
  refine qs 1 [(1, i4 y1), (11, .ptr b1 0 5 1)] hS ?_; intro s hS
  refine q_load (v := a0.Vals.t) 0 trivial rfl hS hH rfl rfl (by kernel_rfl) ?_; intro s hS
  refine qs 1 [(12, a0.Vals.t), (13, i4 y1)] hS ?_; intro s hS
  obtain ⟨y2, hy2, h⟩ := bind_some h
  refine q_callF (a := []) (b := []) (xs := [a0.Vals.t, i4 y1]) rfl hS rfl rfl hy2 ?_; intro s hS
  refine qs 1 [(1, i4 y2)] hS ?_; intro s hS
  refine x_nil (sq_n (c_seq (c_seq (c_region ?_))))
  refine qs 2 [(1, i4 y2), (16, .bool (decide (y2 < 0)))] hS ?_; intro s hS
  refine x_nil (sq_n ?_)
  by_cases hc2 : (decide (y2 < 0)) = true
  ·have h := it_pos hc2 h
   refine c_cond hS rfl (fun _ => ?_) (fun hf => ff_absurd hc2 hf)
   refine c_seq (c_region ?_)
   refine qs 1 [(4, i4 (-1))] hS ?_; intro s hS
   refine x_nil (sq_n (c_ret (sq_r ?_)))
   injection h with h; subst h
   exact end_W hH (r_tmp (v := i4 (-1)) hS rfl r_nil) rfl (by kernel_rfl) (by simp [pureT, pureL, E_i64])
  ·have h := it_neg hc2 h
   refine c_cond hS rfl (fun hf => tt_absurd hc2 hf) (fun _ => ?_)
   refine c_skip (sq_n (c_seq (c_region ?_)))
   refine qs 2 [(4, i4 y2)] hS ?_; intro s hS
   refine x_nil (sq_n (c_ret ?_))
   injection h with h; subst h
   exact end_W hH (r_tmp (v := i4 y2) hS rfl r_nil) rfl (by kernel_rfl) (by simp [pureT, pureL, E_i64])
noncomputable def B_laws_szObject (a0 : DObject) (a1 : Int) : Option Int := (if (decide ((IntKind.i64.wrap (a1 - (a0.Name.size : Int))) < 0)) = true then (some (-1)) else ((F_laws_szValueS a0.Keys (IntKind.i64.wrap (a1 - (a0.Name.size : Int)))).bind fun y1 => (if (decide (y1 < 0)) = true then (some (-1)) else ((F_laws_szValueS a0.Vals y1).bind fun y2 => (if (decide (y2 < 0)) = true then (some (-1)) else ((F_laws_szValue a0.Default y2).bind fun y3 => (if (decide (y3 < 0)) = true then (some (-1)) else (some y3))))))))
theorem u_laws_szObject (a0 : DObject) (a1 : Int) (r : Int) (h : B_laws_szObject a0 a1 = some r) : F_laws_szObject a0 a1 = some r := by
 unfold B_laws_szObject at h
 refine semW_of E_i64_inj rfl rfl ok_23 rfl (all_cons (by kernel_rfl) (all_cons (by kernel_rfl) all_nil)) ?_
 intro σ0 s hS hH
 have hS := sub_to (L' := [(0, .agg (DObject.cells a0)), (1, i4 a1)]) hS (by kernel_rfl)
 refine c_seq (c_region ?_)
 refine q_box (v := .agg (DObject.cells a0)) (cs := [i4 a0.Id, i4 a0.Kind, .str a0.Name, i4 a0.Low, a0.Keys.t, a0.Vals.t, i4 a0.Default.Kind, i4 a0.Default.Num, .str a0.Default.Text, i4 a0.Default.Ref]) rfl hS hH rfl rfl (by kernel_rfl) ?_; intro b1 σ s hH hS
 refine qs 1 [(1, i4 a1), (2, .ptr b1 0 0 10)] hS ?_; intro s hS
 refine x_nil (sq_n (c_seq (c_region ?_)))
 refine qs 2 [(2, .ptr b1 0 0 10), (5, i4 a1), (6, .ptr b1 0 2 1)] hS ?_; intro s hS
 refine q_load (v := .str a0.Name) 0 trivial rfl hS hH rfl rfl (by kernel_rfl) ?_; intro s hS
 refine qs 3 [(1, i4 (IntKind.i64.wrap (a1 - (a0.Name.size : Int)))), (2, .ptr b1 0 0 10)] hS ?_; intro s hS
 refine x_nil (sq_n (c_seq (c_seq (c_region ?_))))
 refine qs 2 [(1, i4 (IntKind.i64.wrap (a1 - (a0.Name.size : Int)))), (2, .ptr b1 0 0 10), (11, .bool (decide ((IntKind.i64.wrap (a1 - (a0.Name.size : Int))) < 0)))] hS ?_; intro s hS
 refine x_nil (sq_n ?_)
 by_cases hc1 : (decide ((IntKind.i64.wrap (a1 - (a0.Name.size : Int))) < 0)) = true
 ·have h := it_pos hc1 h
  refine c_cond hS rfl (fun _ => ?_) (fun hf => ff_absurd hc1 hf)
  refine c_seq (c_region ?_)
  refine qs 1 [(4, i4 (-1))] hS ?_; intro s hS
  refine x_nil (sq_n (c_ret (sq_r ?_)))
  injection h with h; subst h
  exact end_W hH (r_tmp (v := i4 (-1)) hS rfl r_nil) rfl (by kernel_rfl) (by simp [pureT, pureL, E_i64])
 ·have h := it_neg hc1 h
  refine c_cond hS rfl (fun hf => tt_absurd hc1 hf) (fun _ => ?_)
  refine c_skip (sq_n (c_seq (c_region ?_)))
  refine qs 1 [(1, i4 (IntKind.i64.wrap (a1 - (a0.Name.size : Int)))), (2, .ptr b1 0 0 10), (12, .ptr b1 0 4 1)] hS ?_; intro s hS
  refine q_load (v := a0.Keys.t) 0 trivial rfl hS hH rfl rfl (by kernel_rfl) ?_; intro s hS
  refine qs 1 [(2, .ptr b1 0 0 10), (13, a0.Keys.t), (14, i4 (IntKind.i64.wrap (a1 - (a0.Name.size : Int))))] hS ?_; intro s hS
  obtain ⟨y1, hy1, h⟩ := bind_some h
  refine q_callF (a := []) (b := []) (xs := [a0.Keys.t, i4 (IntKind.i64.wrap (a1 - (a0.Name.size : Int)))]) rfl hS rfl rfl hy1 ?_; intro s hS
  refine qs 1 [(1, i4 y1), (2, .ptr b1 0 0 10)] hS ?_; intro s hS
  refine x_nil (sq_n (c_seq (c_seq (c_region ?_))))
  refine qs 2 [(1, i4 y1), (2, .ptr b1 0 0 10), (17, .bool (decide (y1 < 0)))] hS ?_; intro s hS
  refine x_nil (sq_n ?_)
  by_cases hc2 : (decide (y1 < 0)) = true
  ·have h := it_pos hc2 h
   refine c_cond hS rfl (fun _ => ?_) (fun hf => ff_absurd hc2 hf)
   refine c_seq (c_region ?_)
   refine qs 1 [(4, i4 (-1))] hS ?_; intro s hS
   refine x_nil (sq_n (c_ret (sq_r ?_)))
   injection h with h; subst h
   exact end_W hH (r_tmp (v := i4 (-1)) hS rfl r_nil) rfl (by kernel_rfl) (by simp [pureT, pureL, E_i64])
  ·have h := it_neg hc2 h
   refine c_cond hS rfl (fun hf => tt_absurd hc2 hf) (fun _ => ?_)
   refine c_skip (sq_n (c_seq (c_region ?_)))
   refine qs 1 [(1, i4 y1), (2, .ptr b1 0 0 10), (18, .ptr b1 0 5 1)] hS ?_; intro s hS
   refine q_load (v := a0.Vals.t) 0 trivial rfl hS hH rfl rfl (by kernel_rfl) ?_; intro s hS
   refine qs 1 [(2, .ptr b1 0 0 10), (19, a0.Vals.t), (20, i4 y1)] hS ?_; intro s hS
   obtain ⟨y2, hy2, h⟩ := bind_some h
   refine q_callF (a := []) (b := []) (xs := [a0.Vals.t, i4 y1]) rfl hS rfl rfl hy2 ?_; intro s hS
   refine qs 1 [(1, i4 y2), (2, .ptr b1 0 0 10)] hS ?_; intro s hS
   refine x_nil (sq_n (c_seq (c_seq (c_region ?_))))
   refine qs 2 [(1, i4 y2), (2, .ptr b1 0 0 10), (23, .bool (decide (y2 < 0)))] hS ?_; intro s hS
   refine x_nil (sq_n ?_)
   by_cases hc3 : (decide (y2 < 0)) = true
   ·have h := it_pos hc3 h
    refine c_cond hS rfl (fun _ => ?_) (fun hf => ff_absurd hc3 hf)
    refine c_seq (c_region ?_)
    refine qs 1 [(4, i4 (-1))] hS ?_; intro s hS
    refine x_nil (sq_n (c_ret (sq_r ?_)))
    injection h with h; subst h
    exact end_W hH (r_tmp (v := i4 (-1)) hS rfl r_nil) rfl (by kernel_rfl) (by simp [pureT, pureL, E_i64])
   ·have h := it_neg hc3 h
    refine c_cond hS rfl (fun hf => tt_absurd hc3 hf) (fun _ => ?_)
    refine c_skip (sq_n (c_seq (c_region ?_)))
    refine qs 1 [(1, i4 y2), (24, .ptr b1 0 6 4)] hS ?_; intro s hS
    refine q_load (v := .agg (DValue.cells a0.Default)) 0 trivial rfl hS hH rfl rfl (by kernel_rfl) ?_; intro s hS
    refine qs 1 [(25, .agg (DValue.cells a0.Default)), (26, i4 y2)] hS ?_; intro s hS
    obtain ⟨y3, hy3, h⟩ := bind_some h
    refine q_callF (a := []) (b := []) (xs := [.agg (DValue.cells a0.Default), i4 y2]) rfl hS rfl rfl hy3 ?_; intro s hS
    refine qs 1 [(1, i4 y3)] hS ?_; intro s hS
    refine x_nil (sq_n (c_seq (c_seq (c_region ?_))))
    refine qs 2 [(1, i4 y3), (29, .bool (decide (y3 < 0)))] hS ?_; intro s hS
    refine x_nil (sq_n ?_)
    by_cases hc4 : (decide (y3 < 0)) = true
    ·have h := it_pos hc4 h
     refine c_cond hS rfl (fun _ => ?_) (fun hf => ff_absurd hc4 hf)
     refine c_seq (c_region ?_)
     refine qs 1 [(4, i4 (-1))] hS ?_; intro s hS
     refine x_nil (sq_n (c_ret (sq_r ?_)))
     injection h with h; subst h
     exact end_W hH (r_tmp (v := i4 (-1)) hS rfl r_nil) rfl (by kernel_rfl) (by simp [pureT, pureL, E_i64])
    ·have h := it_neg hc4 h
     refine c_cond hS rfl (fun hf => tt_absurd hc4 hf) (fun _ => ?_)
     refine c_skip (sq_n (c_seq (c_region ?_)))
     refine qs 2 [(4, i4 y3)] hS ?_; intro s hS
     refine x_nil (sq_n (c_ret ?_))
     injection h with h; subst h
     exact end_W hH (r_tmp (v := i4 y3) hS rfl r_nil) rfl (by kernel_rfl) (by simp [pureT, pureL, E_i64])
end Go.Am
