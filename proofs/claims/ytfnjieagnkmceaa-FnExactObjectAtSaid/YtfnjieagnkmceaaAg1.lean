/- Functions of the program. -/
import Derived.Test.YtfnjieagnkmceaaAd0
import Derived.Test.YtfnjieagnkmceaaAg0
set_option maxRecDepth 100000
set_option maxHeartbeats 4000000
set_option linter.unusedVariables false
set_option linter.unusedSimpArgs false
namespace Go.Am
open Go.Proofs
noncomputable def B_laws_FnExactObjectAt (a0 : DHeap) (a1 : Int) : Option Bool := ((F_laws_szHeap a0 1048576).bind fun y1 => (if (decide (y1 < 0)) = true then (some true) else ((F_laws_toHeap a0).bind fun y2 => ((F_spec_ObjectAt y2 a1).bind fun y3 => ((F_laws_toHeap a0).bind fun y4 => ((F_impl_ObjectAt y4 a1).bind fun y5 => ((F_laws_eqObject y5.1 y3.1).bind fun y6 => (if (!y6) = true then (some false) else (if (!(y5.2 == y3.2)) = true then (some false) else ((F_laws_toHeap a0).bind fun y7 => ((F_laws_eqHeap y4 y7).bind fun y8 => (if (!y8) = true then (some false) else ((B_laws_markHeap y4 1).bind fun y9 => (if (decide (y9.1 < 0)) = true then (some false) else ((F_laws_eqObject y5.1 y3.1).bind fun y10 => (if (!y10) = true then (some false) else ((B_laws_markObject y5.1 1).bind fun y11 => ((F_laws_heldObject (⟨y5.1.Id, y5.1.Kind, y5.1.Name, y5.1.Low, y11.2.Keys, y11.2.Vals, y5.1.Default⟩ : DObject) 1).bind fun y12 => (if (decide (y12 < 0)) = true then (some false) else (if (!decide (y12 = y11.1)) = true then (some false) else ((F_laws_toHeap a0).bind fun y13 => ((F_impl_ObjectAt y13 a1).bind fun y14 => ((F_laws_eqObject y14.1 y3.1).bind fun y15 => (if (!y15) = true then (some false) else (if (!(y14.2 == y3.2)) = true then (some false) else ((F_laws_heldObject (⟨y5.1.Id, y5.1.Kind, y5.1.Name, y5.1.Low, y11.2.Keys, y11.2.Vals, y5.1.Default⟩ : DObject) 1).bind fun y16 => (if (decide (y16 < 0)) = true then (some false) else (if (!decide (y16 = y11.1)) = true then (some false) else (some true)))))))))))))))))))))))))))))
theorem u_laws_FnExactObjectAt (a0 : DHeap) (a1 : Int) (r : Bool) (h : B_laws_FnExactObjectAt a0 a1 = some r) : F_laws_FnExactObjectAt a0 a1 = some r := by
 unfold B_laws_FnExactObjectAt at h
 refine semW_of E_bool_inj rfl rfl ok_3 rfl (all_cons (by kernel_rfl) (all_cons (by kernel_rfl) all_nil)) ?_
 intro σ0 s hS hH
 have hS := sub_to (L' := [(0, .agg (DHeap.cells a0)), (1, i4 a1)]) hS (by kernel_rfl)
 refine c_seq (c_region ?_)
 refine q_box (v := .agg (DHeap.cells a0)) (cs := [i4 a0.Next, a0.Objects.t]) rfl hS hH rfl rfl (by kernel_rfl) ?_; intro b1 σ s hH hS
 refine qs 1 [(1, i4 a1), (2, .ptr b1 0 0 2)] hS ?_; intro s hS
 refine x_nil (sq_n (c_seq (c_region ?_)))
 refine qs 1 [(1, i4 a1), (2, .ptr b1 0 0 2), (5, i4 1048576)] hS ?_; intro s hS
 refine x_nil (sq_n (c_seq (c_region ?_)))
 refine q_load (v := .agg (DHeap.cells a0)) 0 trivial rfl hS hH rfl rfl (by kernel_rfl) ?_; intro s hS
 refine qs 1 [(1, i4 a1), (2, .ptr b1 0 0 2), (16, .agg (DHeap.cells a0)), (17, i4 1048576)] hS ?_; intro s hS
 obtain ⟨y1, hy1, h⟩ := bind_some h
 refine q_callF (a := []) (b := []) (xs := [.agg (DHeap.cells a0), i4 1048576]) rfl hS rfl rfl hy1 ?_; intro s hS
 refine qs 1 [(1, i4 a1), (2, .ptr b1 0 0 2), (5, i4 y1)] hS ?_; intro s hS
 refine x_nil (sq_n (c_seq (c_seq (c_region ?_))))
 refine qs 2 [(1, i4 a1), (2, .ptr b1 0 0 2), (20, .bool (decide (y1 < 0)))] hS ?_; intro s hS
 refine x_nil (sq_n ?_)
 by_cases hc1 : (decide (y1 < 0)) = true
 ·have h := it_pos hc1 h
  refine c_cond hS rfl (fun _ => ?_) (fun hf => ff_absurd hc1 hf)
  refine c_seq (c_region ?_)
  refine qs 1 [(4, .bool true)] hS ?_; intro s hS
  refine x_nil (sq_n (c_ret (sq_r ?_)))
  injection h with h; subst h
  exact end_W hH (r_tmp (v := .bool true) hS rfl r_nil) rfl (by kernel_rfl) (by simp [pureT, pureL, E_bool])
 ·have h := it_neg hc1 h
  refine c_cond hS rfl (fun hf => tt_absurd hc1 hf) (fun _ => ?_)
  refine c_skip (sq_n (c_seq (c_region ?_)))
  refine q_load (v := .agg (DHeap.cells a0)) 0 trivial rfl hS hH rfl rfl (by kernel_rfl) ?_; intro s hS
  obtain ⟨y2, hy2, h⟩ := bind_some h
  refine q_callO (ents := []) (z := false) (ts := [.agg (DHeap.cells a0)]) (vs := [.agg (DHeap.cells a0)]) rfl rfl hS rfl rfl rfl hH (HL.agg (es1 := []) (es2 := []) (HLi (HLp HL.nil)) HL.nil) hy2 ?_; intro hs σ s hl hH hS
  obtain ⟨t1, rfl⟩ := len1 hl
  have hH : Heap σ0 σ [.own true 10 t1 y2.Objects.t, .box b1 (DHeap.cells a0)] := hH
  have ht1 : IsOne t1 := Heap.one hH
  refine qs 1 [(1, i4 a1), (2, .ptr b1 0 0 2), (23, .agg [i4 y2.Next, t1]), (24, i4 a1)] hS ?_; intro s hS
  obtain ⟨y3, hy3, h⟩ := bind_some h
  refine q_callO (ents := [.own true 10 t1 y2.Objects.t]) (z := false) (ts := [.agg [i4 y2.Next, t1], i4 a1]) (vs := [.agg (DHeap.cells y2), i4 a1]) rfl rfl hS rfl rfl rfl hH (HL.agg (es1 := [.own true 10 t1 y2.Objects.t]) (es2 := []) (HLi (HL.own rfl HL.nil)) (HLi HL.nil)) hy3 ?_; intro hs σ s hl hH hS
  obtain ⟨t2, t3, rfl⟩ := len2 hl
  have hH : Heap σ0 σ [.own true 4 t2 y3.1.Keys.t, .own true 4 t3 y3.1.Vals.t, .own true 10 t1 y2.Objects.t, .box b1 (DHeap.cells a0)] := hH
  have ht2 : IsOne t2 := Heap.one hH
  have ht3 : IsOne t3 := Heap.one (hH.at 1 rfl)
  refine qs 3 [(1, i4 a1), (2, .ptr b1 0 0 2), (26, .agg [i4 y3.1.Id, i4 y3.1.Kind, .str y3.1.Name, i4 y3.1.Low, t2, t3, i4 y3.1.Default.Kind, i4 y3.1.Default.Num, .str y3.1.Default.Text, i4 y3.1.Default.Ref]), (27, .bool y3.2)] hS ?_; intro s hS
  refine q_alloc (z := [i4 0, i4 0, .str ⟨#[]⟩, i4 0, (nt DValue), (nt DValue), i4 0, i4 0, .str ⟨#[]⟩, i4 0]) rfl hS hH (by kernel_rfl) ?_; intro b2 σ s hH hS
  refine q_storeA (cs := [i4 y3.1.Id, i4 y3.1.Kind, .str y3.1.Name, i4 y3.1.Low, t2, t3, i4 y3.1.Default.Kind, i4 y3.1.Default.Num, .str y3.1.Default.Text, i4 y3.1.Default.Ref]) rfl hS hH rfl rfl (by simp [ht2.1, ht2.2, ht3.1, ht3.2]) ?_; intro σ s hH hS
  refine qs 1 [(1, i4 a1), (2, .ptr b1 0 0 2), (6, .ptr b2 0 0 10), (7, .bool y3.2)] hS ?_; intro s hS
  refine x_nil (sq_n (c_seq (c_region ?_)))
  refine q_load (v := .agg (DHeap.cells a0)) 4 trivial rfl hS hH rfl rfl (by kernel_rfl) ?_; intro s hS
  obtain ⟨y4, hy4, h⟩ := bind_some h
  refine q_callO (ents := []) (z := false) (ts := [.agg (DHeap.cells a0)]) (vs := [.agg (DHeap.cells a0)]) rfl rfl hS rfl rfl rfl hH (HL.agg (es1 := []) (es2 := []) (HLi (HLp HL.nil)) HL.nil) hy4 ?_; intro hs σ s hl hH hS
  obtain ⟨t4, rfl⟩ := len1 hl
  have hH : Heap σ0 σ [.own true 10 t4 y4.Objects.t, .box b2 [i4 y3.1.Id, i4 y3.1.Kind, .str y3.1.Name, i4 y3.1.Low, t2, t3, i4 y3.1.Default.Kind, i4 y3.1.Default.Num, .str y3.1.Default.Text, i4 y3.1.Default.Ref], .own true 4 t2 y3.1.Keys.t, .own true 4 t3 y3.1.Vals.t, .own true 10 t1 y2.Objects.t, .box b1 (DHeap.cells a0)] := hH
  have ht4 : IsOne t4 := Heap.one hH
  refine q_alloc (z := [i4 0, (nt DObject)]) rfl hS hH (by kernel_rfl) ?_; intro b3 σ s hH hS
  refine q_storeA (cs := [i4 y4.Next, t4]) rfl hS hH rfl rfl (by simp [ht4.1, ht4.2]) ?_; intro σ s hH hS
  refine x_nil (sq_n (c_seq (c_region ?_)))
  refine q_load (v := .agg [i4 y4.Next, t4]) 0 trivial rfl hS hH rfl rfl (by kernel_rfl) ?_; intro s hS
  refine qs 1 [(1, i4 a1), (2, .ptr b1 0 0 2), (6, .ptr b2 0 0 10), (7, .bool y3.2), (8, .ptr b3 0 0 2), (31, .agg [i4 y4.Next, t4]), (32, i4 a1)] hS ?_; intro s hS
  obtain ⟨y5, hy5, h⟩ := bind_some h
  have hH : Heap σ0 σ [.own true 10 t4 y4.Objects.t, .box b3 [i4 y4.Next, t4], .box b2 [i4 y3.1.Id, i4 y3.1.Kind, .str y3.1.Name, i4 y3.1.Low, t2, t3, i4 y3.1.Default.Kind, i4 y3.1.Default.Num, .str y3.1.Default.Text, i4 y3.1.Default.Ref], .own true 4 t2 y3.1.Keys.t, .own true 4 t3 y3.1.Vals.t, .own true 10 t1 y2.Objects.t, .box b1 (DHeap.cells a0)] := hH.sel [1, 0, 2, 3, 4, 5, 6] rfl (by kernel_rfl)
  refine q_callO (ents := [.own true 10 t4 y4.Objects.t]) (z := false) (ts := [.agg [i4 y4.Next, t4], i4 a1]) (vs := [.agg (DHeap.cells y4), i4 a1]) rfl rfl hS rfl rfl rfl hH (HL.agg (es1 := [.own true 10 t4 y4.Objects.t]) (es2 := []) (HLi (HL.own rfl HL.nil)) (HLi HL.nil)) hy5 ?_; intro hs σ s hl hH hS
  obtain ⟨t5, t6, rfl⟩ := len2 hl
  have hH : Heap σ0 σ [.own true 4 t5 y5.1.Keys.t, .own true 4 t6 y5.1.Vals.t, .own true 10 t4 y4.Objects.t, .box b3 [i4 y4.Next, t4], .box b2 [i4 y3.1.Id, i4 y3.1.Kind, .str y3.1.Name, i4 y3.1.Low, t2, t3, i4 y3.1.Default.Kind, i4 y3.1.Default.Num, .str y3.1.Default.Text, i4 y3.1.Default.Ref], .own true 4 t2 y3.1.Keys.t, .own true 4 t3 y3.1.Vals.t, .own true 10 t1 y2.Objects.t, .box b1 (DHeap.cells a0)] := hH
  have ht5 : IsOne t5 := Heap.one hH
  have ht6 : IsOne t6 := Heap.one (hH.at 1 rfl)
  refine qs 3 [(1, i4 a1), (2, .ptr b1 0 0 2), (6, .ptr b2 0 0 10), (7, .bool y3.2), (8, .ptr b3 0 0 2), (34, .agg [i4 y5.1.Id, i4 y5.1.Kind, .str y5.1.Name, i4 y5.1.Low, t5, t6, i4 y5.1.Default.Kind, i4 y5.1.Default.Num, .str y5.1.Default.Text, i4 y5.1.Default.Ref]), (35, .bool y5.2)] hS ?_; intro s hS
  refine q_alloc (z := [i4 0, i4 0, .str ⟨#[]⟩, i4 0, (nt DValue), (nt DValue), i4 0, i4 0, .str ⟨#[]⟩, i4 0]) rfl hS hH (by kernel_rfl) ?_; intro b4 σ s hH hS
  refine q_storeA (cs := [i4 y5.1.Id, i4 y5.1.Kind, .str y5.1.Name, i4 y5.1.Low, t5, t6, i4 y5.1.Default.Kind, i4 y5.1.Default.Num, .str y5.1.Default.Text, i4 y5.1.Default.Ref]) rfl hS hH rfl rfl (by simp [ht5.1, ht5.2, ht6.1, ht6.2]) ?_; intro σ s hH hS
  refine qs 1 [(1, i4 a1), (2, .ptr b1 0 0 2), (6, .ptr b2 0 0 10), (7, .bool y3.2), (8, .ptr b3 0 0 2), (9, .ptr b4 0 0 10), (10, .bool y5.2)] hS ?_; intro s hS
  refine x_nil (sq_n (c_seq (c_seq (c_region ?_))))
  refine q_load (v := .agg [i4 y5.1.Id, i4 y5.1.Kind, .str y5.1.Name, i4 y5.1.Low, t5, t6, i4 y5.1.Default.Kind, i4 y5.1.Default.Num, .str y5.1.Default.Text, i4 y5.1.Default.Ref]) 0 trivial rfl hS hH rfl rfl (by kernel_rfl) ?_; intro s hS
  refine q_load (v := .agg [i4 y3.1.Id, i4 y3.1.Kind, .str y3.1.Name, i4 y3.1.Low, t2, t3, i4 y3.1.Default.Kind, i4 y3.1.Default.Num, .str y3.1.Default.Text, i4 y3.1.Default.Ref]) 5 trivial rfl hS hH rfl rfl (by kernel_rfl) ?_; intro s hS
  obtain ⟨y6, hy6, h⟩ := bind_some h
  have hH : Heap σ0 σ [.own true 4 t5 y5.1.Keys.t, .own true 4 t6 y5.1.Vals.t, .own true 4 t2 y3.1.Keys.t, .own true 4 t3 y3.1.Vals.t, .box b4 [i4 y5.1.Id, i4 y5.1.Kind, .str y5.1.Name, i4 y5.1.Low, t5, t6, i4 y5.1.Default.Kind, i4 y5.1.Default.Num, .str y5.1.Default.Text, i4 y5.1.Default.Ref], .own true 10 t4 y4.Objects.t, .box b3 [i4 y4.Next, t4], .box b2 [i4 y3.1.Id, i4 y3.1.Kind, .str y3.1.Name, i4 y3.1.Low, t2, t3, i4 y3.1.Default.Kind, i4 y3.1.Default.Num, .str y3.1.Default.Text, i4 y3.1.Default.Ref], .own true 10 t1 y2.Objects.t, .box b1 (DHeap.cells a0)] := hH.sel [1, 2, 6, 7, 0, 3, 4, 5, 8, 9] rfl (by kernel_rfl)
  refine q_callH (ents := [.own true 4 t5 y5.1.Keys.t, .own true 4 t6 y5.1.Vals.t, .own true 4 t2 y3.1.Keys.t, .own true 4 t3 y3.1.Vals.t]) (z := false) (ts := [.agg [i4 y5.1.Id, i4 y5.1.Kind, .str y5.1.Name, i4 y5.1.Low, t5, t6, i4 y5.1.Default.Kind, i4 y5.1.Default.Num, .str y5.1.Default.Text, i4 y5.1.Default.Ref], .agg [i4 y3.1.Id, i4 y3.1.Kind, .str y3.1.Name, i4 y3.1.Low, t2, t3, i4 y3.1.Default.Kind, i4 y3.1.Default.Num, .str y3.1.Default.Text, i4 y3.1.Default.Ref]]) (vs := [.agg (DObject.cells y5.1), .agg (DObject.cells y3.1)]) rfl hS rfl rfl rfl hH (HL.agg (es1 := [.own true 4 t5 y5.1.Keys.t, .own true 4 t6 y5.1.Vals.t]) (es2 := [.own true 4 t2 y3.1.Keys.t, .own true 4 t3 y3.1.Vals.t]) (HLi (HLi (HLs (HLi (HL.own rfl (HL.own rfl (HLi (HLi (HLs (HLi HL.nil)))))))))) (HL.agg (es1 := [.own true 4 t2 y3.1.Keys.t, .own true 4 t3 y3.1.Vals.t]) (es2 := []) (HLi (HLi (HLs (HLi (HL.own rfl (HL.own rfl (HLi (HLi (HLs (HLi HL.nil)))))))))) HL.nil)) hy6 (by kernel_rfl) ?_; intro s hS
  refine qs 2 [(40, .bool (!y6)), (1, i4 a1), (2, .ptr b1 0 0 2), (6, .ptr b2 0 0 10), (7, .bool y3.2), (8, .ptr b3 0 0 2), (9, .ptr b4 0 0 10), (10, .bool y5.2)] hS ?_; intro s hS
  by_cases hc2 : (!y6) = true
  ·have h := it_pos hc2 h
   have hS := sub_bt hS hc2
   refine qs 4 [(1, i4 a1), (2, .ptr b1 0 0 2), (6, .ptr b2 0 0 10), (7, .bool y3.2), (8, .ptr b3 0 0 2), (9, .ptr b4 0 0 10), (10, .bool y5.2), (44, .bool true)] hS ?_; intro s hS
   refine x_nil (sq_n ?_)
   refine c_cond (t := true) hS rfl (fun _ => ?_) (fun hf => by cases hf)
   refine c_seq (c_region ?_)
   refine qs 1 [(4, .bool false)] hS ?_; intro s hS
   refine x_nil (sq_n (c_ret (sq_r ?_)))
   injection h with h; subst h
   exact end_W hH (r_tmp (v := .bool false) hS rfl r_nil) rfl (by kernel_rfl) (by simp [pureT, pureL, E_bool])
  ·have h := it_neg hc2 h
   have hS := sub_bt hS (tt_of hc2)
   refine qs 4 [(1, i4 a1), (2, .ptr b1 0 0 2), (6, .ptr b2 0 0 10), (7, .bool y3.2), (8, .ptr b3 0 0 2), (9, .ptr b4 0 0 10), (10, .bool y5.2), (44, .bool (!(y5.2 == y3.2)))] hS ?_; intro s hS
   refine x_nil (sq_n ?_)
   by_cases hc3 : (!(y5.2 == y3.2)) = true
   ·have h := it_pos hc3 h
    refine c_cond hS rfl (fun _ => ?_) (fun hf => ff_absurd hc3 hf)
    refine c_seq (c_region ?_)
    refine qs 1 [(4, .bool false)] hS ?_; intro s hS
    refine x_nil (sq_n (c_ret (sq_r ?_)))
    injection h with h; subst h
    exact end_W hH (r_tmp (v := .bool false) hS rfl r_nil) rfl (by kernel_rfl) (by simp [pureT, pureL, E_bool])
   ·have h := it_neg hc3 h
    refine c_cond hS rfl (fun hf => tt_absurd hc3 hf) (fun _ => ?_)
    refine c_skip (sq_n (c_seq (c_seq ?_)))
    refine c_chain (fun _ => False) (fun _ => rfl) (by kernel_rfl) (by kernel_rfl) hH ?_; intro mb σs σ hn0 hlt hlto hH
    have hlt_b3 : b3 < mb := hlt b3 _ (List.Mem.tail _ (List.Mem.tail _ (List.Mem.tail _ (List.Mem.tail _ (List.Mem.tail _ (List.Mem.tail _ (List.Mem.head _)))))))
    refine q_load (v := .agg [i4 y4.Next, t4]) 6 (Or.inr ⟨hlt_b3, Or.inl (by kernel_rfl)⟩) rfl hS hH rfl rfl (by kernel_rfl) ?_; intro s hS
    refine q_load (v := .agg (DHeap.cells a0)) 9 (Or.inl (by kernel_rfl)) rfl hS hH rfl rfl (by kernel_rfl) ?_; intro s hS
    obtain ⟨y7, hy7, h⟩ := bind_some h
    refine q_callO (ents := []) (z := false) (ts := [.agg (DHeap.cells a0)]) (vs := [.agg (DHeap.cells a0)]) rfl rfl hS rfl rfl rfl hH (HL.agg (es1 := []) (es2 := []) (HLi (HLp HL.nil)) HL.nil) hy7 ?_; intro hs σ s hl hH hS
    obtain ⟨t7, rfl⟩ := len1 hl
    have hH : Heap σ0 σ [.own true 10 t7 y7.Objects.t, .own true 4 t5 y5.1.Keys.t, .own true 4 t6 y5.1.Vals.t, .own true 4 t2 y3.1.Keys.t, .own true 4 t3 y3.1.Vals.t, .box b4 [i4 y5.1.Id, i4 y5.1.Kind, .str y5.1.Name, i4 y5.1.Low, t5, t6, i4 y5.1.Default.Kind, i4 y5.1.Default.Num, .str y5.1.Default.Text, i4 y5.1.Default.Ref], .own true 10 t4 y4.Objects.t, .box b3 [i4 y4.Next, t4], .box b2 [i4 y3.1.Id, i4 y3.1.Kind, .str y3.1.Name, i4 y3.1.Low, t2, t3, i4 y3.1.Default.Kind, i4 y3.1.Default.Num, .str y3.1.Default.Text, i4 y3.1.Default.Ref], .own true 10 t1 y2.Objects.t, .box b1 (DHeap.cells a0)] := hH
    have ht7 : IsOne t7 := Heap.one hH
    obtain ⟨y8, hy8, h⟩ := bind_some h
    have hH : Heap σ0 σ [.own true 10 t4 y4.Objects.t, .own true 10 t7 y7.Objects.t, .own true 4 t5 y5.1.Keys.t, .own true 4 t6 y5.1.Vals.t, .own true 4 t2 y3.1.Keys.t, .own true 4 t3 y3.1.Vals.t, .box b4 [i4 y5.1.Id, i4 y5.1.Kind, .str y5.1.Name, i4 y5.1.Low, t5, t6, i4 y5.1.Default.Kind, i4 y5.1.Default.Num, .str y5.1.Default.Text, i4 y5.1.Default.Ref], .box b3 [i4 y4.Next, t4], .box b2 [i4 y3.1.Id, i4 y3.1.Kind, .str y3.1.Name, i4 y3.1.Low, t2, t3, i4 y3.1.Default.Kind, i4 y3.1.Default.Num, .str y3.1.Default.Text, i4 y3.1.Default.Ref], .own true 10 t1 y2.Objects.t, .box b1 (DHeap.cells a0)] := hH.sel [6, 0, 1, 2, 3, 4, 5, 7, 8, 9, 10] rfl (by kernel_rfl)
    refine q_callH (ents := [.own true 10 t4 y4.Objects.t, .own true 10 t7 y7.Objects.t]) (z := false) (ts := [.agg [i4 y4.Next, t4], .agg [i4 y7.Next, t7]]) (vs := [.agg (DHeap.cells y4), .agg (DHeap.cells y7)]) rfl hS rfl rfl rfl hH (HL.agg (es1 := [.own true 10 t4 y4.Objects.t]) (es2 := [.own true 10 t7 y7.Objects.t]) (HLi (HL.own rfl HL.nil)) (HL.agg (es1 := [.own true 10 t7 y7.Objects.t]) (es2 := []) (HLi (HL.own rfl HL.nil)) HL.nil)) hy8 (by kernel_rfl) ?_; intro s hS
    refine qs 1 [(1, i4 a1), (2, .ptr b1 0 0 2), (6, .ptr b2 0 0 10), (7, .bool y3.2), (8, .ptr b3 0 0 2), (9, .ptr b4 0 0 10), (10, .bool y5.2), (49, .bool (!y8))] hS ?_; intro s hS
    refine x_nil (sq_n ?_)
    by_cases hc4 : (!y8) = true
    ·have h := it_pos hc4 h
     refine c_cond hS rfl (fun _ => ?_) (fun hf => ff_absurd hc4 hf)
     refine c_seq (c_region ?_)
     refine qs 1 [(4, .bool false)] hS ?_; intro s hS
     refine x_nil (sq_n (c_ret (sq_r ?_)))
     injection h with h; subst h
     exact end_W hH (r_tmp (v := .bool false) hS rfl r_nil) rfl (by kernel_rfl) (by simp [pureT, pureL, E_bool])
    ·have h := it_neg hc4 h
     refine c_cond hS rfl (fun hf => tt_absurd hc4 hf) (fun _ => ?_)
     refine c_skip (sq_n (c_seq (c_region ?_)))
     refine qs 1 [(1, i4 a1), (2, .ptr b1 0 0 2), (6, .ptr b2 0 0 10), (7, .bool y3.2), (8, .ptr b3 0 0 2), (9, .ptr b4 0 0 10), (10, .bool y5.2), (11, i4 1)] hS ?_; intro s hS
     refine x_nil (sq_n (c_seq (c_region ?_)))
     refine q_load (v := .agg [i4 y4.Next, t4]) 7 trivial rfl hS hH rfl rfl (by kernel_rfl) ?_; intro s hS
     refine qs 1 [(1, i4 a1), (2, .ptr b1 0 0 2), (6, .ptr b2 0 0 10), (7, .bool y3.2), (9, .ptr b4 0 0 10), (10, .bool y5.2), (50, .agg [i4 y4.Next, t4]), (51, i4 1)] hS ?_; intro s hS
     obtain ⟨y9, hy9, h⟩ := bind_some h
     refine q_callR (a := []) (b := []) (xs := [.agg [i4 y4.Next, t4], i4 1]) (ents := [.own true 10 t4 y4.Objects.t]) rfl hS rfl rfl hH (u_laws_markHeap y4 1 y9 hy9 10 t4) ?_; intro hs σ s hl hH hS
     have hH : Heap σ0 σ [.own true 10 t4 y9.2.Objects.t, .own true 10 t7 y7.Objects.t, .own true 4 t5 y5.1.Keys.t, .own true 4 t6 y5.1.Vals.t, .own true 4 t2 y3.1.Keys.t, .own true 4 t3 y3.1.Vals.t, .box b4 [i4 y5.1.Id, i4 y5.1.Kind, .str y5.1.Name, i4 y5.1.Low, t5, t6, i4 y5.1.Default.Kind, i4 y5.1.Default.Num, .str y5.1.Default.Text, i4 y5.1.Default.Ref], .box b3 [i4 y4.Next, t4], .box b2 [i4 y3.1.Id, i4 y3.1.Kind, .str y3.1.Name, i4 y3.1.Low, t2, t3, i4 y3.1.Default.Kind, i4 y3.1.Default.Num, .str y3.1.Default.Text, i4 y3.1.Default.Ref], .own true 10 t1 y2.Objects.t, .box b1 (DHeap.cells a0)] := hH
     refine qs 1 [(1, i4 a1), (2, .ptr b1 0 0 2), (6, .ptr b2 0 0 10), (7, .bool y3.2), (9, .ptr b4 0 0 10), (10, .bool y5.2), (11, i4 y9.1)] hS ?_; intro s hS
     refine x_nil (sq_n (c_seq (c_seq (c_region ?_))))
     refine qs 3 [(55, .bool (decide (y9.1 < 0))), (1, i4 a1), (2, .ptr b1 0 0 2), (6, .ptr b2 0 0 10), (7, .bool y3.2), (9, .ptr b4 0 0 10), (10, .bool y5.2)] hS ?_; intro s hS
     by_cases hc5 : (decide (y9.1 < 0)) = true
     ·have h := it_pos hc5 h
      have hS := sub_bt hS hc5
      refine qs 10 [(1, i4 a1), (2, .ptr b1 0 0 2), (6, .ptr b2 0 0 10), (7, .bool y3.2), (9, .ptr b4 0 0 10), (65, .bool true)] hS ?_; intro s hS
      refine x_nil (sq_n ?_)
      refine c_cond (t := true) hS rfl (fun _ => ?_) (fun hf => by cases hf)
      refine c_seq (c_region ?_)
      refine qs 1 [(4, .bool false)] hS ?_; intro s hS
      refine x_nil (sq_n (c_ret (sq_r ?_)))
      injection h with h; subst h
      exact end_W hH (r_tmp (v := .bool false) hS rfl r_nil) rfl (by kernel_rfl) (by simp [pureT, pureL, E_bool])
     ·have h := it_neg hc5 h
      have hS := sub_bt hS (tt_of hc5)
      refine q_load (v := .agg [i4 y5.1.Id, i4 y5.1.Kind, .str y5.1.Name, i4 y5.1.Low, t5, t6, i4 y5.1.Default.Kind, i4 y5.1.Default.Num, .str y5.1.Default.Text, i4 y5.1.Default.Ref]) 6 trivial rfl hS hH rfl rfl (by kernel_rfl) ?_; intro s hS
      refine q_load (v := .agg [i4 y3.1.Id, i4 y3.1.Kind, .str y3.1.Name, i4 y3.1.Low, t2, t3, i4 y3.1.Default.Kind, i4 y3.1.Default.Num, .str y3.1.Default.Text, i4 y3.1.Default.Ref]) 8 trivial rfl hS hH rfl rfl (by kernel_rfl) ?_; intro s hS
      obtain ⟨y10, hy10, h⟩ := bind_some h
      have hH : Heap σ0 σ [.own true 4 t5 y5.1.Keys.t, .own true 4 t6 y5.1.Vals.t, .own true 4 t2 y3.1.Keys.t, .own true 4 t3 y3.1.Vals.t, .own true 10 t4 y9.2.Objects.t, .own true 10 t7 y7.Objects.t, .box b4 [i4 y5.1.Id, i4 y5.1.Kind, .str y5.1.Name, i4 y5.1.Low, t5, t6, i4 y5.1.Default.Kind, i4 y5.1.Default.Num, .str y5.1.Default.Text, i4 y5.1.Default.Ref], .box b3 [i4 y4.Next, t4], .box b2 [i4 y3.1.Id, i4 y3.1.Kind, .str y3.1.Name, i4 y3.1.Low, t2, t3, i4 y3.1.Default.Kind, i4 y3.1.Default.Num, .str y3.1.Default.Text, i4 y3.1.Default.Ref], .own true 10 t1 y2.Objects.t, .box b1 (DHeap.cells a0)] := hH.sel [2, 3, 4, 5, 0, 1, 6, 7, 8, 9, 10] rfl (by kernel_rfl)
      refine q_callH (ents := [.own true 4 t5 y5.1.Keys.t, .own true 4 t6 y5.1.Vals.t, .own true 4 t2 y3.1.Keys.t, .own true 4 t3 y3.1.Vals.t]) (z := false) (ts := [.agg [i4 y5.1.Id, i4 y5.1.Kind, .str y5.1.Name, i4 y5.1.Low, t5, t6, i4 y5.1.Default.Kind, i4 y5.1.Default.Num, .str y5.1.Default.Text, i4 y5.1.Default.Ref], .agg [i4 y3.1.Id, i4 y3.1.Kind, .str y3.1.Name, i4 y3.1.Low, t2, t3, i4 y3.1.Default.Kind, i4 y3.1.Default.Num, .str y3.1.Default.Text, i4 y3.1.Default.Ref]]) (vs := [.agg (DObject.cells y5.1), .agg (DObject.cells y3.1)]) rfl hS rfl rfl rfl hH (HL.agg (es1 := [.own true 4 t5 y5.1.Keys.t, .own true 4 t6 y5.1.Vals.t]) (es2 := [.own true 4 t2 y3.1.Keys.t, .own true 4 t3 y3.1.Vals.t]) (HLi (HLi (HLs (HLi (HL.own rfl (HL.own rfl (HLi (HLi (HLs (HLi HL.nil)))))))))) (HL.agg (es1 := [.own true 4 t2 y3.1.Keys.t, .own true 4 t3 y3.1.Vals.t]) (es2 := []) (HLi (HLi (HLs (HLi (HL.own rfl (HL.own rfl (HLi (HLi (HLs (HLi HL.nil)))))))))) HL.nil)) hy10 (by kernel_rfl) ?_; intro s hS
      refine qs 3 [(61, .bool (!y10)), (1, i4 a1), (2, .ptr b1 0 0 2), (6, .ptr b2 0 0 10), (7, .bool y3.2), (9, .ptr b4 0 0 10), (10, .bool y5.2)] hS ?_; intro s hS
      by_cases hc6 : (!y10) = true
      ·have h := it_pos hc6 h
       have hS := sub_bt hS hc6
       refine qs 4 [(1, i4 a1), (2, .ptr b1 0 0 2), (6, .ptr b2 0 0 10), (7, .bool y3.2), (9, .ptr b4 0 0 10), (65, .bool true)] hS ?_; intro s hS
       refine x_nil (sq_n ?_)
       refine c_cond (t := true) hS rfl (fun _ => ?_) (fun hf => by cases hf)
       refine c_seq (c_region ?_)
       refine qs 1 [(4, .bool false)] hS ?_; intro s hS
       refine x_nil (sq_n (c_ret (sq_r ?_)))
       injection h with h; subst h
       exact end_W hH (r_tmp (v := .bool false) hS rfl r_nil) rfl (by kernel_rfl) (by simp [pureT, pureL, E_bool])
      ·have h := it_neg hc6 h
       have hS := sub_bt hS (tt_of hc6)
       refine qs 4 [(1, i4 a1), (2, .ptr b1 0 0 2), (6, .ptr b2 0 0 10), (7, .bool y3.2), (9, .ptr b4 0 0 10), (65, .bool (!(y5.2 == y3.2)))] hS ?_; intro s hS
       refine x_nil (sq_n ?_)
       refine c_cond hS rfl (fun hf => tt_absurd hc3 hf) (fun _ => ?_)
       refine c_skip (sq_n (c_seq (c_region ?_)))
       refine qs 1 [(1, i4 a1), (2, .ptr b1 0 0 2), (6, .ptr b2 0 0 10), (7, .bool y3.2), (9, .ptr b4 0 0 10), (12, i4 1)] hS ?_; intro s hS
       refine x_nil (sq_n (c_seq (c_region ?_)))
       refine q_load (v := .agg [i4 y5.1.Id, i4 y5.1.Kind, .str y5.1.Name, i4 y5.1.Low, t5, t6, i4 y5.1.Default.Kind, i4 y5.1.Default.Num, .str y5.1.Default.Text, i4 y5.1.Default.Ref]) 6 trivial rfl hS hH rfl rfl (by kernel_rfl) ?_; intro s hS
       refine qs 1 [(1, i4 a1), (2, .ptr b1 0 0 2), (6, .ptr b2 0 0 10), (7, .bool y3.2), (9, .ptr b4 0 0 10), (66, .agg [i4 y5.1.Id, i4 y5.1.Kind, .str y5.1.Name, i4 y5.1.Low, t5, t6, i4 y5.1.Default.Kind, i4 y5.1.Default.Num, .str y5.1.Default.Text, i4 y5.1.Default.Ref]), (67, i4 1)] hS ?_; intro s hS
       obtain ⟨y11, hy11, h⟩ := bind_some h
       refine q_callR (a := []) (b := []) (xs := [.agg [i4 y5.1.Id, i4 y5.1.Kind, .str y5.1.Name, i4 y5.1.Low, t5, t6, i4 y5.1.Default.Kind, i4 y5.1.Default.Num, .str y5.1.Default.Text, i4 y5.1.Default.Ref], i4 1]) (ents := [.own true 4 t5 y5.1.Keys.t, .own true 4 t6 y5.1.Vals.t]) rfl hS rfl rfl hH (u_laws_markObject y5.1 1 y11 hy11 4 t5 4 t6) ?_; intro hs σ s hl hH hS
       have hH : Heap σ0 σ [.own true 4 t5 y11.2.Keys.t, .own true 4 t6 y11.2.Vals.t, .own true 4 t2 y3.1.Keys.t, .own true 4 t3 y3.1.Vals.t, .own true 10 t4 y9.2.Objects.t, .own true 10 t7 y7.Objects.t, .box b4 [i4 y5.1.Id, i4 y5.1.Kind, .str y5.1.Name, i4 y5.1.Low, t5, t6, i4 y5.1.Default.Kind, i4 y5.1.Default.Num, .str y5.1.Default.Text, i4 y5.1.Default.Ref], .box b3 [i4 y4.Next, t4], .box b2 [i4 y3.1.Id, i4 y3.1.Kind, .str y3.1.Name, i4 y3.1.Low, t2, t3, i4 y3.1.Default.Kind, i4 y3.1.Default.Num, .str y3.1.Default.Text, i4 y3.1.Default.Ref], .own true 10 t1 y2.Objects.t, .box b1 (DHeap.cells a0)] := hH
       refine qs 1 [(1, i4 a1), (2, .ptr b1 0 0 2), (6, .ptr b2 0 0 10), (7, .bool y3.2), (9, .ptr b4 0 0 10), (12, i4 y11.1)] hS ?_; intro s hS
       refine x_nil (sq_n (c_seq (c_region ?_)))
       refine qs 1 [(1, i4 a1), (2, .ptr b1 0 0 2), (6, .ptr b2 0 0 10), (7, .bool y3.2), (9, .ptr b4 0 0 10), (12, i4 y11.1), (13, i4 1)] hS ?_; intro s hS
       refine x_nil (sq_n (c_seq (c_region ?_)))
       refine q_load (v := .agg [i4 y5.1.Id, i4 y5.1.Kind, .str y5.1.Name, i4 y5.1.Low, t5, t6, i4 y5.1.Default.Kind, i4 y5.1.Default.Num, .str y5.1.Default.Text, i4 y5.1.Default.Ref]) 6 trivial rfl hS hH rfl rfl (by kernel_rfl) ?_; intro s hS
       refine qs 1 [(1, i4 a1), (2, .ptr b1 0 0 2), (6, .ptr b2 0 0 10), (7, .bool y3.2), (9, .ptr b4 0 0 10), (12, i4 y11.1), (69, .agg [i4 y5.1.Id, i4 y5.1.Kind, .str y5.1.Name, i4 y5.1.Low, t5, t6, i4 y5.1.Default.Kind, i4 y5.1.Default.Num, .str y5.1.Default.Text, i4 y5.1.Default.Ref]), (70, i4 1)] hS ?_; intro s hS
       obtain ⟨y12, hy12, h⟩ := bind_some h
       refine q_callH (ents := [.own true 4 t5 y11.2.Keys.t, .own true 4 t6 y11.2.Vals.t]) (z := false) (ts := [.agg [i4 y5.1.Id, i4 y5.1.Kind, .str y5.1.Name, i4 y5.1.Low, t5, t6, i4 y5.1.Default.Kind, i4 y5.1.Default.Num, .str y5.1.Default.Text, i4 y5.1.Default.Ref], i4 1]) (vs := [.agg [i4 y5.1.Id, i4 y5.1.Kind, .str y5.1.Name, i4 y5.1.Low, y11.2.Keys.t, y11.2.Vals.t, i4 y5.1.Default.Kind, i4 y5.1.Default.Num, .str y5.1.Default.Text, i4 y5.1.Default.Ref], i4 1]) rfl hS rfl rfl rfl hH (HL.agg (es1 := [.own true 4 t5 y11.2.Keys.t, .own true 4 t6 y11.2.Vals.t]) (es2 := []) (HLi (HLi (HLs (HLi (HL.own rfl (HL.own rfl (HLi (HLi (HLs (HLi HL.nil)))))))))) (HLi HL.nil)) hy12 (by kernel_rfl) ?_; intro s hS
       refine qs 1 [(1, i4 a1), (2, .ptr b1 0 0 2), (6, .ptr b2 0 0 10), (7, .bool y3.2), (9, .ptr b4 0 0 10), (12, i4 y11.1), (13, i4 y12)] hS ?_; intro s hS
       refine x_nil (sq_n (c_seq (c_seq (c_region ?_))))
       refine qs 2 [(1, i4 a1), (2, .ptr b1 0 0 2), (6, .ptr b2 0 0 10), (7, .bool y3.2), (9, .ptr b4 0 0 10), (12, i4 y11.1), (13, i4 y12), (73, .bool (decide (y12 < 0)))] hS ?_; intro s hS
       refine x_nil (sq_n ?_)
       by_cases hc7 : (decide (y12 < 0)) = true
       ·have h := it_pos hc7 h
        refine c_cond hS rfl (fun _ => ?_) (fun hf => ff_absurd hc7 hf)
        refine c_seq (c_region ?_)
        refine qs 1 [(4, .bool false)] hS ?_; intro s hS
        refine x_nil (sq_n (c_ret (sq_r ?_)))
        injection h with h; subst h
        exact end_W hH (r_tmp (v := .bool false) hS rfl r_nil) rfl (by kernel_rfl) (by simp [pureT, pureL, E_bool])
       ·have h := it_neg hc7 h
        refine c_cond hS rfl (fun hf => tt_absurd hc7 hf) (fun _ => ?_)
        refine c_skip (sq_n (c_seq (c_seq (c_region ?_))))
        refine qs 3 [(1, i4 a1), (2, .ptr b1 0 0 2), (6, .ptr b2 0 0 10), (7, .bool y3.2), (9, .ptr b4 0 0 10), (12, i4 y11.1), (76, .bool (!decide (y12 = y11.1)))] hS ?_; intro s hS
        refine x_nil (sq_n ?_)
        by_cases hc8 : (!decide (y12 = y11.1)) = true
        ·have h := it_pos hc8 h
         refine c_cond hS rfl (fun _ => ?_) (fun hf => ff_absurd hc8 hf)
         refine c_seq (c_region ?_)
         refine qs 1 [(4, .bool false)] hS ?_; intro s hS
         refine x_nil (sq_n (c_ret (sq_r ?_)))
         injection h with h; subst h
         exact end_W hH (r_tmp (v := .bool false) hS rfl r_nil) rfl (by kernel_rfl) (by simp [pureT, pureL, E_bool])
        ·have h := it_neg hc8 h
         refine c_cond hS rfl (fun hf => tt_absurd hc8 hf) (fun _ => ?_)
         refine c_skip (sq_n (c_seq (c_region ?_)))
         refine q_load (v := .agg (DHeap.cells a0)) 10 trivial rfl hS hH rfl rfl (by kernel_rfl) ?_; intro s hS
         obtain ⟨y13, hy13, h⟩ := bind_some h
         refine q_callO (ents := []) (z := false) (ts := [.agg (DHeap.cells a0)]) (vs := [.agg (DHeap.cells a0)]) rfl rfl hS rfl rfl rfl hH (HL.agg (es1 := []) (es2 := []) (HLi (HLp HL.nil)) HL.nil) hy13 ?_; intro hs σ s hl hH hS
         obtain ⟨t8, rfl⟩ := len1 hl
         have hH : Heap σ0 σ [.own true 10 t8 y13.Objects.t, .own true 4 t5 y11.2.Keys.t, .own true 4 t6 y11.2.Vals.t, .own true 4 t2 y3.1.Keys.t, .own true 4 t3 y3.1.Vals.t, .own true 10 t4 y9.2.Objects.t, .own true 10 t7 y7.Objects.t, .box b4 [i4 y5.1.Id, i4 y5.1.Kind, .str y5.1.Name, i4 y5.1.Low, t5, t6, i4 y5.1.Default.Kind, i4 y5.1.Default.Num, .str y5.1.Default.Text, i4 y5.1.Default.Ref], .box b3 [i4 y4.Next, t4], .box b2 [i4 y3.1.Id, i4 y3.1.Kind, .str y3.1.Name, i4 y3.1.Low, t2, t3, i4 y3.1.Default.Kind, i4 y3.1.Default.Num, .str y3.1.Default.Text, i4 y3.1.Default.Ref], .own true 10 t1 y2.Objects.t, .box b1 (DHeap.cells a0)] := hH
         have ht8 : IsOne t8 := Heap.one hH
         refine qs 1 [(6, .ptr b2 0 0 10), (7, .bool y3.2), (9, .ptr b4 0 0 10), (12, i4 y11.1), (79, .agg [i4 y13.Next, t8]), (80, i4 a1)] hS ?_; intro s hS
         obtain ⟨y14, hy14, h⟩ := bind_some h
         refine q_callO (ents := [.own true 10 t8 y13.Objects.t]) (z := false) (ts := [.agg [i4 y13.Next, t8], i4 a1]) (vs := [.agg (DHeap.cells y13), i4 a1]) rfl rfl hS rfl rfl rfl hH (HL.agg (es1 := [.own true 10 t8 y13.Objects.t]) (es2 := []) (HLi (HL.own rfl HL.nil)) (HLi HL.nil)) hy14 ?_; intro hs σ s hl hH hS
         obtain ⟨t9, t10, rfl⟩ := len2 hl
         have hH : Heap σ0 σ [.own true 4 t9 y14.1.Keys.t, .own true 4 t10 y14.1.Vals.t, .own true 10 t8 y13.Objects.t, .own true 4 t5 y11.2.Keys.t, .own true 4 t6 y11.2.Vals.t, .own true 4 t2 y3.1.Keys.t, .own true 4 t3 y3.1.Vals.t, .own true 10 t4 y9.2.Objects.t, .own true 10 t7 y7.Objects.t, .box b4 [i4 y5.1.Id, i4 y5.1.Kind, .str y5.1.Name, i4 y5.1.Low, t5, t6, i4 y5.1.Default.Kind, i4 y5.1.Default.Num, .str y5.1.Default.Text, i4 y5.1.Default.Ref], .box b3 [i4 y4.Next, t4], .box b2 [i4 y3.1.Id, i4 y3.1.Kind, .str y3.1.Name, i4 y3.1.Low, t2, t3, i4 y3.1.Default.Kind, i4 y3.1.Default.Num, .str y3.1.Default.Text, i4 y3.1.Default.Ref], .own true 10 t1 y2.Objects.t, .box b1 (DHeap.cells a0)] := hH
         have ht9 : IsOne t9 := Heap.one hH
         have ht10 : IsOne t10 := Heap.one (hH.at 1 rfl)
         refine qs 3 [(6, .ptr b2 0 0 10), (7, .bool y3.2), (9, .ptr b4 0 0 10), (12, i4 y11.1), (82, .agg [i4 y14.1.Id, i4 y14.1.Kind, .str y14.1.Name, i4 y14.1.Low, t9, t10, i4 y14.1.Default.Kind, i4 y14.1.Default.Num, .str y14.1.Default.Text, i4 y14.1.Default.Ref]), (83, .bool y14.2)] hS ?_; intro s hS
         refine q_alloc (z := [i4 0, i4 0, .str ⟨#[]⟩, i4 0, (nt DValue), (nt DValue), i4 0, i4 0, .str ⟨#[]⟩, i4 0]) rfl hS hH (by kernel_rfl) ?_; intro b5 σ s hH hS
         refine q_storeA (cs := [i4 y14.1.Id, i4 y14.1.Kind, .str y14.1.Name, i4 y14.1.Low, t9, t10, i4 y14.1.Default.Kind, i4 y14.1.Default.Num, .str y14.1.Default.Text, i4 y14.1.Default.Ref]) rfl hS hH rfl rfl (by simp [ht10.1, ht10.2, ht9.1, ht9.2]) ?_; intro σ s hH hS
         refine qs 1 [(6, .ptr b2 0 0 10), (7, .bool y3.2), (9, .ptr b4 0 0 10), (12, i4 y11.1), (14, .ptr b5 0 0 10), (15, .bool y14.2)] hS ?_; intro s hS
         refine x_nil (sq_n (c_seq (c_seq (c_region ?_))))
         refine q_load (v := .agg [i4 y14.1.Id, i4 y14.1.Kind, .str y14.1.Name, i4 y14.1.Low, t9, t10, i4 y14.1.Default.Kind, i4 y14.1.Default.Num, .str y14.1.Default.Text, i4 y14.1.Default.Ref]) 0 trivial rfl hS hH rfl rfl (by kernel_rfl) ?_; intro s hS
         refine q_load (v := .agg [i4 y3.1.Id, i4 y3.1.Kind, .str y3.1.Name, i4 y3.1.Low, t2, t3, i4 y3.1.Default.Kind, i4 y3.1.Default.Num, .str y3.1.Default.Text, i4 y3.1.Default.Ref]) 12 trivial rfl hS hH rfl rfl (by kernel_rfl) ?_; intro s hS
         obtain ⟨y15, hy15, h⟩ := bind_some h
         have hH : Heap σ0 σ [.own true 4 t9 y14.1.Keys.t, .own true 4 t10 y14.1.Vals.t, .own true 4 t2 y3.1.Keys.t, .own true 4 t3 y3.1.Vals.t, .box b5 [i4 y14.1.Id, i4 y14.1.Kind, .str y14.1.Name, i4 y14.1.Low, t9, t10, i4 y14.1.Default.Kind, i4 y14.1.Default.Num, .str y14.1.Default.Text, i4 y14.1.Default.Ref], .own true 10 t8 y13.Objects.t, .own true 4 t5 y11.2.Keys.t, .own true 4 t6 y11.2.Vals.t, .own true 10 t4 y9.2.Objects.t, .own true 10 t7 y7.Objects.t, .box b4 [i4 y5.1.Id, i4 y5.1.Kind, .str y5.1.Name, i4 y5.1.Low, t5, t6, i4 y5.1.Default.Kind, i4 y5.1.Default.Num, .str y5.1.Default.Text, i4 y5.1.Default.Ref], .box b3 [i4 y4.Next, t4], .box b2 [i4 y3.1.Id, i4 y3.1.Kind, .str y3.1.Name, i4 y3.1.Low, t2, t3, i4 y3.1.Default.Kind, i4 y3.1.Default.Num, .str y3.1.Default.Text, i4 y3.1.Default.Ref], .own true 10 t1 y2.Objects.t, .box b1 (DHeap.cells a0)] := hH.sel [1, 2, 6, 7, 0, 3, 4, 5, 8, 9, 10, 11, 12, 13, 14] rfl (by kernel_rfl)
         refine q_callH (ents := [.own true 4 t9 y14.1.Keys.t, .own true 4 t10 y14.1.Vals.t, .own true 4 t2 y3.1.Keys.t, .own true 4 t3 y3.1.Vals.t]) (z := false) (ts := [.agg [i4 y14.1.Id, i4 y14.1.Kind, .str y14.1.Name, i4 y14.1.Low, t9, t10, i4 y14.1.Default.Kind, i4 y14.1.Default.Num, .str y14.1.Default.Text, i4 y14.1.Default.Ref], .agg [i4 y3.1.Id, i4 y3.1.Kind, .str y3.1.Name, i4 y3.1.Low, t2, t3, i4 y3.1.Default.Kind, i4 y3.1.Default.Num, .str y3.1.Default.Text, i4 y3.1.Default.Ref]]) (vs := [.agg (DObject.cells y14.1), .agg (DObject.cells y3.1)]) rfl hS rfl rfl rfl hH (HL.agg (es1 := [.own true 4 t9 y14.1.Keys.t, .own true 4 t10 y14.1.Vals.t]) (es2 := [.own true 4 t2 y3.1.Keys.t, .own true 4 t3 y3.1.Vals.t]) (HLi (HLi (HLs (HLi (HL.own rfl (HL.own rfl (HLi (HLi (HLs (HLi HL.nil)))))))))) (HL.agg (es1 := [.own true 4 t2 y3.1.Keys.t, .own true 4 t3 y3.1.Vals.t]) (es2 := []) (HLi (HLi (HLs (HLi (HL.own rfl (HL.own rfl (HLi (HLi (HLs (HLi HL.nil)))))))))) HL.nil)) hy15 (by kernel_rfl) ?_; intro s hS
         refine qs 2 [(88, .bool (!y15)), (7, .bool y3.2), (9, .ptr b4 0 0 10), (12, i4 y11.1), (15, .bool y14.2)] hS ?_; intro s hS
         by_cases hc9 : (!y15) = true
         ·have h := it_pos hc9 h
          have hS := sub_bt hS hc9
          refine qs 4 [(9, .ptr b4 0 0 10), (12, i4 y11.1), (92, .bool true)] hS ?_; intro s hS
          refine x_nil (sq_n ?_)
          refine c_cond (t := true) hS rfl (fun _ => ?_) (fun hf => by cases hf)
          refine c_seq (c_region ?_)
          refine qs 1 [(4, .bool false)] hS ?_; intro s hS
          refine x_nil (sq_n (c_ret (sq_r ?_)))
          injection h with h; subst h
          exact end_W hH (r_tmp (v := .bool false) hS rfl r_nil) rfl (by kernel_rfl) (by simp [pureT, pureL, E_bool])
         ·have h := it_neg hc9 h
          have hS := sub_bt hS (tt_of hc9)
          refine qs 4 [(9, .ptr b4 0 0 10), (12, i4 y11.1), (92, .bool (!(y14.2 == y3.2)))] hS ?_; intro s hS
          refine x_nil (sq_n ?_)
          by_cases hc10 : (!(y14.2 == y3.2)) = true
          ·have h := it_pos hc10 h
           refine c_cond hS rfl (fun _ => ?_) (fun hf => ff_absurd hc10 hf)
           refine c_seq (c_region ?_)
           refine qs 1 [(4, .bool false)] hS ?_; intro s hS
           refine x_nil (sq_n (c_ret (sq_r ?_)))
           injection h with h; subst h
           exact end_W hH (r_tmp (v := .bool false) hS rfl r_nil) rfl (by kernel_rfl) (by simp [pureT, pureL, E_bool])
          ·have h := it_neg hc10 h
           refine c_cond hS rfl (fun hf => tt_absurd hc10 hf) (fun _ => ?_)
           refine c_skip (sq_n (c_seq (c_region ?_)))
           refine qs 1 [(9, .ptr b4 0 0 10), (12, i4 y11.1), (13, i4 1)] hS ?_; intro s hS
           refine x_nil (sq_n (c_seq (c_region ?_)))
           refine q_load (v := .agg [i4 y5.1.Id, i4 y5.1.Kind, .str y5.1.Name, i4 y5.1.Low, t5, t6, i4 y5.1.Default.Kind, i4 y5.1.Default.Num, .str y5.1.Default.Text, i4 y5.1.Default.Ref]) 10 trivial rfl hS hH rfl rfl (by kernel_rfl) ?_; intro s hS
           refine qs 1 [(12, i4 y11.1), (93, .agg [i4 y5.1.Id, i4 y5.1.Kind, .str y5.1.Name, i4 y5.1.Low, t5, t6, i4 y5.1.Default.Kind, i4 y5.1.Default.Num, .str y5.1.Default.Text, i4 y5.1.Default.Ref]), (94, i4 1)] hS ?_; intro s hS
           obtain ⟨y16, hy16, h⟩ := bind_some h
           have hH : Heap σ0 σ [.own true 4 t5 y11.2.Keys.t, .own true 4 t6 y11.2.Vals.t, .own true 4 t9 y14.1.Keys.t, .own true 4 t10 y14.1.Vals.t, .own true 4 t2 y3.1.Keys.t, .own true 4 t3 y3.1.Vals.t, .box b5 [i4 y14.1.Id, i4 y14.1.Kind, .str y14.1.Name, i4 y14.1.Low, t9, t10, i4 y14.1.Default.Kind, i4 y14.1.Default.Num, .str y14.1.Default.Text, i4 y14.1.Default.Ref], .own true 10 t8 y13.Objects.t, .own true 10 t4 y9.2.Objects.t, .own true 10 t7 y7.Objects.t, .box b4 [i4 y5.1.Id, i4 y5.1.Kind, .str y5.1.Name, i4 y5.1.Low, t5, t6, i4 y5.1.Default.Kind, i4 y5.1.Default.Num, .str y5.1.Default.Text, i4 y5.1.Default.Ref], .box b3 [i4 y4.Next, t4], .box b2 [i4 y3.1.Id, i4 y3.1.Kind, .str y3.1.Name, i4 y3.1.Low, t2, t3, i4 y3.1.Default.Kind, i4 y3.1.Default.Num, .str y3.1.Default.Text, i4 y3.1.Default.Ref], .own true 10 t1 y2.Objects.t, .box b1 (DHeap.cells a0)] := hH.sel [6, 7, 0, 1, 2, 3, 4, 5, 8, 9, 10, 11, 12, 13, 14] rfl (by kernel_rfl)
           refine q_callH (ents := [.own true 4 t5 y11.2.Keys.t, .own true 4 t6 y11.2.Vals.t]) (z := false) (ts := [.agg [i4 y5.1.Id, i4 y5.1.Kind, .str y5.1.Name, i4 y5.1.Low, t5, t6, i4 y5.1.Default.Kind, i4 y5.1.Default.Num, .str y5.1.Default.Text, i4 y5.1.Default.Ref], i4 1]) (vs := [.agg [i4 y5.1.Id, i4 y5.1.Kind, .str y5.1.Name, i4 y5.1.Low, y11.2.Keys.t, y11.2.Vals.t, i4 y5.1.Default.Kind, i4 y5.1.Default.Num, .str y5.1.Default.Text, i4 y5.1.Default.Ref], i4 1]) rfl hS rfl rfl rfl hH (HL.agg (es1 := [.own true 4 t5 y11.2.Keys.t, .own true 4 t6 y11.2.Vals.t]) (es2 := []) (HLi (HLi (HLs (HLi (HL.own rfl (HL.own rfl (HLi (HLi (HLs (HLi HL.nil)))))))))) (HLi HL.nil)) hy16 (by kernel_rfl) ?_; intro s hS
           refine qs 1 [(12, i4 y11.1), (13, i4 y16)] hS ?_; intro s hS
           refine x_nil (sq_n (c_seq (c_seq (c_region ?_))))
           refine qs 2 [(12, i4 y11.1), (13, i4 y16), (97, .bool (decide (y16 < 0)))] hS ?_; intro s hS
           refine x_nil (sq_n ?_)
           by_cases hc11 : (decide (y16 < 0)) = true
           ·have h := it_pos hc11 h
            refine c_cond hS rfl (fun _ => ?_) (fun hf => ff_absurd hc11 hf)
            refine c_seq (c_region ?_)
            refine qs 1 [(4, .bool false)] hS ?_; intro s hS
            refine x_nil (sq_n (c_ret (sq_r ?_)))
            injection h with h; subst h
            exact end_W hH (r_tmp (v := .bool false) hS rfl r_nil) rfl (by kernel_rfl) (by simp [pureT, pureL, E_bool])
           ·have h := it_neg hc11 h
            refine c_cond hS rfl (fun hf => tt_absurd hc11 hf) (fun _ => ?_)
            refine c_skip (sq_n (c_seq (c_seq (c_region ?_))))
            refine qs 3 [(100, .bool (!decide (y16 = y11.1)))] hS ?_; intro s hS
            refine x_nil (sq_n ?_)
            by_cases hc12 : (!decide (y16 = y11.1)) = true
            ·have h := it_pos hc12 h
             refine c_cond hS rfl (fun _ => ?_) (fun hf => ff_absurd hc12 hf)
             refine c_seq (c_region ?_)
             refine qs 1 [(4, .bool false)] hS ?_; intro s hS
             refine x_nil (sq_n (c_ret (sq_r ?_)))
             injection h with h; subst h
             exact end_W hH (r_tmp (v := .bool false) hS rfl r_nil) rfl (by kernel_rfl) (by simp [pureT, pureL, E_bool])
            ·have h := it_neg hc12 h
             refine c_cond hS rfl (fun hf => tt_absurd hc12 hf) (fun _ => ?_)
             refine c_skip (sq_n (c_seq (c_region ?_)))
             refine qs 1 [(4, .bool true)] hS ?_; intro s hS
             refine x_nil (sq_n (c_ret ?_))
             injection h with h; subst h
             exact end_W hH (r_tmp (v := .bool true) hS rfl r_nil) rfl (by kernel_rfl) (by simp [pureT, pureL, E_bool])
noncomputable def B_laws_szHeap (a0 : DHeap) (a1 : Int) : Option Int := ((F_laws_szObjectS a0.Objects a1).bind fun y1 => (if (decide (y1 < 0)) = true then (some (-1)) else (some y1)))
theorem u_laws_szHeap (a0 : DHeap) (a1 : Int) (r : Int) (h : B_laws_szHeap a0 a1 = some r) : F_laws_szHeap a0 a1 = some r := by
 unfold B_laws_szHeap at h
 refine semW_of E_i64_inj rfl rfl ok_14 rfl (all_cons (by kernel_rfl) (all_cons (by kernel_rfl) all_nil)) ?_
 intro σ0 s hS hH
 have hS := sub_to (L' := [(0, .agg (DHeap.cells a0)), (1, i4 a1)]) hS (by kernel_rfl)
 refine c_seq (c_region ?_)
 refine q_box (v := .agg (DHeap.cells a0)) (cs := [i4 a0.Next, a0.Objects.t]) rfl hS hH rfl rfl (by kernel_rfl) ?_; intro b1 σ s hH hS
 refine qs 1 [(1, i4 a1), (2, .ptr b1 0 0 2)] hS ?_; intro s hS
 refine x_nil (sq_n (c_seq (c_region ?_)))
 refine qs 1 [(1, i4 a1), (5, .ptr b1 0 1 1)] hS ?_; intro s hS
 refine q_load (v := a0.Objects.t) 0 trivial rfl hS hH rfl rfl (by kernel_rfl) ?_; intro s hS
 refine qs 1 [(6, a0.Objects.t), (7, i4 a1)] hS ?_; intro s hS
 obtain ⟨y1, hy1, h⟩ := bind_some h
 refine q_callF (a := []) (b := []) (xs := [a0.Objects.t, i4 a1]) rfl hS rfl rfl hy1 ?_; intro s hS
 refine qs 1 [(1, i4 y1)] hS ?_; intro s hS
 refine x_nil (sq_n (c_seq (c_seq (c_region ?_))))
 refine qs 2 [(1, i4 y1), (10, .bool (decide (y1 < 0)))] hS ?_; intro s hS
 refine x_nil (sq_n ?_)
 by_cases hc1 : (decide (y1 < 0)) = true
 ·have h := it_pos hc1 h
  refine c_cond hS rfl (fun _ => ?_) (fun hf => ff_absurd hc1 hf)
  refine c_seq (c_region ?_)
  refine qs 1 [(4, i4 (-1))] hS ?_; intro s hS
  refine x_nil (sq_n (c_ret (sq_r ?_)))
  injection h with h; subst h
  exact end_W hH (r_tmp (v := i4 (-1)) hS rfl r_nil) rfl (by kernel_rfl) (by simp [pureT, pureL, E_i64])
 ·have h := it_neg hc1 h
  refine c_cond hS rfl (fun hf => tt_absurd hc1 hf) (fun _ => ?_)
  refine c_skip (sq_n (c_seq (c_region ?_)))
  refine qs 2 [(4, i4 y1)] hS ?_; intro s hS
  refine x_nil (sq_n (c_ret ?_))
  injection h with h; subst h
  exact end_W hH (r_tmp (v := i4 y1) hS rfl r_nil) rfl (by kernel_rfl) (by simp [pureT, pureL, E_i64])
noncomputable def B_spec_ObjectAt (a0 : DHeap) (a1 : Int) : Option (DObject × Bool) := ((F_spec_l07Ok a0).bind fun y1 => (if (!y1) = true then (some ((⟨0, 0, ⟨#[]⟩, 0, ⟨true, []⟩, ⟨true, []⟩, (⟨0, 0, ⟨#[]⟩, 0⟩ : DValue)⟩ : DObject), false)) else ((F_spec_l07Find a0 a1).bind fun y2 => (if (decide (y2 < 0)) = true then (some ((⟨0, 0, ⟨#[]⟩, 0, ⟨true, []⟩, ⟨true, []⟩, (⟨0, 0, ⟨#[]⟩, 0⟩ : DValue)⟩ : DObject), false)) else ((elt a0.Objects y2).bind fun y3 => ((F_spec_l07OwnObject y3).bind fun y4 => (some (y4, true))))))))
theorem u_spec_ObjectAt (a0 : DHeap) (a1 : Int) (r : (DObject × Bool)) (h : B_spec_ObjectAt a0 a1 = some r) : F_spec_ObjectAt a0 a1 = some r := by
 unfold B_spec_ObjectAt at h
 refine semO_of rfl rfl ok_15 rfl (all_cons (by kernel_rfl) (all_cons (by kernel_rfl) all_nil)) ?_
 intro σ0 s hS hH
 have hS := sub_to (L' := [(0, .agg (DHeap.cells a0)), (1, i4 a1)]) hS (by kernel_rfl)
 refine c_seq (c_region ?_)
 refine q_box (v := .agg (DHeap.cells a0)) (cs := [i4 a0.Next, a0.Objects.t]) rfl hS hH rfl rfl (by kernel_rfl) ?_; intro b1 σ s hH hS
 refine q_alloc (z := [i4 0, i4 0, .str ⟨#[]⟩, i4 0, (nt DValue), (nt DValue), i4 0, i4 0, .str ⟨#[]⟩, i4 0]) rfl hS hH (by kernel_rfl) ?_; intro b2 σ s hH hS
 refine qs 1 [(1, i4 a1), (2, .ptr b1 0 0 2), (4, .ptr b2 0 0 10)] hS ?_; intro s hS
 refine x_nil (sq_n (c_seq (c_seq (c_region ?_))))
 obtain ⟨y1, hy1, h⟩ := bind_some h
 refine q_callL (xs := [.ptr b1 0 0 2]) (cs := [[i4 a0.Next, a0.Objects.t]]) [b1] rfl hS rfl rfl rfl (And.intro (Heap.lent (hH.at 1 rfl)) trivial) hy1 ?_; intro s hS
 refine qs 1 [(1, i4 a1), (2, .ptr b1 0 0 2), (4, .ptr b2 0 0 10), (8, .bool (!y1))] hS ?_; intro s hS
 refine x_nil (sq_n ?_)
 by_cases hc1 : (!y1) = true
 ·have h := it_pos hc1 h
  refine c_cond hS rfl (fun _ => ?_) (fun hf => ff_absurd hc1 hf)
  refine c_seq (c_region ?_)
  refine qs 1 [(4, .ptr b2 0 0 10), (9, .agg [i4 0, i4 0, .str ⟨#[]⟩, i4 0, (nt DValue), (nt DValue), i4 0, i4 0, .str ⟨#[]⟩, i4 0])] hS ?_; intro s hS
  refine q_storeA (cs := [i4 0, i4 0, .str ⟨#[]⟩, i4 0, (nt DValue), (nt DValue), i4 0, i4 0, .str ⟨#[]⟩, i4 0]) rfl hS hH rfl rfl (by kernel_rfl) ?_; intro σ s hH hS
  refine qs 1 [(4, .ptr b2 0 0 10), (5, .bool false)] hS ?_; intro s hS
  refine x_nil (sq_n (c_ret (sq_r ?_)))
  injection h with h; subst h
  have hH := Heap.addNil hH true 4
  have hH := Heap.addNil hH true 4
  have hH : Heap σ0 σ [.own true 4 (T.row true 0 []) (nt DValue), .own true 4 (T.row true 0 []) (nt DValue), .box b2 [i4 0, i4 0, .str ⟨#[]⟩, i4 0, (nt DValue), (nt DValue), i4 0, i4 0, .str ⟨#[]⟩, i4 0], .box b1 (DHeap.cells a0)] := hH.sel [1, 0, 2, 3] rfl (by kernel_rfl)
  exact end_Ow [(T.row true 0 []), (T.row true 0 [])] [.box b2 [i4 0, i4 0, .str ⟨#[]⟩, i4 0, (nt DValue), (nt DValue), i4 0, i4 0, .str ⟨#[]⟩, i4 0], .box b1 (DHeap.cells a0)] (r_cell (v := .agg [i4 0, i4 0, .str ⟨#[]⟩, i4 0, (nt DValue), (nt DValue), i4 0, i4 0, .str ⟨#[]⟩, i4 0]) hS (hH.at 2 rfl) rfl (by kernel_rfl) (r_tmp (v := .bool false) hS rfl r_nil)) (by kernel_rfl) rfl hH (by kernel_rfl)
 ·have h := it_neg hc1 h
  refine c_cond hS rfl (fun hf => tt_absurd hc1 hf) (fun _ => ?_)
  refine c_skip (sq_n (c_seq (c_region ?_)))
  refine qs 1 [(2, .ptr b1 0 0 2), (4, .ptr b2 0 0 10), (10, i4 a1)] hS ?_; intro s hS
  obtain ⟨y2, hy2, h⟩ := bind_some h
  refine q_callL (xs := [.ptr b1 0 0 2, i4 a1]) (cs := [[i4 a0.Next, a0.Objects.t]]) [b1] rfl hS rfl rfl rfl (And.intro (Heap.lent (hH.at 1 rfl)) trivial) hy2 ?_; intro s hS
  refine qs 1 [(2, .ptr b1 0 0 2), (4, .ptr b2 0 0 10), (6, i4 y2)] hS ?_; intro s hS
  refine x_nil (sq_n (c_seq (c_seq (c_region ?_))))
  refine qs 2 [(2, .ptr b1 0 0 2), (4, .ptr b2 0 0 10), (6, i4 y2), (13, .bool (decide (y2 < 0)))] hS ?_; intro s hS
  refine x_nil (sq_n ?_)
  by_cases hc2 : (decide (y2 < 0)) = true
  ·have h := it_pos hc2 h
   refine c_cond hS rfl (fun _ => ?_) (fun hf => ff_absurd hc2 hf)
   refine c_seq (c_region ?_)
   refine qs 1 [(4, .ptr b2 0 0 10), (14, .agg [i4 0, i4 0, .str ⟨#[]⟩, i4 0, (nt DValue), (nt DValue), i4 0, i4 0, .str ⟨#[]⟩, i4 0])] hS ?_; intro s hS
   refine q_storeA (cs := [i4 0, i4 0, .str ⟨#[]⟩, i4 0, (nt DValue), (nt DValue), i4 0, i4 0, .str ⟨#[]⟩, i4 0]) rfl hS hH rfl rfl (by kernel_rfl) ?_; intro σ s hH hS
   refine qs 1 [(4, .ptr b2 0 0 10), (5, .bool false)] hS ?_; intro s hS
   refine x_nil (sq_n (c_ret (sq_r ?_)))
   injection h with h; subst h
   have hH := Heap.addNil hH true 4
   have hH := Heap.addNil hH true 4
   have hH : Heap σ0 σ [.own true 4 (T.row true 0 []) (nt DValue), .own true 4 (T.row true 0 []) (nt DValue), .box b2 [i4 0, i4 0, .str ⟨#[]⟩, i4 0, (nt DValue), (nt DValue), i4 0, i4 0, .str ⟨#[]⟩, i4 0], .box b1 (DHeap.cells a0)] := hH.sel [1, 0, 2, 3] rfl (by kernel_rfl)
   exact end_Ow [(T.row true 0 []), (T.row true 0 [])] [.box b2 [i4 0, i4 0, .str ⟨#[]⟩, i4 0, (nt DValue), (nt DValue), i4 0, i4 0, .str ⟨#[]⟩, i4 0], .box b1 (DHeap.cells a0)] (r_cell (v := .agg [i4 0, i4 0, .str ⟨#[]⟩, i4 0, (nt DValue), (nt DValue), i4 0, i4 0, .str ⟨#[]⟩, i4 0]) hS (hH.at 2 rfl) rfl (by kernel_rfl) (r_tmp (v := .bool false) hS rfl r_nil)) (by kernel_rfl) rfl hH (by kernel_rfl)
  ·have h := it_neg hc2 h
   refine c_cond hS rfl (fun hf => tt_absurd hc2 hf) (fun _ => ?_)
   refine c_skip (sq_n (c_seq (c_region ?_)))
   refine qs 1 [(4, .ptr b2 0 0 10), (6, i4 y2), (15, .ptr b1 0 1 1)] hS ?_; intro s hS
   refine q_load (v := a0.Objects.t) 1 trivial rfl hS hH rfl rfl (by kernel_rfl) ?_; intro s hS
   refine qs 1 [(4, .ptr b2 0 0 10), (16, a0.Objects.t), (17, i4 y2)] hS ?_; intro s hS
   obtain ⟨y3, hy3, h⟩ := bind_some h
   refine q_elt (sl := a0.Objects) (e := 30) [i4 y3.Id, i4 y3.Kind, .str y3.Name, i4 y3.Low, y3.Keys.t, y3.Vals.t, i4 y3.Default.Kind, i4 y3.Default.Num, .str y3.Default.Text, i4 y3.Default.Ref] rfl hS rfl rfl (by kernel_rfl) (by kernel_rfl) hy3 rfl ?_; intro rest1 s hS
   refine qs 1 [(4, .ptr b2 0 0 10), (19, .agg (DObject.cells y3))] hS ?_; intro s hS
   obtain ⟨y4, hy4, h⟩ := bind_some h
   refine q_callO (ents := []) (z := false) (ts := [.agg (DObject.cells y3)]) (vs := [.agg (DObject.cells y3)]) rfl rfl hS rfl rfl rfl hH (HL.agg (es1 := []) (es2 := []) (HLi (HLi (HLs (HLi (HLp (HLp (HLi (HLi (HLs (HLi HL.nil)))))))))) HL.nil) hy4 ?_; intro hs σ s hl hH hS
   obtain ⟨t1, t2, rfl⟩ := len2 hl
   have hH : Heap σ0 σ [.own true 4 t1 y4.Keys.t, .own true 4 t2 y4.Vals.t, .box b2 [i4 0, i4 0, .str ⟨#[]⟩, i4 0, (nt DValue), (nt DValue), i4 0, i4 0, .str ⟨#[]⟩, i4 0], .box b1 (DHeap.cells a0)] := hH
   have ht1 : IsOne t1 := Heap.one hH
   have ht2 : IsOne t2 := Heap.one (hH.at 1 rfl)
   have hH : Heap σ0 σ [.box b2 [i4 0, i4 0, .str ⟨#[]⟩, i4 0, (nt DValue), (nt DValue), i4 0, i4 0, .str ⟨#[]⟩, i4 0], .own true 4 t1 y4.Keys.t, .own true 4 t2 y4.Vals.t, .box b1 (DHeap.cells a0)] := hH.sel [2, 0, 1, 3] rfl (by kernel_rfl)
   refine q_storeA (cs := [i4 y4.Id, i4 y4.Kind, .str y4.Name, i4 y4.Low, t1, t2, i4 y4.Default.Kind, i4 y4.Default.Num, .str y4.Default.Text, i4 y4.Default.Ref]) rfl hS hH rfl rfl (by simp [ht1.1, ht1.2, ht2.1, ht2.2]) ?_; intro σ s hH hS
   refine qs 1 [(4, .ptr b2 0 0 10), (5, .bool true)] hS ?_; intro s hS
   refine x_nil (sq_n (c_ret ?_))
   injection h with h; subst h
   have hH : Heap σ0 σ [.own true 4 t1 y4.Keys.t, .own true 4 t2 y4.Vals.t, .box b2 [i4 y4.Id, i4 y4.Kind, .str y4.Name, i4 y4.Low, t1, t2, i4 y4.Default.Kind, i4 y4.Default.Num, .str y4.Default.Text, i4 y4.Default.Ref], .box b1 (DHeap.cells a0)] := hH.sel [1, 2, 0, 3] rfl (by kernel_rfl)
   exact end_Ow [t1, t2] [.box b2 [i4 y4.Id, i4 y4.Kind, .str y4.Name, i4 y4.Low, t1, t2, i4 y4.Default.Kind, i4 y4.Default.Num, .str y4.Default.Text, i4 y4.Default.Ref], .box b1 (DHeap.cells a0)] (r_cell (v := .agg [i4 y4.Id, i4 y4.Kind, .str y4.Name, i4 y4.Low, t1, t2, i4 y4.Default.Kind, i4 y4.Default.Num, .str y4.Default.Text, i4 y4.Default.Ref]) hS (hH.at 2 rfl) rfl (by kernel_rfl) (r_tmp (v := .bool true) hS rfl r_nil)) (by kernel_rfl) rfl hH (by kernel_rfl)
noncomputable def B_laws_toHeap (a0 : DHeap) : Option DHeap := ((F_laws_toObjectS a0.Objects).bind fun y1 => (some (⟨a0.Next, y1⟩ : DHeap)))
theorem u_laws_toHeap (a0 : DHeap) (r : DHeap) (h : B_laws_toHeap a0 = some r) : F_laws_toHeap a0 = some r := by
 unfold B_laws_toHeap at h
 refine semO_of rfl rfl ok_16 rfl (all_cons (by kernel_rfl) all_nil) ?_
 intro σ0 s hS hH
 have hS := sub_to (L' := [(0, .agg (DHeap.cells a0))]) hS (by kernel_rfl)
 refine c_seq (c_region ?_)
 refine q_box (v := .agg (DHeap.cells a0)) (cs := [i4 a0.Next, a0.Objects.t]) rfl hS hH rfl rfl (by kernel_rfl) ?_; intro b1 σ s hH hS
 refine q_alloc (z := [i4 0, (nt DObject)]) rfl hS hH (by kernel_rfl) ?_; intro b2 σ s hH hS
 refine x_nil (sq_n (c_seq (c_region ?_)))
 refine q_alloc (z := [i4 0, (nt DObject)]) rfl hS hH (by kernel_rfl) ?_; intro b3 σ s hH hS
 refine x_nil (sq_n (c_seq (c_region ?_)))
 refine qs 1 [(1, .ptr b1 0 0 2), (2, .ptr b2 0 0 2), (3, .ptr b3 0 0 2), (4, .ptr b1 0 0 1)] hS ?_; intro s hS
 refine q_load (v := i4 a0.Next) 2 trivial rfl hS hH rfl rfl (by kernel_rfl) ?_; intro s hS
 refine qs 1 [(1, .ptr b1 0 0 2), (2, .ptr b2 0 0 2), (3, .ptr b3 0 0 2), (5, i4 a0.Next), (6, .ptr b3 0 0 1)] hS ?_; intro s hS
 refine q_store (v := i4 a0.Next) (cs := [i4 a0.Next]) (cells' := [i4 a0.Next, (nt DObject)]) rfl hS hH rfl rfl rfl (by kernel_rfl) (by kernel_rfl) ?_; intro σ s hH hS
 refine x_nil (sq_n (c_seq (c_region ?_)))
 refine qs 1 [(2, .ptr b2 0 0 2), (3, .ptr b3 0 0 2), (7, .ptr b1 0 1 1)] hS ?_; intro s hS
 refine q_load (v := a0.Objects.t) 2 trivial rfl hS hH rfl rfl (by kernel_rfl) ?_; intro s hS
 obtain ⟨y1, hy1, h⟩ := bind_some h
 refine q_callO (ents := []) (z := false) (ts := [a0.Objects.t]) (vs := [a0.Objects.t]) rfl rfl hS rfl rfl rfl hH (HLp HL.nil) hy1 ?_; intro hs σ s hl hH hS
 obtain ⟨t1, rfl⟩ := len1 hl
 have hH : Heap σ0 σ [.own true 10 t1 y1.t, .box b3 [i4 a0.Next, (nt DObject)], .box b2 [i4 0, (nt DObject)], .box b1 (DHeap.cells a0)] := hH
 have ht1 : IsOne t1 := Heap.one hH
 refine qs 1 [(2, .ptr b2 0 0 2), (3, .ptr b3 0 0 2), (9, t1), (10, .ptr b3 0 1 1)] hS ?_; intro s hS
 have hH : Heap σ0 σ [.box b3 [i4 a0.Next, (nt DObject)], .own true 10 t1 y1.t, .box b2 [i4 0, (nt DObject)], .box b1 (DHeap.cells a0)] := hH.sel [1, 0, 2, 3] rfl (by kernel_rfl)
 refine q_store (v := t1) (cs := [t1]) (cells' := [i4 a0.Next, t1]) rfl hS hH rfl rfl (by simp [ht1.1, ht1.2]) (by simp [ht1.1, ht1.2]) (by kernel_rfl) ?_; intro σ s hH hS
 refine x_nil (sq_n (c_seq (c_region ?_)))
 refine q_load (v := .agg [i4 a0.Next, t1]) 0 trivial rfl hS hH rfl rfl (by kernel_rfl) ?_; intro s hS
 have hH : Heap σ0 σ [.box b2 [i4 0, (nt DObject)], .box b3 [i4 a0.Next, t1], .own true 10 t1 y1.t, .box b1 (DHeap.cells a0)] := hH.sel [2, 0, 1, 3] rfl (by kernel_rfl)
 refine q_storeA (cs := [i4 a0.Next, t1]) rfl hS hH rfl rfl (by simp [ht1.1, ht1.2]) ?_; intro σ s hH hS
 refine x_nil (sq_n (c_ret ?_))
 injection h with h; subst h
 have hH : Heap σ0 σ [.own true 10 t1 y1.t, .box b2 [i4 a0.Next, t1], .box b3 [i4 a0.Next, t1], .box b1 (DHeap.cells a0)] := hH.sel [2, 0, 1, 3] rfl (by kernel_rfl)
 exact end_Ow [t1] [.box b2 [i4 a0.Next, t1], .box b3 [i4 a0.Next, t1], .box b1 (DHeap.cells a0)] (r_cell (v := .agg [i4 a0.Next, t1]) hS (hH.at 1 rfl) rfl (by kernel_rfl) r_nil) (by kernel_rfl) rfl hH (by kernel_rfl)
noncomputable def B_impl_ObjectAt (a0 : DHeap) (a1 : Int) : Option (DObject × Bool) := ((F_impl_ValidHeap a0).bind fun y1 => (if (!y1) = true then (some ((⟨0, 0, ⟨#[]⟩, 0, ⟨true, []⟩, ⟨true, []⟩, (⟨0, 0, ⟨#[]⟩, 0⟩ : DValue)⟩ : DObject), false)) else ((F_impl_Heap_find a0 a1).bind fun y2 => (if (decide (y2 < 0)) = true then (some ((⟨0, 0, ⟨#[]⟩, 0, ⟨true, []⟩, ⟨true, []⟩, (⟨0, 0, ⟨#[]⟩, 0⟩ : DValue)⟩ : DObject), false)) else ((F_impl_Heap_find a0 a1).bind fun y3 => ((elt a0.Objects y3).bind fun y4 => ((F_impl_Object_copied y4).bind fun y5 => (some (y5, true)))))))))
theorem u_impl_ObjectAt (a0 : DHeap) (a1 : Int) (r : (DObject × Bool)) (h : B_impl_ObjectAt a0 a1 = some r) : F_impl_ObjectAt a0 a1 = some r := by
 unfold B_impl_ObjectAt at h
 refine semO_of rfl rfl ok_17 rfl (all_cons (by kernel_rfl) (all_cons (by kernel_rfl) all_nil)) ?_
 intro σ0 s hS hH
 have hS := sub_to (L' := [(0, .agg (DHeap.cells a0)), (1, i4 a1)]) hS (by kernel_rfl)
 refine c_seq (c_region ?_)
 refine q_box (v := .agg (DHeap.cells a0)) (cs := [i4 a0.Next, a0.Objects.t]) rfl hS hH rfl rfl (by kernel_rfl) ?_; intro b1 σ s hH hS
 refine q_alloc (z := [i4 0, i4 0, .str ⟨#[]⟩, i4 0, (nt DValue), (nt DValue), i4 0, i4 0, .str ⟨#[]⟩, i4 0]) rfl hS hH (by kernel_rfl) ?_; intro b2 σ s hH hS
 refine qs 1 [(1, i4 a1), (2, .ptr b1 0 0 2), (4, .ptr b2 0 0 10)] hS ?_; intro s hS
 refine x_nil (sq_n (c_seq (c_seq (c_region ?_))))
 refine q_load (v := .agg (DHeap.cells a0)) 1 trivial rfl hS hH rfl rfl (by kernel_rfl) ?_; intro s hS
 obtain ⟨y1, hy1, h⟩ := bind_some h
 refine q_callF (a := []) (b := []) (xs := [.agg (DHeap.cells a0)]) rfl hS rfl rfl hy1 ?_; intro s hS
 refine qs 2 [(9, .bool (!y1)), (1, i4 a1), (2, .ptr b1 0 0 2), (4, .ptr b2 0 0 10)] hS ?_; intro s hS
 by_cases hc1 : (!y1) = true
 ·have h := it_pos hc1 h
  have hS := sub_bt hS hc1
  refine qs 5 [(1, i4 a1), (2, .ptr b1 0 0 2), (4, .ptr b2 0 0 10), (14, .bool true)] hS ?_; intro s hS
  refine x_nil (sq_n ?_)
  refine c_cond (t := true) hS rfl (fun _ => ?_) (fun hf => by cases hf)
  refine c_seq (c_region ?_)
  refine qs 1 [(4, .ptr b2 0 0 10), (15, .agg [i4 0, i4 0, .str ⟨#[]⟩, i4 0, (nt DValue), (nt DValue), i4 0, i4 0, .str ⟨#[]⟩, i4 0])] hS ?_; intro s hS
  refine q_storeA (cs := [i4 0, i4 0, .str ⟨#[]⟩, i4 0, (nt DValue), (nt DValue), i4 0, i4 0, .str ⟨#[]⟩, i4 0]) rfl hS hH rfl rfl (by kernel_rfl) ?_; intro σ s hH hS
  refine qs 1 [(4, .ptr b2 0 0 10), (5, .bool false)] hS ?_; intro s hS
  refine x_nil (sq_n (c_ret (sq_r ?_)))
  injection h with h; subst h
  have hH := Heap.addNil hH true 4
  have hH := Heap.addNil hH true 4
  have hH : Heap σ0 σ [.own true 4 (T.row true 0 []) (nt DValue), .own true 4 (T.row true 0 []) (nt DValue), .box b2 [i4 0, i4 0, .str ⟨#[]⟩, i4 0, (nt DValue), (nt DValue), i4 0, i4 0, .str ⟨#[]⟩, i4 0], .box b1 (DHeap.cells a0)] := hH.sel [1, 0, 2, 3] rfl (by kernel_rfl)
  exact end_Ow [(T.row true 0 []), (T.row true 0 [])] [.box b2 [i4 0, i4 0, .str ⟨#[]⟩, i4 0, (nt DValue), (nt DValue), i4 0, i4 0, .str ⟨#[]⟩, i4 0], .box b1 (DHeap.cells a0)] (r_cell (v := .agg [i4 0, i4 0, .str ⟨#[]⟩, i4 0, (nt DValue), (nt DValue), i4 0, i4 0, .str ⟨#[]⟩, i4 0]) hS (hH.at 2 rfl) rfl (by kernel_rfl) (r_tmp (v := .bool false) hS rfl r_nil)) (by kernel_rfl) rfl hH (by kernel_rfl)
 ·have h := it_neg hc1 h
  have hS := sub_bt hS (tt_of hc1)
  refine q_load (v := .agg (DHeap.cells a0)) 1 trivial rfl hS hH rfl rfl (by kernel_rfl) ?_; intro s hS
  refine qs 1 [(1, i4 a1), (2, .ptr b1 0 0 2), (4, .ptr b2 0 0 10), (9, .bool false), (10, .agg (DHeap.cells a0)), (11, i4 a1)] hS ?_; intro s hS
  obtain ⟨y2, hy2, h⟩ := bind_some h
  refine q_callF (a := []) (b := []) (xs := [.agg (DHeap.cells a0), i4 a1]) rfl hS rfl rfl hy2 ?_; intro s hS
  refine qs 2 [(1, i4 a1), (2, .ptr b1 0 0 2), (4, .ptr b2 0 0 10), (14, .bool (decide (y2 < 0)))] hS ?_; intro s hS
  refine x_nil (sq_n ?_)
  by_cases hc2 : (decide (y2 < 0)) = true
  ·have h := it_pos hc2 h
   refine c_cond hS rfl (fun _ => ?_) (fun hf => ff_absurd hc2 hf)
   refine c_seq (c_region ?_)
   refine qs 1 [(4, .ptr b2 0 0 10), (15, .agg [i4 0, i4 0, .str ⟨#[]⟩, i4 0, (nt DValue), (nt DValue), i4 0, i4 0, .str ⟨#[]⟩, i4 0])] hS ?_; intro s hS
   refine q_storeA (cs := [i4 0, i4 0, .str ⟨#[]⟩, i4 0, (nt DValue), (nt DValue), i4 0, i4 0, .str ⟨#[]⟩, i4 0]) rfl hS hH rfl rfl (by kernel_rfl) ?_; intro σ s hH hS
   refine qs 1 [(4, .ptr b2 0 0 10), (5, .bool false)] hS ?_; intro s hS
   refine x_nil (sq_n (c_ret (sq_r ?_)))
   injection h with h; subst h
   have hH := Heap.addNil hH true 4
   have hH := Heap.addNil hH true 4
   have hH : Heap σ0 σ [.own true 4 (T.row true 0 []) (nt DValue), .own true 4 (T.row true 0 []) (nt DValue), .box b2 [i4 0, i4 0, .str ⟨#[]⟩, i4 0, (nt DValue), (nt DValue), i4 0, i4 0, .str ⟨#[]⟩, i4 0], .box b1 (DHeap.cells a0)] := hH.sel [1, 0, 2, 3] rfl (by kernel_rfl)
   exact end_Ow [(T.row true 0 []), (T.row true 0 [])] [.box b2 [i4 0, i4 0, .str ⟨#[]⟩, i4 0, (nt DValue), (nt DValue), i4 0, i4 0, .str ⟨#[]⟩, i4 0], .box b1 (DHeap.cells a0)] (r_cell (v := .agg [i4 0, i4 0, .str ⟨#[]⟩, i4 0, (nt DValue), (nt DValue), i4 0, i4 0, .str ⟨#[]⟩, i4 0]) hS (hH.at 2 rfl) rfl (by kernel_rfl) (r_tmp (v := .bool false) hS rfl r_nil)) (by kernel_rfl) rfl hH (by kernel_rfl)
  ·have h := it_neg hc2 h
   refine c_cond hS rfl (fun hf => tt_absurd hc2 hf) (fun _ => ?_)
   refine c_skip (sq_n (c_seq ?_))
   refine c_chain (fun _ => True) (fun _ => rfl) (by kernel_rfl) (by kernel_rfl) hH ?_; intro mb σs σ hn0 hlt hlto hH
   have hlt_b1 : b1 < mb := hlt b1 _ (List.Mem.tail _ (List.Mem.head _))
   refine qs 1 [(1, i4 a1), (2, .ptr b1 0 0 2), (4, .ptr b2 0 0 10), (16, .ptr b1 0 1 1)] hS ?_; intro s hS
   refine q_load (v := a0.Objects.t) 1 (Or.inr ⟨hlt_b1, Or.inl (by kernel_rfl)⟩) rfl hS hH rfl rfl (by kernel_rfl) ?_; intro s hS
   refine q_load (v := .agg (DHeap.cells a0)) 1 (Or.inl (by kernel_rfl)) rfl hS hH rfl rfl (by kernel_rfl) ?_; intro s hS
   refine qs 1 [(4, .ptr b2 0 0 10), (17, a0.Objects.t), (18, .agg (DHeap.cells a0)), (19, i4 a1)] hS ?_; intro s hS
   obtain ⟨y3, hy3, h⟩ := bind_some h
   refine q_callF (a := []) (b := []) (xs := [.agg (DHeap.cells a0), i4 a1]) rfl hS rfl rfl hy3 ?_; intro s hS
   obtain ⟨y4, hy4, h⟩ := bind_some h
   refine q_elt (sl := a0.Objects) (e := 30) [i4 y4.Id, i4 y4.Kind, .str y4.Name, i4 y4.Low, y4.Keys.t, y4.Vals.t, i4 y4.Default.Kind, i4 y4.Default.Num, .str y4.Default.Text, i4 y4.Default.Ref] rfl hS rfl rfl (by kernel_rfl) (by kernel_rfl) hy4 rfl ?_; intro rest1 s hS
   refine qs 1 [(4, .ptr b2 0 0 10), (22, .agg (DObject.cells y4))] hS ?_; intro s hS
   obtain ⟨y5, hy5, h⟩ := bind_some h
   refine q_callO (ents := []) (z := false) (ts := [.agg (DObject.cells y4)]) (vs := [.agg (DObject.cells y4)]) rfl rfl hS rfl rfl rfl hH (HL.agg (es1 := []) (es2 := []) (HLi (HLi (HLs (HLi (HLp (HLp (HLi (HLi (HLs (HLi HL.nil)))))))))) HL.nil) hy5 ?_; intro hs σ s hl hH hS
   obtain ⟨t1, t2, rfl⟩ := len2 hl
   have hH : Heap σ0 σ [.own true 4 t1 y5.Keys.t, .own true 4 t2 y5.Vals.t, .box b2 [i4 0, i4 0, .str ⟨#[]⟩, i4 0, (nt DValue), (nt DValue), i4 0, i4 0, .str ⟨#[]⟩, i4 0], .box b1 (DHeap.cells a0)] := hH
   have ht1 : IsOne t1 := Heap.one hH
   have ht2 : IsOne t2 := Heap.one (hH.at 1 rfl)
   have hH : Heap σ0 σ [.box b2 [i4 0, i4 0, .str ⟨#[]⟩, i4 0, (nt DValue), (nt DValue), i4 0, i4 0, .str ⟨#[]⟩, i4 0], .own true 4 t1 y5.Keys.t, .own true 4 t2 y5.Vals.t, .box b1 (DHeap.cells a0)] := hH.sel [2, 0, 1, 3] rfl (by kernel_rfl)
   refine q_storeC rfl (v := .agg [i4 y5.Id, i4 y5.Kind, .str y5.Name, i4 y5.Low, t1, t2, i4 y5.Default.Kind, i4 y5.Default.Num, .str y5.Default.Text, i4 y5.Default.Ref]) (cs := [i4 y5.Id, i4 y5.Kind, .str y5.Name, i4 y5.Low, t1, t2, i4 y5.Default.Kind, i4 y5.Default.Num, .str y5.Default.Text, i4 y5.Default.Ref]) (cells' := [i4 y5.Id, i4 y5.Kind, .str y5.Name, i4 y5.Low, t1, t2, i4 y5.Default.Kind, i4 y5.Default.Num, .str y5.Default.Text, i4 y5.Default.Ref]) (by exact Or.inr ⟨by kernel_rfl, trivial⟩) rfl hS hH rfl rfl rfl (by simp [ht1.1, ht1.2, ht2.1, ht2.2]) (by kernel_rfl) ?_; intro σ s hH hS
   refine qs 1 [(4, .ptr b2 0 0 10), (5, .bool true)] hS ?_; intro s hS
   refine x_nil (sq_n (c_ret ?_))
   injection h with h; subst h
   have hH : Heap σ0 σ [.own true 4 t1 y5.Keys.t, .own true 4 t2 y5.Vals.t, .box b2 [i4 y5.Id, i4 y5.Kind, .str y5.Name, i4 y5.Low, t1, t2, i4 y5.Default.Kind, i4 y5.Default.Num, .str y5.Default.Text, i4 y5.Default.Ref], .box b1 (DHeap.cells a0)] := hH.sel [1, 2, 0, 3] rfl (by kernel_rfl)
   exact end_Ow [t1, t2] [.box b2 [i4 y5.Id, i4 y5.Kind, .str y5.Name, i4 y5.Low, t1, t2, i4 y5.Default.Kind, i4 y5.Default.Num, .str y5.Default.Text, i4 y5.Default.Ref], .box b1 (DHeap.cells a0)] (r_cell (v := .agg [i4 y5.Id, i4 y5.Kind, .str y5.Name, i4 y5.Low, t1, t2, i4 y5.Default.Kind, i4 y5.Default.Num, .str y5.Default.Text, i4 y5.Default.Ref]) hS (hH.at 2 rfl) rfl (by kernel_rfl) (r_tmp (v := .bool true) hS rfl r_nil)) (by kernel_rfl) rfl hH (by kernel_rfl)
noncomputable def B_laws_eqObject (a0 : DObject) (a1 : DObject) : Option Bool := (if (!decide (a0.Id = a1.Id)) = true then (some false) else (if (!decide (a0.Kind = a1.Kind)) = true then (some false) else (if (!decide (a0.Name = a1.Name)) = true then (some false) else (if (!decide (a0.Low = a1.Low)) = true then (some false) else ((F_laws_eqValueS a0.Keys a1.Keys).bind fun y1 => (if (!y1) = true then (some false) else ((F_laws_eqValueS a0.Vals a1.Vals).bind fun y2 => (if (!y2) = true then (some false) else ((F_laws_eqValue a0.Default a1.Default).bind fun y3 => (if (!y3) = true then (some false) else (some true)))))))))))
theorem u_laws_eqObject (a0 : DObject) (a1 : DObject) (r : Bool) (h : B_laws_eqObject a0 a1 = some r) : F_laws_eqObject a0 a1 = some r := by
 unfold B_laws_eqObject at h
 refine semW_of E_bool_inj rfl rfl ok_18 rfl (all_cons (by kernel_rfl) (all_cons (by kernel_rfl) all_nil)) ?_
 intro σ0 s hS hH
 have hS := sub_to (L' := [(0, .agg (DObject.cells a0)), (1, .agg (DObject.cells a1))]) hS (by kernel_rfl)
 refine c_seq (c_region ?_)
 refine q_box (v := .agg (DObject.cells a0)) (cs := [i4 a0.Id, i4 a0.Kind, .str a0.Name, i4 a0.Low, a0.Keys.t, a0.Vals.t, i4 a0.Default.Kind, i4 a0.Default.Num, .str a0.Default.Text, i4 a0.Default.Ref]) rfl hS hH rfl rfl (by kernel_rfl) ?_; intro b1 σ s hH hS
 refine q_box (v := .agg (DObject.cells a1)) (cs := [i4 a1.Id, i4 a1.Kind, .str a1.Name, i4 a1.Low, a1.Keys.t, a1.Vals.t, i4 a1.Default.Kind, i4 a1.Default.Num, .str a1.Default.Text, i4 a1.Default.Ref]) rfl hS hH rfl rfl (by kernel_rfl) ?_; intro b2 σ s hH hS
 refine qs 1 [(2, .ptr b1 0 0 10), (3, .ptr b2 0 0 10)] hS ?_; intro s hS
 refine x_nil (sq_n (c_seq (c_seq (c_region ?_))))
 refine qs 1 [(2, .ptr b1 0 0 10), (3, .ptr b2 0 0 10), (5, .ptr b1 0 0 1)] hS ?_; intro s hS
 refine q_load (v := i4 a0.Id) 1 trivial rfl hS hH rfl rfl (by kernel_rfl) ?_; intro s hS
 refine qs 1 [(2, .ptr b1 0 0 10), (3, .ptr b2 0 0 10), (6, i4 a0.Id), (7, .ptr b2 0 0 1)] hS ?_; intro s hS
 refine q_load (v := i4 a1.Id) 0 trivial rfl hS hH rfl rfl (by kernel_rfl) ?_; intro s hS
 refine qs 1 [(2, .ptr b1 0 0 10), (3, .ptr b2 0 0 10), (9, .bool (!decide (a0.Id = a1.Id)))] hS ?_; intro s hS
 refine x_nil (sq_n ?_)
 by_cases hc1 : (!decide (a0.Id = a1.Id)) = true
 ·have h := it_pos hc1 h
  refine c_cond hS rfl (fun _ => ?_) (fun hf => ff_absurd hc1 hf)
  refine c_seq (c_region ?_)
  refine qs 1 [(4, .bool false)] hS ?_; intro s hS
  refine x_nil (sq_n (c_ret (sq_r ?_)))
  injection h with h; subst h
  exact end_W hH (r_tmp (v := .bool false) hS rfl r_nil) rfl (by kernel_rfl) (by simp [pureT, pureL, E_bool])
 ·have h := it_neg hc1 h
  refine c_cond hS rfl (fun hf => tt_absurd hc1 hf) (fun _ => ?_)
  refine c_skip (sq_n (c_seq (c_seq (c_region ?_))))
  refine qs 1 [(2, .ptr b1 0 0 10), (3, .ptr b2 0 0 10), (10, .ptr b1 0 1 1)] hS ?_; intro s hS
  refine q_load (v := i4 a0.Kind) 1 trivial rfl hS hH rfl rfl (by kernel_rfl) ?_; intro s hS
  refine qs 1 [(2, .ptr b1 0 0 10), (3, .ptr b2 0 0 10), (11, i4 a0.Kind), (12, .ptr b2 0 1 1)] hS ?_; intro s hS
  refine q_load (v := i4 a1.Kind) 0 trivial rfl hS hH rfl rfl (by kernel_rfl) ?_; intro s hS
  refine qs 1 [(2, .ptr b1 0 0 10), (3, .ptr b2 0 0 10), (14, .bool (!decide (a0.Kind = a1.Kind)))] hS ?_; intro s hS
  refine x_nil (sq_n ?_)
  by_cases hc2 : (!decide (a0.Kind = a1.Kind)) = true
  ·have h := it_pos hc2 h
   refine c_cond hS rfl (fun _ => ?_) (fun hf => ff_absurd hc2 hf)
   refine c_seq (c_region ?_)
   refine qs 1 [(4, .bool false)] hS ?_; intro s hS
   refine x_nil (sq_n (c_ret (sq_r ?_)))
   injection h with h; subst h
   exact end_W hH (r_tmp (v := .bool false) hS rfl r_nil) rfl (by kernel_rfl) (by simp [pureT, pureL, E_bool])
  ·have h := it_neg hc2 h
   refine c_cond hS rfl (fun hf => tt_absurd hc2 hf) (fun _ => ?_)
   refine c_skip (sq_n (c_seq (c_seq (c_region ?_))))
   refine qs 1 [(2, .ptr b1 0 0 10), (3, .ptr b2 0 0 10), (15, .ptr b1 0 2 1)] hS ?_; intro s hS
   refine q_load (v := .str a0.Name) 1 trivial rfl hS hH rfl rfl (by kernel_rfl) ?_; intro s hS
   refine qs 1 [(2, .ptr b1 0 0 10), (3, .ptr b2 0 0 10), (16, .str a0.Name), (17, .ptr b2 0 2 1)] hS ?_; intro s hS
   refine q_load (v := .str a1.Name) 0 trivial rfl hS hH rfl rfl (by kernel_rfl) ?_; intro s hS
   refine qs 1 [(2, .ptr b1 0 0 10), (3, .ptr b2 0 0 10), (19, .bool (!decide (a0.Name = a1.Name)))] hS ?_; intro s hS
   refine x_nil (sq_n ?_)
   by_cases hc3 : (!decide (a0.Name = a1.Name)) = true
   ·have h := it_pos hc3 h
    refine c_cond hS rfl (fun _ => ?_) (fun hf => ff_absurd hc3 hf)
    refine c_seq (c_region ?_)
    refine qs 1 [(4, .bool false)] hS ?_; intro s hS
    refine x_nil (sq_n (c_ret (sq_r ?_)))
    injection h with h; subst h
    exact end_W hH (r_tmp (v := .bool false) hS rfl r_nil) rfl (by kernel_rfl) (by simp [pureT, pureL, E_bool])
   ·have h := it_neg hc3 h
    refine c_cond hS rfl (fun hf => tt_absurd hc3 hf) (fun _ => ?_)
    refine c_skip (sq_n (c_seq (c_seq (c_region ?_))))
    refine qs 1 [(2, .ptr b1 0 0 10), (3, .ptr b2 0 0 10), (20, .ptr b1 0 3 1)] hS ?_; intro s hS
    refine q_load (v := i4 a0.Low) 1 trivial rfl hS hH rfl rfl (by kernel_rfl) ?_; intro s hS
    refine qs 1 [(2, .ptr b1 0 0 10), (3, .ptr b2 0 0 10), (21, i4 a0.Low), (22, .ptr b2 0 3 1)] hS ?_; intro s hS
    refine q_load (v := i4 a1.Low) 0 trivial rfl hS hH rfl rfl (by kernel_rfl) ?_; intro s hS
    refine qs 1 [(2, .ptr b1 0 0 10), (3, .ptr b2 0 0 10), (24, .bool (!decide (a0.Low = a1.Low)))] hS ?_; intro s hS
    refine x_nil (sq_n ?_)
    by_cases hc4 : (!decide (a0.Low = a1.Low)) = true
    ·have h := it_pos hc4 h
     refine c_cond hS rfl (fun _ => ?_) (fun hf => ff_absurd hc4 hf)
     refine c_seq (c_region ?_)
     refine qs 1 [(4, .bool false)] hS ?_; intro s hS
     refine x_nil (sq_n (c_ret (sq_r ?_)))
     injection h with h; subst h
     exact end_W hH (r_tmp (v := .bool false) hS rfl r_nil) rfl (by kernel_rfl) (by simp [pureT, pureL, E_bool])
    ·have h := it_neg hc4 h
     refine c_cond hS rfl (fun hf => tt_absurd hc4 hf) (fun _ => ?_)
     refine c_skip (sq_n (c_seq (c_seq (c_region ?_))))
     refine qs 1 [(2, .ptr b1 0 0 10), (3, .ptr b2 0 0 10), (25, .ptr b1 0 4 1)] hS ?_; intro s hS
     refine q_load (v := a0.Keys.t) 1 trivial rfl hS hH rfl rfl (by kernel_rfl) ?_; intro s hS
     refine qs 1 [(2, .ptr b1 0 0 10), (3, .ptr b2 0 0 10), (26, a0.Keys.t), (27, .ptr b2 0 4 1)] hS ?_; intro s hS
     refine q_load (v := a1.Keys.t) 0 trivial rfl hS hH rfl rfl (by kernel_rfl) ?_; intro s hS
     obtain ⟨y1, hy1, h⟩ := bind_some h
     refine q_callF (a := []) (b := []) (xs := [a0.Keys.t, a1.Keys.t]) rfl hS rfl rfl hy1 ?_; intro s hS
     refine qs 1 [(2, .ptr b1 0 0 10), (3, .ptr b2 0 0 10), (30, .bool (!y1))] hS ?_; intro s hS
     refine x_nil (sq_n ?_)
     by_cases hc5 : (!y1) = true
     ·have h := it_pos hc5 h
      refine c_cond hS rfl (fun _ => ?_) (fun hf => ff_absurd hc5 hf)
      refine c_seq (c_region ?_)
      refine qs 1 [(4, .bool false)] hS ?_; intro s hS
      refine x_nil (sq_n (c_ret (sq_r ?_)))
      injection h with h; subst h
      exact end_W hH (r_tmp (v := .bool false) hS rfl r_nil) rfl (by kernel_rfl) (by simp [pureT, pureL, E_bool])
     ·have h := it_neg hc5 h
      refine c_cond hS rfl (fun hf => tt_absurd hc5 hf) (fun _ => ?_)
      refine c_skip (sq_n (c_seq (c_seq (c_region ?_))))
      refine qs 1 [(2, .ptr b1 0 0 10), (3, .ptr b2 0 0 10), (31, .ptr b1 0 5 1)] hS ?_; intro s hS
      refine q_load (v := a0.Vals.t) 1 trivial rfl hS hH rfl rfl (by kernel_rfl) ?_; intro s hS
      refine qs 1 [(2, .ptr b1 0 0 10), (3, .ptr b2 0 0 10), (32, a0.Vals.t), (33, .ptr b2 0 5 1)] hS ?_; intro s hS
      refine q_load (v := a1.Vals.t) 0 trivial rfl hS hH rfl rfl (by kernel_rfl) ?_; intro s hS
      obtain ⟨y2, hy2, h⟩ := bind_some h
      refine q_callF (a := []) (b := []) (xs := [a0.Vals.t, a1.Vals.t]) rfl hS rfl rfl hy2 ?_; intro s hS
      refine qs 1 [(2, .ptr b1 0 0 10), (3, .ptr b2 0 0 10), (36, .bool (!y2))] hS ?_; intro s hS
      refine x_nil (sq_n ?_)
      by_cases hc6 : (!y2) = true
      ·have h := it_pos hc6 h
       refine c_cond hS rfl (fun _ => ?_) (fun hf => ff_absurd hc6 hf)
       refine c_seq (c_region ?_)
       refine qs 1 [(4, .bool false)] hS ?_; intro s hS
       refine x_nil (sq_n (c_ret (sq_r ?_)))
       injection h with h; subst h
       exact end_W hH (r_tmp (v := .bool false) hS rfl r_nil) rfl (by kernel_rfl) (by simp [pureT, pureL, E_bool])
      ·have h := it_neg hc6 h
       refine c_cond hS rfl (fun hf => tt_absurd hc6 hf) (fun _ => ?_)
       refine c_skip (sq_n (c_seq (c_seq (c_region ?_))))
       refine qs 1 [(3, .ptr b2 0 0 10), (37, .ptr b1 0 6 4)] hS ?_; intro s hS
       refine q_load (v := .agg (DValue.cells a0.Default)) 1 trivial rfl hS hH rfl rfl (by kernel_rfl) ?_; intro s hS
       refine qs 1 [(38, .agg (DValue.cells a0.Default)), (39, .ptr b2 0 6 4)] hS ?_; intro s hS
       refine q_load (v := .agg (DValue.cells a1.Default)) 0 trivial rfl hS hH rfl rfl (by kernel_rfl) ?_; intro s hS
       obtain ⟨y3, hy3, h⟩ := bind_some h
       refine q_callF (a := []) (b := []) (xs := [.agg (DValue.cells a0.Default), .agg (DValue.cells a1.Default)]) rfl hS rfl rfl hy3 ?_; intro s hS
       refine qs 1 [(42, .bool (!y3))] hS ?_; intro s hS
       refine x_nil (sq_n ?_)
       by_cases hc7 : (!y3) = true
       ·have h := it_pos hc7 h
        refine c_cond hS rfl (fun _ => ?_) (fun hf => ff_absurd hc7 hf)
        refine c_seq (c_region ?_)
        refine qs 1 [(4, .bool false)] hS ?_; intro s hS
        refine x_nil (sq_n (c_ret (sq_r ?_)))
        injection h with h; subst h
        exact end_W hH (r_tmp (v := .bool false) hS rfl r_nil) rfl (by kernel_rfl) (by simp [pureT, pureL, E_bool])
       ·have h := it_neg hc7 h
        refine c_cond hS rfl (fun hf => tt_absurd hc7 hf) (fun _ => ?_)
        refine c_skip (sq_n (c_seq (c_region ?_)))
        refine qs 1 [(4, .bool true)] hS ?_; intro s hS
        refine x_nil (sq_n (c_ret ?_))
        injection h with h; subst h
        exact end_W hH (r_tmp (v := .bool true) hS rfl r_nil) rfl (by kernel_rfl) (by simp [pureT, pureL, E_bool])
noncomputable def B_laws_eqHeap (a0 : DHeap) (a1 : DHeap) : Option Bool := (if (!decide (a0.Next = a1.Next)) = true then (some false) else ((F_laws_eqObjectS a0.Objects a1.Objects).bind fun y1 => (if (!y1) = true then (some false) else (some true))))
theorem u_laws_eqHeap (a0 : DHeap) (a1 : DHeap) (r : Bool) (h : B_laws_eqHeap a0 a1 = some r) : F_laws_eqHeap a0 a1 = some r := by
 unfold B_laws_eqHeap at h
 refine semW_of E_bool_inj rfl rfl ok_19 rfl (all_cons (by kernel_rfl) (all_cons (by kernel_rfl) all_nil)) ?_
 intro σ0 s hS hH
 have hS := sub_to (L' := [(0, .agg (DHeap.cells a0)), (1, .agg (DHeap.cells a1))]) hS (by kernel_rfl)
 refine c_seq (c_region ?_)
 refine q_box (v := .agg (DHeap.cells a0)) (cs := [i4 a0.Next, a0.Objects.t]) rfl hS hH rfl rfl (by kernel_rfl) ?_; intro b1 σ s hH hS
 refine q_box (v := .agg (DHeap.cells a1)) (cs := [i4 a1.Next, a1.Objects.t]) rfl hS hH rfl rfl (by kernel_rfl) ?_; intro b2 σ s hH hS
 refine qs 1 [(2, .ptr b1 0 0 2), (3, .ptr b2 0 0 2)] hS ?_; intro s hS
 refine x_nil (sq_n (c_seq (c_seq (c_region ?_))))
 refine qs 1 [(2, .ptr b1 0 0 2), (3, .ptr b2 0 0 2), (5, .ptr b1 0 0 1)] hS ?_; intro s hS
 refine q_load (v := i4 a0.Next) 1 trivial rfl hS hH rfl rfl (by kernel_rfl) ?_; intro s hS
 refine qs 1 [(2, .ptr b1 0 0 2), (3, .ptr b2 0 0 2), (6, i4 a0.Next), (7, .ptr b2 0 0 1)] hS ?_; intro s hS
 refine q_load (v := i4 a1.Next) 0 trivial rfl hS hH rfl rfl (by kernel_rfl) ?_; intro s hS
 refine qs 1 [(2, .ptr b1 0 0 2), (3, .ptr b2 0 0 2), (9, .bool (!decide (a0.Next = a1.Next)))] hS ?_; intro s hS
 refine x_nil (sq_n ?_)
 by_cases hc1 : (!decide (a0.Next = a1.Next)) = true
 ·have h := it_pos hc1 h
  refine c_cond hS rfl (fun _ => ?_) (fun hf => ff_absurd hc1 hf)
  refine c_seq (c_region ?_)
  refine qs 1 [(4, .bool false)] hS ?_; intro s hS
  refine x_nil (sq_n (c_ret (sq_r ?_)))
  injection h with h; subst h
  exact end_W hH (r_tmp (v := .bool false) hS rfl r_nil) rfl (by kernel_rfl) (by simp [pureT, pureL, E_bool])
 ·have h := it_neg hc1 h
  refine c_cond hS rfl (fun hf => tt_absurd hc1 hf) (fun _ => ?_)
  refine c_skip (sq_n (c_seq (c_seq (c_region ?_))))
  refine qs 1 [(3, .ptr b2 0 0 2), (10, .ptr b1 0 1 1)] hS ?_; intro s hS
  refine q_load (v := a0.Objects.t) 1 trivial rfl hS hH rfl rfl (by kernel_rfl) ?_; intro s hS
  refine qs 1 [(11, a0.Objects.t), (12, .ptr b2 0 1 1)] hS ?_; intro s hS
  refine q_load (v := a1.Objects.t) 0 trivial rfl hS hH rfl rfl (by kernel_rfl) ?_; intro s hS
  obtain ⟨y1, hy1, h⟩ := bind_some h
  refine q_callF (a := []) (b := []) (xs := [a0.Objects.t, a1.Objects.t]) rfl hS rfl rfl hy1 ?_; intro s hS
  refine qs 1 [(15, .bool (!y1))] hS ?_; intro s hS
  refine x_nil (sq_n ?_)
  by_cases hc2 : (!y1) = true
  ·have h := it_pos hc2 h
   refine c_cond hS rfl (fun _ => ?_) (fun hf => ff_absurd hc2 hf)
   refine c_seq (c_region ?_)
   refine qs 1 [(4, .bool false)] hS ?_; intro s hS
   refine x_nil (sq_n (c_ret (sq_r ?_)))
   injection h with h; subst h
   exact end_W hH (r_tmp (v := .bool false) hS rfl r_nil) rfl (by kernel_rfl) (by simp [pureT, pureL, E_bool])
  ·have h := it_neg hc2 h
   refine c_cond hS rfl (fun hf => tt_absurd hc2 hf) (fun _ => ?_)
   refine c_skip (sq_n (c_seq (c_region ?_)))
   refine qs 1 [(4, .bool true)] hS ?_; intro s hS
   refine x_nil (sq_n (c_ret ?_))
   injection h with h; subst h
   exact end_W hH (r_tmp (v := .bool true) hS rfl r_nil) rfl (by kernel_rfl) (by simp [pureT, pureL, E_bool])
noncomputable def B_laws_heldObject (a0 : DObject) (a1 : Int) : Option Int := ((F_laws_heldValueS a0.Keys a1).bind fun y1 => (if (decide (y1 < 0)) = true then (some (-1)) else ((F_laws_heldValueS a0.Vals y1).bind fun y2 => (if (decide (y2 < 0)) = true then (some (-1)) else (some y2)))))
theorem u_laws_heldObject (a0 : DObject) (a1 : Int) (r : Int) (h : B_laws_heldObject a0 a1 = some r) : F_laws_heldObject a0 a1 = some r := by
 unfold B_laws_heldObject at h
 refine semW_of E_i64_inj rfl rfl ok_22 rfl (all_cons (by kernel_rfl) (all_cons (by kernel_rfl) all_nil)) ?_
 intro σ0 s hS hH
 have hS := sub_to (L' := [(0, .agg (DObject.cells a0)), (1, i4 a1)]) hS (by kernel_rfl)
 refine c_seq (c_region ?_)
 refine q_box (v := .agg (DObject.cells a0)) (cs := [i4 a0.Id, i4 a0.Kind, .str a0.Name, i4 a0.Low, a0.Keys.t, a0.Vals.t, i4 a0.Default.Kind, i4 a0.Default.Num, .str a0.Default.Text, i4 a0.Default.Ref]) rfl hS hH rfl rfl (by kernel_rfl) ?_; intro b1 σ s hH hS
 refine qs 1 [(1, i4 a1), (2, .ptr b1 0 0 10)] hS ?_; intro s hS
 refine x_nil (sq_n (c_seq (c_region ?_)))
 refine qs 1 [(1, i4 a1), (2, .ptr b1 0 0 10), (5, .ptr b1 0 4 1)] hS ?_; intro s hS
 refine q_load (v := a0.Keys.t) 0 trivial rfl hS hH rfl rfl (by kernel_rfl) ?_; intro s hS
 refine qs 1 [(2, .ptr b1 0 0 10), (6, a0.Keys.t), (7, i4 a1)] hS ?_; intro s hS
 obtain ⟨y1, hy1, h⟩ := bind_some h
 refine q_callF (a := []) (b := []) (xs := [a0.Keys.t, i4 a1]) rfl hS rfl rfl hy1 ?_; intro s hS
 refine qs 1 [(1, i4 y1), (2, .ptr b1 0 0 10)] hS ?_; intro s hS
 refine x_nil (sq_n (c_seq (c_seq (c_region ?_))))
 refine qs 2 [(1, i4 y1), (2, .ptr b1 0 0 10), (10, .bool (decide (y1 < 0)))] hS ?_; intro s hS
 refine x_nil (sq_n ?_)
 by_cases hc1 : (decide (y1 < 0)) = true
 ·have h := it_pos hc1 h
  refine c_cond hS rfl (fun _ => ?_) (fun hf => ff_absurd hc1 hf)
  refine c_seq (c_region ?_)
  refine qs 1 [(4, i4 (-1))] hS ?_; intro s hS
  refine x_nil (sq_n (c_ret (sq_r ?_)))
  injection h with h; subst h
  exact end_W hH (r_tmp (v := i4 (-1)) hS rfl r_nil) rfl (by kernel_rfl) (by simp [pureT, pureL, E_i64])
 ·have h := it_neg hc1 h
  refine c_cond hS rfl (fun hf => tt_absurd hc1 hf) (fun _ => ?_)
  refine c_skip (sq_n (c_seq (c_region ?_)))
  refine qs 1 [(1, i4 y1), (11, .ptr b1 0 5 1)] hS ?_; intro s hS
  refine q_load (v := a0.Vals.t) 0 trivial rfl hS hH rfl rfl (by kernel_rfl) ?_; intro s hS
  refine qs 1 [(12, a0.Vals.t), (13, i4 y1)] hS ?_; intro s hS
  obtain ⟨y2, hy2, h⟩ := bind_some h
  refine q_callF (a := []) (b := []) (xs := [a0.Vals.t, i4 y1]) rfl hS rfl rfl hy2 ?_; intro s hS
  refine qs 1 [(1, i4 y2)] hS ?_; intro s hS
  refine x_nil (sq_n (c_seq (c_seq (c_region ?_))))
  refine qs 2 [(1, i4 y2), (16, .bool (decide (y2 < 0)))] hS ?_; intro s hS
  refine x_nil (sq_n ?_)
  by_cases hc2 : (decide (y2 < 0)) = true
  ·have h := it_pos hc2 h
   refine c_cond hS rfl (fun _ => ?_) (fun hf => ff_absurd hc2 hf)
   refine c_seq (c_region ?_)
   refine qs 1 [(4, i4 (-1))] hS ?_; intro s hS
   refine x_nil (sq_n (c_ret (sq_r ?_)))
   injection h with h; subst h
   exact end_W hH (r_tmp (v := i4 (-1)) hS rfl r_nil) rfl (by kernel_rfl) (by simp [pureT, pureL, E_i64])
  ·have h := it_neg hc2 h
   refine c_cond hS rfl (fun hf => tt_absurd hc2 hf) (fun _ => ?_)
   refine c_skip (sq_n (c_seq (c_region ?_)))
   refine qs 2 [(4, i4 y2)] hS ?_; intro s hS
   refine x_nil (sq_n (c_ret ?_))
   injection h with h; subst h
   exact end_W hH (r_tmp (v := i4 y2) hS rfl r_nil) rfl (by kernel_rfl) (by simp [pureT, pureL, E_i64])
noncomputable def B_laws_szObject (a0 : DObject) (a1 : Int) : Option Int := (if (decide ((IntKind.i64.wrap (a1 - (a0.Name.size : Int))) < 0)) = true then (some (-1)) else ((F_laws_szValueS a0.Keys (IntKind.i64.wrap (a1 - (a0.Name.size : Int)))).bind fun y1 => (if (decide (y1 < 0)) = true then (some (-1)) else ((F_laws_szValueS a0.Vals y1).bind fun y2 => (if (decide (y2 < 0)) = true then (some (-1)) else ((F_laws_szValue a0.Default y2).bind fun y3 => (if (decide (y3 < 0)) = true then (some (-1)) else (some y3))))))))
theorem u_laws_szObject (a0 : DObject) (a1 : Int) (r : Int) (h : B_laws_szObject a0 a1 = some r) : F_laws_szObject a0 a1 = some r := by
 unfold B_laws_szObject at h
 refine semW_of E_i64_inj rfl rfl ok_23 rfl (all_cons (by kernel_rfl) (all_cons (by kernel_rfl) all_nil)) ?_
 intro σ0 s hS hH
 have hS := sub_to (L' := [(0, .agg (DObject.cells a0)), (1, i4 a1)]) hS (by kernel_rfl)
 refine c_seq (c_region ?_)
 refine q_box (v := .agg (DObject.cells a0)) (cs := [i4 a0.Id, i4 a0.Kind, .str a0.Name, i4 a0.Low, a0.Keys.t, a0.Vals.t, i4 a0.Default.Kind, i4 a0.Default.Num, .str a0.Default.Text, i4 a0.Default.Ref]) rfl hS hH rfl rfl (by kernel_rfl) ?_; intro b1 σ s hH hS
 refine qs 1 [(1, i4 a1), (2, .ptr b1 0 0 10)] hS ?_; intro s hS
 refine x_nil (sq_n (c_seq (c_region ?_)))
 refine qs 2 [(2, .ptr b1 0 0 10), (5, i4 a1), (6, .ptr b1 0 2 1)] hS ?_; intro s hS
 refine q_load (v := .str a0.Name) 0 trivial rfl hS hH rfl rfl (by kernel_rfl) ?_; intro s hS
 refine qs 3 [(1, i4 (IntKind.i64.wrap (a1 - (a0.Name.size : Int)))), (2, .ptr b1 0 0 10)] hS ?_; intro s hS
 refine x_nil (sq_n (c_seq (c_seq (c_region ?_))))
 refine qs 2 [(1, i4 (IntKind.i64.wrap (a1 - (a0.Name.size : Int)))), (2, .ptr b1 0 0 10), (11, .bool (decide ((IntKind.i64.wrap (a1 - (a0.Name.size : Int))) < 0)))] hS ?_; intro s hS
 refine x_nil (sq_n ?_)
 by_cases hc1 : (decide ((IntKind.i64.wrap (a1 - (a0.Name.size : Int))) < 0)) = true
 ·have h := it_pos hc1 h
  refine c_cond hS rfl (fun _ => ?_) (fun hf => ff_absurd hc1 hf)
  refine c_seq (c_region ?_)
  refine qs 1 [(4, i4 (-1))] hS ?_; intro s hS
  refine x_nil (sq_n (c_ret (sq_r ?_)))
  injection h with h; subst h
  exact end_W hH (r_tmp (v := i4 (-1)) hS rfl r_nil) rfl (by kernel_rfl) (by simp [pureT, pureL, E_i64])
 ·have h := it_neg hc1 h
  refine c_cond hS rfl (fun hf => tt_absurd hc1 hf) (fun _ => ?_)
  refine c_skip (sq_n (c_seq (c_region ?_)))
  refine qs 1 [(1, i4 (IntKind.i64.wrap (a1 - (a0.Name.size : Int)))), (2, .ptr b1 0 0 10), (12, .ptr b1 0 4 1)] hS ?_; intro s hS
  refine q_load (v := a0.Keys.t) 0 trivial rfl hS hH rfl rfl (by kernel_rfl) ?_; intro s hS
  refine qs 1 [(2, .ptr b1 0 0 10), (13, a0.Keys.t), (14, i4 (IntKind.i64.wrap (a1 - (a0.Name.size : Int))))] hS ?_; intro s hS
  obtain ⟨y1, hy1, h⟩ := bind_some h
  refine q_callF (a := []) (b := []) (xs := [a0.Keys.t, i4 (IntKind.i64.wrap (a1 - (a0.Name.size : Int)))]) rfl hS rfl rfl hy1 ?_; intro s hS
  refine qs 1 [(1, i4 y1), (2, .ptr b1 0 0 10)] hS ?_; intro s hS
  refine x_nil (sq_n (c_seq (c_seq (c_region ?_))))
  refine qs 2 [(1, i4 y1), (2, .ptr b1 0 0 10), (17, .bool (decide (y1 < 0)))] hS ?_; intro s hS
  refine x_nil (sq_n ?_)
  by_cases hc2 : (decide (y1 < 0)) = true
  ·have h := it_pos hc2 h
   refine c_cond hS rfl (fun _ => ?_) (fun hf => ff_absurd hc2 hf)
   refine c_seq (c_region ?_)
   refine qs 1 [(4, i4 (-1))] hS ?_; intro s hS
   refine x_nil (sq_n (c_ret (sq_r ?_)))
   injection h with h; subst h
   exact end_W hH (r_tmp (v := i4 (-1)) hS rfl r_nil) rfl (by kernel_rfl) (by simp [pureT, pureL, E_i64])
  ·have h := it_neg hc2 h
   refine c_cond hS rfl (fun hf => tt_absurd hc2 hf) (fun _ => ?_)
   refine c_skip (sq_n (c_seq (c_region ?_)))
   refine qs 1 [(1, i4 y1), (2, .ptr b1 0 0 10), (18, .ptr b1 0 5 1)] hS ?_; intro s hS
   refine q_load (v := a0.Vals.t) 0 trivial rfl hS hH rfl rfl (by kernel_rfl) ?_; intro s hS
   refine qs 1 [(2, .ptr b1 0 0 10), (19, a0.Vals.t), (20, i4 y1)] hS ?_; intro s hS
   obtain ⟨y2, hy2, h⟩ := bind_some h
   refine q_callF (a := []) (b := []) (xs := [a0.Vals.t, i4 y1]) rfl hS rfl rfl hy2 ?_; intro s hS
   refine qs 1 [(1, i4 y2), (2, .ptr b1 0 0 10)] hS ?_; intro s hS
   refine x_nil (sq_n (c_seq (c_seq (c_region ?_))))
   refine qs 2 [(1, i4 y2), (2, .ptr b1 0 0 10), (23, .bool (decide (y2 < 0)))] hS ?_; intro s hS
   refine x_nil (sq_n ?_)
   by_cases hc3 : (decide (y2 < 0)) = true
   ·have h := it_pos hc3 h
    refine c_cond hS rfl (fun _ => ?_) (fun hf => ff_absurd hc3 hf)
    refine c_seq (c_region ?_)
    refine qs 1 [(4, i4 (-1))] hS ?_; intro s hS
    refine x_nil (sq_n (c_ret (sq_r ?_)))
    injection h with h; subst h
    exact end_W hH (r_tmp (v := i4 (-1)) hS rfl r_nil) rfl (by kernel_rfl) (by simp [pureT, pureL, E_i64])
   ·have h := it_neg hc3 h
    refine c_cond hS rfl (fun hf => tt_absurd hc3 hf) (fun _ => ?_)
    refine c_skip (sq_n (c_seq (c_region ?_)))
    refine qs 1 [(1, i4 y2), (24, .ptr b1 0 6 4)] hS ?_; intro s hS
    refine q_load (v := .agg (DValue.cells a0.Default)) 0 trivial rfl hS hH rfl rfl (by kernel_rfl) ?_; intro s hS
    refine qs 1 [(25, .agg (DValue.cells a0.Default)), (26, i4 y2)] hS ?_; intro s hS
    obtain ⟨y3, hy3, h⟩ := bind_some h
    refine q_callF (a := []) (b := []) (xs := [.agg (DValue.cells a0.Default), i4 y2]) rfl hS rfl rfl hy3 ?_; intro s hS
    refine qs 1 [(1, i4 y3)] hS ?_; intro s hS
    refine x_nil (sq_n (c_seq (c_seq (c_region ?_))))
    refine qs 2 [(1, i4 y3), (29, .bool (decide (y3 < 0)))] hS ?_; intro s hS
    refine x_nil (sq_n ?_)
    by_cases hc4 : (decide (y3 < 0)) = true
    ·have h := it_pos hc4 h
     refine c_cond hS rfl (fun _ => ?_) (fun hf => ff_absurd hc4 hf)
     refine c_seq (c_region ?_)
     refine qs 1 [(4, i4 (-1))] hS ?_; intro s hS
     refine x_nil (sq_n (c_ret (sq_r ?_)))
     injection h with h; subst h
     exact end_W hH (r_tmp (v := i4 (-1)) hS rfl r_nil) rfl (by kernel_rfl) (by simp [pureT, pureL, E_i64])
    ·have h := it_neg hc4 h
     refine c_cond hS rfl (fun hf => tt_absurd hc4 hf) (fun _ => ?_)
     refine c_skip (sq_n (c_seq (c_region ?_)))
     refine qs 2 [(4, i4 y3)] hS ?_; intro s hS
     refine x_nil (sq_n (c_ret ?_))
     injection h with h; subst h
     exact end_W hH (r_tmp (v := i4 y3) hS rfl r_nil) rfl (by kernel_rfl) (by simp [pureT, pureL, E_i64])
end Go.Am
