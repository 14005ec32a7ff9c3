/- Functions of the program. -/
import Derived.Test.YtfnjieagnkmceaaAd0
import Derived.Test.YtfnjieagnkmceaaAg0
set_option maxRecDepth 100000
set_option maxHeartbeats 4000000
set_option linter.unusedVariables false
set_option linter.unusedSimpArgs false
namespace Go.Am
open Go.Proofs
noncomputable def b3_ (a0 : ai_) (a1 : ac_) (a2 : ByteArray) (a3 : ac_) : Option Bool := (if (decide (1048576 < (a2.size : Int))) = true then (some true) else ((eY_ a0 1048576).bind fun y1 => (if (decide (y1 < 0)) = true then (some true) else ((b0_ a1 y1).bind fun y2 => (if (decide (y2 < 0)) = true then (some true) else ((b0_ a3 y2).bind fun y3 => (if (decide (y3 < 0)) = true then (some true) else ((cf_ a0).bind fun y4 => ((a0_ a1).bind fun y5 => ((a0_ a3).bind fun y6 => ((eh_ y4 y5 a2 y6).bind fun y7 => ((cf_ a0).bind fun y8 => ((a0_ a1).bind fun y9 => ((a0_ a3).bind fun y10 => ((c6_ y8 y9 a2 y10).bind fun y11 => ((bQ_ y11.1 y7.1).bind fun y12 => (if (!y12) = true then (some false) else (if (!decide (y11.2 = y7.2)) = true then (some false) else ((cf_ a0).bind fun y13 => ((bQ_ y8 y13).bind fun y14 => (if (!y14) = true then (some false) else ((bG_ y8 1).bind fun y15 => (if (decide (y15.1 < 0)) = true then (some false) else ((bQ_ y11.1 y7.1).bind fun y16 => (if (!y16) = true then (some false) else ((bG_ y11.1 1).bind fun y17 => ((c7_ (⟨y11.1.Next, y17.2.Objects⟩ : ai_) 1).bind fun y18 => (if (decide (y18 < 0)) = true then (some false) else (if (!decide (y18 = y17.1)) = true then (some false) else ((cf_ a0).bind fun y19 => ((a0_ a1).bind fun y20 => ((a0_ a3).bind fun y21 => ((c6_ y19 y20 a2 y21).bind fun y22 => ((bQ_ y22.1 y7.1).bind fun y23 => (if (!y23) = true then (some false) else (if (!decide (y22.2 = y7.2)) = true then (some false) else ((c7_ (⟨y11.1.Next, y17.2.Objects⟩ : ai_) 1).bind fun y24 => (if (decide (y24 < 0)) = true then (some false) else (if (!decide (y24 = y17.1)) = true then (some false) else (some true))))))))))))))))))))))))))))))))))))))))
theorem fv_ (a0 : ai_) (a1 : ac_) (a2 : ByteArray) (a3 : ac_) (r : Bool) (h : b3_ a0 a1 a2 a3 = some r) : dh_ a0 a1 a2 a3 = some r := by
 unfold b3_ at h
 refine ax_ E_bool_inj rfl rfl ok_7 rfl (all_cons (by kernel_rfl) (all_cons (by kernel_rfl) (all_cons (by kernel_rfl) (all_cons (by kernel_rfl) all_nil)))) ?_
 intro σ0 s hS hH
 have hS := am_ (L' := [(0, .agg (ai_.cells a0)), (1, .agg (ac_.cells a1)), (2, .str a2), (3, .agg (ac_.cells a3))]) hS (by kernel_rfl)
 refine ad_ (ab_ ?_)
 refine aX_ (v := .agg (ai_.cells a0)) (cs := [i4 a0.Next, a0.Objects.t]) rfl hS hH rfl rfl (by kernel_rfl) ?_; intro b1 σ s hH hS
 refine aX_ (v := .agg (ac_.cells a1)) (cs := [i4 a1.Kind, i4 a1.Num, .str a1.Text, i4 a1.Ref]) rfl hS hH rfl rfl (by kernel_rfl) ?_; intro b2 σ s hH hS
 refine aX_ (v := .agg (ac_.cells a3)) (cs := [i4 a3.Kind, i4 a3.Num, .str a3.Text, i4 a3.Ref]) rfl hS hH rfl rfl (by kernel_rfl) ?_; intro b3 σ s hH hS
 refine qs 1 [(2, .str a2), (4, .ptr b1 0 0 2), (5, .ptr b2 0 0 4), (7, .ptr b3 0 0 4)] hS ?_; intro s hS
 refine ae_ (sq_n (ad_ (ad_ (ab_ ?_))))
 refine qs 3 [(2, .str a2), (4, .ptr b1 0 0 2), (5, .ptr b2 0 0 4), (7, .ptr b3 0 0 4), (22, .bool (decide (1048576 < (a2.size : Int))))] hS ?_; intro s hS
 refine ae_ (sq_n ?_)
 by_cases hc1 : (decide (1048576 < (a2.size : Int))) = true
 ·have h := ak_ hc1 h
  refine af_ hS rfl (fun _ => ?_) (fun hf => ah_ hc1 hf)
  refine ad_ (ab_ ?_)
  refine qs 1 [(8, .bool true)] hS ?_; intro s hS
  refine ae_ (sq_n (ao_ (sq_r ?_)))
  injection h with h; subst h
  exact aq_ hH (an_ (v := .bool true) hS rfl r_nil) rfl (by kernel_rfl) (by simp [pureT, pureL, E_bool])
 ·have h := al_ hc1 h
  refine af_ hS rfl (fun hf => ag_ hc1 hf) (fun _ => ?_)
  refine ar_ (sq_n (ad_ (ab_ ?_)))
  refine qs 1 [(2, .str a2), (4, .ptr b1 0 0 2), (5, .ptr b2 0 0 4), (7, .ptr b3 0 0 4), (9, i4 1048576)] hS ?_; intro s hS
  refine ae_ (sq_n (ad_ (ab_ ?_)))
  refine aj_ (v := .agg (ai_.cells a0)) 2 trivial rfl hS hH rfl rfl (by kernel_rfl) ?_; intro s hS
  refine qs 1 [(2, .str a2), (4, .ptr b1 0 0 2), (5, .ptr b2 0 0 4), (7, .ptr b3 0 0 4), (23, .agg (ai_.cells a0)), (24, i4 1048576)] hS ?_; intro s hS
  obtain ⟨y1, hy1, h⟩ := bind_some h
  refine as_ (a := []) (b := []) (xs := [.agg (ai_.cells a0), i4 1048576]) rfl hS rfl rfl hy1 ?_; intro s hS
  refine qs 1 [(2, .str a2), (4, .ptr b1 0 0 2), (5, .ptr b2 0 0 4), (7, .ptr b3 0 0 4), (9, i4 y1)] hS ?_; intro s hS
  refine ae_ (sq_n (ad_ (ad_ (ab_ ?_))))
  refine qs 2 [(2, .str a2), (4, .ptr b1 0 0 2), (5, .ptr b2 0 0 4), (7, .ptr b3 0 0 4), (9, i4 y1), (27, .bool (decide (y1 < 0)))] hS ?_; intro s hS
  refine ae_ (sq_n ?_)
  by_cases hc2 : (decide (y1 < 0)) = true
  ·have h := ak_ hc2 h
   refine af_ hS rfl (fun _ => ?_) (fun hf => ah_ hc2 hf)
   refine ad_ (ab_ ?_)
   refine qs 1 [(8, .bool true)] hS ?_; intro s hS
   refine ae_ (sq_n (ao_ (sq_r ?_)))
   injection h with h; subst h
   exact aq_ hH (an_ (v := .bool true) hS rfl r_nil) rfl (by kernel_rfl) (by simp [pureT, pureL, E_bool])
  ·have h := al_ hc2 h
   refine af_ hS rfl (fun hf => ag_ hc2 hf) (fun _ => ?_)
   refine ar_ (sq_n (ad_ (ab_ ?_)))
   refine aj_ (v := .agg (ac_.cells a1)) 1 trivial rfl hS hH rfl rfl (by kernel_rfl) ?_; intro s hS
   refine qs 1 [(2, .str a2), (4, .ptr b1 0 0 2), (5, .ptr b2 0 0 4), (7, .ptr b3 0 0 4), (28, .agg (ac_.cells a1)), (29, i4 y1)] hS ?_; intro s hS
   obtain ⟨y2, hy2, h⟩ := bind_some h
   refine as_ (a := []) (b := []) (xs := [.agg (ac_.cells a1), i4 y1]) rfl hS rfl rfl hy2 ?_; intro s hS
   refine qs 1 [(2, .str a2), (4, .ptr b1 0 0 2), (5, .ptr b2 0 0 4), (7, .ptr b3 0 0 4), (9, i4 y2)] hS ?_; intro s hS
   refine ae_ (sq_n (ad_ (ad_ (ab_ ?_))))
   refine qs 2 [(2, .str a2), (4, .ptr b1 0 0 2), (5, .ptr b2 0 0 4), (7, .ptr b3 0 0 4), (9, i4 y2), (32, .bool (decide (y2 < 0)))] hS ?_; intro s hS
   refine ae_ (sq_n ?_)
   by_cases hc3 : (decide (y2 < 0)) = true
   ·have h := ak_ hc3 h
    refine af_ hS rfl (fun _ => ?_) (fun hf => ah_ hc3 hf)
    refine ad_ (ab_ ?_)
    refine qs 1 [(8, .bool true)] hS ?_; intro s hS
    refine ae_ (sq_n (ao_ (sq_r ?_)))
    injection h with h; subst h
    exact aq_ hH (an_ (v := .bool true) hS rfl r_nil) rfl (by kernel_rfl) (by simp [pureT, pureL, E_bool])
   ·have h := al_ hc3 h
    refine af_ hS rfl (fun hf => ag_ hc3 hf) (fun _ => ?_)
    refine ar_ (sq_n (ad_ (ab_ ?_)))
    refine aj_ (v := .agg (ac_.cells a3)) 0 trivial rfl hS hH rfl rfl (by kernel_rfl) ?_; intro s hS
    refine qs 1 [(2, .str a2), (4, .ptr b1 0 0 2), (5, .ptr b2 0 0 4), (7, .ptr b3 0 0 4), (33, .agg (ac_.cells a3)), (34, i4 y2)] hS ?_; intro s hS
    obtain ⟨y3, hy3, h⟩ := bind_some h
    refine as_ (a := []) (b := []) (xs := [.agg (ac_.cells a3), i4 y2]) rfl hS rfl rfl hy3 ?_; intro s hS
    refine qs 1 [(2, .str a2), (4, .ptr b1 0 0 2), (5, .ptr b2 0 0 4), (7, .ptr b3 0 0 4), (9, i4 y3)] hS ?_; intro s hS
    refine ae_ (sq_n (ad_ (ad_ (ab_ ?_))))
    refine qs 2 [(2, .str a2), (4, .ptr b1 0 0 2), (5, .ptr b2 0 0 4), (7, .ptr b3 0 0 4), (37, .bool (decide (y3 < 0)))] hS ?_; intro s hS
    refine ae_ (sq_n ?_)
    by_cases hc4 : (decide (y3 < 0)) = true
    ·have h := ak_ hc4 h
     refine af_ hS rfl (fun _ => ?_) (fun hf => ah_ hc4 hf)
     refine ad_ (ab_ ?_)
     refine qs 1 [(8, .bool true)] hS ?_; intro s hS
     refine ae_ (sq_n (ao_ (sq_r ?_)))
     injection h with h; subst h
     exact aq_ hH (an_ (v := .bool true) hS rfl r_nil) rfl (by kernel_rfl) (by simp [pureT, pureL, E_bool])
    ·have h := al_ hc4 h
     refine af_ hS rfl (fun hf => ag_ hc4 hf) (fun _ => ?_)
     refine ar_ (sq_n (ad_ ?_))
     refine cU_ (W2 (fun _ => False) (fun _ => False)) (fun _ => rfl) (by kernel_rfl) (by kernel_rfl) hH ?_; intro mb σs σ hn0 hlt hlto hH
     have hlt_b3 : b3 < mb := hlt b3 _ (List.Mem.head _)
     have hlt_b2 : b2 < mb := hlt b2 _ (List.Mem.tail _ (List.Mem.head _))
     refine aj_ (v := .agg (ai_.cells a0)) 2 (Or.inl (by kernel_rfl)) rfl hS hH rfl rfl (by kernel_rfl) ?_; intro s hS
     obtain ⟨y4, hy4, h⟩ := bind_some h
     refine a6_ (ents := []) (z := false) (ts := [.agg (ai_.cells a0)]) (vs := [.agg (ai_.cells a0)]) rfl rfl hS rfl rfl rfl hH (HL.agg (es1 := []) (es2 := []) (HLi (HLp HL.nil)) HL.nil) hy4 ?_; intro hs σ s hl hH hS
     obtain ⟨t1, rfl⟩ := len1 hl
     have hH : Heap σ0 σ [.own true 10 t1 y4.Objects.t, .box b3 (ac_.cells a3), .box b2 (ac_.cells a1), .box b1 (ai_.cells a0)] := hH
     have ht1 : aT_ t1 := Heap.one hH
     refine aj_ (v := .agg (ac_.cells a1)) 2 (Or.inr ⟨hlt_b2, Or.inl (by kernel_rfl)⟩) rfl hS hH rfl rfl (by kernel_rfl) ?_; intro s hS
     obtain ⟨y5, hy5, h⟩ := bind_some h
     refine as_ (a := []) (b := []) (xs := [.agg (ac_.cells a1)]) rfl hS rfl rfl hy5 ?_; intro s hS
     refine qs 1 [(2, .str a2), (4, .ptr b1 0 0 2), (5, .ptr b2 0 0 4), (7, .ptr b3 0 0 4), (40, .agg [i4 y4.Next, t1]), (42, .agg (ac_.cells y5)), (43, .str a2)] hS ?_; intro s hS
     refine aj_ (v := .agg (ac_.cells a3)) 1 (Or.inr ⟨hlt_b3, Or.inl (by kernel_rfl)⟩) rfl hS hH rfl rfl (by kernel_rfl) ?_; intro s hS
     obtain ⟨y6, hy6, h⟩ := bind_some h
     refine as_ (a := []) (b := []) (xs := [.agg (ac_.cells a3)]) rfl hS rfl rfl hy6 ?_; intro s hS
     obtain ⟨y7, hy7, h⟩ := bind_some h
     refine a6_ (ents := [.own true 10 t1 y4.Objects.t]) (z := false) (ts := [.agg [i4 y4.Next, t1], .agg (ac_.cells y5), .str a2, .agg (ac_.cells y6)]) (vs := [.agg (ai_.cells y4), .agg (ac_.cells y5), .str a2, .agg (ac_.cells y6)]) rfl rfl hS rfl rfl rfl hH (HL.agg (es1 := [.own true 10 t1 y4.Objects.t]) (es2 := []) (HLi (HL.own rfl HL.nil)) (HL.agg (es1 := []) (es2 := []) (HLi (HLi (HLs (HLi HL.nil)))) (HLs (HL.agg (es1 := []) (es2 := []) (HLi (HLi (HLs (HLi HL.nil)))) HL.nil)))) hy7 ?_; intro hs σ s hl hH hS
     obtain ⟨t2, rfl⟩ := len1 hl
     have hH : Heap σ0 σ [.own true 10 t2 y7.1.Objects.t, .own true 10 t1 y4.Objects.t, .box b3 (ac_.cells a3), .box b2 (ac_.cells a1), .box b1 (ai_.cells a0)] := hH
     have ht2 : aT_ t2 := Heap.one hH
     refine qs 3 [(2, .str a2), (4, .ptr b1 0 0 2), (5, .ptr b2 0 0 4), (7, .ptr b3 0 0 4), (47, .agg [i4 y7.1.Next, t2]), (48, i4 y7.2)] hS ?_; intro s hS
     refine hX_ rfl (by exact hn0) (z := [i4 0, (nt aa_)]) rfl hS hH (by kernel_rfl) ?_; intro b4 σ s hwr_b4 hH hS
     refine b7_ rfl (v := .agg [i4 y7.1.Next, t2]) (cs := [i4 y7.1.Next, t2]) (cells' := [i4 y7.1.Next, t2]) (by exact Or.inl hwr_b4) rfl hS hH rfl rfl rfl (by simp [ht2.1, ht2.2]) (by kernel_rfl) ?_; intro σ s hH hS
     refine qs 1 [(2, .str a2), (4, .ptr b1 0 0 2), (5, .ptr b2 0 0 4), (7, .ptr b3 0 0 4), (10, .ptr b4 0 0 2), (11, i4 y7.2)] hS ?_; intro s hS
     refine ae_ (sq_n (ad_ (ab_ ?_)))
     refine aj_ (v := .agg (ai_.cells a0)) 5 trivial rfl hS hH rfl rfl (by kernel_rfl) ?_; intro s hS
     obtain ⟨y8, hy8, h⟩ := bind_some h
     refine a6_ (ents := []) (z := false) (ts := [.agg (ai_.cells a0)]) (vs := [.agg (ai_.cells a0)]) rfl rfl hS rfl rfl rfl hH (HL.agg (es1 := []) (es2 := []) (HLi (HLp HL.nil)) HL.nil) hy8 ?_; intro hs σ s hl hH hS
     obtain ⟨t3, rfl⟩ := len1 hl
     have hH : Heap σ0 σ [.own true 10 t3 y8.Objects.t, .box b4 [i4 y7.1.Next, t2], .own true 10 t2 y7.1.Objects.t, .own true 10 t1 y4.Objects.t, .box b3 (ac_.cells a3), .box b2 (ac_.cells a1), .box b1 (ai_.cells a0)] := hH
     have ht3 : aT_ t3 := Heap.one hH
     refine aO_ (z := [i4 0, (nt aa_)]) rfl hS hH (by kernel_rfl) ?_; intro b5 σ s hH hS
     refine aH_ (cs := [i4 y8.Next, t3]) rfl hS hH rfl rfl (by simp [ht3.1, ht3.2]) ?_; intro σ s hH hS
     refine ae_ (sq_n (ad_ ?_))
     refine cU_ (W2 (fun _ => False) (fun _ => False)) (fun _ => rfl) (by kernel_rfl) (by kernel_rfl) hH ?_; intro mb σs σ hn0 hlt hlto hH
     have hlt_b5 : b5 < mb := hlt b5 _ (List.Mem.head _)
     have hlt_b3 : b3 < mb := hlt b3 _ (List.Mem.tail _ (List.Mem.tail _ (List.Mem.tail _ (List.Mem.tail _ (List.Mem.tail _ (List.Mem.head _))))))
     refine aj_ (v := .agg [i4 y8.Next, t3]) 0 (Or.inr ⟨hlt_b5, Or.inl (by kernel_rfl)⟩) rfl hS hH rfl rfl (by kernel_rfl) ?_; intro s hS
     refine aj_ (v := .agg (ac_.cells a1)) 6 (Or.inl (by kernel_rfl)) rfl hS hH rfl rfl (by kernel_rfl) ?_; intro s hS
     obtain ⟨y9, hy9, h⟩ := bind_some h
     refine as_ (a := []) (b := []) (xs := [.agg (ac_.cells a1)]) rfl hS rfl rfl hy9 ?_; intro s hS
     refine qs 1 [(2, .str a2), (4, .ptr b1 0 0 2), (5, .ptr b2 0 0 4), (7, .ptr b3 0 0 4), (10, .ptr b4 0 0 2), (11, i4 y7.2), (12, .ptr b5 0 0 2), (52, .agg [i4 y8.Next, t3]), (54, .agg (ac_.cells y9)), (55, .str a2)] hS ?_; intro s hS
     refine aj_ (v := .agg (ac_.cells a3)) 5 (Or.inr ⟨hlt_b3, Or.inl (by kernel_rfl)⟩) rfl hS hH rfl rfl (by kernel_rfl) ?_; intro s hS
     obtain ⟨y10, hy10, h⟩ := bind_some h
     refine as_ (a := []) (b := []) (xs := [.agg (ac_.cells a3)]) rfl hS rfl rfl hy10 ?_; intro s hS
     obtain ⟨y11, hy11, h⟩ := bind_some h
     have hH : Heap σ0 σ [.own true 10 t3 y8.Objects.t, .box b5 [i4 y8.Next, t3], .box b4 [i4 y7.1.Next, t2], .own true 10 t2 y7.1.Objects.t, .own true 10 t1 y4.Objects.t, .box b3 (ac_.cells a3), .box b2 (ac_.cells a1), .box b1 (ai_.cells a0)] := hH.sel [1, 0, 2, 3, 4, 5, 6, 7] rfl (by kernel_rfl)
     refine a6_ (ents := [.own true 10 t3 y8.Objects.t]) (z := false) (ts := [.agg [i4 y8.Next, t3], .agg (ac_.cells y9), .str a2, .agg (ac_.cells y10)]) (vs := [.agg (ai_.cells y8), .agg (ac_.cells y9), .str a2, .agg (ac_.cells y10)]) rfl rfl hS rfl rfl rfl hH (HL.agg (es1 := [.own true 10 t3 y8.Objects.t]) (es2 := []) (HLi (HL.own rfl HL.nil)) (HL.agg (es1 := []) (es2 := []) (HLi (HLi (HLs (HLi HL.nil)))) (HLs (HL.agg (es1 := []) (es2 := []) (HLi (HLi (HLs (HLi HL.nil)))) HL.nil)))) hy11 ?_; intro hs σ s hl hH hS
     obtain ⟨t4, rfl⟩ := len1 hl
     have hH : Heap σ0 σ [.own true 10 t4 y11.1.Objects.t, .own true 10 t3 y8.Objects.t, .box b5 [i4 y8.Next, t3], .box b4 [i4 y7.1.Next, t2], .own true 10 t2 y7.1.Objects.t, .own true 10 t1 y4.Objects.t, .box b3 (ac_.cells a3), .box b2 (ac_.cells a1), .box b1 (ai_.cells a0)] := hH
     have ht4 : aT_ t4 := Heap.one hH
     refine qs 3 [(2, .str a2), (4, .ptr b1 0 0 2), (5, .ptr b2 0 0 4), (7, .ptr b3 0 0 4), (10, .ptr b4 0 0 2), (11, i4 y7.2), (12, .ptr b5 0 0 2), (59, .agg [i4 y11.1.Next, t4]), (60, i4 y11.2)] hS ?_; intro s hS
     refine hX_ rfl (by exact hn0) (z := [i4 0, (nt aa_)]) rfl hS hH (by kernel_rfl) ?_; intro b6 σ s hwr_b6 hH hS
     refine b7_ rfl (v := .agg [i4 y11.1.Next, t4]) (cs := [i4 y11.1.Next, t4]) (cells' := [i4 y11.1.Next, t4]) (by exact Or.inl hwr_b6) rfl hS hH rfl rfl rfl (by simp [ht4.1, ht4.2]) (by kernel_rfl) ?_; intro σ s hH hS
     refine qs 1 [(2, .str a2), (4, .ptr b1 0 0 2), (5, .ptr b2 0 0 4), (7, .ptr b3 0 0 4), (10, .ptr b4 0 0 2), (11, i4 y7.2), (12, .ptr b5 0 0 2), (13, .ptr b6 0 0 2), (14, i4 y11.2)] hS ?_; intro s hS
     refine ae_ (sq_n (ad_ (ad_ (ab_ ?_))))
     refine aj_ (v := .agg [i4 y11.1.Next, t4]) 0 trivial rfl hS hH rfl rfl (by kernel_rfl) ?_; intro s hS
     refine aj_ (v := .agg [i4 y7.1.Next, t2]) 4 trivial rfl hS hH rfl rfl (by kernel_rfl) ?_; intro s hS
     obtain ⟨y12, hy12, h⟩ := bind_some h
     have hH : Heap σ0 σ [.own true 10 t4 y11.1.Objects.t, .own true 10 t2 y7.1.Objects.t, .box b6 [i4 y11.1.Next, t4], .own true 10 t3 y8.Objects.t, .box b5 [i4 y8.Next, t3], .box b4 [i4 y7.1.Next, t2], .own true 10 t1 y4.Objects.t, .box b3 (ac_.cells a3), .box b2 (ac_.cells a1), .box b1 (ai_.cells a0)] := hH.sel [1, 5, 0, 2, 3, 4, 6, 7, 8, 9] rfl (by kernel_rfl)
     refine eI_ (ents := [.own true 10 t4 y11.1.Objects.t, .own true 10 t2 y7.1.Objects.t]) (z := false) (ts := [.agg [i4 y11.1.Next, t4], .agg [i4 y7.1.Next, t2]]) (vs := [.agg (ai_.cells y11.1), .agg (ai_.cells y7.1)]) rfl hS rfl rfl rfl hH (HL.agg (es1 := [.own true 10 t4 y11.1.Objects.t]) (es2 := [.own true 10 t2 y7.1.Objects.t]) (HLi (HL.own rfl HL.nil)) (HL.agg (es1 := [.own true 10 t2 y7.1.Objects.t]) (es2 := []) (HLi (HL.own rfl HL.nil)) HL.nil)) hy12 (by kernel_rfl) ?_; intro s hS
     refine qs 2 [(65, .bool (!y12)), (2, .str a2), (4, .ptr b1 0 0 2), (5, .ptr b2 0 0 4), (7, .ptr b3 0 0 4), (10, .ptr b4 0 0 2), (11, i4 y7.2), (12, .ptr b5 0 0 2), (13, .ptr b6 0 0 2), (14, i4 y11.2)] hS ?_; intro s hS
     by_cases hc5 : (!y12) = true
     ·have h := ak_ hc5 h
      have hS := ap_ hS hc5
      refine qs 4 [(2, .str a2), (4, .ptr b1 0 0 2), (5, .ptr b2 0 0 4), (7, .ptr b3 0 0 4), (10, .ptr b4 0 0 2), (11, i4 y7.2), (12, .ptr b5 0 0 2), (13, .ptr b6 0 0 2), (14, i4 y11.2), (69, .bool true)] hS ?_; intro s hS
      refine ae_ (sq_n ?_)
      refine af_ (t := true) hS rfl (fun _ => ?_) (fun hf => by cases hf)
      refine ad_ (ab_ ?_)
      refine qs 1 [(8, .bool false)] hS ?_; intro s hS
      refine ae_ (sq_n (ao_ (sq_r ?_)))
      injection h with h; subst h
      exact aq_ hH (an_ (v := .bool false) hS rfl r_nil) rfl (by kernel_rfl) (by simp [pureT, pureL, E_bool])
     ·have h := al_ hc5 h
      have hS := ap_ hS (aE_ hc5)
      refine qs 4 [(2, .str a2), (4, .ptr b1 0 0 2), (5, .ptr b2 0 0 4), (7, .ptr b3 0 0 4), (10, .ptr b4 0 0 2), (11, i4 y7.2), (12, .ptr b5 0 0 2), (13, .ptr b6 0 0 2), (14, i4 y11.2), (69, .bool (!decide (y11.2 = y7.2)))] hS ?_; intro s hS
      refine ae_ (sq_n ?_)
      by_cases hc6 : (!decide (y11.2 = y7.2)) = true
      ·have h := ak_ hc6 h
       refine af_ hS rfl (fun _ => ?_) (fun hf => ah_ hc6 hf)
       refine ad_ (ab_ ?_)
       refine qs 1 [(8, .bool false)] hS ?_; intro s hS
       refine ae_ (sq_n (ao_ (sq_r ?_)))
       injection h with h; subst h
       exact aq_ hH (an_ (v := .bool false) hS rfl r_nil) rfl (by kernel_rfl) (by simp [pureT, pureL, E_bool])
      ·have h := al_ hc6 h
       refine af_ hS rfl (fun hf => ag_ hc6 hf) (fun _ => ?_)
       refine ar_ (sq_n (ad_ (ad_ ?_)))
       refine cU_ (W2 (fun _ => False) (fun _ => False)) (fun _ => rfl) (by kernel_rfl) (by kernel_rfl) hH ?_; intro mb σs σ hn0 hlt hlto hH
       have hlt_b5 : b5 < mb := hlt b5 _ (List.Mem.tail _ (List.Mem.tail _ (List.Mem.tail _ (List.Mem.tail _ (List.Mem.head _)))))
       refine aj_ (v := .agg [i4 y8.Next, t3]) 4 (Or.inr ⟨hlt_b5, Or.inl (by kernel_rfl)⟩) rfl hS hH rfl rfl (by kernel_rfl) ?_; intro s hS
       refine aj_ (v := .agg (ai_.cells a0)) 9 (Or.inl (by kernel_rfl)) rfl hS hH rfl rfl (by kernel_rfl) ?_; intro s hS
       obtain ⟨y13, hy13, h⟩ := bind_some h
       refine a6_ (ents := []) (z := false) (ts := [.agg (ai_.cells a0)]) (vs := [.agg (ai_.cells a0)]) rfl rfl hS rfl rfl rfl hH (HL.agg (es1 := []) (es2 := []) (HLi (HLp HL.nil)) HL.nil) hy13 ?_; intro hs σ s hl hH hS
       obtain ⟨t5, rfl⟩ := len1 hl
       have hH : Heap σ0 σ [.own true 10 t5 y13.Objects.t, .own true 10 t4 y11.1.Objects.t, .own true 10 t2 y7.1.Objects.t, .box b6 [i4 y11.1.Next, t4], .own true 10 t3 y8.Objects.t, .box b5 [i4 y8.Next, t3], .box b4 [i4 y7.1.Next, t2], .own true 10 t1 y4.Objects.t, .box b3 (ac_.cells a3), .box b2 (ac_.cells a1), .box b1 (ai_.cells a0)] := hH
       have ht5 : aT_ t5 := Heap.one hH
       obtain ⟨y14, hy14, h⟩ := bind_some h
       have hH : Heap σ0 σ [.own true 10 t3 y8.Objects.t, .own true 10 t5 y13.Objects.t, .own true 10 t4 y11.1.Objects.t, .own true 10 t2 y7.1.Objects.t, .box b6 [i4 y11.1.Next, t4], .box b5 [i4 y8.Next, t3], .box b4 [i4 y7.1.Next, t2], .own true 10 t1 y4.Objects.t, .box b3 (ac_.cells a3), .box b2 (ac_.cells a1), .box b1 (ai_.cells a0)] := hH.sel [4, 0, 1, 2, 3, 5, 6, 7, 8, 9, 10] rfl (by kernel_rfl)
       refine eI_ (ents := [.own true 10 t3 y8.Objects.t, .own true 10 t5 y13.Objects.t]) (z := false) (ts := [.agg [i4 y8.Next, t3], .agg [i4 y13.Next, t5]]) (vs := [.agg (ai_.cells y8), .agg (ai_.cells y13)]) rfl hS rfl rfl rfl hH (HL.agg (es1 := [.own true 10 t3 y8.Objects.t]) (es2 := [.own true 10 t5 y13.Objects.t]) (HLi (HL.own rfl HL.nil)) (HL.agg (es1 := [.own true 10 t5 y13.Objects.t]) (es2 := []) (HLi (HL.own rfl HL.nil)) HL.nil)) hy14 (by kernel_rfl) ?_; intro s hS
       refine qs 1 [(2, .str a2), (4, .ptr b1 0 0 2), (5, .ptr b2 0 0 4), (7, .ptr b3 0 0 4), (10, .ptr b4 0 0 2), (11, i4 y7.2), (12, .ptr b5 0 0 2), (13, .ptr b6 0 0 2), (14, i4 y11.2), (74, .bool (!y14))] hS ?_; intro s hS
       refine ae_ (sq_n ?_)
       by_cases hc7 : (!y14) = true
       ·have h := ak_ hc7 h
        refine af_ hS rfl (fun _ => ?_) (fun hf => ah_ hc7 hf)
        refine ad_ (ab_ ?_)
        refine qs 1 [(8, .bool false)] hS ?_; intro s hS
        refine ae_ (sq_n (ao_ (sq_r ?_)))
        injection h with h; subst h
        exact aq_ hH (an_ (v := .bool false) hS rfl r_nil) rfl (by kernel_rfl) (by simp [pureT, pureL, E_bool])
       ·have h := al_ hc7 h
        refine af_ hS rfl (fun hf => ag_ hc7 hf) (fun _ => ?_)
        refine ar_ (sq_n (ad_ (ab_ ?_)))
        refine qs 1 [(2, .str a2), (4, .ptr b1 0 0 2), (5, .ptr b2 0 0 4), (7, .ptr b3 0 0 4), (10, .ptr b4 0 0 2), (11, i4 y7.2), (12, .ptr b5 0 0 2), (13, .ptr b6 0 0 2), (14, i4 y11.2), (15, i4 1)] hS ?_; intro s hS
        refine ae_ (sq_n (ad_ (ab_ ?_)))
        refine aj_ (v := .agg [i4 y8.Next, t3]) 5 trivial rfl hS hH rfl rfl (by kernel_rfl) ?_; intro s hS
        refine qs 1 [(2, .str a2), (4, .ptr b1 0 0 2), (5, .ptr b2 0 0 4), (7, .ptr b3 0 0 4), (10, .ptr b4 0 0 2), (11, i4 y7.2), (13, .ptr b6 0 0 2), (14, i4 y11.2), (75, .agg [i4 y8.Next, t3]), (76, i4 1)] hS ?_; intro s hS
        obtain ⟨y15, hy15, h⟩ := bind_some h
        refine gk_ (a := []) (b := []) (xs := [.agg [i4 y8.Next, t3], i4 1]) (ents := [.own true 10 t3 y8.Objects.t]) rfl hS rfl rfl hH (fJ_ y8 1 y15 hy15 10 t3) ?_; intro hs σ s hl hH hS
        have hH : Heap σ0 σ [.own true 10 t3 y15.2.Objects.t, .own true 10 t5 y13.Objects.t, .own true 10 t4 y11.1.Objects.t, .own true 10 t2 y7.1.Objects.t, .box b6 [i4 y11.1.Next, t4], .box b5 [i4 y8.Next, t3], .box b4 [i4 y7.1.Next, t2], .own true 10 t1 y4.Objects.t, .box b3 (ac_.cells a3), .box b2 (ac_.cells a1), .box b1 (ai_.cells a0)] := hH
        refine qs 1 [(2, .str a2), (4, .ptr b1 0 0 2), (5, .ptr b2 0 0 4), (7, .ptr b3 0 0 4), (10, .ptr b4 0 0 2), (11, i4 y7.2), (13, .ptr b6 0 0 2), (14, i4 y11.2), (15, i4 y15.1)] hS ?_; intro s hS
        refine ae_ (sq_n (ad_ (ad_ (ab_ ?_))))
        refine qs 3 [(80, .bool (decide (y15.1 < 0))), (2, .str a2), (4, .ptr b1 0 0 2), (5, .ptr b2 0 0 4), (7, .ptr b3 0 0 4), (10, .ptr b4 0 0 2), (11, i4 y7.2), (13, .ptr b6 0 0 2), (14, i4 y11.2)] hS ?_; intro s hS
        by_cases hc8 : (decide (y15.1 < 0)) = true
        ·have h := ak_ hc8 h
         have hS := ap_ hS hc8
         refine qs 10 [(2, .str a2), (4, .ptr b1 0 0 2), (5, .ptr b2 0 0 4), (7, .ptr b3 0 0 4), (10, .ptr b4 0 0 2), (11, i4 y7.2), (13, .ptr b6 0 0 2), (90, .bool true)] hS ?_; intro s hS
         refine ae_ (sq_n ?_)
         refine af_ (t := true) hS rfl (fun _ => ?_) (fun hf => by cases hf)
         refine ad_ (ab_ ?_)
         refine qs 1 [(8, .bool false)] hS ?_; intro s hS
         refine ae_ (sq_n (ao_ (sq_r ?_)))
         injection h with h; subst h
         exact aq_ hH (an_ (v := .bool false) hS rfl r_nil) rfl (by kernel_rfl) (by simp [pureT, pureL, E_bool])
        ·have h := al_ hc8 h
         have hS := ap_ hS (aE_ hc8)
         refine aj_ (v := .agg [i4 y11.1.Next, t4]) 4 trivial rfl hS hH rfl rfl (by kernel_rfl) ?_; intro s hS
         refine aj_ (v := .agg [i4 y7.1.Next, t2]) 6 trivial rfl hS hH rfl rfl (by kernel_rfl) ?_; intro s hS
         obtain ⟨y16, hy16, h⟩ := bind_some h
         have hH : Heap σ0 σ [.own true 10 t4 y11.1.Objects.t, .own true 10 t2 y7.1.Objects.t, .own true 10 t3 y15.2.Objects.t, .own true 10 t5 y13.Objects.t, .box b6 [i4 y11.1.Next, t4], .box b5 [i4 y8.Next, t3], .box b4 [i4 y7.1.Next, t2], .own true 10 t1 y4.Objects.t, .box b3 (ac_.cells a3), .box b2 (ac_.cells a1), .box b1 (ai_.cells a0)] := hH.sel [2, 3, 0, 1, 4, 5, 6, 7, 8, 9, 10] rfl (by kernel_rfl)
         refine eI_ (ents := [.own true 10 t4 y11.1.Objects.t, .own true 10 t2 y7.1.Objects.t]) (z := false) (ts := [.agg [i4 y11.1.Next, t4], .agg [i4 y7.1.Next, t2]]) (vs := [.agg (ai_.cells y11.1), .agg (ai_.cells y7.1)]) rfl hS rfl rfl rfl hH (HL.agg (es1 := [.own true 10 t4 y11.1.Objects.t]) (es2 := [.own true 10 t2 y7.1.Objects.t]) (HLi (HL.own rfl HL.nil)) (HL.agg (es1 := [.own true 10 t2 y7.1.Objects.t]) (es2 := []) (HLi (HL.own rfl HL.nil)) HL.nil)) hy16 (by kernel_rfl) ?_; intro s hS
         refine qs 3 [(86, .bool (!y16)), (2, .str a2), (4, .ptr b1 0 0 2), (5, .ptr b2 0 0 4), (7, .ptr b3 0 0 4), (10, .ptr b4 0 0 2), (11, i4 y7.2), (13, .ptr b6 0 0 2), (14, i4 y11.2)] hS ?_; intro s hS
         by_cases hc9 : (!y16) = true
         ·have h := ak_ hc9 h
          have hS := ap_ hS hc9
          refine qs 4 [(2, .str a2), (4, .ptr b1 0 0 2), (5, .ptr b2 0 0 4), (7, .ptr b3 0 0 4), (10, .ptr b4 0 0 2), (11, i4 y7.2), (13, .ptr b6 0 0 2), (90, .bool true)] hS ?_; intro s hS
          refine ae_ (sq_n ?_)
          refine af_ (t := true) hS rfl (fun _ => ?_) (fun hf => by cases hf)
          refine ad_ (ab_ ?_)
          refine qs 1 [(8, .bool false)] hS ?_; intro s hS
          refine ae_ (sq_n (ao_ (sq_r ?_)))
          injection h with h; subst h
          exact aq_ hH (an_ (v := .bool false) hS rfl r_nil) rfl (by kernel_rfl) (by simp [pureT, pureL, E_bool])
         ·have h := al_ hc9 h
          have hS := ap_ hS (aE_ hc9)
          refine qs 4 [(2, .str a2), (4, .ptr b1 0 0 2), (5, .ptr b2 0 0 4), (7, .ptr b3 0 0 4), (10, .ptr b4 0 0 2), (11, i4 y7.2), (13, .ptr b6 0 0 2), (90, .bool (!decide (y11.2 = y7.2)))] hS ?_; intro s hS
          refine ae_ (sq_n ?_)
          refine af_ hS rfl (fun hf => ag_ hc6 hf) (fun _ => ?_)
          refine ar_ (sq_n (ad_ (ab_ ?_)))
          refine qs 1 [(2, .str a2), (4, .ptr b1 0 0 2), (5, .ptr b2 0 0 4), (7, .ptr b3 0 0 4), (10, .ptr b4 0 0 2), (11, i4 y7.2), (13, .ptr b6 0 0 2), (16, i4 1)] hS ?_; intro s hS
          refine ae_ (sq_n (ad_ (ab_ ?_)))
          refine aj_ (v := .agg [i4 y11.1.Next, t4]) 4 trivial rfl hS hH rfl rfl (by kernel_rfl) ?_; intro s hS
          refine qs 1 [(2, .str a2), (4, .ptr b1 0 0 2), (5, .ptr b2 0 0 4), (7, .ptr b3 0 0 4), (10, .ptr b4 0 0 2), (11, i4 y7.2), (13, .ptr b6 0 0 2), (91, .agg [i4 y11.1.Next, t4]), (92, i4 1)] hS ?_; intro s hS
          obtain ⟨y17, hy17, h⟩ := bind_some h
          refine gk_ (a := []) (b := []) (xs := [.agg [i4 y11.1.Next, t4], i4 1]) (ents := [.own true 10 t4 y11.1.Objects.t]) rfl hS rfl rfl hH (fJ_ y11.1 1 y17 hy17 10 t4) ?_; intro hs σ s hl hH hS
          have hH : Heap σ0 σ [.own true 10 t4 y17.2.Objects.t, .own true 10 t2 y7.1.Objects.t, .own true 10 t3 y15.2.Objects.t, .own true 10 t5 y13.Objects.t, .box b6 [i4 y11.1.Next, t4], .box b5 [i4 y8.Next, t3], .box b4 [i4 y7.1.Next, t2], .own true 10 t1 y4.Objects.t, .box b3 (ac_.cells a3), .box b2 (ac_.cells a1), .box b1 (ai_.cells a0)] := hH
          refine qs 1 [(2, .str a2), (4, .ptr b1 0 0 2), (5, .ptr b2 0 0 4), (7, .ptr b3 0 0 4), (10, .ptr b4 0 0 2), (11, i4 y7.2), (13, .ptr b6 0 0 2), (16, i4 y17.1)] hS ?_; intro s hS
          refine ae_ (sq_n (ad_ (ab_ ?_)))
          refine qs 1 [(2, .str a2), (4, .ptr b1 0 0 2), (5, .ptr b2 0 0 4), (7, .ptr b3 0 0 4), (10, .ptr b4 0 0 2), (11, i4 y7.2), (13, .ptr b6 0 0 2), (16, i4 y17.1), (17, i4 1)] hS ?_; intro s hS
          refine ae_ (sq_n (ad_ (ab_ ?_)))
          refine aj_ (v := .agg [i4 y11.1.Next, t4]) 4 trivial rfl hS hH rfl rfl (by kernel_rfl) ?_; intro s hS
          refine qs 1 [(2, .str a2), (4, .ptr b1 0 0 2), (5, .ptr b2 0 0 4), (7, .ptr b3 0 0 4), (10, .ptr b4 0 0 2), (11, i4 y7.2), (13, .ptr b6 0 0 2), (16, i4 y17.1), (94, .agg [i4 y11.1.Next, t4]), (95, i4 1)] hS ?_; intro s hS
          obtain ⟨y18, hy18, h⟩ := bind_some h
          refine eI_ (ents := [.own true 10 t4 y17.2.Objects.t]) (z := false) (ts := [.agg [i4 y11.1.Next, t4], i4 1]) (vs := [.agg [i4 y11.1.Next, y17.2.Objects.t], i4 1]) rfl hS rfl rfl rfl hH (HL.agg (es1 := [.own true 10 t4 y17.2.Objects.t]) (es2 := []) (HLi (HL.own rfl HL.nil)) (HLi HL.nil)) hy18 (by kernel_rfl) ?_; intro s hS
          refine qs 1 [(2, .str a2), (4, .ptr b1 0 0 2), (5, .ptr b2 0 0 4), (7, .ptr b3 0 0 4), (10, .ptr b4 0 0 2), (11, i4 y7.2), (13, .ptr b6 0 0 2), (16, i4 y17.1), (17, i4 y18)] hS ?_; intro s hS
          refine ae_ (sq_n (ad_ (ad_ (ab_ ?_))))
          refine qs 2 [(2, .str a2), (4, .ptr b1 0 0 2), (5, .ptr b2 0 0 4), (7, .ptr b3 0 0 4), (10, .ptr b4 0 0 2), (11, i4 y7.2), (13, .ptr b6 0 0 2), (16, i4 y17.1), (17, i4 y18), (98, .bool (decide (y18 < 0)))] hS ?_; intro s hS
          refine ae_ (sq_n ?_)
          by_cases hc10 : (decide (y18 < 0)) = true
          ·have h := ak_ hc10 h
           refine af_ hS rfl (fun _ => ?_) (fun hf => ah_ hc10 hf)
           refine ad_ (ab_ ?_)
           refine qs 1 [(8, .bool false)] hS ?_; intro s hS
           refine ae_ (sq_n (ao_ (sq_r ?_)))
           injection h with h; subst h
           exact aq_ hH (an_ (v := .bool false) hS rfl r_nil) rfl (by kernel_rfl) (by simp [pureT, pureL, E_bool])
          ·have h := al_ hc10 h
           refine af_ hS rfl (fun hf => ag_ hc10 hf) (fun _ => ?_)
           refine ar_ (sq_n (ad_ (ad_ (ab_ ?_))))
           refine qs 3 [(2, .str a2), (4, .ptr b1 0 0 2), (5, .ptr b2 0 0 4), (7, .ptr b3 0 0 4), (10, .ptr b4 0 0 2), (11, i4 y7.2), (13, .ptr b6 0 0 2), (16, i4 y17.1), (101, .bool (!decide (y18 = y17.1)))] hS ?_; intro s hS
           refine ae_ (sq_n ?_)
           by_cases hc11 : (!decide (y18 = y17.1)) = true
           ·have h := ak_ hc11 h
            refine af_ hS rfl (fun _ => ?_) (fun hf => ah_ hc11 hf)
            refine ad_ (ab_ ?_)
            refine qs 1 [(8, .bool false)] hS ?_; intro s hS
            refine ae_ (sq_n (ao_ (sq_r ?_)))
            injection h with h; subst h
            exact aq_ hH (an_ (v := .bool false) hS rfl r_nil) rfl (by kernel_rfl) (by simp [pureT, pureL, E_bool])
           ·have h := al_ hc11 h
            refine af_ hS rfl (fun hf => ag_ hc11 hf) (fun _ => ?_)
            refine ar_ (sq_n (ad_ ?_))
            refine cU_ (W2 (fun _ => False) (fun _ => False)) (fun _ => rfl) (by kernel_rfl) (by kernel_rfl) hH ?_; intro mb σs σ hn0 hlt hlto hH
            have hlt_b3 : b3 < mb := hlt b3 _ (List.Mem.tail _ (List.Mem.tail _ (List.Mem.tail _ (List.Mem.tail _ (List.Mem.tail _ (List.Mem.tail _ (List.Mem.tail _ (List.Mem.tail _ (List.Mem.head _)))))))))
            have hlt_b2 : b2 < mb := hlt b2 _ (List.Mem.tail _ (List.Mem.tail _ (List.Mem.tail _ (List.Mem.tail _ (List.Mem.tail _ (List.Mem.tail _ (List.Mem.tail _ (List.Mem.tail _ (List.Mem.tail _ (List.Mem.head _))))))))))
            refine aj_ (v := .agg (ai_.cells a0)) 10 (Or.inl (by kernel_rfl)) rfl hS hH rfl rfl (by kernel_rfl) ?_; intro s hS
            obtain ⟨y19, hy19, h⟩ := bind_some h
            refine a6_ (ents := []) (z := false) (ts := [.agg (ai_.cells a0)]) (vs := [.agg (ai_.cells a0)]) rfl rfl hS rfl rfl rfl hH (HL.agg (es1 := []) (es2 := []) (HLi (HLp HL.nil)) HL.nil) hy19 ?_; intro hs σ s hl hH hS
            obtain ⟨t6, rfl⟩ := len1 hl
            have hH : Heap σ0 σ [.own true 10 t6 y19.Objects.t, .own true 10 t4 y17.2.Objects.t, .own true 10 t2 y7.1.Objects.t, .own true 10 t3 y15.2.Objects.t, .own true 10 t5 y13.Objects.t, .box b6 [i4 y11.1.Next, t4], .box b5 [i4 y8.Next, t3], .box b4 [i4 y7.1.Next, t2], .own true 10 t1 y4.Objects.t, .box b3 (ac_.cells a3), .box b2 (ac_.cells a1), .box b1 (ai_.cells a0)] := hH
            have ht6 : aT_ t6 := Heap.one hH
            refine aj_ (v := .agg (ac_.cells a1)) 10 (Or.inr ⟨hlt_b2, Or.inl (by kernel_rfl)⟩) rfl hS hH rfl rfl (by kernel_rfl) ?_; intro s hS
            obtain ⟨y20, hy20, h⟩ := bind_some h
            refine as_ (a := []) (b := []) (xs := [.agg (ac_.cells a1)]) rfl hS rfl rfl hy20 ?_; intro s hS
            refine qs 1 [(7, .ptr b3 0 0 4), (10, .ptr b4 0 0 2), (11, i4 y7.2), (13, .ptr b6 0 0 2), (16, i4 y17.1), (104, .agg [i4 y19.Next, t6]), (106, .agg (ac_.cells y20)), (107, .str a2)] hS ?_; intro s hS
            refine aj_ (v := .agg (ac_.cells a3)) 9 (Or.inr ⟨hlt_b3, Or.inl (by kernel_rfl)⟩) rfl hS hH rfl rfl (by kernel_rfl) ?_; intro s hS
            obtain ⟨y21, hy21, h⟩ := bind_some h
            refine as_ (a := []) (b := []) (xs := [.agg (ac_.cells a3)]) rfl hS rfl rfl hy21 ?_; intro s hS
            obtain ⟨y22, hy22, h⟩ := bind_some h
            refine a6_ (ents := [.own true 10 t6 y19.Objects.t]) (z := false) (ts := [.agg [i4 y19.Next, t6], .agg (ac_.cells y20), .str a2, .agg (ac_.cells y21)]) (vs := [.agg (ai_.cells y19), .agg (ac_.cells y20), .str a2, .agg (ac_.cells y21)]) rfl rfl hS rfl rfl rfl hH (HL.agg (es1 := [.own true 10 t6 y19.Objects.t]) (es2 := []) (HLi (HL.own rfl HL.nil)) (HL.agg (es1 := []) (es2 := []) (HLi (HLi (HLs (HLi HL.nil)))) (HLs (HL.agg (es1 := []) (es2 := []) (HLi (HLi (HLs (HLi HL.nil)))) HL.nil)))) hy22 ?_; intro hs σ s hl hH hS
            obtain ⟨t7, rfl⟩ := len1 hl
            have hH : Heap σ0 σ [.own true 10 t7 y22.1.Objects.t, .own true 10 t6 y19.Objects.t, .own true 10 t4 y17.2.Objects.t, .own true 10 t2 y7.1.Objects.t, .own true 10 t3 y15.2.Objects.t, .own true 10 t5 y13.Objects.t, .box b6 [i4 y11.1.Next, t4], .box b5 [i4 y8.Next, t3], .box b4 [i4 y7.1.Next, t2], .own true 10 t1 y4.Objects.t, .box b3 (ac_.cells a3), .box b2 (ac_.cells a1), .box b1 (ai_.cells a0)] := hH
            have ht7 : aT_ t7 := Heap.one hH
            refine qs 3 [(10, .ptr b4 0 0 2), (11, i4 y7.2), (13, .ptr b6 0 0 2), (16, i4 y17.1), (111, .agg [i4 y22.1.Next, t7]), (112, i4 y22.2)] hS ?_; intro s hS
            refine hX_ rfl (by exact hn0) (z := [i4 0, (nt aa_)]) rfl hS hH (by kernel_rfl) ?_; intro b7 σ s hwr_b7 hH hS
            refine b7_ rfl (v := .agg [i4 y22.1.Next, t7]) (cs := [i4 y22.1.Next, t7]) (cells' := [i4 y22.1.Next, t7]) (by exact Or.inl hwr_b7) rfl hS hH rfl rfl rfl (by simp [ht7.1, ht7.2]) (by kernel_rfl) ?_; intro σ s hH hS
            refine qs 1 [(10, .ptr b4 0 0 2), (11, i4 y7.2), (13, .ptr b6 0 0 2), (16, i4 y17.1), (18, .ptr b7 0 0 2), (19, i4 y22.2)] hS ?_; intro s hS
            refine ae_ (sq_n (ad_ (ad_ (ab_ ?_))))
            refine aj_ (v := .agg [i4 y22.1.Next, t7]) 0 trivial rfl hS hH rfl rfl (by kernel_rfl) ?_; intro s hS
            refine aj_ (v := .agg [i4 y7.1.Next, t2]) 9 trivial rfl hS hH rfl rfl (by kernel_rfl) ?_; intro s hS
            obtain ⟨y23, hy23, h⟩ := bind_some h
            have hH : Heap σ0 σ [.own true 10 t7 y22.1.Objects.t, .own true 10 t2 y7.1.Objects.t, .box b7 [i4 y22.1.Next, t7], .own true 10 t6 y19.Objects.t, .own true 10 t4 y17.2.Objects.t, .own true 10 t3 y15.2.Objects.t, .own true 10 t5 y13.Objects.t, .box b6 [i4 y11.1.Next, t4], .box b5 [i4 y8.Next, t3], .box b4 [i4 y7.1.Next, t2], .own true 10 t1 y4.Objects.t, .box b3 (ac_.cells a3), .box b2 (ac_.cells a1), .box b1 (ai_.cells a0)] := hH.sel [1, 4, 0, 2, 3, 5, 6, 7, 8, 9, 10, 11, 12, 13] rfl (by kernel_rfl)
            refine eI_ (ents := [.own true 10 t7 y22.1.Objects.t, .own true 10 t2 y7.1.Objects.t]) (z := false) (ts := [.agg [i4 y22.1.Next, t7], .agg [i4 y7.1.Next, t2]]) (vs := [.agg (ai_.cells y22.1), .agg (ai_.cells y7.1)]) rfl hS rfl rfl rfl hH (HL.agg (es1 := [.own true 10 t7 y22.1.Objects.t]) (es2 := [.own true 10 t2 y7.1.Objects.t]) (HLi (HL.own rfl HL.nil)) (HL.agg (es1 := [.own true 10 t2 y7.1.Objects.t]) (es2 := []) (HLi (HL.own rfl HL.nil)) HL.nil)) hy23 (by kernel_rfl) ?_; intro s hS
            refine qs 2 [(117, .bool (!y23)), (11, i4 y7.2), (13, .ptr b6 0 0 2), (16, i4 y17.1), (19, i4 y22.2)] hS ?_; intro s hS
            by_cases hc12 : (!y23) = true
            ·have h := ak_ hc12 h
             have hS := ap_ hS hc12
             refine qs 4 [(13, .ptr b6 0 0 2), (16, i4 y17.1), (121, .bool true)] hS ?_; intro s hS
             refine ae_ (sq_n ?_)
             refine af_ (t := true) hS rfl (fun _ => ?_) (fun hf => by cases hf)
             refine ad_ (ab_ ?_)
             refine qs 1 [(8, .bool false)] hS ?_; intro s hS
             refine ae_ (sq_n (ao_ (sq_r ?_)))
             injection h with h; subst h
             exact aq_ hH (an_ (v := .bool false) hS rfl r_nil) rfl (by kernel_rfl) (by simp [pureT, pureL, E_bool])
            ·have h := al_ hc12 h
             have hS := ap_ hS (aE_ hc12)
             refine qs 4 [(13, .ptr b6 0 0 2), (16, i4 y17.1), (121, .bool (!decide (y22.2 = y7.2)))] hS ?_; intro s hS
             refine ae_ (sq_n ?_)
             by_cases hc13 : (!decide (y22.2 = y7.2)) = true
             ·have h := ak_ hc13 h
              refine af_ hS rfl (fun _ => ?_) (fun hf => ah_ hc13 hf)
              refine ad_ (ab_ ?_)
              refine qs 1 [(8, .bool false)] hS ?_; intro s hS
              refine ae_ (sq_n (ao_ (sq_r ?_)))
              injection h with h; subst h
              exact aq_ hH (an_ (v := .bool false) hS rfl r_nil) rfl (by kernel_rfl) (by simp [pureT, pureL, E_bool])
             ·have h := al_ hc13 h
              refine af_ hS rfl (fun hf => ag_ hc13 hf) (fun _ => ?_)
              refine ar_ (sq_n (ad_ (ab_ ?_)))
              refine qs 1 [(13, .ptr b6 0 0 2), (16, i4 y17.1), (17, i4 1)] hS ?_; intro s hS
              refine ae_ (sq_n (ad_ (ab_ ?_)))
              refine aj_ (v := .agg [i4 y11.1.Next, t4]) 7 trivial rfl hS hH rfl rfl (by kernel_rfl) ?_; intro s hS
              refine qs 1 [(16, i4 y17.1), (122, .agg [i4 y11.1.Next, t4]), (123, i4 1)] hS ?_; intro s hS
              obtain ⟨y24, hy24, h⟩ := bind_some h
              have hH : Heap σ0 σ [.own true 10 t4 y17.2.Objects.t, .own true 10 t7 y22.1.Objects.t, .own true 10 t2 y7.1.Objects.t, .box b7 [i4 y22.1.Next, t7], .own true 10 t6 y19.Objects.t, .own true 10 t3 y15.2.Objects.t, .own true 10 t5 y13.Objects.t, .box b6 [i4 y11.1.Next, t4], .box b5 [i4 y8.Next, t3], .box b4 [i4 y7.1.Next, t2], .own true 10 t1 y4.Objects.t, .box b3 (ac_.cells a3), .box b2 (ac_.cells a1), .box b1 (ai_.cells a0)] := hH.sel [4, 0, 1, 2, 3, 5, 6, 7, 8, 9, 10, 11, 12, 13] rfl (by kernel_rfl)
              refine eI_ (ents := [.own true 10 t4 y17.2.Objects.t]) (z := false) (ts := [.agg [i4 y11.1.Next, t4], i4 1]) (vs := [.agg [i4 y11.1.Next, y17.2.Objects.t], i4 1]) rfl hS rfl rfl rfl hH (HL.agg (es1 := [.own true 10 t4 y17.2.Objects.t]) (es2 := []) (HLi (HL.own rfl HL.nil)) (HLi HL.nil)) hy24 (by kernel_rfl) ?_; intro s hS
              refine qs 1 [(16, i4 y17.1), (17, i4 y24)] hS ?_; intro s hS
              refine ae_ (sq_n (ad_ (ad_ (ab_ ?_))))
              refine qs 2 [(16, i4 y17.1), (17, i4 y24), (126, .bool (decide (y24 < 0)))] hS ?_; intro s hS
              refine ae_ (sq_n ?_)
              by_cases hc14 : (decide (y24 < 0)) = true
              ·have h := ak_ hc14 h
               refine af_ hS rfl (fun _ => ?_) (fun hf => ah_ hc14 hf)
               refine ad_ (ab_ ?_)
               refine qs 1 [(8, .bool false)] hS ?_; intro s hS
               refine ae_ (sq_n (ao_ (sq_r ?_)))
               injection h with h; subst h
               exact aq_ hH (an_ (v := .bool false) hS rfl r_nil) rfl (by kernel_rfl) (by simp [pureT, pureL, E_bool])
              ·have h := al_ hc14 h
               refine af_ hS rfl (fun hf => ag_ hc14 hf) (fun _ => ?_)
               refine ar_ (sq_n (ad_ (ad_ (ab_ ?_))))
               refine qs 3 [(129, .bool (!decide (y24 = y17.1)))] hS ?_; intro s hS
               refine ae_ (sq_n ?_)
               by_cases hc15 : (!decide (y24 = y17.1)) = true
               ·have h := ak_ hc15 h
                refine af_ hS rfl (fun _ => ?_) (fun hf => ah_ hc15 hf)
                refine ad_ (ab_ ?_)
                refine qs 1 [(8, .bool false)] hS ?_; intro s hS
                refine ae_ (sq_n (ao_ (sq_r ?_)))
                injection h with h; subst h
                exact aq_ hH (an_ (v := .bool false) hS rfl r_nil) rfl (by kernel_rfl) (by simp [pureT, pureL, E_bool])
               ·have h := al_ hc15 h
                refine af_ hS rfl (fun hf => ag_ hc15 hf) (fun _ => ?_)
                refine ar_ (sq_n (ad_ (ab_ ?_)))
                refine qs 1 [(8, .bool true)] hS ?_; intro s hS
                refine ae_ (sq_n (ao_ ?_))
                injection h with h; subst h
                exact aq_ hH (an_ (v := .bool true) hS rfl r_nil) rfl (by kernel_rfl) (by simp [pureT, pureL, E_bool])
noncomputable def fk_ (a0 : ai_) (a1 : Int) : Option Int := ((dK_ a0.Objects a1).bind fun y1 => (if (decide (y1 < 0)) = true then (some (-1)) else (some y1)))
theorem jC_ (a0 : ai_) (a1 : Int) (r : Int) (h : fk_ a0 a1 = some r) : eY_ a0 a1 = some r := by
 unfold fk_ at h
 refine ax_ E_i64_inj rfl rfl ok_14 rfl (all_cons (by kernel_rfl) (all_cons (by kernel_rfl) all_nil)) ?_
 intro σ0 s hS hH
 have hS := am_ (L' := [(0, .agg (ai_.cells a0)), (1, i4 a1)]) hS (by kernel_rfl)
 refine ad_ (ab_ ?_)
 refine aX_ (v := .agg (ai_.cells a0)) (cs := [i4 a0.Next, a0.Objects.t]) rfl hS hH rfl rfl (by kernel_rfl) ?_; intro b1 σ s hH hS
 refine qs 1 [(1, i4 a1), (2, .ptr b1 0 0 2)] hS ?_; intro s hS
 refine ae_ (sq_n (ad_ (ab_ ?_)))
 refine qs 1 [(1, i4 a1), (5, .ptr b1 0 1 1)] hS ?_; intro s hS
 refine aj_ (v := a0.Objects.t) 0 trivial rfl hS hH rfl rfl (by kernel_rfl) ?_; intro s hS
 refine qs 1 [(6, a0.Objects.t), (7, i4 a1)] hS ?_; intro s hS
 obtain ⟨y1, hy1, h⟩ := bind_some h
 refine as_ (a := []) (b := []) (xs := [a0.Objects.t, i4 a1]) rfl hS rfl rfl hy1 ?_; intro s hS
 refine qs 1 [(1, i4 y1)] hS ?_; intro s hS
 refine ae_ (sq_n (ad_ (ad_ (ab_ ?_))))
 refine qs 2 [(1, i4 y1), (10, .bool (decide (y1 < 0)))] hS ?_; intro s hS
 refine ae_ (sq_n ?_)
 by_cases hc1 : (decide (y1 < 0)) = true
 ·have h := ak_ hc1 h
  refine af_ hS rfl (fun _ => ?_) (fun hf => ah_ hc1 hf)
  refine ad_ (ab_ ?_)
  refine qs 1 [(4, i4 (-1))] hS ?_; intro s hS
  refine ae_ (sq_n (ao_ (sq_r ?_)))
  injection h with h; subst h
  exact aq_ hH (an_ (v := i4 (-1)) hS rfl r_nil) rfl (by kernel_rfl) (by simp [pureT, pureL, E_i64])
 ·have h := al_ hc1 h
  refine af_ hS rfl (fun hf => ag_ hc1 hf) (fun _ => ?_)
  refine ar_ (sq_n (ad_ (ab_ ?_)))
  refine qs 2 [(4, i4 y1)] hS ?_; intro s hS
  refine ae_ (sq_n (ao_ ?_))
  injection h with h; subst h
  exact aq_ hH (an_ (v := i4 y1) hS rfl r_nil) rfl (by kernel_rfl) (by simp [pureT, pureL, E_i64])
noncomputable def fb_ (a0 : ai_) : Option ai_ := ((dP_ a0.Objects).bind fun y1 => (some (⟨a0.Next, y1⟩ : ai_)))
theorem jY_ (a0 : ai_) (r : ai_) (h : fb_ a0 = some r) : cf_ a0 = some r := by
 unfold fb_ at h
 refine co_ rfl rfl ok_16 rfl (all_cons (by kernel_rfl) all_nil) ?_
 intro σ0 s hS hH
 have hS := am_ (L' := [(0, .agg (ai_.cells a0))]) hS (by kernel_rfl)
 refine ad_ (ab_ ?_)
 refine aX_ (v := .agg (ai_.cells a0)) (cs := [i4 a0.Next, a0.Objects.t]) rfl hS hH rfl rfl (by kernel_rfl) ?_; intro b1 σ s hH hS
 refine aO_ (z := [i4 0, (nt aa_)]) rfl hS hH (by kernel_rfl) ?_; intro b2 σ s hH hS
 refine ae_ (sq_n (ad_ (ab_ ?_)))
 refine aO_ (z := [i4 0, (nt aa_)]) rfl hS hH (by kernel_rfl) ?_; intro b3 σ s hH hS
 refine ae_ (sq_n (ad_ (ab_ ?_)))
 refine qs 1 [(1, .ptr b1 0 0 2), (2, .ptr b2 0 0 2), (3, .ptr b3 0 0 2), (4, .ptr b1 0 0 1)] hS ?_; intro s hS
 refine aj_ (v := i4 a0.Next) 2 trivial rfl hS hH rfl rfl (by kernel_rfl) ?_; intro s hS
 refine qs 1 [(1, .ptr b1 0 0 2), (2, .ptr b2 0 0 2), (3, .ptr b3 0 0 2), (5, i4 a0.Next), (6, .ptr b3 0 0 1)] hS ?_; intro s hS
 refine aW_ (v := i4 a0.Next) (cs := [i4 a0.Next]) (cells' := [i4 a0.Next, (nt aa_)]) rfl hS hH rfl rfl rfl (by kernel_rfl) (by kernel_rfl) ?_; intro σ s hH hS
 refine ae_ (sq_n (ad_ (ab_ ?_)))
 refine qs 1 [(2, .ptr b2 0 0 2), (3, .ptr b3 0 0 2), (7, .ptr b1 0 1 1)] hS ?_; intro s hS
 refine aj_ (v := a0.Objects.t) 2 trivial rfl hS hH rfl rfl (by kernel_rfl) ?_; intro s hS
 obtain ⟨y1, hy1, h⟩ := bind_some h
 refine a6_ (ents := []) (z := false) (ts := [a0.Objects.t]) (vs := [a0.Objects.t]) rfl rfl hS rfl rfl rfl hH (HLp HL.nil) hy1 ?_; intro hs σ s hl hH hS
 obtain ⟨t1, rfl⟩ := len1 hl
 have hH : Heap σ0 σ [.own true 10 t1 y1.t, .box b3 [i4 a0.Next, (nt aa_)], .box b2 [i4 0, (nt aa_)], .box b1 (ai_.cells a0)] := hH
 have ht1 : aT_ t1 := Heap.one hH
 refine qs 1 [(2, .ptr b2 0 0 2), (3, .ptr b3 0 0 2), (9, t1), (10, .ptr b3 0 1 1)] hS ?_; intro s hS
 have hH : Heap σ0 σ [.box b3 [i4 a0.Next, (nt aa_)], .own true 10 t1 y1.t, .box b2 [i4 0, (nt aa_)], .box b1 (ai_.cells a0)] := hH.sel [1, 0, 2, 3] rfl (by kernel_rfl)
 refine aW_ (v := t1) (cs := [t1]) (cells' := [i4 a0.Next, t1]) rfl hS hH rfl rfl (by simp [ht1.1, ht1.2]) (by simp [ht1.1, ht1.2]) (by kernel_rfl) ?_; intro σ s hH hS
 refine ae_ (sq_n (ad_ (ab_ ?_)))
 refine aj_ (v := .agg [i4 a0.Next, t1]) 0 trivial rfl hS hH rfl rfl (by kernel_rfl) ?_; intro s hS
 have hH : Heap σ0 σ [.box b2 [i4 0, (nt aa_)], .box b3 [i4 a0.Next, t1], .own true 10 t1 y1.t, .box b1 (ai_.cells a0)] := hH.sel [2, 0, 1, 3] rfl (by kernel_rfl)
 refine aH_ (cs := [i4 a0.Next, t1]) rfl hS hH rfl rfl (by simp [ht1.1, ht1.2]) ?_; intro σ s hH hS
 refine ae_ (sq_n (ao_ ?_))
 injection h with h; subst h
 have hH : Heap σ0 σ [.own true 10 t1 y1.t, .box b2 [i4 a0.Next, t1], .box b3 [i4 a0.Next, t1], .box b1 (ai_.cells a0)] := hH.sel [2, 0, 1, 3] rfl (by kernel_rfl)
 exact bi_ [t1] [.box b2 [i4 a0.Next, t1], .box b3 [i4 a0.Next, t1], .box b1 (ai_.cells a0)] (bn_ (v := .agg [i4 a0.Next, t1]) hS (hH.at 1 rfl) rfl (by kernel_rfl) r_nil) (by kernel_rfl) rfl hH (by kernel_rfl)
noncomputable def d8_ (a0 : aa_) (a1 : aa_) : Option Bool := (if (!decide (a0.Id = a1.Id)) = true then (some false) else (if (!decide (a0.Kind = a1.Kind)) = true then (some false) else (if (!decide (a0.Name = a1.Name)) = true then (some false) else (if (!decide (a0.Low = a1.Low)) = true then (some false) else ((cX_ a0.Keys a1.Keys).bind fun y1 => (if (!y1) = true then (some false) else ((cX_ a0.Vals a1.Vals).bind fun y2 => (if (!y2) = true then (some false) else ((ct_ a0.Default a1.Default).bind fun y3 => (if (!y3) = true then (some false) else (some true)))))))))))
theorem ix_ (a0 : aa_) (a1 : aa_) (r : Bool) (h : d8_ a0 a1 = some r) : df_ a0 a1 = some r := by
 unfold d8_ at h
 refine ax_ E_bool_inj rfl rfl ok_18 rfl (all_cons (by kernel_rfl) (all_cons (by kernel_rfl) all_nil)) ?_
 intro σ0 s hS hH
 have hS := am_ (L' := [(0, .agg (aa_.cells a0)), (1, .agg (aa_.cells a1))]) hS (by kernel_rfl)
 refine ad_ (ab_ ?_)
 refine aX_ (v := .agg (aa_.cells a0)) (cs := [i4 a0.Id, i4 a0.Kind, .str a0.Name, i4 a0.Low, a0.Keys.t, a0.Vals.t, i4 a0.Default.Kind, i4 a0.Default.Num, .str a0.Default.Text, i4 a0.Default.Ref]) rfl hS hH rfl rfl (by kernel_rfl) ?_; intro b1 σ s hH hS
 refine aX_ (v := .agg (aa_.cells a1)) (cs := [i4 a1.Id, i4 a1.Kind, .str a1.Name, i4 a1.Low, a1.Keys.t, a1.Vals.t, i4 a1.Default.Kind, i4 a1.Default.Num, .str a1.Default.Text, i4 a1.Default.Ref]) rfl hS hH rfl rfl (by kernel_rfl) ?_; intro b2 σ s hH hS
 refine qs 1 [(2, .ptr b1 0 0 10), (3, .ptr b2 0 0 10)] hS ?_; intro s hS
 refine ae_ (sq_n (ad_ (ad_ (ab_ ?_))))
 refine qs 1 [(2, .ptr b1 0 0 10), (3, .ptr b2 0 0 10), (5, .ptr b1 0 0 1)] hS ?_; intro s hS
 refine aj_ (v := i4 a0.Id) 1 trivial rfl hS hH rfl rfl (by kernel_rfl) ?_; intro s hS
 refine qs 1 [(2, .ptr b1 0 0 10), (3, .ptr b2 0 0 10), (6, i4 a0.Id), (7, .ptr b2 0 0 1)] hS ?_; intro s hS
 refine aj_ (v := i4 a1.Id) 0 trivial rfl hS hH rfl rfl (by kernel_rfl) ?_; intro s hS
 refine qs 1 [(2, .ptr b1 0 0 10), (3, .ptr b2 0 0 10), (9, .bool (!decide (a0.Id = a1.Id)))] hS ?_; intro s hS
 refine ae_ (sq_n ?_)
 by_cases hc1 : (!decide (a0.Id = a1.Id)) = true
 ·have h := ak_ hc1 h
  refine af_ hS rfl (fun _ => ?_) (fun hf => ah_ hc1 hf)
  refine ad_ (ab_ ?_)
  refine qs 1 [(4, .bool false)] hS ?_; intro s hS
  refine ae_ (sq_n (ao_ (sq_r ?_)))
  injection h with h; subst h
  exact aq_ hH (an_ (v := .bool false) hS rfl r_nil) rfl (by kernel_rfl) (by simp [pureT, pureL, E_bool])
 ·have h := al_ hc1 h
  refine af_ hS rfl (fun hf => ag_ hc1 hf) (fun _ => ?_)
  refine ar_ (sq_n (ad_ (ad_ (ab_ ?_))))
  refine qs 1 [(2, .ptr b1 0 0 10), (3, .ptr b2 0 0 10), (10, .ptr b1 0 1 1)] hS ?_; intro s hS
  refine aj_ (v := i4 a0.Kind) 1 trivial rfl hS hH rfl rfl (by kernel_rfl) ?_; intro s hS
  refine qs 1 [(2, .ptr b1 0 0 10), (3, .ptr b2 0 0 10), (11, i4 a0.Kind), (12, .ptr b2 0 1 1)] hS ?_; intro s hS
  refine aj_ (v := i4 a1.Kind) 0 trivial rfl hS hH rfl rfl (by kernel_rfl) ?_; intro s hS
  refine qs 1 [(2, .ptr b1 0 0 10), (3, .ptr b2 0 0 10), (14, .bool (!decide (a0.Kind = a1.Kind)))] hS ?_; intro s hS
  refine ae_ (sq_n ?_)
  by_cases hc2 : (!decide (a0.Kind = a1.Kind)) = true
  ·have h := ak_ hc2 h
   refine af_ hS rfl (fun _ => ?_) (fun hf => ah_ hc2 hf)
   refine ad_ (ab_ ?_)
   refine qs 1 [(4, .bool false)] hS ?_; intro s hS
   refine ae_ (sq_n (ao_ (sq_r ?_)))
   injection h with h; subst h
   exact aq_ hH (an_ (v := .bool false) hS rfl r_nil) rfl (by kernel_rfl) (by simp [pureT, pureL, E_bool])
  ·have h := al_ hc2 h
   refine af_ hS rfl (fun hf => ag_ hc2 hf) (fun _ => ?_)
   refine ar_ (sq_n (ad_ (ad_ (ab_ ?_))))
   refine qs 1 [(2, .ptr b1 0 0 10), (3, .ptr b2 0 0 10), (15, .ptr b1 0 2 1)] hS ?_; intro s hS
   refine aj_ (v := .str a0.Name) 1 trivial rfl hS hH rfl rfl (by kernel_rfl) ?_; intro s hS
   refine qs 1 [(2, .ptr b1 0 0 10), (3, .ptr b2 0 0 10), (16, .str a0.Name), (17, .ptr b2 0 2 1)] hS ?_; intro s hS
   refine aj_ (v := .str a1.Name) 0 trivial rfl hS hH rfl rfl (by kernel_rfl) ?_; intro s hS
   refine qs 1 [(2, .ptr b1 0 0 10), (3, .ptr b2 0 0 10), (19, .bool (!decide (a0.Name = a1.Name)))] hS ?_; intro s hS
   refine ae_ (sq_n ?_)
   by_cases hc3 : (!decide (a0.Name = a1.Name)) = true
   ·have h := ak_ hc3 h
    refine af_ hS rfl (fun _ => ?_) (fun hf => ah_ hc3 hf)
    refine ad_ (ab_ ?_)
    refine qs 1 [(4, .bool false)] hS ?_; intro s hS
    refine ae_ (sq_n (ao_ (sq_r ?_)))
    injection h with h; subst h
    exact aq_ hH (an_ (v := .bool false) hS rfl r_nil) rfl (by kernel_rfl) (by simp [pureT, pureL, E_bool])
   ·have h := al_ hc3 h
    refine af_ hS rfl (fun hf => ag_ hc3 hf) (fun _ => ?_)
    refine ar_ (sq_n (ad_ (ad_ (ab_ ?_))))
    refine qs 1 [(2, .ptr b1 0 0 10), (3, .ptr b2 0 0 10), (20, .ptr b1 0 3 1)] hS ?_; intro s hS
    refine aj_ (v := i4 a0.Low) 1 trivial rfl hS hH rfl rfl (by kernel_rfl) ?_; intro s hS
    refine qs 1 [(2, .ptr b1 0 0 10), (3, .ptr b2 0 0 10), (21, i4 a0.Low), (22, .ptr b2 0 3 1)] hS ?_; intro s hS
    refine aj_ (v := i4 a1.Low) 0 trivial rfl hS hH rfl rfl (by kernel_rfl) ?_; intro s hS
    refine qs 1 [(2, .ptr b1 0 0 10), (3, .ptr b2 0 0 10), (24, .bool (!decide (a0.Low = a1.Low)))] hS ?_; intro s hS
    refine ae_ (sq_n ?_)
    by_cases hc4 : (!decide (a0.Low = a1.Low)) = true
    ·have h := ak_ hc4 h
     refine af_ hS rfl (fun _ => ?_) (fun hf => ah_ hc4 hf)
     refine ad_ (ab_ ?_)
     refine qs 1 [(4, .bool false)] hS ?_; intro s hS
     refine ae_ (sq_n (ao_ (sq_r ?_)))
     injection h with h; subst h
     exact aq_ hH (an_ (v := .bool false) hS rfl r_nil) rfl (by kernel_rfl) (by simp [pureT, pureL, E_bool])
    ·have h := al_ hc4 h
     refine af_ hS rfl (fun hf => ag_ hc4 hf) (fun _ => ?_)
     refine ar_ (sq_n (ad_ (ad_ (ab_ ?_))))
     refine qs 1 [(2, .ptr b1 0 0 10), (3, .ptr b2 0 0 10), (25, .ptr b1 0 4 1)] hS ?_; intro s hS
     refine aj_ (v := a0.Keys.t) 1 trivial rfl hS hH rfl rfl (by kernel_rfl) ?_; intro s hS
     refine qs 1 [(2, .ptr b1 0 0 10), (3, .ptr b2 0 0 10), (26, a0.Keys.t), (27, .ptr b2 0 4 1)] hS ?_; intro s hS
     refine aj_ (v := a1.Keys.t) 0 trivial rfl hS hH rfl rfl (by kernel_rfl) ?_; intro s hS
     obtain ⟨y1, hy1, h⟩ := bind_some h
     refine as_ (a := []) (b := []) (xs := [a0.Keys.t, a1.Keys.t]) rfl hS rfl rfl hy1 ?_; intro s hS
     refine qs 1 [(2, .ptr b1 0 0 10), (3, .ptr b2 0 0 10), (30, .bool (!y1))] hS ?_; intro s hS
     refine ae_ (sq_n ?_)
     by_cases hc5 : (!y1) = true
     ·have h := ak_ hc5 h
      refine af_ hS rfl (fun _ => ?_) (fun hf => ah_ hc5 hf)
      refine ad_ (ab_ ?_)
      refine qs 1 [(4, .bool false)] hS ?_; intro s hS
      refine ae_ (sq_n (ao_ (sq_r ?_)))
      injection h with h; subst h
      exact aq_ hH (an_ (v := .bool false) hS rfl r_nil) rfl (by kernel_rfl) (by simp [pureT, pureL, E_bool])
     ·have h := al_ hc5 h
      refine af_ hS rfl (fun hf => ag_ hc5 hf) (fun _ => ?_)
      refine ar_ (sq_n (ad_ (ad_ (ab_ ?_))))
      refine qs 1 [(2, .ptr b1 0 0 10), (3, .ptr b2 0 0 10), (31, .ptr b1 0 5 1)] hS ?_; intro s hS
      refine aj_ (v := a0.Vals.t) 1 trivial rfl hS hH rfl rfl (by kernel_rfl) ?_; intro s hS
      refine qs 1 [(2, .ptr b1 0 0 10), (3, .ptr b2 0 0 10), (32, a0.Vals.t), (33, .ptr b2 0 5 1)] hS ?_; intro s hS
      refine aj_ (v := a1.Vals.t) 0 trivial rfl hS hH rfl rfl (by kernel_rfl) ?_; intro s hS
      obtain ⟨y2, hy2, h⟩ := bind_some h
      refine as_ (a := []) (b := []) (xs := [a0.Vals.t, a1.Vals.t]) rfl hS rfl rfl hy2 ?_; intro s hS
      refine qs 1 [(2, .ptr b1 0 0 10), (3, .ptr b2 0 0 10), (36, .bool (!y2))] hS ?_; intro s hS
      refine ae_ (sq_n ?_)
      by_cases hc6 : (!y2) = true
      ·have h := ak_ hc6 h
       refine af_ hS rfl (fun _ => ?_) (fun hf => ah_ hc6 hf)
       refine ad_ (ab_ ?_)
       refine qs 1 [(4, .bool false)] hS ?_; intro s hS
       refine ae_ (sq_n (ao_ (sq_r ?_)))
       injection h with h; subst h
       exact aq_ hH (an_ (v := .bool false) hS rfl r_nil) rfl (by kernel_rfl) (by simp [pureT, pureL, E_bool])
      ·have h := al_ hc6 h
       refine af_ hS rfl (fun hf => ag_ hc6 hf) (fun _ => ?_)
       refine ar_ (sq_n (ad_ (ad_ (ab_ ?_))))
       refine qs 1 [(3, .ptr b2 0 0 10), (37, .ptr b1 0 6 4)] hS ?_; intro s hS
       refine aj_ (v := .agg (ac_.cells a0.Default)) 1 trivial rfl hS hH rfl rfl (by kernel_rfl) ?_; intro s hS
       refine qs 1 [(38, .agg (ac_.cells a0.Default)), (39, .ptr b2 0 6 4)] hS ?_; intro s hS
       refine aj_ (v := .agg (ac_.cells a1.Default)) 0 trivial rfl hS hH rfl rfl (by kernel_rfl) ?_; intro s hS
       obtain ⟨y3, hy3, h⟩ := bind_some h
       refine as_ (a := []) (b := []) (xs := [.agg (ac_.cells a0.Default), .agg (ac_.cells a1.Default)]) rfl hS rfl rfl hy3 ?_; intro s hS
       refine qs 1 [(42, .bool (!y3))] hS ?_; intro s hS
       refine ae_ (sq_n ?_)
       by_cases hc7 : (!y3) = true
       ·have h := ak_ hc7 h
        refine af_ hS rfl (fun _ => ?_) (fun hf => ah_ hc7 hf)
        refine ad_ (ab_ ?_)
        refine qs 1 [(4, .bool false)] hS ?_; intro s hS
        refine ae_ (sq_n (ao_ (sq_r ?_)))
        injection h with h; subst h
        exact aq_ hH (an_ (v := .bool false) hS rfl r_nil) rfl (by kernel_rfl) (by simp [pureT, pureL, E_bool])
       ·have h := al_ hc7 h
        refine af_ hS rfl (fun hf => ag_ hc7 hf) (fun _ => ?_)
        refine ar_ (sq_n (ad_ (ab_ ?_)))
        refine qs 1 [(4, .bool true)] hS ?_; intro s hS
        refine ae_ (sq_n (ao_ ?_))
        injection h with h; subst h
        exact aq_ hH (an_ (v := .bool true) hS rfl r_nil) rfl (by kernel_rfl) (by simp [pureT, pureL, E_bool])
noncomputable def eZ_ (a0 : ai_) (a1 : ai_) : Option Bool := (if (!decide (a0.Next = a1.Next)) = true then (some false) else ((dJ_ a0.Objects a1.Objects).bind fun y1 => (if (!y1) = true then (some false) else (some true))))
theorem jF_ (a0 : ai_) (a1 : ai_) (r : Bool) (h : eZ_ a0 a1 = some r) : bQ_ a0 a1 = some r := by
 unfold eZ_ at h
 refine ax_ E_bool_inj rfl rfl ok_19 rfl (all_cons (by kernel_rfl) (all_cons (by kernel_rfl) all_nil)) ?_
 intro σ0 s hS hH
 have hS := am_ (L' := [(0, .agg (ai_.cells a0)), (1, .agg (ai_.cells a1))]) hS (by kernel_rfl)
 refine ad_ (ab_ ?_)
 refine aX_ (v := .agg (ai_.cells a0)) (cs := [i4 a0.Next, a0.Objects.t]) rfl hS hH rfl rfl (by kernel_rfl) ?_; intro b1 σ s hH hS
 refine aX_ (v := .agg (ai_.cells a1)) (cs := [i4 a1.Next, a1.Objects.t]) rfl hS hH rfl rfl (by kernel_rfl) ?_; intro b2 σ s hH hS
 refine qs 1 [(2, .ptr b1 0 0 2), (3, .ptr b2 0 0 2)] hS ?_; intro s hS
 refine ae_ (sq_n (ad_ (ad_ (ab_ ?_))))
 refine qs 1 [(2, .ptr b1 0 0 2), (3, .ptr b2 0 0 2), (5, .ptr b1 0 0 1)] hS ?_; intro s hS
 refine aj_ (v := i4 a0.Next) 1 trivial rfl hS hH rfl rfl (by kernel_rfl) ?_; intro s hS
 refine qs 1 [(2, .ptr b1 0 0 2), (3, .ptr b2 0 0 2), (6, i4 a0.Next), (7, .ptr b2 0 0 1)] hS ?_; intro s hS
 refine aj_ (v := i4 a1.Next) 0 trivial rfl hS hH rfl rfl (by kernel_rfl) ?_; intro s hS
 refine qs 1 [(2, .ptr b1 0 0 2), (3, .ptr b2 0 0 2), (9, .bool (!decide (a0.Next = a1.Next)))] hS ?_; intro s hS
 refine ae_ (sq_n ?_)
 by_cases hc1 : (!decide (a0.Next = a1.Next)) = true
 ·have h := ak_ hc1 h
  refine af_ hS rfl (fun _ => ?_) (fun hf => ah_ hc1 hf)
  refine ad_ (ab_ ?_)
  refine qs 1 [(4, .bool false)] hS ?_; intro s hS
  refine ae_ (sq_n (ao_ (sq_r ?_)))
  injection h with h; subst h
  exact aq_ hH (an_ (v := .bool false) hS rfl r_nil) rfl (by kernel_rfl) (by simp [pureT, pureL, E_bool])
 ·have h := al_ hc1 h
  refine af_ hS rfl (fun hf => ag_ hc1 hf) (fun _ => ?_)
  refine ar_ (sq_n (ad_ (ad_ (ab_ ?_))))
  refine qs 1 [(3, .ptr b2 0 0 2), (10, .ptr b1 0 1 1)] hS ?_; intro s hS
  refine aj_ (v := a0.Objects.t) 1 trivial rfl hS hH rfl rfl (by kernel_rfl) ?_; intro s hS
  refine qs 1 [(11, a0.Objects.t), (12, .ptr b2 0 1 1)] hS ?_; intro s hS
  refine aj_ (v := a1.Objects.t) 0 trivial rfl hS hH rfl rfl (by kernel_rfl) ?_; intro s hS
  obtain ⟨y1, hy1, h⟩ := bind_some h
  refine as_ (a := []) (b := []) (xs := [a0.Objects.t, a1.Objects.t]) rfl hS rfl rfl hy1 ?_; intro s hS
  refine qs 1 [(15, .bool (!y1))] hS ?_; intro s hS
  refine ae_ (sq_n ?_)
  by_cases hc2 : (!y1) = true
  ·have h := ak_ hc2 h
   refine af_ hS rfl (fun _ => ?_) (fun hf => ah_ hc2 hf)
   refine ad_ (ab_ ?_)
   refine qs 1 [(4, .bool false)] hS ?_; intro s hS
   refine ae_ (sq_n (ao_ (sq_r ?_)))
   injection h with h; subst h
   exact aq_ hH (an_ (v := .bool false) hS rfl r_nil) rfl (by kernel_rfl) (by simp [pureT, pureL, E_bool])
  ·have h := al_ hc2 h
   refine af_ hS rfl (fun hf => ag_ hc2 hf) (fun _ => ?_)
   refine ar_ (sq_n (ad_ (ab_ ?_)))
   refine qs 1 [(4, .bool true)] hS ?_; intro s hS
   refine ae_ (sq_n (ao_ ?_))
   injection h with h; subst h
   exact aq_ hH (an_ (v := .bool true) hS rfl r_nil) rfl (by kernel_rfl) (by simp [pureT, pureL, E_bool])
noncomputable def ck_ (a0 : aa_) (a1 : Int) : Option (Int × aa_) := ((aP_ a0.Keys a1).bind fun y1 => ((aP_ a0.Vals y1.1).bind fun y2 => (some (y2.1, (⟨a0.Id, a0.Kind, a0.Name, a0.Low, y1.2, y2.2, a0.Default⟩ : aa_)))))
theorem my_ (a0 : aa_) (a1 : Int) (r : (Int × aa_)) (h : ck_ a0 a1 = some r) (wp0_1 : Nat) (p0_1 : T) (wp0_2 : Nat) (p0_2 : T) : RawS Try.prog md ext 21 [.agg [i4 a0.Id, i4 a0.Kind, .str a0.Name, i4 a0.Low, p0_1, p0_2, i4 a0.Default.Kind, i4 a0.Default.Num, .str a0.Default.Text, i4 a0.Default.Ref], i4 a1] 0 (fun hs => E_i64 r.1) [.own true wp0_1 p0_1 a0.Keys.t, .own true wp0_2 p0_2 a0.Vals.t] (fun hs => [.own true wp0_1 p0_1 r.2.Keys.t, .own true wp0_2 p0_2 r.2.Vals.t]) := by
 unfold ck_ at h
 refine jj_ rfl rfl ok_21 rfl ?_
 intro σ0 σ F σk s hS hH
 have hp0_1 : aT_ p0_1 := Heap.one hH
 have hp0_2 : aT_ p0_2 := Heap.one (hH.at 1 rfl)
 have hS := am_ (L' := [(0, .agg [i4 a0.Id, i4 a0.Kind, .str a0.Name, i4 a0.Low, p0_1, p0_2, i4 a0.Default.Kind, i4 a0.Default.Num, .str a0.Default.Text, i4 a0.Default.Ref]), (1, i4 a1)]) hS (by kernel_rfl)
 refine ad_ (ab_ ?_)
 refine aX_ (v := .agg [i4 a0.Id, i4 a0.Kind, .str a0.Name, i4 a0.Low, p0_1, p0_2, i4 a0.Default.Kind, i4 a0.Default.Num, .str a0.Default.Text, i4 a0.Default.Ref]) (cs := [i4 a0.Id, i4 a0.Kind, .str a0.Name, i4 a0.Low, p0_1, p0_2, i4 a0.Default.Kind, i4 a0.Default.Num, .str a0.Default.Text, i4 a0.Default.Ref]) rfl hS hH rfl rfl (by simp [hp0_1.1, hp0_1.2, hp0_2.1, hp0_2.2]) ?_; intro b1 σ s hH hS
 refine qs 1 [(1, i4 a1), (2, .ptr b1 0 0 10)] hS ?_; intro s hS
 refine ae_ (sq_n (ad_ (ab_ ?_)))
 refine qs 1 [(1, i4 a1), (2, .ptr b1 0 0 10), (5, .ptr b1 0 4 1)] hS ?_; intro s hS
 refine aj_ (v := p0_1) 0 trivial rfl hS hH rfl rfl (by kernel_rfl) ?_; intro s hS
 refine qs 1 [(2, .ptr b1 0 0 10), (6, p0_1), (7, i4 a1)] hS ?_; intro s hS
 have hH : Heap σ0 σ [.own true wp0_1 p0_1 a0.Keys.t, .box b1 [i4 a0.Id, i4 a0.Kind, .str a0.Name, i4 a0.Low, p0_1, p0_2, i4 a0.Default.Kind, i4 a0.Default.Num, .str a0.Default.Text, i4 a0.Default.Ref], .own true wp0_2 p0_2 a0.Vals.t, .keep F σk] := hH.sel [1, 0, 2, 3] rfl (by kernel_rfl)
 obtain ⟨y1, hy1, h⟩ := bind_some h
 refine gk_ (a := []) (b := []) (xs := [p0_1, i4 a1]) (ents := [.own true wp0_1 p0_1 a0.Keys.t]) rfl hS rfl rfl hH (ce_ a0.Keys a1 y1 hy1 wp0_1 p0_1) ?_; intro hs σ s hl hH hS
 have hH : Heap σ0 σ [.own true wp0_1 p0_1 y1.2.t, .box b1 [i4 a0.Id, i4 a0.Kind, .str a0.Name, i4 a0.Low, p0_1, p0_2, i4 a0.Default.Kind, i4 a0.Default.Num, .str a0.Default.Text, i4 a0.Default.Ref], .own true wp0_2 p0_2 a0.Vals.t, .keep F σk] := hH
 refine qs 1 [(1, i4 y1.1), (2, .ptr b1 0 0 10)] hS ?_; intro s hS
 refine ae_ (sq_n (ad_ (ab_ ?_)))
 refine qs 1 [(1, i4 y1.1), (9, .ptr b1 0 5 1)] hS ?_; intro s hS
 refine aj_ (v := p0_2) 1 trivial rfl hS hH rfl rfl (by kernel_rfl) ?_; intro s hS
 refine qs 1 [(10, p0_2), (11, i4 y1.1)] hS ?_; intro s hS
 have hH : Heap σ0 σ [.own true wp0_2 p0_2 a0.Vals.t, .own true wp0_1 p0_1 y1.2.t, .box b1 [i4 a0.Id, i4 a0.Kind, .str a0.Name, i4 a0.Low, p0_1, p0_2, i4 a0.Default.Kind, i4 a0.Default.Num, .str a0.Default.Text, i4 a0.Default.Ref], .keep F σk] := hH.sel [2, 0, 1, 3] rfl (by kernel_rfl)
 obtain ⟨y2, hy2, h⟩ := bind_some h
 refine gk_ (a := []) (b := []) (xs := [p0_2, i4 y1.1]) (ents := [.own true wp0_2 p0_2 a0.Vals.t]) rfl hS rfl rfl hH (ce_ a0.Vals y1.1 y2 hy2 wp0_2 p0_2) ?_; intro hs σ s hl hH hS
 have hH : Heap σ0 σ [.own true wp0_2 p0_2 y2.2.t, .own true wp0_1 p0_1 y1.2.t, .box b1 [i4 a0.Id, i4 a0.Kind, .str a0.Name, i4 a0.Low, p0_1, p0_2, i4 a0.Default.Kind, i4 a0.Default.Num, .str a0.Default.Text, i4 a0.Default.Ref], .keep F σk] := hH
 refine qs 1 [(1, i4 y2.1)] hS ?_; intro s hS
 refine ae_ (sq_n (ad_ (ab_ ?_)))
 refine qs 2 [(4, i4 y2.1)] hS ?_; intro s hS
 refine ae_ (sq_n (ao_ ?_))
 injection h with h; subst h
 exact oi_ [] (an_ (v := i4 y2.1) hS rfl r_nil) rfl rfl (Heap.sel hH [1, 0, 3] rfl (by kernel_rfl))
noncomputable def dk_ (a0 : aa_) (a1 : Int) : Option Int := ((aY_ a0.Keys a1).bind fun y1 => (if (decide (y1 < 0)) = true then (some (-1)) else ((aY_ a0.Vals y1).bind fun y2 => (if (decide (y2 < 0)) = true then (some (-1)) else (some y2)))))
theorem ht_ (a0 : aa_) (a1 : Int) (r : Int) (h : dk_ a0 a1 = some r) : eN_ a0 a1 = some r := by
 unfold dk_ at h
 refine ax_ E_i64_inj rfl rfl ok_22 rfl (all_cons (by kernel_rfl) (all_cons (by kernel_rfl) all_nil)) ?_
 intro σ0 s hS hH
 have hS := am_ (L' := [(0, .agg (aa_.cells a0)), (1, i4 a1)]) hS (by kernel_rfl)
 refine ad_ (ab_ ?_)
 refine aX_ (v := .agg (aa_.cells a0)) (cs := [i4 a0.Id, i4 a0.Kind, .str a0.Name, i4 a0.Low, a0.Keys.t, a0.Vals.t, i4 a0.Default.Kind, i4 a0.Default.Num, .str a0.Default.Text, i4 a0.Default.Ref]) rfl hS hH rfl rfl (by kernel_rfl) ?_; intro b1 σ s hH hS
 refine qs 1 [(1, i4 a1), (2, .ptr b1 0 0 10)] hS ?_; intro s hS
 refine ae_ (sq_n (ad_ (ab_ ?_)))
 refine qs 1 [(1, i4 a1), (2, .ptr b1 0 0 10), (5, .ptr b1 0 4 1)] hS ?_; intro s hS
 refine aj_ (v := a0.Keys.t) 0 trivial rfl hS hH rfl rfl (by kernel_rfl) ?_; intro s hS
 refine qs 1 [(2, .ptr b1 0 0 10), (6, a0.Keys.t), (7, i4 a1)] hS ?_; intro s hS
 obtain ⟨y1, hy1, h⟩ := bind_some h
 refine as_ (a := []) (b := []) (xs := [a0.Keys.t, i4 a1]) rfl hS rfl rfl hy1 ?_; intro s hS
 refine qs 1 [(1, i4 y1), (2, .ptr b1 0 0 10)] hS ?_; intro s hS
 refine ae_ (sq_n (ad_ (ad_ (ab_ ?_))))
 refine qs 2 [(1, i4 y1), (2, .ptr b1 0 0 10), (10, .bool (decide (y1 < 0)))] hS ?_; intro s hS
 refine ae_ (sq_n ?_)
 by_cases hc1 : (decide (y1 < 0)) = true
 ·have h := ak_ hc1 h
  refine af_ hS rfl (fun _ => ?_) (fun hf => ah_ hc1 hf)
  refine ad_ (ab_ ?_)
  refine qs 1 [(4, i4 (-1))] hS ?_; intro s hS
  refine ae_ (sq_n (ao_ (sq_r ?_)))
  injection h with h; subst h
  exact aq_ hH (an_ (v := i4 (-1)) hS rfl r_nil) rfl (by kernel_rfl) (by simp [pureT, pureL, E_i64])
 ·have h := al_ hc1 h
  refine af_ hS rfl (fun hf => ag_ hc1 hf) (fun _ => ?_)
  refine ar_ (sq_n (ad_ (ab_ ?_)))
  refine qs 1 [(1, i4 y1), (11, .ptr b1 0 5 1)] hS ?_; intro s hS
  refine aj_ (v := a0.Vals.t) 0 trivial rfl hS hH rfl rfl (by kernel_rfl) ?_; intro s hS
  refine qs 1 [(12, a0.Vals.t), (13, i4 y1)] hS ?_; intro s hS
  obtain ⟨y2, hy2, h⟩ := bind_some h
  refine as_ (a := []) (b := []) (xs := [a0.Vals.t, i4 y1]) rfl hS rfl rfl hy2 ?_; intro s hS
  refine qs 1 [(1, i4 y2)] hS ?_; intro s hS
  refine ae_ (sq_n (ad_ (ad_ (ab_ ?_))))
  refine qs 2 [(1, i4 y2), (16, .bool (decide (y2 < 0)))] hS ?_; intro s hS
  refine ae_ (sq_n ?_)
  by_cases hc2 : (decide (y2 < 0)) = true
  ·have h := ak_ hc2 h
   refine af_ hS rfl (fun _ => ?_) (fun hf => ah_ hc2 hf)
   refine ad_ (ab_ ?_)
   refine qs 1 [(4, i4 (-1))] hS ?_; intro s hS
   refine ae_ (sq_n (ao_ (sq_r ?_)))
   injection h with h; subst h
   exact aq_ hH (an_ (v := i4 (-1)) hS rfl r_nil) rfl (by kernel_rfl) (by simp [pureT, pureL, E_i64])
  ·have h := al_ hc2 h
   refine af_ hS rfl (fun hf => ag_ hc2 hf) (fun _ => ?_)
   refine ar_ (sq_n (ad_ (ab_ ?_)))
   refine qs 2 [(4, i4 y2)] hS ?_; intro s hS
   refine ae_ (sq_n (ao_ ?_))
   injection h with h; subst h
   exact aq_ hH (an_ (v := i4 y2) hS rfl r_nil) rfl (by kernel_rfl) (by simp [pureT, pureL, E_i64])
noncomputable def d7_ (a0 : aa_) (a1 : Int) : Option Int := (if (decide ((w4 (a1 - (a0.Name.size : Int))) < 0)) = true then (some (-1)) else ((cY_ a0.Keys (w4 (a1 - (a0.Name.size : Int)))).bind fun y1 => (if (decide (y1 < 0)) = true then (some (-1)) else ((cY_ a0.Vals y1).bind fun y2 => (if (decide (y2 < 0)) = true then (some (-1)) else ((b0_ a0.Default y2).bind fun y3 => (if (decide (y3 < 0)) = true then (some (-1)) else (some y3))))))))
theorem ia_ (a0 : aa_) (a1 : Int) (r : Int) (h : d7_ a0 a1 = some r) : ef_ a0 a1 = some r := by
 unfold d7_ at h
 refine ax_ E_i64_inj rfl rfl ok_23 rfl (all_cons (by kernel_rfl) (all_cons (by kernel_rfl) all_nil)) ?_
 intro σ0 s hS hH
 have hS := am_ (L' := [(0, .agg (aa_.cells a0)), (1, i4 a1)]) hS (by kernel_rfl)
 refine ad_ (ab_ ?_)
 refine aX_ (v := .agg (aa_.cells a0)) (cs := [i4 a0.Id, i4 a0.Kind, .str a0.Name, i4 a0.Low, a0.Keys.t, a0.Vals.t, i4 a0.Default.Kind, i4 a0.Default.Num, .str a0.Default.Text, i4 a0.Default.Ref]) rfl hS hH rfl rfl (by kernel_rfl) ?_; intro b1 σ s hH hS
 refine qs 1 [(1, i4 a1), (2, .ptr b1 0 0 10)] hS ?_; intro s hS
 refine ae_ (sq_n (ad_ (ab_ ?_)))
 refine qs 2 [(2, .ptr b1 0 0 10), (5, i4 a1), (6, .ptr b1 0 2 1)] hS ?_; intro s hS
 refine aj_ (v := .str a0.Name) 0 trivial rfl hS hH rfl rfl (by kernel_rfl) ?_; intro s hS
 refine qs 3 [(1, i4 (w4 (a1 - (a0.Name.size : Int)))), (2, .ptr b1 0 0 10)] hS ?_; intro s hS
 refine ae_ (sq_n (ad_ (ad_ (ab_ ?_))))
 refine qs 2 [(1, i4 (w4 (a1 - (a0.Name.size : Int)))), (2, .ptr b1 0 0 10), (11, .bool (decide ((w4 (a1 - (a0.Name.size : Int))) < 0)))] hS ?_; intro s hS
 refine ae_ (sq_n ?_)
 by_cases hc1 : (decide ((w4 (a1 - (a0.Name.size : Int))) < 0)) = true
 ·have h := ak_ hc1 h
  refine af_ hS rfl (fun _ => ?_) (fun hf => ah_ hc1 hf)
  refine ad_ (ab_ ?_)
  refine qs 1 [(4, i4 (-1))] hS ?_; intro s hS
  refine ae_ (sq_n (ao_ (sq_r ?_)))
  injection h with h; subst h
  exact aq_ hH (an_ (v := i4 (-1)) hS rfl r_nil) rfl (by kernel_rfl) (by simp [pureT, pureL, E_i64])
 ·have h := al_ hc1 h
  refine af_ hS rfl (fun hf => ag_ hc1 hf) (fun _ => ?_)
  refine ar_ (sq_n (ad_ (ab_ ?_)))
  refine qs 1 [(1, i4 (w4 (a1 - (a0.Name.size : Int)))), (2, .ptr b1 0 0 10), (12, .ptr b1 0 4 1)] hS ?_; intro s hS
  refine aj_ (v := a0.Keys.t) 0 trivial rfl hS hH rfl rfl (by kernel_rfl) ?_; intro s hS
  refine qs 1 [(2, .ptr b1 0 0 10), (13, a0.Keys.t), (14, i4 (w4 (a1 - (a0.Name.size : Int))))] hS ?_; intro s hS
  obtain ⟨y1, hy1, h⟩ := bind_some h
  refine as_ (a := []) (b := []) (xs := [a0.Keys.t, i4 (w4 (a1 - (a0.Name.size : Int)))]) rfl hS rfl rfl hy1 ?_; intro s hS
  refine qs 1 [(1, i4 y1), (2, .ptr b1 0 0 10)] hS ?_; intro s hS
  refine ae_ (sq_n (ad_ (ad_ (ab_ ?_))))
  refine qs 2 [(1, i4 y1), (2, .ptr b1 0 0 10), (17, .bool (decide (y1 < 0)))] hS ?_; intro s hS
  refine ae_ (sq_n ?_)
  by_cases hc2 : (decide (y1 < 0)) = true
  ·have h := ak_ hc2 h
   refine af_ hS rfl (fun _ => ?_) (fun hf => ah_ hc2 hf)
   refine ad_ (ab_ ?_)
   refine qs 1 [(4, i4 (-1))] hS ?_; intro s hS
   refine ae_ (sq_n (ao_ (sq_r ?_)))
   injection h with h; subst h
   exact aq_ hH (an_ (v := i4 (-1)) hS rfl r_nil) rfl (by kernel_rfl) (by simp [pureT, pureL, E_i64])
  ·have h := al_ hc2 h
   refine af_ hS rfl (fun hf => ag_ hc2 hf) (fun _ => ?_)
   refine ar_ (sq_n (ad_ (ab_ ?_)))
   refine qs 1 [(1, i4 y1), (2, .ptr b1 0 0 10), (18, .ptr b1 0 5 1)] hS ?_; intro s hS
   refine aj_ (v := a0.Vals.t) 0 trivial rfl hS hH rfl rfl (by kernel_rfl) ?_; intro s hS
   refine qs 1 [(2, .ptr b1 0 0 10), (19, a0.Vals.t), (20, i4 y1)] hS ?_; intro s hS
   obtain ⟨y2, hy2, h⟩ := bind_some h
   refine as_ (a := []) (b := []) (xs := [a0.Vals.t, i4 y1]) rfl hS rfl rfl hy2 ?_; intro s hS
   refine qs 1 [(1, i4 y2), (2, .ptr b1 0 0 10)] hS ?_; intro s hS
   refine ae_ (sq_n (ad_ (ad_ (ab_ ?_))))
   refine qs 2 [(1, i4 y2), (2, .ptr b1 0 0 10), (23, .bool (decide (y2 < 0)))] hS ?_; intro s hS
   refine ae_ (sq_n ?_)
   by_cases hc3 : (decide (y2 < 0)) = true
   ·have h := ak_ hc3 h
    refine af_ hS rfl (fun _ => ?_) (fun hf => ah_ hc3 hf)
    refine ad_ (ab_ ?_)
    refine qs 1 [(4, i4 (-1))] hS ?_; intro s hS
    refine ae_ (sq_n (ao_ (sq_r ?_)))
    injection h with h; subst h
    exact aq_ hH (an_ (v := i4 (-1)) hS rfl r_nil) rfl (by kernel_rfl) (by simp [pureT, pureL, E_i64])
   ·have h := al_ hc3 h
    refine af_ hS rfl (fun hf => ag_ hc3 hf) (fun _ => ?_)
    refine ar_ (sq_n (ad_ (ab_ ?_)))
    refine qs 1 [(1, i4 y2), (24, .ptr b1 0 6 4)] hS ?_; intro s hS
    refine aj_ (v := .agg (ac_.cells a0.Default)) 0 trivial rfl hS hH rfl rfl (by kernel_rfl) ?_; intro s hS
    refine qs 1 [(25, .agg (ac_.cells a0.Default)), (26, i4 y2)] hS ?_; intro s hS
    obtain ⟨y3, hy3, h⟩ := bind_some h
    refine as_ (a := []) (b := []) (xs := [.agg (ac_.cells a0.Default), i4 y2]) rfl hS rfl rfl hy3 ?_; intro s hS
    refine qs 1 [(1, i4 y3)] hS ?_; intro s hS
    refine ae_ (sq_n (ad_ (ad_ (ab_ ?_))))
    refine qs 2 [(1, i4 y3), (29, .bool (decide (y3 < 0)))] hS ?_; intro s hS
    refine ae_ (sq_n ?_)
    by_cases hc4 : (decide (y3 < 0)) = true
    ·have h := ak_ hc4 h
     refine af_ hS rfl (fun _ => ?_) (fun hf => ah_ hc4 hf)
     refine ad_ (ab_ ?_)
     refine qs 1 [(4, i4 (-1))] hS ?_; intro s hS
     refine ae_ (sq_n (ao_ (sq_r ?_)))
     injection h with h; subst h
     exact aq_ hH (an_ (v := i4 (-1)) hS rfl r_nil) rfl (by kernel_rfl) (by simp [pureT, pureL, E_i64])
    ·have h := al_ hc4 h
     refine af_ hS rfl (fun hf => ag_ hc4 hf) (fun _ => ?_)
     refine ar_ (sq_n (ad_ (ab_ ?_)))
     refine qs 2 [(4, i4 y3)] hS ?_; intro s hS
     refine ae_ (sq_n (ao_ ?_))
     injection h with h; subst h
     exact aq_ hH (an_ (v := i4 y3) hS rfl r_nil) rfl (by kernel_rfl) (by simp [pureT, pureL, E_i64])
noncomputable def ep_ (a0 : aa_) : Option aa_ := ((cR_ a0.Keys).bind fun y1 => ((cR_ a0.Vals).bind fun y2 => ((a0_ a0.Default).bind fun y3 => (some (⟨a0.Id, a0.Kind, a0.Name, a0.Low, y1, y2, y3⟩ : aa_)))))
theorem ii_ (a0 : aa_) (r : aa_) (h : ep_ a0 = some r) : et_ a0 = some r := by
 unfold ep_ at h
 refine co_ rfl rfl ok_25 rfl (all_cons (by kernel_rfl) all_nil) ?_
 intro σ0 s hS hH
 have hS := am_ (L' := [(0, .agg (aa_.cells a0))]) hS (by kernel_rfl)
 refine ad_ (ab_ ?_)
 refine aX_ (v := .agg (aa_.cells a0)) (cs := [i4 a0.Id, i4 a0.Kind, .str a0.Name, i4 a0.Low, a0.Keys.t, a0.Vals.t, i4 a0.Default.Kind, i4 a0.Default.Num, .str a0.Default.Text, i4 a0.Default.Ref]) rfl hS hH rfl rfl (by kernel_rfl) ?_; intro b1 σ s hH hS
 refine aO_ (z := [i4 0, i4 0, .str ⟨#[]⟩, i4 0, (nt ac_), (nt ac_), i4 0, i4 0, .str ⟨#[]⟩, i4 0]) rfl hS hH (by kernel_rfl) ?_; intro b2 σ s hH hS
 refine ae_ (sq_n (ad_ (ab_ ?_)))
 refine aO_ (z := [i4 0, i4 0, .str ⟨#[]⟩, i4 0, (nt ac_), (nt ac_), i4 0, i4 0, .str ⟨#[]⟩, i4 0]) rfl hS hH (by kernel_rfl) ?_; intro b3 σ s hH hS
 refine ae_ (sq_n (ad_ (ab_ ?_)))
 refine qs 1 [(1, .ptr b1 0 0 10), (2, .ptr b2 0 0 10), (3, .ptr b3 0 0 10), (4, .ptr b1 0 0 1)] hS ?_; intro s hS
 refine aj_ (v := i4 a0.Id) 2 trivial rfl hS hH rfl rfl (by kernel_rfl) ?_; intro s hS
 refine qs 1 [(1, .ptr b1 0 0 10), (2, .ptr b2 0 0 10), (3, .ptr b3 0 0 10), (5, i4 a0.Id), (6, .ptr b3 0 0 1)] hS ?_; intro s hS
 refine aW_ (v := i4 a0.Id) (cs := [i4 a0.Id]) (cells' := [i4 a0.Id, i4 0, .str ⟨#[]⟩, i4 0, (nt ac_), (nt ac_), i4 0, i4 0, .str ⟨#[]⟩, i4 0]) rfl hS hH rfl rfl rfl (by kernel_rfl) (by kernel_rfl) ?_; intro σ s hH hS
 refine ae_ (sq_n (ad_ (ab_ ?_)))
 refine qs 1 [(1, .ptr b1 0 0 10), (2, .ptr b2 0 0 10), (3, .ptr b3 0 0 10), (7, .ptr b1 0 1 1)] hS ?_; intro s hS
 refine aj_ (v := i4 a0.Kind) 2 trivial rfl hS hH rfl rfl (by kernel_rfl) ?_; intro s hS
 refine qs 1 [(1, .ptr b1 0 0 10), (2, .ptr b2 0 0 10), (3, .ptr b3 0 0 10), (8, i4 a0.Kind), (9, .ptr b3 0 1 1)] hS ?_; intro s hS
 refine aW_ (v := i4 a0.Kind) (cs := [i4 a0.Kind]) (cells' := [i4 a0.Id, i4 a0.Kind, .str ⟨#[]⟩, i4 0, (nt ac_), (nt ac_), i4 0, i4 0, .str ⟨#[]⟩, i4 0]) rfl hS hH rfl rfl rfl (by kernel_rfl) (by kernel_rfl) ?_; intro σ s hH hS
 refine ae_ (sq_n (ad_ (ab_ ?_)))
 refine qs 1 [(1, .ptr b1 0 0 10), (2, .ptr b2 0 0 10), (3, .ptr b3 0 0 10), (10, .ptr b1 0 2 1)] hS ?_; intro s hS
 refine aj_ (v := .str a0.Name) 2 trivial rfl hS hH rfl rfl (by kernel_rfl) ?_; intro s hS
 refine qs 1 [(1, .ptr b1 0 0 10), (2, .ptr b2 0 0 10), (3, .ptr b3 0 0 10), (11, .str a0.Name), (12, .ptr b3 0 2 1)] hS ?_; intro s hS
 refine aW_ (v := .str a0.Name) (cs := [.str a0.Name]) (cells' := [i4 a0.Id, i4 a0.Kind, .str a0.Name, i4 0, (nt ac_), (nt ac_), i4 0, i4 0, .str ⟨#[]⟩, i4 0]) rfl hS hH rfl rfl rfl (by kernel_rfl) (by kernel_rfl) ?_; intro σ s hH hS
 refine ae_ (sq_n (ad_ (ab_ ?_)))
 refine qs 1 [(1, .ptr b1 0 0 10), (2, .ptr b2 0 0 10), (3, .ptr b3 0 0 10), (13, .ptr b1 0 3 1)] hS ?_; intro s hS
 refine aj_ (v := i4 a0.Low) 2 trivial rfl hS hH rfl rfl (by kernel_rfl) ?_; intro s hS
 refine qs 1 [(1, .ptr b1 0 0 10), (2, .ptr b2 0 0 10), (3, .ptr b3 0 0 10), (14, i4 a0.Low), (15, .ptr b3 0 3 1)] hS ?_; intro s hS
 refine aW_ (v := i4 a0.Low) (cs := [i4 a0.Low]) (cells' := [i4 a0.Id, i4 a0.Kind, .str a0.Name, i4 a0.Low, (nt ac_), (nt ac_), i4 0, i4 0, .str ⟨#[]⟩, i4 0]) rfl hS hH rfl rfl rfl (by kernel_rfl) (by kernel_rfl) ?_; intro σ s hH hS
 refine ae_ (sq_n (ad_ (ab_ ?_)))
 refine qs 1 [(1, .ptr b1 0 0 10), (2, .ptr b2 0 0 10), (3, .ptr b3 0 0 10), (16, .ptr b1 0 4 1)] hS ?_; intro s hS
 refine aj_ (v := a0.Keys.t) 2 trivial rfl hS hH rfl rfl (by kernel_rfl) ?_; intro s hS
 obtain ⟨y1, hy1, h⟩ := bind_some h
 refine a6_ (ents := []) (z := false) (ts := [a0.Keys.t]) (vs := [a0.Keys.t]) rfl rfl hS rfl rfl rfl hH (HLp HL.nil) hy1 ?_; intro hs σ s hl hH hS
 obtain ⟨t1, rfl⟩ := len1 hl
 have hH : Heap σ0 σ [.own true 4 t1 y1.t, .box b3 [i4 a0.Id, i4 a0.Kind, .str a0.Name, i4 a0.Low, (nt ac_), (nt ac_), i4 0, i4 0, .str ⟨#[]⟩, i4 0], .box b2 [i4 0, i4 0, .str ⟨#[]⟩, i4 0, (nt ac_), (nt ac_), i4 0, i4 0, .str ⟨#[]⟩, i4 0], .box b1 (aa_.cells a0)] := hH
 have ht1 : aT_ t1 := Heap.one hH
 refine qs 1 [(1, .ptr b1 0 0 10), (2, .ptr b2 0 0 10), (3, .ptr b3 0 0 10), (18, t1), (19, .ptr b3 0 4 1)] hS ?_; intro s hS
 have hH : Heap σ0 σ [.box b3 [i4 a0.Id, i4 a0.Kind, .str a0.Name, i4 a0.Low, (nt ac_), (nt ac_), i4 0, i4 0, .str ⟨#[]⟩, i4 0], .own true 4 t1 y1.t, .box b2 [i4 0, i4 0, .str ⟨#[]⟩, i4 0, (nt ac_), (nt ac_), i4 0, i4 0, .str ⟨#[]⟩, i4 0], .box b1 (aa_.cells a0)] := hH.sel [1, 0, 2, 3] rfl (by kernel_rfl)
 refine aW_ (v := t1) (cs := [t1]) (cells' := [i4 a0.Id, i4 a0.Kind, .str a0.Name, i4 a0.Low, t1, (nt ac_), i4 0, i4 0, .str ⟨#[]⟩, i4 0]) rfl hS hH rfl rfl (by simp [ht1.1, ht1.2]) (by simp [ht1.1, ht1.2]) (by kernel_rfl) ?_; intro σ s hH hS
 refine ae_ (sq_n (ad_ (ab_ ?_)))
 refine qs 1 [(1, .ptr b1 0 0 10), (2, .ptr b2 0 0 10), (3, .ptr b3 0 0 10), (20, .ptr b1 0 5 1)] hS ?_; intro s hS
 refine aj_ (v := a0.Vals.t) 3 trivial rfl hS hH rfl rfl (by kernel_rfl) ?_; intro s hS
 obtain ⟨y2, hy2, h⟩ := bind_some h
 refine a6_ (ents := []) (z := false) (ts := [a0.Vals.t]) (vs := [a0.Vals.t]) rfl rfl hS rfl rfl rfl hH (HLp HL.nil) hy2 ?_; intro hs σ s hl hH hS
 obtain ⟨t2, rfl⟩ := len1 hl
 have hH : Heap σ0 σ [.own true 4 t2 y2.t, .box b3 [i4 a0.Id, i4 a0.Kind, .str a0.Name, i4 a0.Low, t1, (nt ac_), i4 0, i4 0, .str ⟨#[]⟩, i4 0], .own true 4 t1 y1.t, .box b2 [i4 0, i4 0, .str ⟨#[]⟩, i4 0, (nt ac_), (nt ac_), i4 0, i4 0, .str ⟨#[]⟩, i4 0], .box b1 (aa_.cells a0)] := hH
 have ht2 : aT_ t2 := Heap.one hH
 refine qs 1 [(1, .ptr b1 0 0 10), (2, .ptr b2 0 0 10), (3, .ptr b3 0 0 10), (22, t2), (23, .ptr b3 0 5 1)] hS ?_; intro s hS
 have hH : Heap σ0 σ [.box b3 [i4 a0.Id, i4 a0.Kind, .str a0.Name, i4 a0.Low, t1, (nt ac_), i4 0, i4 0, .str ⟨#[]⟩, i4 0], .own true 4 t2 y2.t, .own true 4 t1 y1.t, .box b2 [i4 0, i4 0, .str ⟨#[]⟩, i4 0, (nt ac_), (nt ac_), i4 0, i4 0, .str ⟨#[]⟩, i4 0], .box b1 (aa_.cells a0)] := hH.sel [1, 0, 2, 3, 4] rfl (by kernel_rfl)
 refine aW_ (v := t2) (cs := [t2]) (cells' := [i4 a0.Id, i4 a0.Kind, .str a0.Name, i4 a0.Low, t1, t2, i4 0, i4 0, .str ⟨#[]⟩, i4 0]) rfl hS hH rfl rfl (by simp [ht2.1, ht2.2]) (by simp [ht2.1, ht2.2]) (by kernel_rfl) ?_; intro σ s hH hS
 refine ae_ (sq_n (ad_ (ab_ ?_)))
 refine qs 1 [(2, .ptr b2 0 0 10), (3, .ptr b3 0 0 10), (24, .ptr b1 0 6 4)] hS ?_; intro s hS
 refine aj_ (v := .agg (ac_.cells a0.Default)) 4 trivial rfl hS hH rfl rfl (by kernel_rfl) ?_; intro s hS
 obtain ⟨y3, hy3, h⟩ := bind_some h
 refine as_ (a := []) (b := []) (xs := [.agg (ac_.cells a0.Default)]) rfl hS rfl rfl hy3 ?_; intro s hS
 refine qs 1 [(2, .ptr b2 0 0 10), (3, .ptr b3 0 0 10), (26, .agg (ac_.cells y3)), (27, .ptr b3 0 6 4)] hS ?_; intro s hS
 refine aW_ (v := .agg (ac_.cells y3)) (cs := [i4 y3.Kind, i4 y3.Num, .str y3.Text, i4 y3.Ref]) (cells' := [i4 a0.Id, i4 a0.Kind, .str a0.Name, i4 a0.Low, t1, t2, i4 y3.Kind, i4 y3.Num, .str y3.Text, i4 y3.Ref]) rfl hS hH rfl rfl rfl (by kernel_rfl) (by kernel_rfl) ?_; intro σ s hH hS
 refine ae_ (sq_n (ad_ (ab_ ?_)))
 refine aj_ (v := .agg [i4 a0.Id, i4 a0.Kind, .str a0.Name, i4 a0.Low, t1, t2, i4 y3.Kind, i4 y3.Num, .str y3.Text, i4 y3.Ref]) 0 trivial rfl hS hH rfl rfl (by kernel_rfl) ?_; intro s hS
 have hH : Heap σ0 σ [.box b2 [i4 0, i4 0, .str ⟨#[]⟩, i4 0, (nt ac_), (nt ac_), i4 0, i4 0, .str ⟨#[]⟩, i4 0], .box b3 [i4 a0.Id, i4 a0.Kind, .str a0.Name, i4 a0.Low, t1, t2, i4 y3.Kind, i4 y3.Num, .str y3.Text, i4 y3.Ref], .own true 4 t2 y2.t, .own true 4 t1 y1.t, .box b1 (aa_.cells a0)] := hH.sel [3, 0, 1, 2, 4] rfl (by kernel_rfl)
 refine aH_ (cs := [i4 a0.Id, i4 a0.Kind, .str a0.Name, i4 a0.Low, t1, t2, i4 y3.Kind, i4 y3.Num, .str y3.Text, i4 y3.Ref]) rfl hS hH rfl rfl (by simp [ht1.1, ht1.2, ht2.1, ht2.2]) ?_; intro σ s hH hS
 refine ae_ (sq_n (ao_ ?_))
 injection h with h; subst h
 have hH : Heap σ0 σ [.own true 4 t1 y1.t, .own true 4 t2 y2.t, .box b2 [i4 a0.Id, i4 a0.Kind, .str a0.Name, i4 a0.Low, t1, t2, i4 y3.Kind, i4 y3.Num, .str y3.Text, i4 y3.Ref], .box b3 [i4 a0.Id, i4 a0.Kind, .str a0.Name, i4 a0.Low, t1, t2, i4 y3.Kind, i4 y3.Num, .str y3.Text, i4 y3.Ref], .box b1 (aa_.cells a0)] := hH.sel [3, 2, 0, 1, 4] rfl (by kernel_rfl)
 exact bi_ [t1, t2] [.box b2 [i4 a0.Id, i4 a0.Kind, .str a0.Name, i4 a0.Low, t1, t2, i4 y3.Kind, i4 y3.Num, .str y3.Text, i4 y3.Ref], .box b3 [i4 a0.Id, i4 a0.Kind, .str a0.Name, i4 a0.Low, t1, t2, i4 y3.Kind, i4 y3.Num, .str y3.Text, i4 y3.Ref], .box b1 (aa_.cells a0)] (bn_ (v := .agg [i4 a0.Id, i4 a0.Kind, .str a0.Name, i4 a0.Low, t1, t2, i4 y3.Kind, i4 y3.Num, .str y3.Text, i4 y3.Ref]) hS (hH.at 2 rfl) rfl (by kernel_rfl) r_nil) (by kernel_rfl) rfl hH (by kernel_rfl)
noncomputable def eb_ (a0 : ai_) (a1 : Int) : Option Int := ((c8_ a0.Objects a1).bind fun y1 => (if (decide (y1 < 0)) = true then (some (-1)) else (some y1)))
theorem il_ (a0 : ai_) (a1 : Int) (r : Int) (h : eb_ a0 a1 = some r) : c7_ a0 a1 = some r := by
 unfold eb_ at h
 refine ax_ E_i64_inj rfl rfl ok_27 rfl (all_cons (by kernel_rfl) (all_cons (by kernel_rfl) all_nil)) ?_
 intro σ0 s hS hH
 have hS := am_ (L' := [(0, .agg (ai_.cells a0)), (1, i4 a1)]) hS (by kernel_rfl)
 refine ad_ (ab_ ?_)
 refine aX_ (v := .agg (ai_.cells a0)) (cs := [i4 a0.Next, a0.Objects.t]) rfl hS hH rfl rfl (by kernel_rfl) ?_; intro b1 σ s hH hS
 refine qs 1 [(1, i4 a1), (2, .ptr b1 0 0 2)] hS ?_; intro s hS
 refine ae_ (sq_n (ad_ (ab_ ?_)))
 refine qs 1 [(1, i4 a1), (5, .ptr b1 0 1 1)] hS ?_; intro s hS
 refine aj_ (v := a0.Objects.t) 0 trivial rfl hS hH rfl rfl (by kernel_rfl) ?_; intro s hS
 refine qs 1 [(6, a0.Objects.t), (7, i4 a1)] hS ?_; intro s hS
 obtain ⟨y1, hy1, h⟩ := bind_some h
 refine as_ (a := []) (b := []) (xs := [a0.Objects.t, i4 a1]) rfl hS rfl rfl hy1 ?_; intro s hS
 refine qs 1 [(1, i4 y1)] hS ?_; intro s hS
 refine ae_ (sq_n (ad_ (ad_ (ab_ ?_))))
 refine qs 2 [(1, i4 y1), (10, .bool (decide (y1 < 0)))] hS ?_; intro s hS
 refine ae_ (sq_n ?_)
 by_cases hc1 : (decide (y1 < 0)) = true
 ·have h := ak_ hc1 h
  refine af_ hS rfl (fun _ => ?_) (fun hf => ah_ hc1 hf)
  refine ad_ (ab_ ?_)
  refine qs 1 [(4, i4 (-1))] hS ?_; intro s hS
  refine ae_ (sq_n (ao_ (sq_r ?_)))
  injection h with h; subst h
  exact aq_ hH (an_ (v := i4 (-1)) hS rfl r_nil) rfl (by kernel_rfl) (by simp [pureT, pureL, E_i64])
 ·have h := al_ hc1 h
  refine af_ hS rfl (fun hf => ag_ hc1 hf) (fun _ => ?_)
  refine ar_ (sq_n (ad_ (ab_ ?_)))
  refine qs 2 [(4, i4 y1)] hS ?_; intro s hS
  refine ae_ (sq_n (ao_ ?_))
  injection h with h; subst h
  exact aq_ hH (an_ (v := i4 y1) hS rfl r_nil) rfl (by kernel_rfl) (by simp [pureT, pureL, E_i64])
end Go.Am
