/- Functions of the program. -/
import Derived.Test.YtfnjieagnkmceaaAd0
import Derived.Test.YtfnjieagnkmceaaAg0
set_option maxRecDepth 100000
set_option maxHeartbeats 4000000
set_option linter.unusedVariables false
set_option linter.unusedSimpArgs false
namespace Go.Am
open Go.Proofs
noncomputable def bI_ (a0 : aj_) (a1 : ac_) (a2 : ac_) (a3 : ac_) : Option Bool := ((fu_ a0 1048576).bind fun y1 => (if (decide (y1 < 0)) = true then (some true) else ((bB_ a1 y1).bind fun y2 => (if (decide (y2 < 0)) = true then (some true) else ((bB_ a2 y2).bind fun y3 => (if (decide (y3 < 0)) = true then (some true) else ((bB_ a3 y3).bind fun y4 => (if (decide (y4 < 0)) = true then (some true) else ((cj_ a0).bind fun y5 => ((aQ_ a1).bind fun y6 => ((aQ_ a2).bind fun y7 => ((aQ_ a3).bind fun y8 => ((dv_ y5 y6 y7 y8).bind fun y9 => ((cj_ a0).bind fun y10 => ((aQ_ a1).bind fun y11 => ((aQ_ a2).bind fun y12 => ((aQ_ a3).bind fun y13 => ((cr_ y10 y11 y12 y13).bind fun y14 => ((bU_ y14.1 y9.1).bind fun y15 => (if (!y15) = true then (some false) else (if (!(y14.2.1 == y9.2.1)) = true then (some false) else (if (!decide (y14.2.2 = y9.2.2)) = true then (some false) else ((cj_ a0).bind fun y16 => ((bU_ y10 y16).bind fun y17 => (if (!y17) = true then (some false) else ((bJ_ y10 1).bind fun y18 => (if (decide (y18.1 < 0)) = true then (some false) else ((bU_ y14.1 y9.1).bind fun y19 => (if (!y19) = true then (some false) else ((bJ_ y14.1 1).bind fun y20 => ((cX_ (⟨y14.1.Next, y20.2.Objects⟩ : aj_) 1).bind fun y21 => (if (decide (y21 < 0)) = true then (some false) else (if (!decide (y21 = y20.1)) = true then (some false) else ((cj_ a0).bind fun y22 => ((aQ_ a1).bind fun y23 => ((aQ_ a2).bind fun y24 => ((aQ_ a3).bind fun y25 => ((cr_ y22 y23 y24 y25).bind fun y26 => ((bU_ y26.1 y9.1).bind fun y27 => (if (!y27) = true then (some false) else (if (!(y26.2.1 == y9.2.1)) = true then (some false) else (if (!decide (y26.2.2 = y9.2.2)) = true then (some false) else ((cX_ (⟨y14.1.Next, y20.2.Objects⟩ : aj_) 1).bind fun y28 => (if (decide (y28 < 0)) = true then (some false) else (if (!decide (y28 = y20.1)) = true then (some false) else (some true))))))))))))))))))))))))))))))))))))))))))))))
theorem e9_ (a0 : aj_) (a1 : ac_) (a2 : ac_) (a3 : ac_) (r : Bool) (h : bI_ a0 a1 a2 a3 = some r) : cO_ a0 a1 a2 a3 = some r := by
 unfold bI_ at h
 refine ax_ E_bool_inj rfl rfl ok_9 rfl (all_cons (by kernel_rfl) (all_cons (by kernel_rfl) (all_cons (by kernel_rfl) (all_cons (by kernel_rfl) all_nil)))) ?_
 intro σ0 s hS hH
 have hS := am_ (L' := [(0, .agg (aj_.cells a0)), (1, .agg (ac_.cells a1)), (2, .agg (ac_.cells a2)), (3, .agg (ac_.cells a3))]) hS (by kernel_rfl)
 refine ad_ (ab_ ?_)
 refine aT_ (v := .agg (aj_.cells a0)) (cs := [i4 a0.Next, a0.Objects.t]) rfl hS hH rfl rfl (by kernel_rfl) ?_; intro b1 σ s hH hS
 refine aT_ (v := .agg (ac_.cells a1)) (cs := [i4 a1.Kind, i4 a1.Num, .str a1.Text, i4 a1.Ref]) rfl hS hH rfl rfl (by kernel_rfl) ?_; intro b2 σ s hH hS
 refine aT_ (v := .agg (ac_.cells a2)) (cs := [i4 a2.Kind, i4 a2.Num, .str a2.Text, i4 a2.Ref]) rfl hS hH rfl rfl (by kernel_rfl) ?_; intro b3 σ s hH hS
 refine aT_ (v := .agg (ac_.cells a3)) (cs := [i4 a3.Kind, i4 a3.Num, .str a3.Text, i4 a3.Ref]) rfl hS hH rfl rfl (by kernel_rfl) ?_; intro b4 σ s hH hS
 refine qs 1 [(4, .ptr b1 0 0 2), (5, .ptr b2 0 0 4), (6, .ptr b3 0 0 4), (7, .ptr b4 0 0 4)] hS ?_; intro s hS
 refine ae_ (sq_n (ad_ (ab_ ?_)))
 refine qs 1 [(4, .ptr b1 0 0 2), (5, .ptr b2 0 0 4), (6, .ptr b3 0 0 4), (7, .ptr b4 0 0 4), (9, i4 1048576)] hS ?_; intro s hS
 refine ae_ (sq_n (ad_ (ab_ ?_)))
 refine ai_ (v := .agg (aj_.cells a0)) 3 trivial rfl hS hH rfl rfl (by kernel_rfl) ?_; intro s hS
 refine qs 1 [(4, .ptr b1 0 0 2), (5, .ptr b2 0 0 4), (6, .ptr b3 0 0 4), (7, .ptr b4 0 0 4), (23, .agg (aj_.cells a0)), (24, i4 1048576)] hS ?_; intro s hS
 obtain ⟨y1, hy1, h⟩ := bind_some h
 refine ar_ (a := []) (b := []) (xs := [.agg (aj_.cells a0), i4 1048576]) rfl hS rfl rfl hy1 ?_; intro s hS
 refine qs 1 [(4, .ptr b1 0 0 2), (5, .ptr b2 0 0 4), (6, .ptr b3 0 0 4), (7, .ptr b4 0 0 4), (9, i4 y1)] hS ?_; intro s hS
 refine ae_ (sq_n (ad_ (ad_ (ab_ ?_))))
 refine qs 2 [(4, .ptr b1 0 0 2), (5, .ptr b2 0 0 4), (6, .ptr b3 0 0 4), (7, .ptr b4 0 0 4), (9, i4 y1), (27, .bool (decide (y1 < 0)))] hS ?_; intro s hS
 refine ae_ (sq_n ?_)
 by_cases hc1 : (decide (y1 < 0)) = true
 ·have h := ak_ hc1 h
  refine af_ hS rfl (fun _ => ?_) (fun hf => ah_ hc1 hf)
  refine ad_ (ab_ ?_)
  refine qs 1 [(8, .bool true)] hS ?_; intro s hS
  refine ae_ (sq_n (ao_ (sq_r ?_)))
  injection h with h; subst h
  exact aq_ hH (an_ (v := .bool true) hS rfl r_nil) rfl (by kernel_rfl) (by simp [pureT, pureL, E_bool])
 ·have h := al_ hc1 h
  refine af_ hS rfl (fun hf => ag_ hc1 hf) (fun _ => ?_)
  refine as_ (sq_n (ad_ (ab_ ?_)))
  refine ai_ (v := .agg (ac_.cells a1)) 2 trivial rfl hS hH rfl rfl (by kernel_rfl) ?_; intro s hS
  refine qs 1 [(4, .ptr b1 0 0 2), (5, .ptr b2 0 0 4), (6, .ptr b3 0 0 4), (7, .ptr b4 0 0 4), (28, .agg (ac_.cells a1)), (29, i4 y1)] hS ?_; intro s hS
  obtain ⟨y2, hy2, h⟩ := bind_some h
  refine ar_ (a := []) (b := []) (xs := [.agg (ac_.cells a1), i4 y1]) rfl hS rfl rfl hy2 ?_; intro s hS
  refine qs 1 [(4, .ptr b1 0 0 2), (5, .ptr b2 0 0 4), (6, .ptr b3 0 0 4), (7, .ptr b4 0 0 4), (9, i4 y2)] hS ?_; intro s hS
  refine ae_ (sq_n (ad_ (ad_ (ab_ ?_))))
  refine qs 2 [(4, .ptr b1 0 0 2), (5, .ptr b2 0 0 4), (6, .ptr b3 0 0 4), (7, .ptr b4 0 0 4), (9, i4 y2), (32, .bool (decide (y2 < 0)))] hS ?_; intro s hS
  refine ae_ (sq_n ?_)
  by_cases hc2 : (decide (y2 < 0)) = true
  ·have h := ak_ hc2 h
   refine af_ hS rfl (fun _ => ?_) (fun hf => ah_ hc2 hf)
   refine ad_ (ab_ ?_)
   refine qs 1 [(8, .bool true)] hS ?_; intro s hS
   refine ae_ (sq_n (ao_ (sq_r ?_)))
   injection h with h; subst h
   exact aq_ hH (an_ (v := .bool true) hS rfl r_nil) rfl (by kernel_rfl) (by simp [pureT, pureL, E_bool])
  ·have h := al_ hc2 h
   refine af_ hS rfl (fun hf => ag_ hc2 hf) (fun _ => ?_)
   refine as_ (sq_n (ad_ (ab_ ?_)))
   refine ai_ (v := .agg (ac_.cells a2)) 1 trivial rfl hS hH rfl rfl (by kernel_rfl) ?_; intro s hS
   refine qs 1 [(4, .ptr b1 0 0 2), (5, .ptr b2 0 0 4), (6, .ptr b3 0 0 4), (7, .ptr b4 0 0 4), (33, .agg (ac_.cells a2)), (34, i4 y2)] hS ?_; intro s hS
   obtain ⟨y3, hy3, h⟩ := bind_some h
   refine ar_ (a := []) (b := []) (xs := [.agg (ac_.cells a2), i4 y2]) rfl hS rfl rfl hy3 ?_; intro s hS
   refine qs 1 [(4, .ptr b1 0 0 2), (5, .ptr b2 0 0 4), (6, .ptr b3 0 0 4), (7, .ptr b4 0 0 4), (9, i4 y3)] hS ?_; intro s hS
   refine ae_ (sq_n (ad_ (ad_ (ab_ ?_))))
   refine qs 2 [(4, .ptr b1 0 0 2), (5, .ptr b2 0 0 4), (6, .ptr b3 0 0 4), (7, .ptr b4 0 0 4), (9, i4 y3), (37, .bool (decide (y3 < 0)))] hS ?_; intro s hS
   refine ae_ (sq_n ?_)
   by_cases hc3 : (decide (y3 < 0)) = true
   ·have h := ak_ hc3 h
    refine af_ hS rfl (fun _ => ?_) (fun hf => ah_ hc3 hf)
    refine ad_ (ab_ ?_)
    refine qs 1 [(8, .bool true)] hS ?_; intro s hS
    refine ae_ (sq_n (ao_ (sq_r ?_)))
    injection h with h; subst h
    exact aq_ hH (an_ (v := .bool true) hS rfl r_nil) rfl (by kernel_rfl) (by simp [pureT, pureL, E_bool])
   ·have h := al_ hc3 h
    refine af_ hS rfl (fun hf => ag_ hc3 hf) (fun _ => ?_)
    refine as_ (sq_n (ad_ (ab_ ?_)))
    refine ai_ (v := .agg (ac_.cells a3)) 0 trivial rfl hS hH rfl rfl (by kernel_rfl) ?_; intro s hS
    refine qs 1 [(4, .ptr b1 0 0 2), (5, .ptr b2 0 0 4), (6, .ptr b3 0 0 4), (7, .ptr b4 0 0 4), (38, .agg (ac_.cells a3)), (39, i4 y3)] hS ?_; intro s hS
    obtain ⟨y4, hy4, h⟩ := bind_some h
    refine ar_ (a := []) (b := []) (xs := [.agg (ac_.cells a3), i4 y3]) rfl hS rfl rfl hy4 ?_; intro s hS
    refine qs 1 [(4, .ptr b1 0 0 2), (5, .ptr b2 0 0 4), (6, .ptr b3 0 0 4), (7, .ptr b4 0 0 4), (9, i4 y4)] hS ?_; intro s hS
    refine ae_ (sq_n (ad_ (ad_ (ab_ ?_))))
    refine qs 2 [(4, .ptr b1 0 0 2), (5, .ptr b2 0 0 4), (6, .ptr b3 0 0 4), (7, .ptr b4 0 0 4), (42, .bool (decide (y4 < 0)))] hS ?_; intro s hS
    refine ae_ (sq_n ?_)
    by_cases hc4 : (decide (y4 < 0)) = true
    ·have h := ak_ hc4 h
     refine af_ hS rfl (fun _ => ?_) (fun hf => ah_ hc4 hf)
     refine ad_ (ab_ ?_)
     refine qs 1 [(8, .bool true)] hS ?_; intro s hS
     refine ae_ (sq_n (ao_ (sq_r ?_)))
     injection h with h; subst h
     exact aq_ hH (an_ (v := .bool true) hS rfl r_nil) rfl (by kernel_rfl) (by simp [pureT, pureL, E_bool])
    ·have h := al_ hc4 h
     refine af_ hS rfl (fun hf => ag_ hc4 hf) (fun _ => ?_)
     refine as_ (sq_n (ad_ ?_))
     refine b6_ (W2 (fun _ => False) (fun _ => False)) (fun _ => rfl) (by kernel_rfl) (by kernel_rfl) hH ?_; intro mb σs σ hn0 hlt hlto hH
     have hlt_b4 : b4 < mb := hlt b4 _ (List.Mem.head _)
     have hlt_b3 : b3 < mb := hlt b3 _ (List.Mem.tail _ (List.Mem.head _))
     have hlt_b2 : b2 < mb := hlt b2 _ (List.Mem.tail _ (List.Mem.tail _ (List.Mem.head _)))
     refine ai_ (v := .agg (aj_.cells a0)) 3 (Or.inl (by kernel_rfl)) rfl hS hH rfl rfl (by kernel_rfl) ?_; intro s hS
     obtain ⟨y5, hy5, h⟩ := bind_some h
     refine a2_ (ents := []) (z := false) (ts := [.agg (aj_.cells a0)]) (vs := [.agg (aj_.cells a0)]) rfl rfl hS rfl rfl rfl hH (HL.agg (es1 := []) (es2 := []) (HLi (HLp HL.nil)) HL.nil) hy5 ?_; intro hs σ s hl hH hS
     obtain ⟨t1, rfl⟩ := len1 hl
     have hH : Heap σ0 σ [.own true 10 t1 y5.Objects.t, .box b4 (ac_.cells a3), .box b3 (ac_.cells a2), .box b2 (ac_.cells a1), .box b1 (aj_.cells a0)] := hH
     have ht1 : aV_ t1 := Heap.one hH
     refine ai_ (v := .agg (ac_.cells a1)) 3 (Or.inr ⟨hlt_b2, Or.inl (by kernel_rfl)⟩) rfl hS hH rfl rfl (by kernel_rfl) ?_; intro s hS
     obtain ⟨y6, hy6, h⟩ := bind_some h
     refine ar_ (a := []) (b := []) (xs := [.agg (ac_.cells a1)]) rfl hS rfl rfl hy6 ?_; intro s hS
     refine ai_ (v := .agg (ac_.cells a2)) 2 (Or.inr ⟨hlt_b3, Or.inl (by kernel_rfl)⟩) rfl hS hH rfl rfl (by kernel_rfl) ?_; intro s hS
     obtain ⟨y7, hy7, h⟩ := bind_some h
     refine ar_ (a := []) (b := []) (xs := [.agg (ac_.cells a2)]) rfl hS rfl rfl hy7 ?_; intro s hS
     refine ai_ (v := .agg (ac_.cells a3)) 1 (Or.inr ⟨hlt_b4, Or.inl (by kernel_rfl)⟩) rfl hS hH rfl rfl (by kernel_rfl) ?_; intro s hS
     obtain ⟨y8, hy8, h⟩ := bind_some h
     refine ar_ (a := []) (b := []) (xs := [.agg (ac_.cells a3)]) rfl hS rfl rfl hy8 ?_; intro s hS
     obtain ⟨y9, hy9, h⟩ := bind_some h
     refine a2_ (ents := [.own true 10 t1 y5.Objects.t]) (z := false) (ts := [.agg [i4 y5.Next, t1], .agg (ac_.cells y6), .agg (ac_.cells y7), .agg (ac_.cells y8)]) (vs := [.agg (aj_.cells y5), .agg (ac_.cells y6), .agg (ac_.cells y7), .agg (ac_.cells y8)]) rfl rfl hS rfl rfl rfl hH (HL.agg (es1 := [.own true 10 t1 y5.Objects.t]) (es2 := []) (HLi (HL.own rfl HL.nil)) (HL.agg (es1 := []) (es2 := []) (HLi (HLi (HLs (HLi HL.nil)))) (HL.agg (es1 := []) (es2 := []) (HLi (HLi (HLs (HLi HL.nil)))) (HL.agg (es1 := []) (es2 := []) (HLi (HLi (HLs (HLi HL.nil)))) HL.nil)))) hy9 ?_; intro hs σ s hl hH hS
     obtain ⟨t2, rfl⟩ := len1 hl
     have hH : Heap σ0 σ [.own true 10 t2 y9.1.Objects.t, .own true 10 t1 y5.Objects.t, .box b4 (ac_.cells a3), .box b3 (ac_.cells a2), .box b2 (ac_.cells a1), .box b1 (aj_.cells a0)] := hH
     have ht2 : aV_ t2 := Heap.one hH
     refine qs 4 [(4, .ptr b1 0 0 2), (5, .ptr b2 0 0 4), (6, .ptr b3 0 0 4), (7, .ptr b4 0 0 4), (53, .agg [i4 y9.1.Next, t2]), (54, .bool y9.2.1), (55, i4 y9.2.2)] hS ?_; intro s hS
     refine ie_ rfl (by exact hn0) (z := [i4 0, (nt aa_)]) rfl hS hH (by kernel_rfl) ?_; intro b5 σ s hwr_b5 hH hS
     refine bC_ rfl (v := .agg [i4 y9.1.Next, t2]) (cs := [i4 y9.1.Next, t2]) (cells' := [i4 y9.1.Next, t2]) (by exact Or.inl hwr_b5) rfl hS hH rfl rfl rfl (by simp [ht2.1, ht2.2]) (by kernel_rfl) ?_; intro σ s hH hS
     refine qs 2 [(4, .ptr b1 0 0 2), (5, .ptr b2 0 0 4), (6, .ptr b3 0 0 4), (7, .ptr b4 0 0 4), (10, .ptr b5 0 0 2), (11, .bool y9.2.1), (12, i4 y9.2.2)] hS ?_; intro s hS
     refine ae_ (sq_n (ad_ (ab_ ?_)))
     refine ai_ (v := .agg (aj_.cells a0)) 6 trivial rfl hS hH rfl rfl (by kernel_rfl) ?_; intro s hS
     obtain ⟨y10, hy10, h⟩ := bind_some h
     refine a2_ (ents := []) (z := false) (ts := [.agg (aj_.cells a0)]) (vs := [.agg (aj_.cells a0)]) rfl rfl hS rfl rfl rfl hH (HL.agg (es1 := []) (es2 := []) (HLi (HLp HL.nil)) HL.nil) hy10 ?_; intro hs σ s hl hH hS
     obtain ⟨t3, rfl⟩ := len1 hl
     have hH : Heap σ0 σ [.own true 10 t3 y10.Objects.t, .box b5 [i4 y9.1.Next, t2], .own true 10 t2 y9.1.Objects.t, .own true 10 t1 y5.Objects.t, .box b4 (ac_.cells a3), .box b3 (ac_.cells a2), .box b2 (ac_.cells a1), .box b1 (aj_.cells a0)] := hH
     have ht3 : aV_ t3 := Heap.one hH
     refine aO_ (z := [i4 0, (nt aa_)]) rfl hS hH (by kernel_rfl) ?_; intro b6 σ s hH hS
     refine aF_ (cs := [i4 y10.Next, t3]) rfl hS hH rfl rfl (by simp [ht3.1, ht3.2]) ?_; intro σ s hH hS
     refine ae_ (sq_n (ad_ ?_))
     refine b6_ (W2 (fun _ => False) (fun _ => False)) (fun _ => rfl) (by kernel_rfl) (by kernel_rfl) hH ?_; intro mb σs σ hn0 hlt hlto hH
     have hlt_b6 : b6 < mb := hlt b6 _ (List.Mem.head _)
     have hlt_b4 : b4 < mb := hlt b4 _ (List.Mem.tail _ (List.Mem.tail _ (List.Mem.tail _ (List.Mem.tail _ (List.Mem.tail _ (List.Mem.head _))))))
     have hlt_b3 : b3 < mb := hlt b3 _ (List.Mem.tail _ (List.Mem.tail _ (List.Mem.tail _ (List.Mem.tail _ (List.Mem.tail _ (List.Mem.tail _ (List.Mem.head _)))))))
     refine ai_ (v := .agg [i4 y10.Next, t3]) 0 (Or.inr ⟨hlt_b6, Or.inl (by kernel_rfl)⟩) rfl hS hH rfl rfl (by kernel_rfl) ?_; intro s hS
     refine ai_ (v := .agg (ac_.cells a1)) 7 (Or.inl (by kernel_rfl)) rfl hS hH rfl rfl (by kernel_rfl) ?_; intro s hS
     obtain ⟨y11, hy11, h⟩ := bind_some h
     refine ar_ (a := []) (b := []) (xs := [.agg (ac_.cells a1)]) rfl hS rfl rfl hy11 ?_; intro s hS
     refine ai_ (v := .agg (ac_.cells a2)) 6 (Or.inr ⟨hlt_b3, Or.inl (by kernel_rfl)⟩) rfl hS hH rfl rfl (by kernel_rfl) ?_; intro s hS
     obtain ⟨y12, hy12, h⟩ := bind_some h
     refine ar_ (a := []) (b := []) (xs := [.agg (ac_.cells a2)]) rfl hS rfl rfl hy12 ?_; intro s hS
     refine ai_ (v := .agg (ac_.cells a3)) 5 (Or.inr ⟨hlt_b4, Or.inl (by kernel_rfl)⟩) rfl hS hH rfl rfl (by kernel_rfl) ?_; intro s hS
     obtain ⟨y13, hy13, h⟩ := bind_some h
     refine ar_ (a := []) (b := []) (xs := [.agg (ac_.cells a3)]) rfl hS rfl rfl hy13 ?_; intro s hS
     obtain ⟨y14, hy14, h⟩ := bind_some h
     have hH : Heap σ0 σ [.own true 10 t3 y10.Objects.t, .box b6 [i4 y10.Next, t3], .box b5 [i4 y9.1.Next, t2], .own true 10 t2 y9.1.Objects.t, .own true 10 t1 y5.Objects.t, .box b4 (ac_.cells a3), .box b3 (ac_.cells a2), .box b2 (ac_.cells a1), .box b1 (aj_.cells a0)] := hH.sel [1, 0, 2, 3, 4, 5, 6, 7, 8] rfl (by kernel_rfl)
     refine a2_ (ents := [.own true 10 t3 y10.Objects.t]) (z := false) (ts := [.agg [i4 y10.Next, t3], .agg (ac_.cells y11), .agg (ac_.cells y12), .agg (ac_.cells y13)]) (vs := [.agg (aj_.cells y10), .agg (ac_.cells y11), .agg (ac_.cells y12), .agg (ac_.cells y13)]) rfl rfl hS rfl rfl rfl hH (HL.agg (es1 := [.own true 10 t3 y10.Objects.t]) (es2 := []) (HLi (HL.own rfl HL.nil)) (HL.agg (es1 := []) (es2 := []) (HLi (HLi (HLs (HLi HL.nil)))) (HL.agg (es1 := []) (es2 := []) (HLi (HLi (HLs (HLi HL.nil)))) (HL.agg (es1 := []) (es2 := []) (HLi (HLi (HLs (HLi HL.nil)))) HL.nil)))) hy14 ?_; intro hs σ s hl hH hS
     obtain ⟨t4, rfl⟩ := len1 hl
     have hH : Heap σ0 σ [.own true 10 t4 y14.1.Objects.t, .own true 10 t3 y10.Objects.t, .box b6 [i4 y10.Next, t3], .box b5 [i4 y9.1.Next, t2], .own true 10 t2 y9.1.Objects.t, .own true 10 t1 y5.Objects.t, .box b4 (ac_.cells a3), .box b3 (ac_.cells a2), .box b2 (ac_.cells a1), .box b1 (aj_.cells a0)] := hH
     have ht4 : aV_ t4 := Heap.one hH
     refine qs 4 [(4, .ptr b1 0 0 2), (5, .ptr b2 0 0 4), (6, .ptr b3 0 0 4), (7, .ptr b4 0 0 4), (10, .ptr b5 0 0 2), (11, .bool y9.2.1), (12, i4 y9.2.2), (13, .ptr b6 0 0 2), (67, .agg [i4 y14.1.Next, t4]), (68, .bool y14.2.1), (69, i4 y14.2.2)] hS ?_; intro s hS
     refine ie_ rfl (by exact hn0) (z := [i4 0, (nt aa_)]) rfl hS hH (by kernel_rfl) ?_; intro b7 σ s hwr_b7 hH hS
     refine bC_ rfl (v := .agg [i4 y14.1.Next, t4]) (cs := [i4 y14.1.Next, t4]) (cells' := [i4 y14.1.Next, t4]) (by exact Or.inl hwr_b7) rfl hS hH rfl rfl rfl (by simp [ht4.1, ht4.2]) (by kernel_rfl) ?_; intro σ s hH hS
     refine qs 2 [(4, .ptr b1 0 0 2), (5, .ptr b2 0 0 4), (6, .ptr b3 0 0 4), (7, .ptr b4 0 0 4), (10, .ptr b5 0 0 2), (11, .bool y9.2.1), (12, i4 y9.2.2), (13, .ptr b6 0 0 2), (14, .ptr b7 0 0 2), (15, .bool y14.2.1), (16, i4 y14.2.2)] hS ?_; intro s hS
     refine ae_ (sq_n (ad_ (ad_ (ab_ ?_))))
     refine ai_ (v := .agg [i4 y14.1.Next, t4]) 0 trivial rfl hS hH rfl rfl (by kernel_rfl) ?_; intro s hS
     refine ai_ (v := .agg [i4 y9.1.Next, t2]) 4 trivial rfl hS hH rfl rfl (by kernel_rfl) ?_; intro s hS
     obtain ⟨y15, hy15, h⟩ := bind_some h
     have hH : Heap σ0 σ [.own true 10 t4 y14.1.Objects.t, .own true 10 t2 y9.1.Objects.t, .box b7 [i4 y14.1.Next, t4], .own true 10 t3 y10.Objects.t, .box b6 [i4 y10.Next, t3], .box b5 [i4 y9.1.Next, t2], .own true 10 t1 y5.Objects.t, .box b4 (ac_.cells a3), .box b3 (ac_.cells a2), .box b2 (ac_.cells a1), .box b1 (aj_.cells a0)] := hH.sel [1, 5, 0, 2, 3, 4, 6, 7, 8, 9, 10] rfl (by kernel_rfl)
     refine dV_ (ents := [.own true 10 t4 y14.1.Objects.t, .own true 10 t2 y9.1.Objects.t]) (z := false) (ts := [.agg [i4 y14.1.Next, t4], .agg [i4 y9.1.Next, t2]]) (vs := [.agg (aj_.cells y14.1), .agg (aj_.cells y9.1)]) rfl hS rfl rfl rfl hH (HL.agg (es1 := [.own true 10 t4 y14.1.Objects.t]) (es2 := [.own true 10 t2 y9.1.Objects.t]) (HLi (HL.own rfl HL.nil)) (HL.agg (es1 := [.own true 10 t2 y9.1.Objects.t]) (es2 := []) (HLi (HL.own rfl HL.nil)) HL.nil)) hy15 (by kernel_rfl) ?_; intro s hS
     refine qs 2 [(74, .bool (!y15)), (4, .ptr b1 0 0 2), (5, .ptr b2 0 0 4), (6, .ptr b3 0 0 4), (7, .ptr b4 0 0 4), (10, .ptr b5 0 0 2), (11, .bool y9.2.1), (12, i4 y9.2.2), (13, .ptr b6 0 0 2), (14, .ptr b7 0 0 2), (15, .bool y14.2.1), (16, i4 y14.2.2)] hS ?_; intro s hS
     by_cases hc5 : (!y15) = true
     ·have h := ak_ hc5 h
      have hS := ap_ hS hc5
      refine qs 9 [(4, .ptr b1 0 0 2), (5, .ptr b2 0 0 4), (6, .ptr b3 0 0 4), (7, .ptr b4 0 0 4), (10, .ptr b5 0 0 2), (11, .bool y9.2.1), (12, i4 y9.2.2), (13, .ptr b6 0 0 2), (14, .ptr b7 0 0 2), (15, .bool y14.2.1), (16, i4 y14.2.2), (83, .bool true)] hS ?_; intro s hS
      refine ae_ (sq_n ?_)
      refine af_ (t := true) hS rfl (fun _ => ?_) (fun hf => by cases hf)
      refine ad_ (ab_ ?_)
      refine qs 1 [(8, .bool false)] hS ?_; intro s hS
      refine ae_ (sq_n (ao_ (sq_r ?_)))
      injection h with h; subst h
      exact aq_ hH (an_ (v := .bool false) hS rfl r_nil) rfl (by kernel_rfl) (by simp [pureT, pureL, E_bool])
     ·have h := al_ hc5 h
      have hS := ap_ hS (aB_ hc5)
      refine qs 5 [(79, .bool (!(y14.2.1 == y9.2.1))), (4, .ptr b1 0 0 2), (5, .ptr b2 0 0 4), (6, .ptr b3 0 0 4), (7, .ptr b4 0 0 4), (10, .ptr b5 0 0 2), (11, .bool y9.2.1), (12, i4 y9.2.2), (13, .ptr b6 0 0 2), (14, .ptr b7 0 0 2), (15, .bool y14.2.1), (16, i4 y14.2.2)] hS ?_; intro s hS
      by_cases hc6 : (!(y14.2.1 == y9.2.1)) = true
      ·have h := ak_ hc6 h
       have hS := ap_ hS hc6
       refine qs 4 [(4, .ptr b1 0 0 2), (5, .ptr b2 0 0 4), (6, .ptr b3 0 0 4), (7, .ptr b4 0 0 4), (10, .ptr b5 0 0 2), (11, .bool y9.2.1), (12, i4 y9.2.2), (13, .ptr b6 0 0 2), (14, .ptr b7 0 0 2), (15, .bool y14.2.1), (16, i4 y14.2.2), (83, .bool true)] hS ?_; intro s hS
       refine ae_ (sq_n ?_)
       refine af_ (t := true) hS rfl (fun _ => ?_) (fun hf => by cases hf)
       refine ad_ (ab_ ?_)
       refine qs 1 [(8, .bool false)] hS ?_; intro s hS
       refine ae_ (sq_n (ao_ (sq_r ?_)))
       injection h with h; subst h
       exact aq_ hH (an_ (v := .bool false) hS rfl r_nil) rfl (by kernel_rfl) (by simp [pureT, pureL, E_bool])
      ·have h := al_ hc6 h
       have hS := ap_ hS (aB_ hc6)
       refine qs 4 [(4, .ptr b1 0 0 2), (5, .ptr b2 0 0 4), (6, .ptr b3 0 0 4), (7, .ptr b4 0 0 4), (10, .ptr b5 0 0 2), (11, .bool y9.2.1), (12, i4 y9.2.2), (13, .ptr b6 0 0 2), (14, .ptr b7 0 0 2), (15, .bool y14.2.1), (16, i4 y14.2.2), (83, .bool (!decide (y14.2.2 = y9.2.2)))] hS ?_; intro s hS
       refine ae_ (sq_n ?_)
       by_cases hc7 : (!decide (y14.2.2 = y9.2.2)) = true
       ·have h := ak_ hc7 h
        refine af_ hS rfl (fun _ => ?_) (fun hf => ah_ hc7 hf)
        refine ad_ (ab_ ?_)
        refine qs 1 [(8, .bool false)] hS ?_; intro s hS
        refine ae_ (sq_n (ao_ (sq_r ?_)))
        injection h with h; subst h
        exact aq_ hH (an_ (v := .bool false) hS rfl r_nil) rfl (by kernel_rfl) (by simp [pureT, pureL, E_bool])
       ·have h := al_ hc7 h
        refine af_ hS rfl (fun hf => ag_ hc7 hf) (fun _ => ?_)
        refine as_ (sq_n (ad_ (ad_ ?_)))
        refine b6_ (W2 (fun _ => False) (fun _ => False)) (fun _ => rfl) (by kernel_rfl) (by kernel_rfl) hH ?_; intro mb σs σ hn0 hlt hlto hH
        have hlt_b6 : b6 < mb := hlt b6 _ (List.Mem.tail _ (List.Mem.tail _ (List.Mem.tail _ (List.Mem.tail _ (List.Mem.head _)))))
        refine ai_ (v := .agg [i4 y10.Next, t3]) 4 (Or.inr ⟨hlt_b6, Or.inl (by kernel_rfl)⟩) rfl hS hH rfl rfl (by kernel_rfl) ?_; intro s hS
        refine ai_ (v := .agg (aj_.cells a0)) 10 (Or.inl (by kernel_rfl)) rfl hS hH rfl rfl (by kernel_rfl) ?_; intro s hS
        obtain ⟨y16, hy16, h⟩ := bind_some h
        refine a2_ (ents := []) (z := false) (ts := [.agg (aj_.cells a0)]) (vs := [.agg (aj_.cells a0)]) rfl rfl hS rfl rfl rfl hH (HL.agg (es1 := []) (es2 := []) (HLi (HLp HL.nil)) HL.nil) hy16 ?_; intro hs σ s hl hH hS
        obtain ⟨t5, rfl⟩ := len1 hl
        have hH : Heap σ0 σ [.own true 10 t5 y16.Objects.t, .own true 10 t4 y14.1.Objects.t, .own true 10 t2 y9.1.Objects.t, .box b7 [i4 y14.1.Next, t4], .own true 10 t3 y10.Objects.t, .box b6 [i4 y10.Next, t3], .box b5 [i4 y9.1.Next, t2], .own true 10 t1 y5.Objects.t, .box b4 (ac_.cells a3), .box b3 (ac_.cells a2), .box b2 (ac_.cells a1), .box b1 (aj_.cells a0)] := hH
        have ht5 : aV_ t5 := Heap.one hH
        obtain ⟨y17, hy17, h⟩ := bind_some h
        have hH : Heap σ0 σ [.own true 10 t3 y10.Objects.t, .own true 10 t5 y16.Objects.t, .own true 10 t4 y14.1.Objects.t, .own true 10 t2 y9.1.Objects.t, .box b7 [i4 y14.1.Next, t4], .box b6 [i4 y10.Next, t3], .box b5 [i4 y9.1.Next, t2], .own true 10 t1 y5.Objects.t, .box b4 (ac_.cells a3), .box b3 (ac_.cells a2), .box b2 (ac_.cells a1), .box b1 (aj_.cells a0)] := hH.sel [4, 0, 1, 2, 3, 5, 6, 7, 8, 9, 10, 11] rfl (by kernel_rfl)
        refine dV_ (ents := [.own true 10 t3 y10.Objects.t, .own true 10 t5 y16.Objects.t]) (z := false) (ts := [.agg [i4 y10.Next, t3], .agg [i4 y16.Next, t5]]) (vs := [.agg (aj_.cells y10), .agg (aj_.cells y16)]) rfl hS rfl rfl rfl hH (HL.agg (es1 := [.own true 10 t3 y10.Objects.t]) (es2 := [.own true 10 t5 y16.Objects.t]) (HLi (HL.own rfl HL.nil)) (HL.agg (es1 := [.own true 10 t5 y16.Objects.t]) (es2 := []) (HLi (HL.own rfl HL.nil)) HL.nil)) hy17 (by kernel_rfl) ?_; intro s hS
        refine qs 1 [(4, .ptr b1 0 0 2), (5, .ptr b2 0 0 4), (6, .ptr b3 0 0 4), (7, .ptr b4 0 0 4), (10, .ptr b5 0 0 2), (11, .bool y9.2.1), (12, i4 y9.2.2), (13, .ptr b6 0 0 2), (14, .ptr b7 0 0 2), (15, .bool y14.2.1), (16, i4 y14.2.2), (88, .bool (!y17))] hS ?_; intro s hS
        refine ae_ (sq_n ?_)
        by_cases hc8 : (!y17) = true
        ·have h := ak_ hc8 h
         refine af_ hS rfl (fun _ => ?_) (fun hf => ah_ hc8 hf)
         refine ad_ (ab_ ?_)
         refine qs 1 [(8, .bool false)] hS ?_; intro s hS
         refine ae_ (sq_n (ao_ (sq_r ?_)))
         injection h with h; subst h
         exact aq_ hH (an_ (v := .bool false) hS rfl r_nil) rfl (by kernel_rfl) (by simp [pureT, pureL, E_bool])
        ·have h := al_ hc8 h
         refine af_ hS rfl (fun hf => ag_ hc8 hf) (fun _ => ?_)
         refine as_ (sq_n (ad_ (ab_ ?_)))
         refine qs 1 [(4, .ptr b1 0 0 2), (5, .ptr b2 0 0 4), (6, .ptr b3 0 0 4), (7, .ptr b4 0 0 4), (10, .ptr b5 0 0 2), (11, .bool y9.2.1), (12, i4 y9.2.2), (13, .ptr b6 0 0 2), (14, .ptr b7 0 0 2), (15, .bool y14.2.1), (16, i4 y14.2.2), (17, i4 1)] hS ?_; intro s hS
         refine ae_ (sq_n (ad_ (ab_ ?_)))
         refine ai_ (v := .agg [i4 y10.Next, t3]) 5 trivial rfl hS hH rfl rfl (by kernel_rfl) ?_; intro s hS
         refine qs 1 [(4, .ptr b1 0 0 2), (5, .ptr b2 0 0 4), (6, .ptr b3 0 0 4), (7, .ptr b4 0 0 4), (10, .ptr b5 0 0 2), (11, .bool y9.2.1), (12, i4 y9.2.2), (14, .ptr b7 0 0 2), (15, .bool y14.2.1), (16, i4 y14.2.2), (89, .agg [i4 y10.Next, t3]), (90, i4 1)] hS ?_; intro s hS
         obtain ⟨y18, hy18, h⟩ := bind_some h
         refine go_ (a := []) (b := []) (xs := [.agg [i4 y10.Next, t3], i4 1]) (ents := [.own true 10 t3 y10.Objects.t]) rfl hS rfl rfl hH (gc_ y10 1 y18 hy18 10 t3) ?_; intro hs σ s hl hH hS
         have hH : Heap σ0 σ [.own true 10 t3 y18.2.Objects.t, .own true 10 t5 y16.Objects.t, .own true 10 t4 y14.1.Objects.t, .own true 10 t2 y9.1.Objects.t, .box b7 [i4 y14.1.Next, t4], .box b6 [i4 y10.Next, t3], .box b5 [i4 y9.1.Next, t2], .own true 10 t1 y5.Objects.t, .box b4 (ac_.cells a3), .box b3 (ac_.cells a2), .box b2 (ac_.cells a1), .box b1 (aj_.cells a0)] := hH
         refine qs 1 [(4, .ptr b1 0 0 2), (5, .ptr b2 0 0 4), (6, .ptr b3 0 0 4), (7, .ptr b4 0 0 4), (10, .ptr b5 0 0 2), (11, .bool y9.2.1), (12, i4 y9.2.2), (14, .ptr b7 0 0 2), (15, .bool y14.2.1), (16, i4 y14.2.2), (17, i4 y18.1)] hS ?_; intro s hS
         refine ae_ (sq_n (ad_ (ad_ (ab_ ?_))))
         refine qs 3 [(94, .bool (decide (y18.1 < 0))), (4, .ptr b1 0 0 2), (5, .ptr b2 0 0 4), (6, .ptr b3 0 0 4), (7, .ptr b4 0 0 4), (10, .ptr b5 0 0 2), (11, .bool y9.2.1), (12, i4 y9.2.2), (14, .ptr b7 0 0 2), (15, .bool y14.2.1), (16, i4 y14.2.2)] hS ?_; intro s hS
         by_cases hc9 : (decide (y18.1 < 0)) = true
         ·have h := ak_ hc9 h
          have hS := ap_ hS hc9
          refine qs 15 [(4, .ptr b1 0 0 2), (5, .ptr b2 0 0 4), (6, .ptr b3 0 0 4), (7, .ptr b4 0 0 4), (10, .ptr b5 0 0 2), (11, .bool y9.2.1), (12, i4 y9.2.2), (14, .ptr b7 0 0 2), (109, .bool true)] hS ?_; intro s hS
          refine ae_ (sq_n ?_)
          refine af_ (t := true) hS rfl (fun _ => ?_) (fun hf => by cases hf)
          refine ad_ (ab_ ?_)
          refine qs 1 [(8, .bool false)] hS ?_; intro s hS
          refine ae_ (sq_n (ao_ (sq_r ?_)))
          injection h with h; subst h
          exact aq_ hH (an_ (v := .bool false) hS rfl r_nil) rfl (by kernel_rfl) (by simp [pureT, pureL, E_bool])
         ·have h := al_ hc9 h
          have hS := ap_ hS (aB_ hc9)
          refine ai_ (v := .agg [i4 y14.1.Next, t4]) 4 trivial rfl hS hH rfl rfl (by kernel_rfl) ?_; intro s hS
          refine ai_ (v := .agg [i4 y9.1.Next, t2]) 6 trivial rfl hS hH rfl rfl (by kernel_rfl) ?_; intro s hS
          obtain ⟨y19, hy19, h⟩ := bind_some h
          have hH : Heap σ0 σ [.own true 10 t4 y14.1.Objects.t, .own true 10 t2 y9.1.Objects.t, .own true 10 t3 y18.2.Objects.t, .own true 10 t5 y16.Objects.t, .box b7 [i4 y14.1.Next, t4], .box b6 [i4 y10.Next, t3], .box b5 [i4 y9.1.Next, t2], .own true 10 t1 y5.Objects.t, .box b4 (ac_.cells a3), .box b3 (ac_.cells a2), .box b2 (ac_.cells a1), .box b1 (aj_.cells a0)] := hH.sel [2, 3, 0, 1, 4, 5, 6, 7, 8, 9, 10, 11] rfl (by kernel_rfl)
          refine dV_ (ents := [.own true 10 t4 y14.1.Objects.t, .own true 10 t2 y9.1.Objects.t]) (z := false) (ts := [.agg [i4 y14.1.Next, t4], .agg [i4 y9.1.Next, t2]]) (vs := [.agg (aj_.cells y14.1), .agg (aj_.cells y9.1)]) rfl hS rfl rfl rfl hH (HL.agg (es1 := [.own true 10 t4 y14.1.Objects.t]) (es2 := [.own true 10 t2 y9.1.Objects.t]) (HLi (HL.own rfl HL.nil)) (HL.agg (es1 := [.own true 10 t2 y9.1.Objects.t]) (es2 := []) (HLi (HL.own rfl HL.nil)) HL.nil)) hy19 (by kernel_rfl) ?_; intro s hS
          refine qs 3 [(100, .bool (!y19)), (4, .ptr b1 0 0 2), (5, .ptr b2 0 0 4), (6, .ptr b3 0 0 4), (7, .ptr b4 0 0 4), (10, .ptr b5 0 0 2), (11, .bool y9.2.1), (12, i4 y9.2.2), (14, .ptr b7 0 0 2), (15, .bool y14.2.1), (16, i4 y14.2.2)] hS ?_; intro s hS
          by_cases hc10 : (!y19) = true
          ·have h := ak_ hc10 h
           have hS := ap_ hS hc10
           refine qs 9 [(4, .ptr b1 0 0 2), (5, .ptr b2 0 0 4), (6, .ptr b3 0 0 4), (7, .ptr b4 0 0 4), (10, .ptr b5 0 0 2), (11, .bool y9.2.1), (12, i4 y9.2.2), (14, .ptr b7 0 0 2), (109, .bool true)] hS ?_; intro s hS
           refine ae_ (sq_n ?_)
           refine af_ (t := true) hS rfl (fun _ => ?_) (fun hf => by cases hf)
           refine ad_ (ab_ ?_)
           refine qs 1 [(8, .bool false)] hS ?_; intro s hS
           refine ae_ (sq_n (ao_ (sq_r ?_)))
           injection h with h; subst h
           exact aq_ hH (an_ (v := .bool false) hS rfl r_nil) rfl (by kernel_rfl) (by simp [pureT, pureL, E_bool])
          ·have h := al_ hc10 h
           have hS := ap_ hS (aB_ hc10)
           refine qs 5 [(105, .bool (!(y14.2.1 == y9.2.1))), (4, .ptr b1 0 0 2), (5, .ptr b2 0 0 4), (6, .ptr b3 0 0 4), (7, .ptr b4 0 0 4), (10, .ptr b5 0 0 2), (11, .bool y9.2.1), (12, i4 y9.2.2), (14, .ptr b7 0 0 2), (16, i4 y14.2.2)] hS ?_; intro s hS
           have hS := ap_ hS (aB_ hc6)
           refine qs 4 [(4, .ptr b1 0 0 2), (5, .ptr b2 0 0 4), (6, .ptr b3 0 0 4), (7, .ptr b4 0 0 4), (10, .ptr b5 0 0 2), (11, .bool y9.2.1), (12, i4 y9.2.2), (14, .ptr b7 0 0 2), (109, .bool (!decide (y14.2.2 = y9.2.2)))] hS ?_; intro s hS
           refine ae_ (sq_n ?_)
           refine af_ hS rfl (fun hf => ag_ hc7 hf) (fun _ => ?_)
           refine as_ (sq_n (ad_ (ab_ ?_)))
           refine qs 1 [(4, .ptr b1 0 0 2), (5, .ptr b2 0 0 4), (6, .ptr b3 0 0 4), (7, .ptr b4 0 0 4), (10, .ptr b5 0 0 2), (11, .bool y9.2.1), (12, i4 y9.2.2), (14, .ptr b7 0 0 2), (18, i4 1)] hS ?_; intro s hS
           refine ae_ (sq_n (ad_ (ab_ ?_)))
           refine ai_ (v := .agg [i4 y14.1.Next, t4]) 4 trivial rfl hS hH rfl rfl (by kernel_rfl) ?_; intro s hS
           refine qs 1 [(4, .ptr b1 0 0 2), (5, .ptr b2 0 0 4), (6, .ptr b3 0 0 4), (7, .ptr b4 0 0 4), (10, .ptr b5 0 0 2), (11, .bool y9.2.1), (12, i4 y9.2.2), (14, .ptr b7 0 0 2), (110, .agg [i4 y14.1.Next, t4]), (111, i4 1)] hS ?_; intro s hS
           obtain ⟨y20, hy20, h⟩ := bind_some h
           refine go_ (a := []) (b := []) (xs := [.agg [i4 y14.1.Next, t4], i4 1]) (ents := [.own true 10 t4 y14.1.Objects.t]) rfl hS rfl rfl hH (gc_ y14.1 1 y20 hy20 10 t4) ?_; intro hs σ s hl hH hS
           have hH : Heap σ0 σ [.own true 10 t4 y20.2.Objects.t, .own true 10 t2 y9.1.Objects.t, .own true 10 t3 y18.2.Objects.t, .own true 10 t5 y16.Objects.t, .box b7 [i4 y14.1.Next, t4], .box b6 [i4 y10.Next, t3], .box b5 [i4 y9.1.Next, t2], .own true 10 t1 y5.Objects.t, .box b4 (ac_.cells a3), .box b3 (ac_.cells a2), .box b2 (ac_.cells a1), .box b1 (aj_.cells a0)] := hH
           refine qs 1 [(4, .ptr b1 0 0 2), (5, .ptr b2 0 0 4), (6, .ptr b3 0 0 4), (7, .ptr b4 0 0 4), (10, .ptr b5 0 0 2), (11, .bool y9.2.1), (12, i4 y9.2.2), (14, .ptr b7 0 0 2), (18, i4 y20.1)] hS ?_; intro s hS
           refine ae_ (sq_n (ad_ (ab_ ?_)))
           refine qs 1 [(4, .ptr b1 0 0 2), (5, .ptr b2 0 0 4), (6, .ptr b3 0 0 4), (7, .ptr b4 0 0 4), (10, .ptr b5 0 0 2), (11, .bool y9.2.1), (12, i4 y9.2.2), (14, .ptr b7 0 0 2), (18, i4 y20.1), (19, i4 1)] hS ?_; intro s hS
           refine ae_ (sq_n (ad_ (ab_ ?_)))
           refine ai_ (v := .agg [i4 y14.1.Next, t4]) 4 trivial rfl hS hH rfl rfl (by kernel_rfl) ?_; intro s hS
           refine qs 1 [(4, .ptr b1 0 0 2), (5, .ptr b2 0 0 4), (6, .ptr b3 0 0 4), (7, .ptr b4 0 0 4), (10, .ptr b5 0 0 2), (11, .bool y9.2.1), (12, i4 y9.2.2), (14, .ptr b7 0 0 2), (18, i4 y20.1), (113, .agg [i4 y14.1.Next, t4]), (114, i4 1)] hS ?_; intro s hS
           obtain ⟨y21, hy21, h⟩ := bind_some h
           refine dV_ (ents := [.own true 10 t4 y20.2.Objects.t]) (z := false) (ts := [.agg [i4 y14.1.Next, t4], i4 1]) (vs := [.agg [i4 y14.1.Next, y20.2.Objects.t], i4 1]) rfl hS rfl rfl rfl hH (HL.agg (es1 := [.own true 10 t4 y20.2.Objects.t]) (es2 := []) (HLi (HL.own rfl HL.nil)) (HLi HL.nil)) hy21 (by kernel_rfl) ?_; intro s hS
           refine qs 1 [(4, .ptr b1 0 0 2), (5, .ptr b2 0 0 4), (6, .ptr b3 0 0 4), (7, .ptr b4 0 0 4), (10, .ptr b5 0 0 2), (11, .bool y9.2.1), (12, i4 y9.2.2), (14, .ptr b7 0 0 2), (18, i4 y20.1), (19, i4 y21)] hS ?_; intro s hS
           refine ae_ (sq_n (ad_ (ad_ (ab_ ?_))))
           refine qs 2 [(4, .ptr b1 0 0 2), (5, .ptr b2 0 0 4), (6, .ptr b3 0 0 4), (7, .ptr b4 0 0 4), (10, .ptr b5 0 0 2), (11, .bool y9.2.1), (12, i4 y9.2.2), (14, .ptr b7 0 0 2), (18, i4 y20.1), (19, i4 y21), (117, .bool (decide (y21 < 0)))] hS ?_; intro s hS
           refine ae_ (sq_n ?_)
           by_cases hc11 : (decide (y21 < 0)) = true
           ·have h := ak_ hc11 h
            refine af_ hS rfl (fun _ => ?_) (fun hf => ah_ hc11 hf)
            refine ad_ (ab_ ?_)
            refine qs 1 [(8, .bool false)] hS ?_; intro s hS
            refine ae_ (sq_n (ao_ (sq_r ?_)))
            injection h with h; subst h
            exact aq_ hH (an_ (v := .bool false) hS rfl r_nil) rfl (by kernel_rfl) (by simp [pureT, pureL, E_bool])
           ·have h := al_ hc11 h
            refine af_ hS rfl (fun hf => ag_ hc11 hf) (fun _ => ?_)
            refine as_ (sq_n (ad_ (ad_ (ab_ ?_))))
            refine qs 3 [(4, .ptr b1 0 0 2), (5, .ptr b2 0 0 4), (6, .ptr b3 0 0 4), (7, .ptr b4 0 0 4), (10, .ptr b5 0 0 2), (11, .bool y9.2.1), (12, i4 y9.2.2), (14, .ptr b7 0 0 2), (18, i4 y20.1), (120, .bool (!decide (y21 = y20.1)))] hS ?_; intro s hS
            refine ae_ (sq_n ?_)
            by_cases hc12 : (!decide (y21 = y20.1)) = true
            ·have h := ak_ hc12 h
             refine af_ hS rfl (fun _ => ?_) (fun hf => ah_ hc12 hf)
             refine ad_ (ab_ ?_)
             refine qs 1 [(8, .bool false)] hS ?_; intro s hS
             refine ae_ (sq_n (ao_ (sq_r ?_)))
             injection h with h; subst h
             exact aq_ hH (an_ (v := .bool false) hS rfl r_nil) rfl (by kernel_rfl) (by simp [pureT, pureL, E_bool])
            ·have h := al_ hc12 h
             refine af_ hS rfl (fun hf => ag_ hc12 hf) (fun _ => ?_)
             refine as_ (sq_n (ad_ ?_))
             refine b6_ (W2 (fun _ => False) (fun _ => False)) (fun _ => rfl) (by kernel_rfl) (by kernel_rfl) hH ?_; intro mb σs σ hn0 hlt hlto hH
             have hlt_b4 : b4 < mb := hlt b4 _ (List.Mem.tail _ (List.Mem.tail _ (List.Mem.tail _ (List.Mem.tail _ (List.Mem.tail _ (List.Mem.tail _ (List.Mem.tail _ (List.Mem.tail _ (List.Mem.head _)))))))))
             have hlt_b3 : b3 < mb := hlt b3 _ (List.Mem.tail _ (List.Mem.tail _ (List.Mem.tail _ (List.Mem.tail _ (List.Mem.tail _ (List.Mem.tail _ (List.Mem.tail _ (List.Mem.tail _ (List.Mem.tail _ (List.Mem.head _))))))))))
             have hlt_b2 : b2 < mb := hlt b2 _ (List.Mem.tail _ (List.Mem.tail _ (List.Mem.tail _ (List.Mem.tail _ (List.Mem.tail _ (List.Mem.tail _ (List.Mem.tail _ (List.Mem.tail _ (List.Mem.tail _ (List.Mem.tail _ (List.Mem.head _)))))))))))
             refine ai_ (v := .agg (aj_.cells a0)) 11 (Or.inl (by kernel_rfl)) rfl hS hH rfl rfl (by kernel_rfl) ?_; intro s hS
             obtain ⟨y22, hy22, h⟩ := bind_some h
             refine a2_ (ents := []) (z := false) (ts := [.agg (aj_.cells a0)]) (vs := [.agg (aj_.cells a0)]) rfl rfl hS rfl rfl rfl hH (HL.agg (es1 := []) (es2 := []) (HLi (HLp HL.nil)) HL.nil) hy22 ?_; intro hs σ s hl hH hS
             obtain ⟨t6, rfl⟩ := len1 hl
             have hH : Heap σ0 σ [.own true 10 t6 y22.Objects.t, .own true 10 t4 y20.2.Objects.t, .own true 10 t2 y9.1.Objects.t, .own true 10 t3 y18.2.Objects.t, .own true 10 t5 y16.Objects.t, .box b7 [i4 y14.1.Next, t4], .box b6 [i4 y10.Next, t3], .box b5 [i4 y9.1.Next, t2], .own true 10 t1 y5.Objects.t, .box b4 (ac_.cells a3), .box b3 (ac_.cells a2), .box b2 (ac_.cells a1), .box b1 (aj_.cells a0)] := hH
             have ht6 : aV_ t6 := Heap.one hH
             refine ai_ (v := .agg (ac_.cells a1)) 11 (Or.inr ⟨hlt_b2, Or.inl (by kernel_rfl)⟩) rfl hS hH rfl rfl (by kernel_rfl) ?_; intro s hS
             obtain ⟨y23, hy23, h⟩ := bind_some h
             refine ar_ (a := []) (b := []) (xs := [.agg (ac_.cells a1)]) rfl hS rfl rfl hy23 ?_; intro s hS
             refine ai_ (v := .agg (ac_.cells a2)) 10 (Or.inr ⟨hlt_b3, Or.inl (by kernel_rfl)⟩) rfl hS hH rfl rfl (by kernel_rfl) ?_; intro s hS
             obtain ⟨y24, hy24, h⟩ := bind_some h
             refine ar_ (a := []) (b := []) (xs := [.agg (ac_.cells a2)]) rfl hS rfl rfl hy24 ?_; intro s hS
             refine ai_ (v := .agg (ac_.cells a3)) 9 (Or.inr ⟨hlt_b4, Or.inl (by kernel_rfl)⟩) rfl hS hH rfl rfl (by kernel_rfl) ?_; intro s hS
             obtain ⟨y25, hy25, h⟩ := bind_some h
             refine ar_ (a := []) (b := []) (xs := [.agg (ac_.cells a3)]) rfl hS rfl rfl hy25 ?_; intro s hS
             obtain ⟨y26, hy26, h⟩ := bind_some h
             refine a2_ (ents := [.own true 10 t6 y22.Objects.t]) (z := false) (ts := [.agg [i4 y22.Next, t6], .agg (ac_.cells y23), .agg (ac_.cells y24), .agg (ac_.cells y25)]) (vs := [.agg (aj_.cells y22), .agg (ac_.cells y23), .agg (ac_.cells y24), .agg (ac_.cells y25)]) rfl rfl hS rfl rfl rfl hH (HL.agg (es1 := [.own true 10 t6 y22.Objects.t]) (es2 := []) (HLi (HL.own rfl HL.nil)) (HL.agg (es1 := []) (es2 := []) (HLi (HLi (HLs (HLi HL.nil)))) (HL.agg (es1 := []) (es2 := []) (HLi (HLi (HLs (HLi HL.nil)))) (HL.agg (es1 := []) (es2 := []) (HLi (HLi (HLs (HLi HL.nil)))) HL.nil)))) hy26 ?_; intro hs σ s hl hH hS
             obtain ⟨t7, rfl⟩ := len1 hl
             have hH : Heap σ0 σ [.own true 10 t7 y26.1.Objects.t, .own true 10 t6 y22.Objects.t, .own true 10 t4 y20.2.Objects.t, .own true 10 t2 y9.1.Objects.t, .own true 10 t3 y18.2.Objects.t, .own true 10 t5 y16.Objects.t, .box b7 [i4 y14.1.Next, t4], .box b6 [i4 y10.Next, t3], .box b5 [i4 y9.1.Next, t2], .own true 10 t1 y5.Objects.t, .box b4 (ac_.cells a3), .box b3 (ac_.cells a2), .box b2 (ac_.cells a1), .box b1 (aj_.cells a0)] := hH
             have ht7 : aV_ t7 := Heap.one hH
             refine qs 4 [(10, .ptr b5 0 0 2), (11, .bool y9.2.1), (12, i4 y9.2.2), (14, .ptr b7 0 0 2), (18, i4 y20.1), (131, .agg [i4 y26.1.Next, t7]), (132, .bool y26.2.1), (133, i4 y26.2.2)] hS ?_; intro s hS
             refine ie_ rfl (by exact hn0) (z := [i4 0, (nt aa_)]) rfl hS hH (by kernel_rfl) ?_; intro b8 σ s hwr_b8 hH hS
             refine bC_ rfl (v := .agg [i4 y26.1.Next, t7]) (cs := [i4 y26.1.Next, t7]) (cells' := [i4 y26.1.Next, t7]) (by exact Or.inl hwr_b8) rfl hS hH rfl rfl rfl (by simp [ht7.1, ht7.2]) (by kernel_rfl) ?_; intro σ s hH hS
             refine qs 2 [(10, .ptr b5 0 0 2), (11, .bool y9.2.1), (12, i4 y9.2.2), (14, .ptr b7 0 0 2), (18, i4 y20.1), (20, .ptr b8 0 0 2), (21, .bool y26.2.1), (22, i4 y26.2.2)] hS ?_; intro s hS
             refine ae_ (sq_n (ad_ (ad_ (ab_ ?_))))
             refine ai_ (v := .agg [i4 y26.1.Next, t7]) 0 trivial rfl hS hH rfl rfl (by kernel_rfl) ?_; intro s hS
             refine ai_ (v := .agg [i4 y9.1.Next, t2]) 9 trivial rfl hS hH rfl rfl (by kernel_rfl) ?_; intro s hS
             obtain ⟨y27, hy27, h⟩ := bind_some h
             have hH : Heap σ0 σ [.own true 10 t7 y26.1.Objects.t, .own true 10 t2 y9.1.Objects.t, .box b8 [i4 y26.1.Next, t7], .own true 10 t6 y22.Objects.t, .own true 10 t4 y20.2.Objects.t, .own true 10 t3 y18.2.Objects.t, .own true 10 t5 y16.Objects.t, .box b7 [i4 y14.1.Next, t4], .box b6 [i4 y10.Next, t3], .box b5 [i4 y9.1.Next, t2], .own true 10 t1 y5.Objects.t, .box b4 (ac_.cells a3), .box b3 (ac_.cells a2), .box b2 (ac_.cells a1), .box b1 (aj_.cells a0)] := hH.sel [1, 4, 0, 2, 3, 5, 6, 7, 8, 9, 10, 11, 12, 13, 14] rfl (by kernel_rfl)
             refine dV_ (ents := [.own true 10 t7 y26.1.Objects.t, .own true 10 t2 y9.1.Objects.t]) (z := false) (ts := [.agg [i4 y26.1.Next, t7], .agg [i4 y9.1.Next, t2]]) (vs := [.agg (aj_.cells y26.1), .agg (aj_.cells y9.1)]) rfl hS rfl rfl rfl hH (HL.agg (es1 := [.own true 10 t7 y26.1.Objects.t]) (es2 := [.own true 10 t2 y9.1.Objects.t]) (HLi (HL.own rfl HL.nil)) (HL.agg (es1 := [.own true 10 t2 y9.1.Objects.t]) (es2 := []) (HLi (HL.own rfl HL.nil)) HL.nil)) hy27 (by kernel_rfl) ?_; intro s hS
             refine qs 2 [(138, .bool (!y27)), (11, .bool y9.2.1), (12, i4 y9.2.2), (14, .ptr b7 0 0 2), (18, i4 y20.1), (21, .bool y26.2.1), (22, i4 y26.2.2)] hS ?_; intro s hS
             by_cases hc13 : (!y27) = true
             ·have h := ak_ hc13 h
              have hS := ap_ hS hc13
              refine qs 9 [(14, .ptr b7 0 0 2), (18, i4 y20.1), (147, .bool true)] hS ?_; intro s hS
              refine ae_ (sq_n ?_)
              refine af_ (t := true) hS rfl (fun _ => ?_) (fun hf => by cases hf)
              refine ad_ (ab_ ?_)
              refine qs 1 [(8, .bool false)] hS ?_; intro s hS
              refine ae_ (sq_n (ao_ (sq_r ?_)))
              injection h with h; subst h
              exact aq_ hH (an_ (v := .bool false) hS rfl r_nil) rfl (by kernel_rfl) (by simp [pureT, pureL, E_bool])
             ·have h := al_ hc13 h
              have hS := ap_ hS (aB_ hc13)
              refine qs 5 [(143, .bool (!(y26.2.1 == y9.2.1))), (12, i4 y9.2.2), (14, .ptr b7 0 0 2), (18, i4 y20.1), (22, i4 y26.2.2)] hS ?_; intro s hS
              by_cases hc14 : (!(y26.2.1 == y9.2.1)) = true
              ·have h := ak_ hc14 h
               have hS := ap_ hS hc14
               refine qs 4 [(14, .ptr b7 0 0 2), (18, i4 y20.1), (147, .bool true)] hS ?_; intro s hS
               refine ae_ (sq_n ?_)
               refine af_ (t := true) hS rfl (fun _ => ?_) (fun hf => by cases hf)
               refine ad_ (ab_ ?_)
               refine qs 1 [(8, .bool false)] hS ?_; intro s hS
               refine ae_ (sq_n (ao_ (sq_r ?_)))
               injection h with h; subst h
               exact aq_ hH (an_ (v := .bool false) hS rfl r_nil) rfl (by kernel_rfl) (by simp [pureT, pureL, E_bool])
              ·have h := al_ hc14 h
               have hS := ap_ hS (aB_ hc14)
               refine qs 4 [(14, .ptr b7 0 0 2), (18, i4 y20.1), (147, .bool (!decide (y26.2.2 = y9.2.2)))] hS ?_; intro s hS
               refine ae_ (sq_n ?_)
               by_cases hc15 : (!decide (y26.2.2 = y9.2.2)) = true
               ·have h := ak_ hc15 h
                refine af_ hS rfl (fun _ => ?_) (fun hf => ah_ hc15 hf)
                refine ad_ (ab_ ?_)
                refine qs 1 [(8, .bool false)] hS ?_; intro s hS
                refine ae_ (sq_n (ao_ (sq_r ?_)))
                injection h with h; subst h
                exact aq_ hH (an_ (v := .bool false) hS rfl r_nil) rfl (by kernel_rfl) (by simp [pureT, pureL, E_bool])
               ·have h := al_ hc15 h
                refine af_ hS rfl (fun hf => ag_ hc15 hf) (fun _ => ?_)
                refine as_ (sq_n (ad_ (ab_ ?_)))
                refine qs 1 [(14, .ptr b7 0 0 2), (18, i4 y20.1), (19, i4 1)] hS ?_; intro s hS
                refine ae_ (sq_n (ad_ (ab_ ?_)))
                refine ai_ (v := .agg [i4 y14.1.Next, t4]) 7 trivial rfl hS hH rfl rfl (by kernel_rfl) ?_; intro s hS
                refine qs 1 [(18, i4 y20.1), (148, .agg [i4 y14.1.Next, t4]), (149, i4 1)] hS ?_; intro s hS
                obtain ⟨y28, hy28, h⟩ := bind_some h
                have hH : Heap σ0 σ [.own true 10 t4 y20.2.Objects.t, .own true 10 t7 y26.1.Objects.t, .own true 10 t2 y9.1.Objects.t, .box b8 [i4 y26.1.Next, t7], .own true 10 t6 y22.Objects.t, .own true 10 t3 y18.2.Objects.t, .own true 10 t5 y16.Objects.t, .box b7 [i4 y14.1.Next, t4], .box b6 [i4 y10.Next, t3], .box b5 [i4 y9.1.Next, t2], .own true 10 t1 y5.Objects.t, .box b4 (ac_.cells a3), .box b3 (ac_.cells a2), .box b2 (ac_.cells a1), .box b1 (aj_.cells a0)] := hH.sel [4, 0, 1, 2, 3, 5, 6, 7, 8, 9, 10, 11, 12, 13, 14] rfl (by kernel_rfl)
                refine dV_ (ents := [.own true 10 t4 y20.2.Objects.t]) (z := false) (ts := [.agg [i4 y14.1.Next, t4], i4 1]) (vs := [.agg [i4 y14.1.Next, y20.2.Objects.t], i4 1]) rfl hS rfl rfl rfl hH (HL.agg (es1 := [.own true 10 t4 y20.2.Objects.t]) (es2 := []) (HLi (HL.own rfl HL.nil)) (HLi HL.nil)) hy28 (by kernel_rfl) ?_; intro s hS
                refine qs 1 [(18, i4 y20.1), (19, i4 y28)] hS ?_; intro s hS
                refine ae_ (sq_n (ad_ (ad_ (ab_ ?_))))
                refine qs 2 [(18, i4 y20.1), (19, i4 y28), (152, .bool (decide (y28 < 0)))] hS ?_; intro s hS
                refine ae_ (sq_n ?_)
                by_cases hc16 : (decide (y28 < 0)) = true
                ·have h := ak_ hc16 h
                 refine af_ hS rfl (fun _ => ?_) (fun hf => ah_ hc16 hf)
                 refine ad_ (ab_ ?_)
                 refine qs 1 [(8, .bool false)] hS ?_; intro s hS
                 refine ae_ (sq_n (ao_ (sq_r ?_)))
                 injection h with h; subst h
                 exact aq_ hH (an_ (v := .bool false) hS rfl r_nil) rfl (by kernel_rfl) (by simp [pureT, pureL, E_bool])
                ·have h := al_ hc16 h
                 refine af_ hS rfl (fun hf => ag_ hc16 hf) (fun _ => ?_)
                 refine as_ (sq_n (ad_ (ad_ (ab_ ?_))))
                 refine qs 3 [(155, .bool (!decide (y28 = y20.1)))] hS ?_; intro s hS
                 refine ae_ (sq_n ?_)
                 by_cases hc17 : (!decide (y28 = y20.1)) = true
                 ·have h := ak_ hc17 h
                  refine af_ hS rfl (fun _ => ?_) (fun hf => ah_ hc17 hf)
                  refine ad_ (ab_ ?_)
                  refine qs 1 [(8, .bool false)] hS ?_; intro s hS
                  refine ae_ (sq_n (ao_ (sq_r ?_)))
                  injection h with h; subst h
                  exact aq_ hH (an_ (v := .bool false) hS rfl r_nil) rfl (by kernel_rfl) (by simp [pureT, pureL, E_bool])
                 ·have h := al_ hc17 h
                  refine af_ hS rfl (fun hf => ag_ hc17 hf) (fun _ => ?_)
                  refine as_ (sq_n (ad_ (ab_ ?_)))
                  refine qs 1 [(8, .bool true)] hS ?_; intro s hS
                  refine ae_ (sq_n (ao_ ?_))
                  injection h with h; subst h
                  exact aq_ hH (an_ (v := .bool true) hS rfl r_nil) rfl (by kernel_rfl) (by simp [pureT, pureL, E_bool])
noncomputable def fw_ (a0 : aj_) (a1 : Int) : Option Int := ((dS_ a0.Objects a1).bind fun y1 => (if (decide (y1 < 0)) = true then (some (-1)) else (some y1)))
theorem kd_ (a0 : aj_) (a1 : Int) (r : Int) (h : fw_ a0 a1 = some r) : fu_ a0 a1 = some r := by
 unfold fw_ at h
 refine ax_ E_i64_inj rfl rfl ok_14 rfl (all_cons (by kernel_rfl) (all_cons (by kernel_rfl) all_nil)) ?_
 intro σ0 s hS hH
 have hS := am_ (L' := [(0, .agg (aj_.cells a0)), (1, i4 a1)]) hS (by kernel_rfl)
 refine ad_ (ab_ ?_)
 refine aT_ (v := .agg (aj_.cells a0)) (cs := [i4 a0.Next, a0.Objects.t]) rfl hS hH rfl rfl (by kernel_rfl) ?_; intro b1 σ s hH hS
 refine qs 1 [(1, i4 a1), (2, .ptr b1 0 0 2)] hS ?_; intro s hS
 refine ae_ (sq_n (ad_ (ab_ ?_)))
 refine qs 1 [(1, i4 a1), (5, .ptr b1 0 1 1)] hS ?_; intro s hS
 refine ai_ (v := a0.Objects.t) 0 trivial rfl hS hH rfl rfl (by kernel_rfl) ?_; intro s hS
 refine qs 1 [(6, a0.Objects.t), (7, i4 a1)] hS ?_; intro s hS
 obtain ⟨y1, hy1, h⟩ := bind_some h
 refine ar_ (a := []) (b := []) (xs := [a0.Objects.t, i4 a1]) rfl hS rfl rfl hy1 ?_; intro s hS
 refine qs 1 [(1, i4 y1)] hS ?_; intro s hS
 refine ae_ (sq_n (ad_ (ad_ (ab_ ?_))))
 refine qs 2 [(1, i4 y1), (10, .bool (decide (y1 < 0)))] hS ?_; intro s hS
 refine ae_ (sq_n ?_)
 by_cases hc1 : (decide (y1 < 0)) = true
 ·have h := ak_ hc1 h
  refine af_ hS rfl (fun _ => ?_) (fun hf => ah_ hc1 hf)
  refine ad_ (ab_ ?_)
  refine qs 1 [(4, i4 (-1))] hS ?_; intro s hS
  refine ae_ (sq_n (ao_ (sq_r ?_)))
  injection h with h; subst h
  exact aq_ hH (an_ (v := i4 (-1)) hS rfl r_nil) rfl (by kernel_rfl) (by simp [pureT, pureL, E_i64])
 ·have h := al_ hc1 h
  refine af_ hS rfl (fun hf => ag_ hc1 hf) (fun _ => ?_)
  refine as_ (sq_n (ad_ (ab_ ?_)))
  refine qs 2 [(4, i4 y1)] hS ?_; intro s hS
  refine ae_ (sq_n (ao_ ?_))
  injection h with h; subst h
  exact aq_ hH (an_ (v := i4 y1) hS rfl r_nil) rfl (by kernel_rfl) (by simp [pureT, pureL, E_i64])
noncomputable def fn_ (a0 : aj_) : Option aj_ := ((dU_ a0.Objects).bind fun y1 => (some (⟨a0.Next, y1⟩ : aj_)))
theorem j7_ (a0 : aj_) (r : aj_) (h : fn_ a0 = some r) : cj_ a0 = some r := by
 unfold fn_ at h
 refine cx_ rfl rfl ok_16 rfl (all_cons (by kernel_rfl) all_nil) ?_
 intro σ0 s hS hH
 have hS := am_ (L' := [(0, .agg (aj_.cells a0))]) hS (by kernel_rfl)
 refine ad_ (ab_ ?_)
 refine aT_ (v := .agg (aj_.cells a0)) (cs := [i4 a0.Next, a0.Objects.t]) rfl hS hH rfl rfl (by kernel_rfl) ?_; intro b1 σ s hH hS
 refine aO_ (z := [i4 0, (nt aa_)]) rfl hS hH (by kernel_rfl) ?_; intro b2 σ s hH hS
 refine ae_ (sq_n (ad_ (ab_ ?_)))
 refine aO_ (z := [i4 0, (nt aa_)]) rfl hS hH (by kernel_rfl) ?_; intro b3 σ s hH hS
 refine ae_ (sq_n (ad_ (ab_ ?_)))
 refine qs 1 [(1, .ptr b1 0 0 2), (2, .ptr b2 0 0 2), (3, .ptr b3 0 0 2), (4, .ptr b1 0 0 1)] hS ?_; intro s hS
 refine ai_ (v := i4 a0.Next) 2 trivial rfl hS hH rfl rfl (by kernel_rfl) ?_; intro s hS
 refine qs 1 [(1, .ptr b1 0 0 2), (2, .ptr b2 0 0 2), (3, .ptr b3 0 0 2), (5, i4 a0.Next), (6, .ptr b3 0 0 1)] hS ?_; intro s hS
 refine a0_ (v := i4 a0.Next) (cs := [i4 a0.Next]) (cells' := [i4 a0.Next, (nt aa_)]) rfl hS hH rfl rfl rfl (by kernel_rfl) (by kernel_rfl) ?_; intro σ s hH hS
 refine ae_ (sq_n (ad_ (ab_ ?_)))
 refine qs 1 [(2, .ptr b2 0 0 2), (3, .ptr b3 0 0 2), (7, .ptr b1 0 1 1)] hS ?_; intro s hS
 refine ai_ (v := a0.Objects.t) 2 trivial rfl hS hH rfl rfl (by kernel_rfl) ?_; intro s hS
 obtain ⟨y1, hy1, h⟩ := bind_some h
 refine a2_ (ents := []) (z := false) (ts := [a0.Objects.t]) (vs := [a0.Objects.t]) rfl rfl hS rfl rfl rfl hH (HLp HL.nil) hy1 ?_; intro hs σ s hl hH hS
 obtain ⟨t1, rfl⟩ := len1 hl
 have hH : Heap σ0 σ [.own true 10 t1 y1.t, .box b3 [i4 a0.Next, (nt aa_)], .box b2 [i4 0, (nt aa_)], .box b1 (aj_.cells a0)] := hH
 have ht1 : aV_ t1 := Heap.one hH
 refine qs 1 [(2, .ptr b2 0 0 2), (3, .ptr b3 0 0 2), (9, t1), (10, .ptr b3 0 1 1)] hS ?_; intro s hS
 have hH : Heap σ0 σ [.box b3 [i4 a0.Next, (nt aa_)], .own true 10 t1 y1.t, .box b2 [i4 0, (nt aa_)], .box b1 (aj_.cells a0)] := hH.sel [1, 0, 2, 3] rfl (by kernel_rfl)
 refine a0_ (v := t1) (cs := [t1]) (cells' := [i4 a0.Next, t1]) rfl hS hH rfl rfl (by simp [ht1.1, ht1.2]) (by simp [ht1.1, ht1.2]) (by kernel_rfl) ?_; intro σ s hH hS
 refine ae_ (sq_n (ad_ (ab_ ?_)))
 refine ai_ (v := .agg [i4 a0.Next, t1]) 0 trivial rfl hS hH rfl rfl (by kernel_rfl) ?_; intro s hS
 have hH : Heap σ0 σ [.box b2 [i4 0, (nt aa_)], .box b3 [i4 a0.Next, t1], .own true 10 t1 y1.t, .box b1 (aj_.cells a0)] := hH.sel [2, 0, 1, 3] rfl (by kernel_rfl)
 refine aF_ (cs := [i4 a0.Next, t1]) rfl hS hH rfl rfl (by simp [ht1.1, ht1.2]) ?_; intro σ s hH hS
 refine ae_ (sq_n (ao_ ?_))
 injection h with h; subst h
 have hH : Heap σ0 σ [.own true 10 t1 y1.t, .box b2 [i4 a0.Next, t1], .box b3 [i4 a0.Next, t1], .box b1 (aj_.cells a0)] := hH.sel [2, 0, 1, 3] rfl (by kernel_rfl)
 exact a8_ [t1] [.box b2 [i4 a0.Next, t1], .box b3 [i4 a0.Next, t1], .box b1 (aj_.cells a0)] (bf_ (v := .agg [i4 a0.Next, t1]) hS (hH.at 1 rfl) rfl (by kernel_rfl) r_nil) (by kernel_rfl) rfl hH (by kernel_rfl)
noncomputable def ej_ (a0 : aa_) (a1 : aa_) : Option Bool := (if (!decide (a0.Id = a1.Id)) = true then (some false) else (if (!decide (a0.Kind = a1.Kind)) = true then (some false) else (if (!decide (a0.Name = a1.Name)) = true then (some false) else (if (!decide (a0.Low = a1.Low)) = true then (some false) else ((dc_ a0.Keys a1.Keys).bind fun y1 => (if (!y1) = true then (some false) else ((dc_ a0.Vals a1.Vals).bind fun y2 => (if (!y2) = true then (some false) else ((cA_ a0.Default a1.Default).bind fun y3 => (if (!y3) = true then (some false) else (some true)))))))))))
theorem iD_ (a0 : aa_) (a1 : aa_) (r : Bool) (h : ej_ a0 a1 = some r) : cZ_ a0 a1 = some r := by
 unfold ej_ at h
 refine ax_ E_bool_inj rfl rfl ok_18 rfl (all_cons (by kernel_rfl) (all_cons (by kernel_rfl) all_nil)) ?_
 intro σ0 s hS hH
 have hS := am_ (L' := [(0, .agg (aa_.cells a0)), (1, .agg (aa_.cells a1))]) hS (by kernel_rfl)
 refine ad_ (ab_ ?_)
 refine aT_ (v := .agg (aa_.cells a0)) (cs := [i4 a0.Id, i4 a0.Kind, .str a0.Name, i4 a0.Low, a0.Keys.t, a0.Vals.t, i4 a0.Default.Kind, i4 a0.Default.Num, .str a0.Default.Text, i4 a0.Default.Ref]) rfl hS hH rfl rfl (by kernel_rfl) ?_; intro b1 σ s hH hS
 refine aT_ (v := .agg (aa_.cells a1)) (cs := [i4 a1.Id, i4 a1.Kind, .str a1.Name, i4 a1.Low, a1.Keys.t, a1.Vals.t, i4 a1.Default.Kind, i4 a1.Default.Num, .str a1.Default.Text, i4 a1.Default.Ref]) rfl hS hH rfl rfl (by kernel_rfl) ?_; intro b2 σ s hH hS
 refine qs 1 [(2, .ptr b1 0 0 10), (3, .ptr b2 0 0 10)] hS ?_; intro s hS
 refine ae_ (sq_n (ad_ (ad_ (ab_ ?_))))
 refine qs 1 [(2, .ptr b1 0 0 10), (3, .ptr b2 0 0 10), (5, .ptr b1 0 0 1)] hS ?_; intro s hS
 refine ai_ (v := i4 a0.Id) 1 trivial rfl hS hH rfl rfl (by kernel_rfl) ?_; intro s hS
 refine qs 1 [(2, .ptr b1 0 0 10), (3, .ptr b2 0 0 10), (6, i4 a0.Id), (7, .ptr b2 0 0 1)] hS ?_; intro s hS
 refine ai_ (v := i4 a1.Id) 0 trivial rfl hS hH rfl rfl (by kernel_rfl) ?_; intro s hS
 refine qs 1 [(2, .ptr b1 0 0 10), (3, .ptr b2 0 0 10), (9, .bool (!decide (a0.Id = a1.Id)))] hS ?_; intro s hS
 refine ae_ (sq_n ?_)
 by_cases hc1 : (!decide (a0.Id = a1.Id)) = true
 ·have h := ak_ hc1 h
  refine af_ hS rfl (fun _ => ?_) (fun hf => ah_ hc1 hf)
  refine ad_ (ab_ ?_)
  refine qs 1 [(4, .bool false)] hS ?_; intro s hS
  refine ae_ (sq_n (ao_ (sq_r ?_)))
  injection h with h; subst h
  exact aq_ hH (an_ (v := .bool false) hS rfl r_nil) rfl (by kernel_rfl) (by simp [pureT, pureL, E_bool])
 ·have h := al_ hc1 h
  refine af_ hS rfl (fun hf => ag_ hc1 hf) (fun _ => ?_)
  refine as_ (sq_n (ad_ (ad_ (ab_ ?_))))
  refine qs 1 [(2, .ptr b1 0 0 10), (3, .ptr b2 0 0 10), (10, .ptr b1 0 1 1)] hS ?_; intro s hS
  refine ai_ (v := i4 a0.Kind) 1 trivial rfl hS hH rfl rfl (by kernel_rfl) ?_; intro s hS
  refine qs 1 [(2, .ptr b1 0 0 10), (3, .ptr b2 0 0 10), (11, i4 a0.Kind), (12, .ptr b2 0 1 1)] hS ?_; intro s hS
  refine ai_ (v := i4 a1.Kind) 0 trivial rfl hS hH rfl rfl (by kernel_rfl) ?_; intro s hS
  refine qs 1 [(2, .ptr b1 0 0 10), (3, .ptr b2 0 0 10), (14, .bool (!decide (a0.Kind = a1.Kind)))] hS ?_; intro s hS
  refine ae_ (sq_n ?_)
  by_cases hc2 : (!decide (a0.Kind = a1.Kind)) = true
  ·have h := ak_ hc2 h
   refine af_ hS rfl (fun _ => ?_) (fun hf => ah_ hc2 hf)
   refine ad_ (ab_ ?_)
   refine qs 1 [(4, .bool false)] hS ?_; intro s hS
   refine ae_ (sq_n (ao_ (sq_r ?_)))
   injection h with h; subst h
   exact aq_ hH (an_ (v := .bool false) hS rfl r_nil) rfl (by kernel_rfl) (by simp [pureT, pureL, E_bool])
  ·have h := al_ hc2 h
   refine af_ hS rfl (fun hf => ag_ hc2 hf) (fun _ => ?_)
   refine as_ (sq_n (ad_ (ad_ (ab_ ?_))))
   refine qs 1 [(2, .ptr b1 0 0 10), (3, .ptr b2 0 0 10), (15, .ptr b1 0 2 1)] hS ?_; intro s hS
   refine ai_ (v := .str a0.Name) 1 trivial rfl hS hH rfl rfl (by kernel_rfl) ?_; intro s hS
   refine qs 1 [(2, .ptr b1 0 0 10), (3, .ptr b2 0 0 10), (16, .str a0.Name), (17, .ptr b2 0 2 1)] hS ?_; intro s hS
   refine ai_ (v := .str a1.Name) 0 trivial rfl hS hH rfl rfl (by kernel_rfl) ?_; intro s hS
   refine qs 1 [(2, .ptr b1 0 0 10), (3, .ptr b2 0 0 10), (19, .bool (!decide (a0.Name = a1.Name)))] hS ?_; intro s hS
   refine ae_ (sq_n ?_)
   by_cases hc3 : (!decide (a0.Name = a1.Name)) = true
   ·have h := ak_ hc3 h
    refine af_ hS rfl (fun _ => ?_) (fun hf => ah_ hc3 hf)
    refine ad_ (ab_ ?_)
    refine qs 1 [(4, .bool false)] hS ?_; intro s hS
    refine ae_ (sq_n (ao_ (sq_r ?_)))
    injection h with h; subst h
    exact aq_ hH (an_ (v := .bool false) hS rfl r_nil) rfl (by kernel_rfl) (by simp [pureT, pureL, E_bool])
   ·have h := al_ hc3 h
    refine af_ hS rfl (fun hf => ag_ hc3 hf) (fun _ => ?_)
    refine as_ (sq_n (ad_ (ad_ (ab_ ?_))))
    refine qs 1 [(2, .ptr b1 0 0 10), (3, .ptr b2 0 0 10), (20, .ptr b1 0 3 1)] hS ?_; intro s hS
    refine ai_ (v := i4 a0.Low) 1 trivial rfl hS hH rfl rfl (by kernel_rfl) ?_; intro s hS
    refine qs 1 [(2, .ptr b1 0 0 10), (3, .ptr b2 0 0 10), (21, i4 a0.Low), (22, .ptr b2 0 3 1)] hS ?_; intro s hS
    refine ai_ (v := i4 a1.Low) 0 trivial rfl hS hH rfl rfl (by kernel_rfl) ?_; intro s hS
    refine qs 1 [(2, .ptr b1 0 0 10), (3, .ptr b2 0 0 10), (24, .bool (!decide (a0.Low = a1.Low)))] hS ?_; intro s hS
    refine ae_ (sq_n ?_)
    by_cases hc4 : (!decide (a0.Low = a1.Low)) = true
    ·have h := ak_ hc4 h
     refine af_ hS rfl (fun _ => ?_) (fun hf => ah_ hc4 hf)
     refine ad_ (ab_ ?_)
     refine qs 1 [(4, .bool false)] hS ?_; intro s hS
     refine ae_ (sq_n (ao_ (sq_r ?_)))
     injection h with h; subst h
     exact aq_ hH (an_ (v := .bool false) hS rfl r_nil) rfl (by kernel_rfl) (by simp [pureT, pureL, E_bool])
    ·have h := al_ hc4 h
     refine af_ hS rfl (fun hf => ag_ hc4 hf) (fun _ => ?_)
     refine as_ (sq_n (ad_ (ad_ (ab_ ?_))))
     refine qs 1 [(2, .ptr b1 0 0 10), (3, .ptr b2 0 0 10), (25, .ptr b1 0 4 1)] hS ?_; intro s hS
     refine ai_ (v := a0.Keys.t) 1 trivial rfl hS hH rfl rfl (by kernel_rfl) ?_; intro s hS
     refine qs 1 [(2, .ptr b1 0 0 10), (3, .ptr b2 0 0 10), (26, a0.Keys.t), (27, .ptr b2 0 4 1)] hS ?_; intro s hS
     refine ai_ (v := a1.Keys.t) 0 trivial rfl hS hH rfl rfl (by kernel_rfl) ?_; intro s hS
     obtain ⟨y1, hy1, h⟩ := bind_some h
     refine ar_ (a := []) (b := []) (xs := [a0.Keys.t, a1.Keys.t]) rfl hS rfl rfl hy1 ?_; intro s hS
     refine qs 1 [(2, .ptr b1 0 0 10), (3, .ptr b2 0 0 10), (30, .bool (!y1))] hS ?_; intro s hS
     refine ae_ (sq_n ?_)
     by_cases hc5 : (!y1) = true
     ·have h := ak_ hc5 h
      refine af_ hS rfl (fun _ => ?_) (fun hf => ah_ hc5 hf)
      refine ad_ (ab_ ?_)
      refine qs 1 [(4, .bool false)] hS ?_; intro s hS
      refine ae_ (sq_n (ao_ (sq_r ?_)))
      injection h with h; subst h
      exact aq_ hH (an_ (v := .bool false) hS rfl r_nil) rfl (by kernel_rfl) (by simp [pureT, pureL, E_bool])
     ·have h := al_ hc5 h
      refine af_ hS rfl (fun hf => ag_ hc5 hf) (fun _ => ?_)
      refine as_ (sq_n (ad_ (ad_ (ab_ ?_))))
      refine qs 1 [(2, .ptr b1 0 0 10), (3, .ptr b2 0 0 10), (31, .ptr b1 0 5 1)] hS ?_; intro s hS
      refine ai_ (v := a0.Vals.t) 1 trivial rfl hS hH rfl rfl (by kernel_rfl) ?_; intro s hS
      refine qs 1 [(2, .ptr b1 0 0 10), (3, .ptr b2 0 0 10), (32, a0.Vals.t), (33, .ptr b2 0 5 1)] hS ?_; intro s hS
      refine ai_ (v := a1.Vals.t) 0 trivial rfl hS hH rfl rfl (by kernel_rfl) ?_; intro s hS
      obtain ⟨y2, hy2, h⟩ := bind_some h
      refine ar_ (a := []) (b := []) (xs := [a0.Vals.t, a1.Vals.t]) rfl hS rfl rfl hy2 ?_; intro s hS
      refine qs 1 [(2, .ptr b1 0 0 10), (3, .ptr b2 0 0 10), (36, .bool (!y2))] hS ?_; intro s hS
      refine ae_ (sq_n ?_)
      by_cases hc6 : (!y2) = true
      ·have h := ak_ hc6 h
       refine af_ hS rfl (fun _ => ?_) (fun hf => ah_ hc6 hf)
       refine ad_ (ab_ ?_)
       refine qs 1 [(4, .bool false)] hS ?_; intro s hS
       refine ae_ (sq_n (ao_ (sq_r ?_)))
       injection h with h; subst h
       exact aq_ hH (an_ (v := .bool false) hS rfl r_nil) rfl (by kernel_rfl) (by simp [pureT, pureL, E_bool])
      ·have h := al_ hc6 h
       refine af_ hS rfl (fun hf => ag_ hc6 hf) (fun _ => ?_)
       refine as_ (sq_n (ad_ (ad_ (ab_ ?_))))
       refine qs 1 [(3, .ptr b2 0 0 10), (37, .ptr b1 0 6 4)] hS ?_; intro s hS
       refine ai_ (v := .agg (ac_.cells a0.Default)) 1 trivial rfl hS hH rfl rfl (by kernel_rfl) ?_; intro s hS
       refine qs 1 [(38, .agg (ac_.cells a0.Default)), (39, .ptr b2 0 6 4)] hS ?_; intro s hS
       refine ai_ (v := .agg (ac_.cells a1.Default)) 0 trivial rfl hS hH rfl rfl (by kernel_rfl) ?_; intro s hS
       obtain ⟨y3, hy3, h⟩ := bind_some h
       refine ar_ (a := []) (b := []) (xs := [.agg (ac_.cells a0.Default), .agg (ac_.cells a1.Default)]) rfl hS rfl rfl hy3 ?_; intro s hS
       refine qs 1 [(42, .bool (!y3))] hS ?_; intro s hS
       refine ae_ (sq_n ?_)
       by_cases hc7 : (!y3) = true
       ·have h := ak_ hc7 h
        refine af_ hS rfl (fun _ => ?_) (fun hf => ah_ hc7 hf)
        refine ad_ (ab_ ?_)
        refine qs 1 [(4, .bool false)] hS ?_; intro s hS
        refine ae_ (sq_n (ao_ (sq_r ?_)))
        injection h with h; subst h
        exact aq_ hH (an_ (v := .bool false) hS rfl r_nil) rfl (by kernel_rfl) (by simp [pureT, pureL, E_bool])
       ·have h := al_ hc7 h
        refine af_ hS rfl (fun hf => ag_ hc7 hf) (fun _ => ?_)
        refine as_ (sq_n (ad_ (ab_ ?_)))
        refine qs 1 [(4, .bool true)] hS ?_; intro s hS
        refine ae_ (sq_n (ao_ ?_))
        injection h with h; subst h
        exact aq_ hH (an_ (v := .bool true) hS rfl r_nil) rfl (by kernel_rfl) (by simp [pureT, pureL, E_bool])
noncomputable def fy_ (a0 : aj_) (a1 : aj_) : Option Bool := (if (!decide (a0.Next = a1.Next)) = true then (some false) else ((dY_ a0.Objects a1.Objects).bind fun y1 => (if (!y1) = true then (some false) else (some true))))
theorem j1_ (a0 : aj_) (a1 : aj_) (r : Bool) (h : fy_ a0 a1 = some r) : bU_ a0 a1 = some r := by
 unfold fy_ at h
 refine ax_ E_bool_inj rfl rfl ok_19 rfl (all_cons (by kernel_rfl) (all_cons (by kernel_rfl) all_nil)) ?_
 intro σ0 s hS hH
 have hS := am_ (L' := [(0, .agg (aj_.cells a0)), (1, .agg (aj_.cells a1))]) hS (by kernel_rfl)
 refine ad_ (ab_ ?_)
 refine aT_ (v := .agg (aj_.cells a0)) (cs := [i4 a0.Next, a0.Objects.t]) rfl hS hH rfl rfl (by kernel_rfl) ?_; intro b1 σ s hH hS
 refine aT_ (v := .agg (aj_.cells a1)) (cs := [i4 a1.Next, a1.Objects.t]) rfl hS hH rfl rfl (by kernel_rfl) ?_; intro b2 σ s hH hS
 refine qs 1 [(2, .ptr b1 0 0 2), (3, .ptr b2 0 0 2)] hS ?_; intro s hS
 refine ae_ (sq_n (ad_ (ad_ (ab_ ?_))))
 refine qs 1 [(2, .ptr b1 0 0 2), (3, .ptr b2 0 0 2), (5, .ptr b1 0 0 1)] hS ?_; intro s hS
 refine ai_ (v := i4 a0.Next) 1 trivial rfl hS hH rfl rfl (by kernel_rfl) ?_; intro s hS
 refine qs 1 [(2, .ptr b1 0 0 2), (3, .ptr b2 0 0 2), (6, i4 a0.Next), (7, .ptr b2 0 0 1)] hS ?_; intro s hS
 refine ai_ (v := i4 a1.Next) 0 trivial rfl hS hH rfl rfl (by kernel_rfl) ?_; intro s hS
 refine qs 1 [(2, .ptr b1 0 0 2), (3, .ptr b2 0 0 2), (9, .bool (!decide (a0.Next = a1.Next)))] hS ?_; intro s hS
 refine ae_ (sq_n ?_)
 by_cases hc1 : (!decide (a0.Next = a1.Next)) = true
 ·have h := ak_ hc1 h
  refine af_ hS rfl (fun _ => ?_) (fun hf => ah_ hc1 hf)
  refine ad_ (ab_ ?_)
  refine qs 1 [(4, .bool false)] hS ?_; intro s hS
  refine ae_ (sq_n (ao_ (sq_r ?_)))
  injection h with h; subst h
  exact aq_ hH (an_ (v := .bool false) hS rfl r_nil) rfl (by kernel_rfl) (by simp [pureT, pureL, E_bool])
 ·have h := al_ hc1 h
  refine af_ hS rfl (fun hf => ag_ hc1 hf) (fun _ => ?_)
  refine as_ (sq_n (ad_ (ad_ (ab_ ?_))))
  refine qs 1 [(3, .ptr b2 0 0 2), (10, .ptr b1 0 1 1)] hS ?_; intro s hS
  refine ai_ (v := a0.Objects.t) 1 trivial rfl hS hH rfl rfl (by kernel_rfl) ?_; intro s hS
  refine qs 1 [(11, a0.Objects.t), (12, .ptr b2 0 1 1)] hS ?_; intro s hS
  refine ai_ (v := a1.Objects.t) 0 trivial rfl hS hH rfl rfl (by kernel_rfl) ?_; intro s hS
  obtain ⟨y1, hy1, h⟩ := bind_some h
  refine ar_ (a := []) (b := []) (xs := [a0.Objects.t, a1.Objects.t]) rfl hS rfl rfl hy1 ?_; intro s hS
  refine qs 1 [(15, .bool (!y1))] hS ?_; intro s hS
  refine ae_ (sq_n ?_)
  by_cases hc2 : (!y1) = true
  ·have h := ak_ hc2 h
   refine af_ hS rfl (fun _ => ?_) (fun hf => ah_ hc2 hf)
   refine ad_ (ab_ ?_)
   refine qs 1 [(4, .bool false)] hS ?_; intro s hS
   refine ae_ (sq_n (ao_ (sq_r ?_)))
   injection h with h; subst h
   exact aq_ hH (an_ (v := .bool false) hS rfl r_nil) rfl (by kernel_rfl) (by simp [pureT, pureL, E_bool])
  ·have h := al_ hc2 h
   refine af_ hS rfl (fun hf => ag_ hc2 hf) (fun _ => ?_)
   refine as_ (sq_n (ad_ (ab_ ?_)))
   refine qs 1 [(4, .bool true)] hS ?_; intro s hS
   refine ae_ (sq_n (ao_ ?_))
   injection h with h; subst h
   exact aq_ hH (an_ (v := .bool true) hS rfl r_nil) rfl (by kernel_rfl) (by simp [pureT, pureL, E_bool])
noncomputable def cq_ (a0 : aa_) (a1 : Int) : Option (Int × aa_) := ((aP_ a0.Keys a1).bind fun y1 => ((aP_ a0.Vals y1.1).bind fun y2 => (some (y2.1, (⟨a0.Id, a0.Kind, a0.Name, a0.Low, y1.2, y2.2, a0.Default⟩ : aa_)))))
theorem mA_ (a0 : aa_) (a1 : Int) (r : (Int × aa_)) (h : cq_ a0 a1 = some r) (wp0_1 : Nat) (p0_1 : T) (wp0_2 : Nat) (p0_2 : T) : RawS Try.prog md ext 21 [.agg [i4 a0.Id, i4 a0.Kind, .str a0.Name, i4 a0.Low, p0_1, p0_2, i4 a0.Default.Kind, i4 a0.Default.Num, .str a0.Default.Text, i4 a0.Default.Ref], i4 a1] 0 (fun hs => E_i64 r.1) [.own true wp0_1 p0_1 a0.Keys.t, .own true wp0_2 p0_2 a0.Vals.t] (fun hs => [.own true wp0_1 p0_1 r.2.Keys.t, .own true wp0_2 p0_2 r.2.Vals.t]) := by
 unfold cq_ at h
 refine j3_ rfl rfl ok_21 rfl ?_
 intro σ0 σ F σk s hS hH
 have hp0_1 : aV_ p0_1 := Heap.one hH
 have hp0_2 : aV_ p0_2 := Heap.one (hH.at 1 rfl)
 have hS := am_ (L' := [(0, .agg [i4 a0.Id, i4 a0.Kind, .str a0.Name, i4 a0.Low, p0_1, p0_2, i4 a0.Default.Kind, i4 a0.Default.Num, .str a0.Default.Text, i4 a0.Default.Ref]), (1, i4 a1)]) hS (by kernel_rfl)
 refine ad_ (ab_ ?_)
 refine aT_ (v := .agg [i4 a0.Id, i4 a0.Kind, .str a0.Name, i4 a0.Low, p0_1, p0_2, i4 a0.Default.Kind, i4 a0.Default.Num, .str a0.Default.Text, i4 a0.Default.Ref]) (cs := [i4 a0.Id, i4 a0.Kind, .str a0.Name, i4 a0.Low, p0_1, p0_2, i4 a0.Default.Kind, i4 a0.Default.Num, .str a0.Default.Text, i4 a0.Default.Ref]) rfl hS hH rfl rfl (by simp [hp0_1.1, hp0_1.2, hp0_2.1, hp0_2.2]) ?_; intro b1 σ s hH hS
 refine qs 1 [(1, i4 a1), (2, .ptr b1 0 0 10)] hS ?_; intro s hS
 refine ae_ (sq_n (ad_ (ab_ ?_)))
 refine qs 1 [(1, i4 a1), (2, .ptr b1 0 0 10), (5, .ptr b1 0 4 1)] hS ?_; intro s hS
 refine ai_ (v := p0_1) 0 trivial rfl hS hH rfl rfl (by kernel_rfl) ?_; intro s hS
 refine qs 1 [(2, .ptr b1 0 0 10), (6, p0_1), (7, i4 a1)] hS ?_; intro s hS
 have hH : Heap σ0 σ [.own true wp0_1 p0_1 a0.Keys.t, .box b1 [i4 a0.Id, i4 a0.Kind, .str a0.Name, i4 a0.Low, p0_1, p0_2, i4 a0.Default.Kind, i4 a0.Default.Num, .str a0.Default.Text, i4 a0.Default.Ref], .own true wp0_2 p0_2 a0.Vals.t, .keep F σk] := hH.sel [1, 0, 2, 3] rfl (by kernel_rfl)
 obtain ⟨y1, hy1, h⟩ := bind_some h
 refine go_ (a := []) (b := []) (xs := [p0_1, i4 a1]) (ents := [.own true wp0_1 p0_1 a0.Keys.t]) rfl hS rfl rfl hH (ci_ a0.Keys a1 y1 hy1 wp0_1 p0_1) ?_; intro hs σ s hl hH hS
 have hH : Heap σ0 σ [.own true wp0_1 p0_1 y1.2.t, .box b1 [i4 a0.Id, i4 a0.Kind, .str a0.Name, i4 a0.Low, p0_1, p0_2, i4 a0.Default.Kind, i4 a0.Default.Num, .str a0.Default.Text, i4 a0.Default.Ref], .own true wp0_2 p0_2 a0.Vals.t, .keep F σk] := hH
 refine qs 1 [(1, i4 y1.1), (2, .ptr b1 0 0 10)] hS ?_; intro s hS
 refine ae_ (sq_n (ad_ (ab_ ?_)))
 refine qs 1 [(1, i4 y1.1), (9, .ptr b1 0 5 1)] hS ?_; intro s hS
 refine ai_ (v := p0_2) 1 trivial rfl hS hH rfl rfl (by kernel_rfl) ?_; intro s hS
 refine qs 1 [(10, p0_2), (11, i4 y1.1)] hS ?_; intro s hS
 have hH : Heap σ0 σ [.own true wp0_2 p0_2 a0.Vals.t, .own true wp0_1 p0_1 y1.2.t, .box b1 [i4 a0.Id, i4 a0.Kind, .str a0.Name, i4 a0.Low, p0_1, p0_2, i4 a0.Default.Kind, i4 a0.Default.Num, .str a0.Default.Text, i4 a0.Default.Ref], .keep F σk] := hH.sel [2, 0, 1, 3] rfl (by kernel_rfl)
 obtain ⟨y2, hy2, h⟩ := bind_some h
 refine go_ (a := []) (b := []) (xs := [p0_2, i4 y1.1]) (ents := [.own true wp0_2 p0_2 a0.Vals.t]) rfl hS rfl rfl hH (ci_ a0.Vals y1.1 y2 hy2 wp0_2 p0_2) ?_; intro hs σ s hl hH hS
 have hH : Heap σ0 σ [.own true wp0_2 p0_2 y2.2.t, .own true wp0_1 p0_1 y1.2.t, .box b1 [i4 a0.Id, i4 a0.Kind, .str a0.Name, i4 a0.Low, p0_1, p0_2, i4 a0.Default.Kind, i4 a0.Default.Num, .str a0.Default.Text, i4 a0.Default.Ref], .keep F σk] := hH
 refine qs 1 [(1, i4 y2.1)] hS ?_; intro s hS
 refine ae_ (sq_n (ad_ (ab_ ?_)))
 refine qs 2 [(4, i4 y2.1)] hS ?_; intro s hS
 refine ae_ (sq_n (ao_ ?_))
 injection h with h; subst h
 exact oL_ [] (an_ (v := i4 y2.1) hS rfl r_nil) rfl rfl (Heap.sel hH [1, 0, 3] rfl (by kernel_rfl))
noncomputable def dn_ (a0 : aa_) (a1 : Int) : Option Int := ((a1_ a0.Keys a1).bind fun y1 => (if (decide (y1 < 0)) = true then (some (-1)) else ((a1_ a0.Vals y1).bind fun y2 => (if (decide (y2 < 0)) = true then (some (-1)) else (some y2)))))
theorem hG_ (a0 : aa_) (a1 : Int) (r : Int) (h : dn_ a0 a1 = some r) : e2_ a0 a1 = some r := by
 unfold dn_ at h
 refine ax_ E_i64_inj rfl rfl ok_22 rfl (all_cons (by kernel_rfl) (all_cons (by kernel_rfl) all_nil)) ?_
 intro σ0 s hS hH
 have hS := am_ (L' := [(0, .agg (aa_.cells a0)), (1, i4 a1)]) hS (by kernel_rfl)
 refine ad_ (ab_ ?_)
 refine aT_ (v := .agg (aa_.cells a0)) (cs := [i4 a0.Id, i4 a0.Kind, .str a0.Name, i4 a0.Low, a0.Keys.t, a0.Vals.t, i4 a0.Default.Kind, i4 a0.Default.Num, .str a0.Default.Text, i4 a0.Default.Ref]) rfl hS hH rfl rfl (by kernel_rfl) ?_; intro b1 σ s hH hS
 refine qs 1 [(1, i4 a1), (2, .ptr b1 0 0 10)] hS ?_; intro s hS
 refine ae_ (sq_n (ad_ (ab_ ?_)))
 refine qs 1 [(1, i4 a1), (2, .ptr b1 0 0 10), (5, .ptr b1 0 4 1)] hS ?_; intro s hS
 refine ai_ (v := a0.Keys.t) 0 trivial rfl hS hH rfl rfl (by kernel_rfl) ?_; intro s hS
 refine qs 1 [(2, .ptr b1 0 0 10), (6, a0.Keys.t), (7, i4 a1)] hS ?_; intro s hS
 obtain ⟨y1, hy1, h⟩ := bind_some h
 refine ar_ (a := []) (b := []) (xs := [a0.Keys.t, i4 a1]) rfl hS rfl rfl hy1 ?_; intro s hS
 refine qs 1 [(1, i4 y1), (2, .ptr b1 0 0 10)] hS ?_; intro s hS
 refine ae_ (sq_n (ad_ (ad_ (ab_ ?_))))
 refine qs 2 [(1, i4 y1), (2, .ptr b1 0 0 10), (10, .bool (decide (y1 < 0)))] hS ?_; intro s hS
 refine ae_ (sq_n ?_)
 by_cases hc1 : (decide (y1 < 0)) = true
 ·have h := ak_ hc1 h
  refine af_ hS rfl (fun _ => ?_) (fun hf => ah_ hc1 hf)
  refine ad_ (ab_ ?_)
  refine qs 1 [(4, i4 (-1))] hS ?_; intro s hS
  refine ae_ (sq_n (ao_ (sq_r ?_)))
  injection h with h; subst h
  exact aq_ hH (an_ (v := i4 (-1)) hS rfl r_nil) rfl (by kernel_rfl) (by simp [pureT, pureL, E_i64])
 ·have h := al_ hc1 h
  refine af_ hS rfl (fun hf => ag_ hc1 hf) (fun _ => ?_)
  refine as_ (sq_n (ad_ (ab_ ?_)))
  refine qs 1 [(1, i4 y1), (11, .ptr b1 0 5 1)] hS ?_; intro s hS
  refine ai_ (v := a0.Vals.t) 0 trivial rfl hS hH rfl rfl (by kernel_rfl) ?_; intro s hS
  refine qs 1 [(12, a0.Vals.t), (13, i4 y1)] hS ?_; intro s hS
  obtain ⟨y2, hy2, h⟩ := bind_some h
  refine ar_ (a := []) (b := []) (xs := [a0.Vals.t, i4 y1]) rfl hS rfl rfl hy2 ?_; intro s hS
  refine qs 1 [(1, i4 y2)] hS ?_; intro s hS
  refine ae_ (sq_n (ad_ (ad_ (ab_ ?_))))
  refine qs 2 [(1, i4 y2), (16, .bool (decide (y2 < 0)))] hS ?_; intro s hS
  refine ae_ (sq_n ?_)
  by_cases hc2 : (decide (y2 < 0)) = true
  ·have h := ak_ hc2 h
   refine af_ hS rfl (fun _ => ?_) (fun hf => ah_ hc2 hf)
   refine ad_ (ab_ ?_)
   refine qs 1 [(4, i4 (-1))] hS ?_; intro s hS
   refine ae_ (sq_n (ao_ (sq_r ?_)))
   injection h with h; subst h
   exact aq_ hH (an_ (v := i4 (-1)) hS rfl r_nil) rfl (by kernel_rfl) (by simp [pureT, pureL, E_i64])
  ·have h := al_ hc2 h
   refine af_ hS rfl (fun hf => ag_ hc2 hf) (fun _ => ?_)
   refine as_ (sq_n (ad_ (ab_ ?_)))
   refine qs 2 [(4, i4 y2)] hS ?_; intro s hS
   refine ae_ (sq_n (ao_ ?_))
   injection h with h; subst h
   exact aq_ hH (an_ (v := i4 y2) hS rfl r_nil) rfl (by kernel_rfl) (by simp [pureT, pureL, E_i64])
noncomputable def eC_ (a0 : aa_) (a1 : Int) : Option Int := (if (decide ((w4 (a1 - (a0.Name.size : Int))) < 0)) = true then (some (-1)) else ((df_ a0.Keys (w4 (a1 - (a0.Name.size : Int)))).bind fun y1 => (if (decide (y1 < 0)) = true then (some (-1)) else ((df_ a0.Vals y1).bind fun y2 => (if (decide (y2 < 0)) = true then (some (-1)) else ((bB_ a0.Default y2).bind fun y3 => (if (decide (y3 < 0)) = true then (some (-1)) else (some y3))))))))
theorem iL_ (a0 : aa_) (a1 : Int) (r : Int) (h : eC_ a0 a1 = some r) : ep_ a0 a1 = some r := by
 unfold eC_ at h
 refine ax_ E_i64_inj rfl rfl ok_23 rfl (all_cons (by kernel_rfl) (all_cons (by kernel_rfl) all_nil)) ?_
 intro σ0 s hS hH
 have hS := am_ (L' := [(0, .agg (aa_.cells a0)), (1, i4 a1)]) hS (by kernel_rfl)
 refine ad_ (ab_ ?_)
 refine aT_ (v := .agg (aa_.cells a0)) (cs := [i4 a0.Id, i4 a0.Kind, .str a0.Name, i4 a0.Low, a0.Keys.t, a0.Vals.t, i4 a0.Default.Kind, i4 a0.Default.Num, .str a0.Default.Text, i4 a0.Default.Ref]) rfl hS hH rfl rfl (by kernel_rfl) ?_; intro b1 σ s hH hS
 refine qs 1 [(1, i4 a1), (2, .ptr b1 0 0 10)] hS ?_; intro s hS
 refine ae_ (sq_n (ad_ (ab_ ?_)))
 refine qs 2 [(2, .ptr b1 0 0 10), (5, i4 a1), (6, .ptr b1 0 2 1)] hS ?_; intro s hS
 refine ai_ (v := .str a0.Name) 0 trivial rfl hS hH rfl rfl (by kernel_rfl) ?_; intro s hS
 refine qs 3 [(1, i4 (w4 (a1 - (a0.Name.size : Int)))), (2, .ptr b1 0 0 10)] hS ?_; intro s hS
 refine ae_ (sq_n (ad_ (ad_ (ab_ ?_))))
 refine qs 2 [(1, i4 (w4 (a1 - (a0.Name.size : Int)))), (2, .ptr b1 0 0 10), (11, .bool (decide ((w4 (a1 - (a0.Name.size : Int))) < 0)))] hS ?_; intro s hS
 refine ae_ (sq_n ?_)
 by_cases hc1 : (decide ((w4 (a1 - (a0.Name.size : Int))) < 0)) = true
 ·have h := ak_ hc1 h
  refine af_ hS rfl (fun _ => ?_) (fun hf => ah_ hc1 hf)
  refine ad_ (ab_ ?_)
  refine qs 1 [(4, i4 (-1))] hS ?_; intro s hS
  refine ae_ (sq_n (ao_ (sq_r ?_)))
  injection h with h; subst h
  exact aq_ hH (an_ (v := i4 (-1)) hS rfl r_nil) rfl (by kernel_rfl) (by simp [pureT, pureL, E_i64])
 ·have h := al_ hc1 h
  refine af_ hS rfl (fun hf => ag_ hc1 hf) (fun _ => ?_)
  refine as_ (sq_n (ad_ (ab_ ?_)))
  refine qs 1 [(1, i4 (w4 (a1 - (a0.Name.size : Int)))), (2, .ptr b1 0 0 10), (12, .ptr b1 0 4 1)] hS ?_; intro s hS
  refine ai_ (v := a0.Keys.t) 0 trivial rfl hS hH rfl rfl (by kernel_rfl) ?_; intro s hS
  refine qs 1 [(2, .ptr b1 0 0 10), (13, a0.Keys.t), (14, i4 (w4 (a1 - (a0.Name.size : Int))))] hS ?_; intro s hS
  obtain ⟨y1, hy1, h⟩ := bind_some h
  refine ar_ (a := []) (b := []) (xs := [a0.Keys.t, i4 (w4 (a1 - (a0.Name.size : Int)))]) rfl hS rfl rfl hy1 ?_; intro s hS
  refine qs 1 [(1, i4 y1), (2, .ptr b1 0 0 10)] hS ?_; intro s hS
  refine ae_ (sq_n (ad_ (ad_ (ab_ ?_))))
  refine qs 2 [(1, i4 y1), (2, .ptr b1 0 0 10), (17, .bool (decide (y1 < 0)))] hS ?_; intro s hS
  refine ae_ (sq_n ?_)
  by_cases hc2 : (decide (y1 < 0)) = true
  ·have h := ak_ hc2 h
   refine af_ hS rfl (fun _ => ?_) (fun hf => ah_ hc2 hf)
   refine ad_ (ab_ ?_)
   refine qs 1 [(4, i4 (-1))] hS ?_; intro s hS
   refine ae_ (sq_n (ao_ (sq_r ?_)))
   injection h with h; subst h
   exact aq_ hH (an_ (v := i4 (-1)) hS rfl r_nil) rfl (by kernel_rfl) (by simp [pureT, pureL, E_i64])
  ·have h := al_ hc2 h
   refine af_ hS rfl (fun hf => ag_ hc2 hf) (fun _ => ?_)
   refine as_ (sq_n (ad_ (ab_ ?_)))
   refine qs 1 [(1, i4 y1), (2, .ptr b1 0 0 10), (18, .ptr b1 0 5 1)] hS ?_; intro s hS
   refine ai_ (v := a0.Vals.t) 0 trivial rfl hS hH rfl rfl (by kernel_rfl) ?_; intro s hS
   refine qs 1 [(2, .ptr b1 0 0 10), (19, a0.Vals.t), (20, i4 y1)] hS ?_; intro s hS
   obtain ⟨y2, hy2, h⟩ := bind_some h
   refine ar_ (a := []) (b := []) (xs := [a0.Vals.t, i4 y1]) rfl hS rfl rfl hy2 ?_; intro s hS
   refine qs 1 [(1, i4 y2), (2, .ptr b1 0 0 10)] hS ?_; intro s hS
   refine ae_ (sq_n (ad_ (ad_ (ab_ ?_))))
   refine qs 2 [(1, i4 y2), (2, .ptr b1 0 0 10), (23, .bool (decide (y2 < 0)))] hS ?_; intro s hS
   refine ae_ (sq_n ?_)
   by_cases hc3 : (decide (y2 < 0)) = true
   ·have h := ak_ hc3 h
    refine af_ hS rfl (fun _ => ?_) (fun hf => ah_ hc3 hf)
    refine ad_ (ab_ ?_)
    refine qs 1 [(4, i4 (-1))] hS ?_; intro s hS
    refine ae_ (sq_n (ao_ (sq_r ?_)))
    injection h with h; subst h
    exact aq_ hH (an_ (v := i4 (-1)) hS rfl r_nil) rfl (by kernel_rfl) (by simp [pureT, pureL, E_i64])
   ·have h := al_ hc3 h
    refine af_ hS rfl (fun hf => ag_ hc3 hf) (fun _ => ?_)
    refine as_ (sq_n (ad_ (ab_ ?_)))
    refine qs 1 [(1, i4 y2), (24, .ptr b1 0 6 4)] hS ?_; intro s hS
    refine ai_ (v := .agg (ac_.cells a0.Default)) 0 trivial rfl hS hH rfl rfl (by kernel_rfl) ?_; intro s hS
    refine qs 1 [(25, .agg (ac_.cells a0.Default)), (26, i4 y2)] hS ?_; intro s hS
    obtain ⟨y3, hy3, h⟩ := bind_some h
    refine ar_ (a := []) (b := []) (xs := [.agg (ac_.cells a0.Default), i4 y2]) rfl hS rfl rfl hy3 ?_; intro s hS
    refine qs 1 [(1, i4 y3)] hS ?_; intro s hS
    refine ae_ (sq_n (ad_ (ad_ (ab_ ?_))))
    refine qs 2 [(1, i4 y3), (29, .bool (decide (y3 < 0)))] hS ?_; intro s hS
    refine ae_ (sq_n ?_)
    by_cases hc4 : (decide (y3 < 0)) = true
    ·have h := ak_ hc4 h
     refine af_ hS rfl (fun _ => ?_) (fun hf => ah_ hc4 hf)
     refine ad_ (ab_ ?_)
     refine qs 1 [(4, i4 (-1))] hS ?_; intro s hS
     refine ae_ (sq_n (ao_ (sq_r ?_)))
     injection h with h; subst h
     exact aq_ hH (an_ (v := i4 (-1)) hS rfl r_nil) rfl (by kernel_rfl) (by simp [pureT, pureL, E_i64])
    ·have h := al_ hc4 h
     refine af_ hS rfl (fun hf => ag_ hc4 hf) (fun _ => ?_)
     refine as_ (sq_n (ad_ (ab_ ?_)))
     refine qs 2 [(4, i4 y3)] hS ?_; intro s hS
     refine ae_ (sq_n (ao_ ?_))
     injection h with h; subst h
     exact aq_ hH (an_ (v := i4 y3) hS rfl r_nil) rfl (by kernel_rfl) (by simp [pureT, pureL, E_i64])
end Go.Am
