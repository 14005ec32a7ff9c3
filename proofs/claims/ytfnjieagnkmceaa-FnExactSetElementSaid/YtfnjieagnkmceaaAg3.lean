/- Functions of the program. -/
import Derived.Test.YtfnjieagnkmceaaAd0
set_option maxRecDepth 100000
set_option maxHeartbeats 4000000
set_option linter.unusedVariables false
set_option linter.unusedSimpArgs false
namespace Go.Am
open Go.Proofs
noncomputable def cp_ (a0 : aj_) (a1 : ac_) (a2 : ac_) (a3 : ac_) : Option (aj_ × Bool × Int) := ((fa_ a0 ⟨false, [a1, a2, a3]⟩).bind fun y1 => ((dN_ a1).bind fun y2 => ((db_ y2 4).bind fun y3 => ((fQ_ (⟨false, [⟨y1⟩, ⟨y3⟩]⟩)).bind fun y4 => (if (!decide (y4 = 0)) = true then (some ((⟨0, ⟨true, []⟩⟩ : aj_), false, y4)) else ((b8_ a0 a1).bind fun y5 => ((elt a0.Objects y5).bind fun y6 => ((aR_ y6).bind fun y7 => ((cf_ y7 a2).bind fun y8 => (if (decide (0 ≤ y8)) = true then ((elt y7.Vals y8).bind fun y9 => ((cg_ a0 y5 (⟨y7.Id, y7.Kind, y7.Name, y7.Low, y7.Keys, (setS y7.Vals y8 (a3 : ac_)), y7.Default⟩ : aa_)).bind fun y10 => (some (y10, true, 0)))) else (if (decide (y7.Kind = 1)) = true then ((bw_ a0).bind fun y11 => (some (y11, false, 0))) else (if (decide ((y7.Keys.l.length : Int) = 30)) = true then (some ((⟨0, ⟨true, []⟩⟩ : aj_), false, 6)) else ((appS 40 y7.Keys (⟨false, [a2]⟩ : Sl ac_)).bind fun y12 => ((appS 40 y7.Vals (⟨false, [a3]⟩ : Sl ac_)).bind fun y13 => ((cg_ a0 y5 (⟨y7.Id, y7.Kind, y7.Name, y7.Low, y12, y13, y7.Default⟩ : aa_)).bind fun y14 => (some (y14, true, 0)))))))))))))))))
theorem hC_ (a0 : aj_) (a1 : ac_) (a2 : ac_) (a3 : ac_) (r : (aj_ × Bool × Int)) (h : cp_ a0 a1 a2 a3 = some r) : cr_ a0 a1 a2 a3 = some r := by
 unfold cp_ at h
 refine cx_ rfl rfl ok_40 rfl (all_cons (by kernel_rfl) (all_cons (by kernel_rfl) (all_cons (by kernel_rfl) (all_cons (by kernel_rfl) all_nil)))) ?_
 intro σ0 s hS hH
 have hS := am_ (L' := [(0, .agg (aj_.cells a0)), (1, .agg (ac_.cells a1)), (2, .agg (ac_.cells a2)), (3, .agg (ac_.cells a3))]) hS (by kernel_rfl)
 refine ad_ (ab_ ?_)
 refine aT_ (v := .agg (aj_.cells a0)) (cs := [i4 a0.Next, a0.Objects.t]) rfl hS hH rfl rfl (by kernel_rfl) ?_; intro b1 σ s hH hS
 refine aT_ (v := .agg (ac_.cells a1)) (cs := [i4 a1.Kind, i4 a1.Num, .str a1.Text, i4 a1.Ref]) rfl hS hH rfl rfl (by kernel_rfl) ?_; intro b2 σ s hH hS
 refine aT_ (v := .agg (ac_.cells a2)) (cs := [i4 a2.Kind, i4 a2.Num, .str a2.Text, i4 a2.Ref]) rfl hS hH rfl rfl (by kernel_rfl) ?_; intro b3 σ s hH hS
 refine aT_ (v := .agg (ac_.cells a3)) (cs := [i4 a3.Kind, i4 a3.Num, .str a3.Text, i4 a3.Ref]) rfl hS hH rfl rfl (by kernel_rfl) ?_; intro b4 σ s hH hS
 refine aO_ (z := [i4 0, (nt aa_)]) rfl hS hH (by kernel_rfl) ?_; intro b5 σ s hH hS
 refine qs 2 [(4, .ptr b1 0 0 2), (5, .ptr b2 0 0 4), (6, .ptr b3 0 0 4), (7, .ptr b4 0 0 4), (8, .ptr b5 0 0 2)] hS ?_; intro s hS
 refine ae_ (sq_n (ad_ (ad_ ?_)))
 refine b6_ (W2 (fun _ => False) (fun _ => False)) (fun _ => rfl) (by kernel_rfl) (by kernel_rfl) hH ?_; intro mb σs σ hn0 hlt hlto hH
 have hlt_b2 : b2 < mb := hlt b2 _ (List.Mem.tail _ (List.Mem.tail _ (List.Mem.tail _ (List.Mem.head _))))
 refine ai_ (v := .agg (aj_.cells a0)) 4 (Or.inl (by kernel_rfl)) rfl hS hH rfl rfl (by kernel_rfl) ?_; intro s hS
 refine ai_ (v := .agg (ac_.cells a1)) 3 (Or.inl (by kernel_rfl)) rfl hS hH rfl rfl (by kernel_rfl) ?_; intro s hS
 refine ai_ (v := .agg (ac_.cells a2)) 2 (Or.inl (by kernel_rfl)) rfl hS hH rfl rfl (by kernel_rfl) ?_; intro s hS
 refine ai_ (v := .agg (ac_.cells a3)) 1 (Or.inl (by kernel_rfl)) rfl hS hH rfl rfl (by kernel_rfl) ?_; intro s hS
 refine jA_ rfl (by exact hn0) (ents := []) (e := 28) (sz := 4) (z := true) (vs := [.agg (ac_.cells a1), .agg (ac_.cells a2), .agg (ac_.cells a3)]) (zc := [i4 0, i4 0, .str ⟨#[]⟩, i4 0]) (cs := [i4 a1.Kind, i4 a1.Num, .str a1.Text, i4 a1.Ref, i4 a2.Kind, i4 a2.Num, .str a2.Text, i4 a2.Ref, i4 a3.Kind, i4 a3.Num, .str a3.Text, i4 a3.Ref]) (us := [i4 a1.Kind, i4 a1.Num, .str a1.Text, i4 a1.Ref, i4 a2.Kind, i4 a2.Num, .str a2.Text, i4 a2.Ref, i4 a3.Kind, i4 a3.Num, .str a3.Text, i4 a3.Ref]) (v := Sl.t (⟨false, [a1, a2, a3]⟩ : Sl ac_)) rfl hS hH (by kernel_rfl) (by kernel_rfl) (by kernel_rfl) (by kernel_rfl) (by kernel_rfl) (And.intro (by kernel_rfl) (And.intro (by kernel_rfl) (And.intro (by kernel_rfl) (And.intro (by kernel_rfl) (And.intro (by kernel_rfl) (And.intro (by kernel_rfl) trivial)))))) (by kernel_rfl) (HLi (HLi (HLs (HLi (HLi (HLi (HLs (HLi (HLi (HLi (HLs (HLi HL.nil)))))))))))) (by kernel_rfl) ?_; intro t1 σ s ht1 hH hS
 obtain ⟨y1, hy1, h⟩ := bind_some h
 refine dV_ (ents := [.own true 4 t1 (Sl.t (⟨false, [a1, a2, a3]⟩ : Sl ac_))]) (z := false) (ts := [.agg (aj_.cells a0), t1]) (vs := [.agg (aj_.cells a0), (Sl.t (⟨false, [a1, a2, a3]⟩ : Sl ac_))]) rfl hS rfl rfl rfl hH (HL.agg (es1 := []) (es2 := [.own true 4 t1 (Sl.t (⟨false, [a1, a2, a3]⟩ : Sl ac_))]) (HLi (HLp HL.nil)) (HL.own rfl HL.nil)) hy1 (by kernel_rfl) ?_; intro s hS
 refine ai_ (v := .agg (ac_.cells a1)) 4 (Or.inr ⟨hlt_b2, Or.inl (by kernel_rfl)⟩) rfl hS hH rfl rfl (by kernel_rfl) ?_; intro s hS
 obtain ⟨y2, hy2, h⟩ := bind_some h
 refine ar_ (a := []) (b := []) (xs := [.agg (ac_.cells a1)]) rfl hS rfl rfl hy2 ?_; intro s hS
 obtain ⟨y3, hy3, h⟩ := bind_some h
 refine ar_ (a := []) (b := []) (xs := [.bool y2, i4 4]) rfl hS rfl rfl hy3 ?_; intro s hS
 refine jA_ rfl (by exact hn0) (ents := []) (e := 2) (sz := 1) (z := true) (vs := [i4 y1, i4 y3]) (zc := [i4 0]) (cs := [i4 y1, i4 y3]) (us := [i4 y1, i4 y3]) (v := Sl.t (⟨false, [⟨y1⟩, ⟨y3⟩]⟩ : Sl (Iv .i64))) rfl hS hH (by kernel_rfl) (by kernel_rfl) (by kernel_rfl) (by kernel_rfl) (by kernel_rfl) (And.intro (by kernel_rfl) (And.intro (by kernel_rfl) (And.intro (by kernel_rfl) (And.intro (by kernel_rfl) trivial)))) (by kernel_rfl) (HLi (HLi HL.nil)) (by kernel_rfl) ?_; intro t2 σ s ht2 hH hS
 obtain ⟨y4, hy4, h⟩ := bind_some h
 refine dV_ (ents := [.own true 1 t2 (Sl.t (⟨false, [⟨y1⟩, ⟨y3⟩]⟩ : Sl (Iv .i64)))]) (z := false) (ts := [t2]) (vs := [(Sl.t (⟨false, [⟨y1⟩, ⟨y3⟩]⟩ : Sl (Iv .i64)))]) rfl hS rfl rfl rfl hH (HL.own rfl HL.nil) hy4 (by kernel_rfl) ?_; intro s hS
 refine qs 1 [(4, .ptr b1 0 0 2), (5, .ptr b2 0 0 4), (6, .ptr b3 0 0 4), (7, .ptr b4 0 0 4), (8, .ptr b5 0 0 2), (11, i4 y4)] hS ?_; intro s hS
 refine ae_ (sq_n (ad_ (ab_ ?_)))
 refine qs 2 [(4, .ptr b1 0 0 2), (5, .ptr b2 0 0 4), (6, .ptr b3 0 0 4), (7, .ptr b4 0 0 4), (8, .ptr b5 0 0 2), (11, i4 y4), (27, .bool (!decide (y4 = 0)))] hS ?_; intro s hS
 refine ae_ (sq_n ?_)
 by_cases hc1 : (!decide (y4 = 0)) = true
 ·have h := ak_ hc1 h
  refine af_ hS rfl (fun _ => ?_) (fun hf => ah_ hc1 hf)
  refine ad_ (ab_ ?_)
  refine qs 2 [(8, .ptr b5 0 0 2), (28, .agg [i4 0, (nt aa_)]), (29, i4 y4)] hS ?_; intro s hS
  have hH : Heap σ0 σ [.box b5 [i4 0, (nt aa_)], .own true 1 t2 (Sl.t (⟨false, [⟨y1⟩, ⟨y3⟩]⟩ : Sl (Iv .i64))), .own true 4 t1 (Sl.t (⟨false, [a1, a2, a3]⟩ : Sl ac_)), .box b4 (ac_.cells a3), .box b3 (ac_.cells a2), .box b2 (ac_.cells a1), .box b1 (aj_.cells a0)] := hH.sel [2, 0, 1, 3, 4, 5, 6] rfl (by kernel_rfl)
  refine aF_ (cs := [i4 0, (nt aa_)]) rfl hS hH rfl rfl (by kernel_rfl) ?_; intro σ s hH hS
  refine qs 2 [(8, .ptr b5 0 0 2), (9, .bool false), (10, i4 y4)] hS ?_; intro s hS
  refine ae_ (sq_n (ao_ (sq_r ?_)))
  injection h with h; subst h
  have hH := Heap.addNil hH true 10
  exact a8_ [(T.row true 0 [])] [.box b5 [i4 0, (nt aa_)], .own true 1 t2 (Sl.t (⟨false, [⟨y1⟩, ⟨y3⟩]⟩ : Sl (Iv .i64))), .own true 4 t1 (Sl.t (⟨false, [a1, a2, a3]⟩ : Sl ac_)), .box b4 (ac_.cells a3), .box b3 (ac_.cells a2), .box b2 (ac_.cells a1), .box b1 (aj_.cells a0)] (bf_ (v := .agg [i4 0, (nt aa_)]) hS (hH.at 1 rfl) rfl (by kernel_rfl) (an_ (v := .bool false) hS rfl (an_ (v := i4 y4) hS rfl r_nil))) (by kernel_rfl) rfl hH (by kernel_rfl)
 ·have h := al_ hc1 h
  refine af_ hS rfl (fun hf => ag_ hc1 hf) (fun _ => ?_)
  refine as_ (sq_n (ad_ (ab_ ?_)))
  refine ai_ (v := .agg (aj_.cells a0)) 6 trivial rfl hS hH rfl rfl (by kernel_rfl) ?_; intro s hS
  refine ai_ (v := .agg (ac_.cells a1)) 5 trivial rfl hS hH rfl rfl (by kernel_rfl) ?_; intro s hS
  obtain ⟨y5, hy5, h⟩ := bind_some h
  refine ar_ (a := []) (b := []) (xs := [.agg (aj_.cells a0), .agg (ac_.cells a1)]) rfl hS rfl rfl hy5 ?_; intro s hS
  refine qs 1 [(4, .ptr b1 0 0 2), (6, .ptr b3 0 0 4), (7, .ptr b4 0 0 4), (8, .ptr b5 0 0 2), (12, i4 y5)] hS ?_; intro s hS
  refine ae_ (sq_n (ad_ (ab_ ?_)))
  refine qs 1 [(4, .ptr b1 0 0 2), (6, .ptr b3 0 0 4), (7, .ptr b4 0 0 4), (8, .ptr b5 0 0 2), (12, i4 y5), (33, .ptr b1 0 1 1)] hS ?_; intro s hS
  refine ai_ (v := a0.Objects.t) 6 trivial rfl hS hH rfl rfl (by kernel_rfl) ?_; intro s hS
  refine qs 1 [(4, .ptr b1 0 0 2), (6, .ptr b3 0 0 4), (7, .ptr b4 0 0 4), (8, .ptr b5 0 0 2), (12, i4 y5), (34, a0.Objects.t), (35, i4 y5)] hS ?_; intro s hS
  obtain ⟨y6, hy6, h⟩ := bind_some h
  refine bh_ (sl := a0.Objects) (e := 30) [i4 y6.Id, i4 y6.Kind, .str y6.Name, i4 y6.Low, y6.Keys.t, y6.Vals.t, i4 y6.Default.Kind, i4 y6.Default.Num, .str y6.Default.Text, i4 y6.Default.Ref] rfl hS rfl rfl (by kernel_rfl) (by kernel_rfl) hy6 rfl ?_; intro rest1 s hS
  refine qs 1 [(4, .ptr b1 0 0 2), (6, .ptr b3 0 0 4), (7, .ptr b4 0 0 4), (8, .ptr b5 0 0 2), (12, i4 y5), (37, .agg (aa_.cells y6))] hS ?_; intro s hS
  obtain ⟨y7, hy7, h⟩ := bind_some h
  refine a2_ (ents := []) (z := false) (ts := [.agg (aa_.cells y6)]) (vs := [.agg (aa_.cells y6)]) rfl rfl hS rfl rfl rfl hH (HL.agg (es1 := []) (es2 := []) (HLi (HLi (HLs (HLi (HLp (HLp (HLi (HLi (HLs (HLi HL.nil)))))))))) HL.nil) hy7 ?_; intro hs σ s hl hH hS
  obtain ⟨t3, t4, rfl⟩ := len2 hl
  have hH : Heap σ0 σ [.own true 4 t3 y7.Keys.t, .own true 4 t4 y7.Vals.t, .own true 1 t2 (Sl.t (⟨false, [⟨y1⟩, ⟨y3⟩]⟩ : Sl (Iv .i64))), .own true 4 t1 (Sl.t (⟨false, [a1, a2, a3]⟩ : Sl ac_)), .box b5 [i4 0, (nt aa_)], .box b4 (ac_.cells a3), .box b3 (ac_.cells a2), .box b2 (ac_.cells a1), .box b1 (aj_.cells a0)] := hH
  have ht3 : aV_ t3 := Heap.one hH
  have ht4 : aV_ t4 := Heap.one (hH.at 1 rfl)
  refine aO_ (z := [i4 0, i4 0, .str ⟨#[]⟩, i4 0, (nt ac_), (nt ac_), i4 0, i4 0, .str ⟨#[]⟩, i4 0]) rfl hS hH (by kernel_rfl) ?_; intro b6 σ s hH hS
  refine aF_ (cs := [i4 y7.Id, i4 y7.Kind, .str y7.Name, i4 y7.Low, t3, t4, i4 y7.Default.Kind, i4 y7.Default.Num, .str y7.Default.Text, i4 y7.Default.Ref]) rfl hS hH rfl rfl (by simp [ht3.1, ht3.2, ht4.1, ht4.2]) ?_; intro σ s hH hS
  refine ae_ (sq_n (ad_ (ab_ ?_)))
  refine ai_ (v := .agg [i4 y7.Id, i4 y7.Kind, .str y7.Name, i4 y7.Low, t3, t4, i4 y7.Default.Kind, i4 y7.Default.Num, .str y7.Default.Text, i4 y7.Default.Ref]) 0 trivial rfl hS hH rfl rfl (by kernel_rfl) ?_; intro s hS
  refine ai_ (v := .agg (ac_.cells a2)) 7 trivial rfl hS hH rfl rfl (by kernel_rfl) ?_; intro s hS
  obtain ⟨y8, hy8, h⟩ := bind_some h
  have hH : Heap σ0 σ [.own true 4 t3 y7.Keys.t, .own true 4 t4 y7.Vals.t, .box b6 [i4 y7.Id, i4 y7.Kind, .str y7.Name, i4 y7.Low, t3, t4, i4 y7.Default.Kind, i4 y7.Default.Num, .str y7.Default.Text, i4 y7.Default.Ref], .own true 1 t2 (Sl.t (⟨false, [⟨y1⟩, ⟨y3⟩]⟩ : Sl (Iv .i64))), .own true 4 t1 (Sl.t (⟨false, [a1, a2, a3]⟩ : Sl ac_)), .box b5 [i4 0, (nt aa_)], .box b4 (ac_.cells a3), .box b3 (ac_.cells a2), .box b2 (ac_.cells a1), .box b1 (aj_.cells a0)] := hH.sel [1, 2, 0, 3, 4, 5, 6, 7, 8, 9] rfl (by kernel_rfl)
  refine dV_ (ents := [.own true 4 t3 y7.Keys.t, .own true 4 t4 y7.Vals.t]) (z := false) (ts := [.agg [i4 y7.Id, i4 y7.Kind, .str y7.Name, i4 y7.Low, t3, t4, i4 y7.Default.Kind, i4 y7.Default.Num, .str y7.Default.Text, i4 y7.Default.Ref], .agg (ac_.cells a2)]) (vs := [.agg (aa_.cells y7), .agg (ac_.cells a2)]) rfl hS rfl rfl rfl hH (HL.agg (es1 := [.own true 4 t3 y7.Keys.t, .own true 4 t4 y7.Vals.t]) (es2 := []) (HLi (HLi (HLs (HLi (HL.own rfl (HL.own rfl (HLi (HLi (HLs (HLi HL.nil)))))))))) (HL.agg (es1 := []) (es2 := []) (HLi (HLi (HLs (HLi HL.nil)))) HL.nil)) hy8 (by kernel_rfl) ?_; intro s hS
  refine qs 1 [(4, .ptr b1 0 0 2), (6, .ptr b3 0 0 4), (7, .ptr b4 0 0 4), (8, .ptr b5 0 0 2), (12, i4 y5), (13, .ptr b6 0 0 10), (14, i4 y8)] hS ?_; intro s hS
  refine ae_ (sq_n (ad_ (aw_ (ad_ (ab_ ?_)))))
  refine qs 3 [(4, .ptr b1 0 0 2), (6, .ptr b3 0 0 4), (7, .ptr b4 0 0 4), (8, .ptr b5 0 0 2), (12, i4 y5), (13, .ptr b6 0 0 10), (14, i4 y8), (54, .bool (decide (0 ≤ y8)))] hS ?_; intro s hS
  refine ae_ (sq_n ?_)
  by_cases hc2 : (decide (0 ≤ y8)) = true
  ·have h := ak_ hc2 h
   refine af_ hS rfl (fun _ => ?_) (fun hf => ah_ hc2 hf)
   refine ab_ ?_
   refine qs 1 [(4, .ptr b1 0 0 2), (7, .ptr b4 0 0 4), (8, .ptr b5 0 0 2), (12, i4 y5), (13, .ptr b6 0 0 10), (14, i4 y8), (57, .ptr b6 0 5 1)] hS ?_; intro s hS
   refine ai_ (v := t4) 2 trivial rfl hS hH rfl rfl (by kernel_rfl) ?_; intro s hS
   refine qs 1 [(4, .ptr b1 0 0 2), (7, .ptr b4 0 0 4), (8, .ptr b5 0 0 2), (12, i4 y5), (13, .ptr b6 0 0 10), (58, t4), (59, i4 y8)] hS ?_; intro s hS
   refine ai_ (v := .agg (ac_.cells a3)) 6 trivial rfl hS hH rfl rfl (by kernel_rfl) ?_; intro s hS
   have hH : Heap σ0 σ [.own true 4 t4 y7.Vals.t, .own true 4 t3 y7.Keys.t, .box b6 [i4 y7.Id, i4 y7.Kind, .str y7.Name, i4 y7.Low, t3, t4, i4 y7.Default.Kind, i4 y7.Default.Num, .str y7.Default.Text, i4 y7.Default.Ref], .own true 1 t2 (Sl.t (⟨false, [⟨y1⟩, ⟨y3⟩]⟩ : Sl (Iv .i64))), .own true 4 t1 (Sl.t (⟨false, [a1, a2, a3]⟩ : Sl ac_)), .box b5 [i4 0, (nt aa_)], .box b4 (ac_.cells a3), .box b3 (ac_.cells a2), .box b2 (ac_.cells a1), .box b1 (aj_.cells a0)] := hH.sel [1, 0, 2, 3, 4, 5, 6, 7, 8, 9] rfl (by kernel_rfl)
   obtain ⟨y9, hy9, h⟩ := bind_some h
   refine cP_ (a := y7.Vals) (e := 28) (fun _ _ _ _ _ => trivial) rfl hS hH rfl rfl (by kernel_rfl) (by kernel_rfl) hy9 ?_; intro hb1 hb1e s hl_hb1 hS
   refine bQ_ (ents := []) (a := y7.Vals) (j := y8) (y := y9) (y' := (a3 : ac_)) (off := 0) (c := [i4 y9.Kind, i4 y9.Num, .str y9.Text, i4 y9.Ref]) (us := [i4 a3.Kind, i4 a3.Num, .str a3.Text, i4 a3.Ref]) (vs := [i4 a3.Kind, i4 a3.Num, .str a3.Text, i4 a3.Ref]) (v := .agg (ac_.cells a3)) rfl hS hH hl_hb1 rfl rfl rfl (by kernel_rfl) (by kernel_rfl) rfl hy9 rfl (HLi (HLi (HLs (HLi HL.nil)))) rfl (by kernel_rfl) ?_; intro σ s hH hS
   refine ae_ (bk_n (sq_n (ad_ (ab_ ?_))))
   refine ai_ (v := .agg (aj_.cells a0)) 9 trivial rfl hS hH rfl rfl (by kernel_rfl) ?_; intro s hS
   refine qs 1 [(8, .ptr b5 0 0 2), (13, .ptr b6 0 0 10), (74, .agg (aj_.cells a0)), (75, i4 y5)] hS ?_; intro s hS
   refine ai_ (v := .agg [i4 y7.Id, i4 y7.Kind, .str y7.Name, i4 y7.Low, t3, t4, i4 y7.Default.Kind, i4 y7.Default.Num, .str y7.Default.Text, i4 y7.Default.Ref]) 2 trivial rfl hS hH rfl rfl (by kernel_rfl) ?_; intro s hS
   obtain ⟨y10, hy10, h⟩ := bind_some h
   have hH : Heap σ0 σ [.own true 4 t3 y7.Keys.t, .own true 4 t4 (setS y7.Vals y8 (a3 : ac_)).t, .box b6 [i4 y7.Id, i4 y7.Kind, .str y7.Name, i4 y7.Low, t3, t4, i4 y7.Default.Kind, i4 y7.Default.Num, .str y7.Default.Text, i4 y7.Default.Ref], .own true 1 t2 (Sl.t (⟨false, [⟨y1⟩, ⟨y3⟩]⟩ : Sl (Iv .i64))), .own true 4 t1 (Sl.t (⟨false, [a1, a2, a3]⟩ : Sl ac_)), .box b5 [i4 0, (nt aa_)], .box b4 (ac_.cells a3), .box b3 (ac_.cells a2), .box b2 (ac_.cells a1), .box b1 (aj_.cells a0)] := hH.sel [1, 0, 2, 3, 4, 5, 6, 7, 8, 9] rfl (by kernel_rfl)
   refine a2_ (ents := [.own true 4 t3 y7.Keys.t, .own true 4 t4 (setS y7.Vals y8 (a3 : ac_)).t]) (z := false) (ts := [.agg (aj_.cells a0), i4 y5, .agg [i4 y7.Id, i4 y7.Kind, .str y7.Name, i4 y7.Low, t3, t4, i4 y7.Default.Kind, i4 y7.Default.Num, .str y7.Default.Text, i4 y7.Default.Ref]]) (vs := [.agg (aj_.cells a0), i4 y5, .agg [i4 y7.Id, i4 y7.Kind, .str y7.Name, i4 y7.Low, y7.Keys.t, (setS y7.Vals y8 (a3 : ac_)).t, i4 y7.Default.Kind, i4 y7.Default.Num, .str y7.Default.Text, i4 y7.Default.Ref]]) rfl rfl hS rfl rfl rfl hH (HL.agg (es1 := []) (es2 := [.own true 4 t3 y7.Keys.t, .own true 4 t4 (setS y7.Vals y8 (a3 : ac_)).t]) (HLi (HLp HL.nil)) (HLi (HL.agg (es1 := [.own true 4 t3 y7.Keys.t, .own true 4 t4 (setS y7.Vals y8 (a3 : ac_)).t]) (es2 := []) (HLi (HLi (HLs (HLi (HL.own rfl (HL.own rfl (HLi (HLi (HLs (HLi HL.nil)))))))))) HL.nil))) hy10 ?_; intro hs σ s hl hH hS
   obtain ⟨t5, rfl⟩ := len1 hl
   have hH : Heap σ0 σ [.own true 10 t5 y10.Objects.t, .own true 4 t3 y7.Keys.t, .own true 4 t4 (setS y7.Vals y8 (a3 : ac_)).t, .box b6 [i4 y7.Id, i4 y7.Kind, .str y7.Name, i4 y7.Low, t3, t4, i4 y7.Default.Kind, i4 y7.Default.Num, .str y7.Default.Text, i4 y7.Default.Ref], .own true 1 t2 (Sl.t (⟨false, [⟨y1⟩, ⟨y3⟩]⟩ : Sl (Iv .i64))), .own true 4 t1 (Sl.t (⟨false, [a1, a2, a3]⟩ : Sl ac_)), .box b5 [i4 0, (nt aa_)], .box b4 (ac_.cells a3), .box b3 (ac_.cells a2), .box b2 (ac_.cells a1), .box b1 (aj_.cells a0)] := hH
   have ht5 : aV_ t5 := Heap.one hH
   have hH : Heap σ0 σ [.box b5 [i4 0, (nt aa_)], .own true 10 t5 y10.Objects.t, .own true 4 t3 y7.Keys.t, .own true 4 t4 (setS y7.Vals y8 (a3 : ac_)).t, .box b6 [i4 y7.Id, i4 y7.Kind, .str y7.Name, i4 y7.Low, t3, t4, i4 y7.Default.Kind, i4 y7.Default.Num, .str y7.Default.Text, i4 y7.Default.Ref], .own true 1 t2 (Sl.t (⟨false, [⟨y1⟩, ⟨y3⟩]⟩ : Sl (Iv .i64))), .own true 4 t1 (Sl.t (⟨false, [a1, a2, a3]⟩ : Sl ac_)), .box b4 (ac_.cells a3), .box b3 (ac_.cells a2), .box b2 (ac_.cells a1), .box b1 (aj_.cells a0)] := hH.sel [6, 0, 1, 2, 3, 4, 5, 7, 8, 9, 10] rfl (by kernel_rfl)
   refine aF_ (cs := [i4 y10.Next, t5]) rfl hS hH rfl rfl (by simp [ht5.1, ht5.2]) ?_; intro σ s hH hS
   refine qs 2 [(8, .ptr b5 0 0 2), (9, .bool true), (10, i4 0)] hS ?_; intro s hS
   refine ae_ (sq_n (ao_ ?_))
   injection h with h; subst h
   have hH : Heap σ0 σ [.own true 10 t5 y10.Objects.t, .box b5 [i4 y10.Next, t5], .own true 4 t3 y7.Keys.t, .own true 4 t4 (setS y7.Vals y8 (a3 : ac_)).t, .box b6 [i4 y7.Id, i4 y7.Kind, .str y7.Name, i4 y7.Low, t3, t4, i4 y7.Default.Kind, i4 y7.Default.Num, .str y7.Default.Text, i4 y7.Default.Ref], .own true 1 t2 (Sl.t (⟨false, [⟨y1⟩, ⟨y3⟩]⟩ : Sl (Iv .i64))), .own true 4 t1 (Sl.t (⟨false, [a1, a2, a3]⟩ : Sl ac_)), .box b4 (ac_.cells a3), .box b3 (ac_.cells a2), .box b2 (ac_.cells a1), .box b1 (aj_.cells a0)] := hH.sel [1, 0, 2, 3, 4, 5, 6, 7, 8, 9, 10] rfl (by kernel_rfl)
   exact a8_ [t5] [.box b5 [i4 y10.Next, t5], .own true 4 t3 y7.Keys.t, .own true 4 t4 (setS y7.Vals y8 (a3 : ac_)).t, .box b6 [i4 y7.Id, i4 y7.Kind, .str y7.Name, i4 y7.Low, t3, t4, i4 y7.Default.Kind, i4 y7.Default.Num, .str y7.Default.Text, i4 y7.Default.Ref], .own true 1 t2 (Sl.t (⟨false, [⟨y1⟩, ⟨y3⟩]⟩ : Sl (Iv .i64))), .own true 4 t1 (Sl.t (⟨false, [a1, a2, a3]⟩ : Sl ac_)), .box b4 (ac_.cells a3), .box b3 (ac_.cells a2), .box b2 (ac_.cells a1), .box b1 (aj_.cells a0)] (bf_ (v := .agg [i4 y10.Next, t5]) hS (hH.at 1 rfl) rfl (by kernel_rfl) (an_ (v := .bool true) hS rfl (an_ (v := i4 0) hS rfl r_nil))) (by kernel_rfl) rfl hH (by kernel_rfl)
  ·have h := al_ hc2 h
   refine af_ hS rfl (fun hf => ag_ hc2 hf) (fun _ => ?_)
   refine ad_ (ab_ ?_)
   refine qs 1 [(4, .ptr b1 0 0 2), (6, .ptr b3 0 0 4), (7, .ptr b4 0 0 4), (8, .ptr b5 0 0 2), (12, i4 y5), (13, .ptr b6 0 0 10), (63, .ptr b6 0 1 1)] hS ?_; intro s hS
   refine ai_ (v := i4 y7.Kind) 2 trivial rfl hS hH rfl rfl (by kernel_rfl) ?_; intro s hS
   refine qs 2 [(4, .ptr b1 0 0 2), (6, .ptr b3 0 0 4), (7, .ptr b4 0 0 4), (8, .ptr b5 0 0 2), (12, i4 y5), (13, .ptr b6 0 0 10), (62, .bool (decide (y7.Kind = 1)))] hS ?_; intro s hS
   refine ae_ (sq_n ?_)
   by_cases hc3 : (decide (y7.Kind = 1)) = true
   ·have h := ak_ hc3 h
    refine af_ hS rfl (fun _ => ?_) (fun hf => ah_ hc3 hf)
    refine ad_ (ab_ ?_)
    refine ai_ (v := .agg (aj_.cells a0)) 9 trivial rfl hS hH rfl rfl (by kernel_rfl) ?_; intro s hS
    obtain ⟨y11, hy11, h⟩ := bind_some h
    refine a2_ (ents := []) (z := false) (ts := [.agg (aj_.cells a0)]) (vs := [.agg (aj_.cells a0)]) rfl rfl hS rfl rfl rfl hH (HL.agg (es1 := []) (es2 := []) (HLi (HLp HL.nil)) HL.nil) hy11 ?_; intro hs σ s hl hH hS
    obtain ⟨t6, rfl⟩ := len1 hl
    have hH : Heap σ0 σ [.own true 10 t6 y11.Objects.t, .own true 4 t3 y7.Keys.t, .own true 4 t4 y7.Vals.t, .box b6 [i4 y7.Id, i4 y7.Kind, .str y7.Name, i4 y7.Low, t3, t4, i4 y7.Default.Kind, i4 y7.Default.Num, .str y7.Default.Text, i4 y7.Default.Ref], .own true 1 t2 (Sl.t (⟨false, [⟨y1⟩, ⟨y3⟩]⟩ : Sl (Iv .i64))), .own true 4 t1 (Sl.t (⟨false, [a1, a2, a3]⟩ : Sl ac_)), .box b5 [i4 0, (nt aa_)], .box b4 (ac_.cells a3), .box b3 (ac_.cells a2), .box b2 (ac_.cells a1), .box b1 (aj_.cells a0)] := hH
    have ht6 : aV_ t6 := Heap.one hH
    have hH : Heap σ0 σ [.box b5 [i4 0, (nt aa_)], .own true 10 t6 y11.Objects.t, .own true 4 t3 y7.Keys.t, .own true 4 t4 y7.Vals.t, .box b6 [i4 y7.Id, i4 y7.Kind, .str y7.Name, i4 y7.Low, t3, t4, i4 y7.Default.Kind, i4 y7.Default.Num, .str y7.Default.Text, i4 y7.Default.Ref], .own true 1 t2 (Sl.t (⟨false, [⟨y1⟩, ⟨y3⟩]⟩ : Sl (Iv .i64))), .own true 4 t1 (Sl.t (⟨false, [a1, a2, a3]⟩ : Sl ac_)), .box b4 (ac_.cells a3), .box b3 (ac_.cells a2), .box b2 (ac_.cells a1), .box b1 (aj_.cells a0)] := hH.sel [6, 0, 1, 2, 3, 4, 5, 7, 8, 9, 10] rfl (by kernel_rfl)
    refine aF_ (cs := [i4 y11.Next, t6]) rfl hS hH rfl rfl (by simp [ht6.1, ht6.2]) ?_; intro σ s hH hS
    refine qs 2 [(8, .ptr b5 0 0 2), (9, .bool false), (10, i4 0)] hS ?_; intro s hS
    refine ae_ (sq_n (ao_ (bk_r (sq_r ?_))))
    injection h with h; subst h
    have hH : Heap σ0 σ [.own true 10 t6 y11.Objects.t, .box b5 [i4 y11.Next, t6], .own true 4 t3 y7.Keys.t, .own true 4 t4 y7.Vals.t, .box b6 [i4 y7.Id, i4 y7.Kind, .str y7.Name, i4 y7.Low, t3, t4, i4 y7.Default.Kind, i4 y7.Default.Num, .str y7.Default.Text, i4 y7.Default.Ref], .own true 1 t2 (Sl.t (⟨false, [⟨y1⟩, ⟨y3⟩]⟩ : Sl (Iv .i64))), .own true 4 t1 (Sl.t (⟨false, [a1, a2, a3]⟩ : Sl ac_)), .box b4 (ac_.cells a3), .box b3 (ac_.cells a2), .box b2 (ac_.cells a1), .box b1 (aj_.cells a0)] := hH.sel [1, 0, 2, 3, 4, 5, 6, 7, 8, 9, 10] rfl (by kernel_rfl)
    exact a8_ [t6] [.box b5 [i4 y11.Next, t6], .own true 4 t3 y7.Keys.t, .own true 4 t4 y7.Vals.t, .box b6 [i4 y7.Id, i4 y7.Kind, .str y7.Name, i4 y7.Low, t3, t4, i4 y7.Default.Kind, i4 y7.Default.Num, .str y7.Default.Text, i4 y7.Default.Ref], .own true 1 t2 (Sl.t (⟨false, [⟨y1⟩, ⟨y3⟩]⟩ : Sl (Iv .i64))), .own true 4 t1 (Sl.t (⟨false, [a1, a2, a3]⟩ : Sl ac_)), .box b4 (ac_.cells a3), .box b3 (ac_.cells a2), .box b2 (ac_.cells a1), .box b1 (aj_.cells a0)] (bf_ (v := .agg [i4 y11.Next, t6]) hS (hH.at 1 rfl) rfl (by kernel_rfl) (an_ (v := .bool false) hS rfl (an_ (v := i4 0) hS rfl r_nil))) (by kernel_rfl) rfl hH (by kernel_rfl)
   ·have h := al_ hc3 h
    refine af_ hS rfl (fun hf => ag_ hc3 hf) (fun _ => ?_)
    refine ad_ (ab_ ?_)
    refine qs 1 [(4, .ptr b1 0 0 2), (6, .ptr b3 0 0 4), (7, .ptr b4 0 0 4), (8, .ptr b5 0 0 2), (12, i4 y5), (13, .ptr b6 0 0 10), (69, .ptr b6 0 4 1)] hS ?_; intro s hS
    refine ai_ (v := t3) 2 trivial rfl hS hH rfl rfl (by kernel_rfl) ?_; intro s hS
    refine la_ (a := y7.Keys) rfl hS hH rfl (by kernel_rfl) ?_; intro s hS
    refine qs 2 [(4, .ptr b1 0 0 2), (6, .ptr b3 0 0 4), (7, .ptr b4 0 0 4), (8, .ptr b5 0 0 2), (12, i4 y5), (13, .ptr b6 0 0 10), (68, .bool (decide ((y7.Keys.l.length : Int) = 30)))] hS ?_; intro s hS
    refine ae_ (sq_n ?_)
    by_cases hc4 : (decide ((y7.Keys.l.length : Int) = 30)) = true
    ·have h := ak_ hc4 h
     refine af_ hS rfl (fun _ => ?_) (fun hf => ah_ hc4 hf)
     refine ad_ (ab_ ?_)
     refine qs 1 [(8, .ptr b5 0 0 2), (73, .agg [i4 0, (nt aa_)])] hS ?_; intro s hS
     have hH : Heap σ0 σ [.box b5 [i4 0, (nt aa_)], .own true 4 t3 y7.Keys.t, .own true 4 t4 y7.Vals.t, .box b6 [i4 y7.Id, i4 y7.Kind, .str y7.Name, i4 y7.Low, t3, t4, i4 y7.Default.Kind, i4 y7.Default.Num, .str y7.Default.Text, i4 y7.Default.Ref], .own true 1 t2 (Sl.t (⟨false, [⟨y1⟩, ⟨y3⟩]⟩ : Sl (Iv .i64))), .own true 4 t1 (Sl.t (⟨false, [a1, a2, a3]⟩ : Sl ac_)), .box b4 (ac_.cells a3), .box b3 (ac_.cells a2), .box b2 (ac_.cells a1), .box b1 (aj_.cells a0)] := hH.sel [5, 0, 1, 2, 3, 4, 6, 7, 8, 9] rfl (by kernel_rfl)
     refine aF_ (cs := [i4 0, (nt aa_)]) rfl hS hH rfl rfl (by kernel_rfl) ?_; intro σ s hH hS
     refine qs 2 [(8, .ptr b5 0 0 2), (9, .bool false), (10, i4 6)] hS ?_; intro s hS
     refine ae_ (sq_n (ao_ (bk_r (sq_r ?_))))
     injection h with h; subst h
     have hH := Heap.addNil hH true 10
     exact a8_ [(T.row true 0 [])] [.box b5 [i4 0, (nt aa_)], .own true 4 t3 y7.Keys.t, .own true 4 t4 y7.Vals.t, .box b6 [i4 y7.Id, i4 y7.Kind, .str y7.Name, i4 y7.Low, t3, t4, i4 y7.Default.Kind, i4 y7.Default.Num, .str y7.Default.Text, i4 y7.Default.Ref], .own true 1 t2 (Sl.t (⟨false, [⟨y1⟩, ⟨y3⟩]⟩ : Sl (Iv .i64))), .own true 4 t1 (Sl.t (⟨false, [a1, a2, a3]⟩ : Sl ac_)), .box b4 (ac_.cells a3), .box b3 (ac_.cells a2), .box b2 (ac_.cells a1), .box b1 (aj_.cells a0)] (bf_ (v := .agg [i4 0, (nt aa_)]) hS (hH.at 1 rfl) rfl (by kernel_rfl) (an_ (v := .bool false) hS rfl (an_ (v := i4 6) hS rfl r_nil))) (by kernel_rfl) rfl hH (by kernel_rfl)
    ·have h := al_ hc4 h
     refine af_ hS rfl (fun hf => ag_ hc4 hf) (fun _ => ?_)
     refine b6_ (W2 (fun x => x ∉ ([b6, b4] : List Nat)) (fun _ => True)) (fun _ => rfl) (by kernel_rfl) (by kernel_rfl) hH ?_; intro mb σs σ hn0 hlt hlto hH
     have hlt_b6 : b6 < mb := hlt b6 _ (List.Mem.tail _ (List.Mem.tail _ (List.Mem.head _)))
     have hlt_b4 : b4 < mb := hlt b4 _ (List.Mem.tail _ (List.Mem.tail _ (List.Mem.tail _ (List.Mem.tail _ (List.Mem.tail _ (List.Mem.tail _ (List.Mem.head _)))))))
     have hnwT_b6 : ¬ (fun x => x ∉ ([b6, b4] : List Nat)) b6 := (fun h => h (by simp))
     have hnwT_b4 : ¬ (fun x => x ∉ ([b6, b4] : List Nat)) b4 := (fun h => h (by simp))
     refine qs 1 [(4, .ptr b1 0 0 2), (6, .ptr b3 0 0 4), (7, .ptr b4 0 0 4), (8, .ptr b5 0 0 2), (12, i4 y5), (13, .ptr b6 0 0 10), (42, .ptr b6 0 4 1)] hS ?_; intro s hS
     refine ai_ (v := t3) 2 (Or.inl (by kernel_rfl)) rfl hS hH rfl rfl (by kernel_rfl) ?_; intro s hS
     refine ai_ (v := .agg (ac_.cells a2)) 7 (Or.inl (by kernel_rfl)) rfl hS hH rfl rfl (by kernel_rfl) ?_; intro s hS
     refine jA_ rfl (by exact hn0) (ents := []) (e := 28) (sz := 4) (z := true) (vs := [.agg (ac_.cells a2)]) (zc := [i4 0, i4 0, .str ⟨#[]⟩, i4 0]) (cs := [i4 a2.Kind, i4 a2.Num, .str a2.Text, i4 a2.Ref]) (us := [i4 a2.Kind, i4 a2.Num, .str a2.Text, i4 a2.Ref]) (v := Sl.t (⟨false, [a2]⟩ : Sl ac_)) rfl hS hH (by kernel_rfl) (by kernel_rfl) (by kernel_rfl) (by kernel_rfl) (by kernel_rfl) (And.intro (by kernel_rfl) (And.intro (by kernel_rfl) trivial)) (by kernel_rfl) (HLi (HLi (HLs (HLi HL.nil)))) (by kernel_rfl) ?_; intro t7 σ s ht7 hH hS
     have hH : Heap σ0 σ [.own true 4 t3 y7.Keys.t, .own true 4 t7 (Sl.t (⟨false, [a2]⟩ : Sl ac_)), .own true 4 t4 y7.Vals.t, .box b6 [i4 y7.Id, i4 y7.Kind, .str y7.Name, i4 y7.Low, t3, t4, i4 y7.Default.Kind, i4 y7.Default.Num, .str y7.Default.Text, i4 y7.Default.Ref], .own true 1 t2 (Sl.t (⟨false, [⟨y1⟩, ⟨y3⟩]⟩ : Sl (Iv .i64))), .own true 4 t1 (Sl.t (⟨false, [a1, a2, a3]⟩ : Sl ac_)), .box b5 [i4 0, (nt aa_)], .box b4 (ac_.cells a3), .box b3 (ac_.cells a2), .box b2 (ac_.cells a1), .box b1 (aj_.cells a0)] := hH.sel [1, 0, 2, 3, 4, 5, 6, 7, 8, 9, 10] rfl (by kernel_rfl)
     obtain ⟨y12, hy12, h⟩ := bind_some h
     refine iV_ rfl (by exact hn0) (z := true) (t1 := t3) (a := y7.Keys) (b := (⟨false, [a2]⟩ : Sl ac_)) (e := 28) (by_ := 40) (zc := [i4 0, i4 0, .str ⟨#[]⟩, i4 0]) (by exact fun b e o n h => Or.inr ⟨true, by kernel_rfl, (by simp only [List.mem_cons, List.not_mem_nil, or_false, not_or, not_false_eq_true]; exact ⟨(Heap.neO hH 0 3 (by decide) (by rw [← h]; rfl) rfl), (Heap.neO hH 0 7 (by decide) (by rw [← h]; rfl) rfl)⟩)⟩) rfl hS hH rfl rfl (by kernel_rfl) (by kernel_rfl) (by kernel_rfl) (by kernel_rfl) (by kernel_rfl) (by kernel_rfl) hy12 ?_; intro t8 σ s ht8 hH hS
     refine qs 1 [(4, .ptr b1 0 0 2), (7, .ptr b4 0 0 4), (8, .ptr b5 0 0 2), (12, i4 y5), (13, .ptr b6 0 0 10), (46, t8), (47, .ptr b6 0 5 1)] hS ?_; intro s hS
     refine ai_ (v := t4) 2 (Or.inr ⟨hlt_b6, Or.inr (Or.inl ⟨false, by kernel_rfl, hnwT_b6⟩)⟩) rfl hS hH rfl rfl (by kernel_rfl) ?_; intro s hS
     refine ai_ (v := .agg (ac_.cells a3)) 6 (Or.inr ⟨hlt_b4, Or.inr (Or.inl ⟨false, by kernel_rfl, hnwT_b4⟩)⟩) rfl hS hH rfl rfl (by kernel_rfl) ?_; intro s hS
     refine jA_ rfl (by exact hn0) (ents := []) (e := 28) (sz := 4) (z := true) (vs := [.agg (ac_.cells a3)]) (zc := [i4 0, i4 0, .str ⟨#[]⟩, i4 0]) (cs := [i4 a3.Kind, i4 a3.Num, .str a3.Text, i4 a3.Ref]) (us := [i4 a3.Kind, i4 a3.Num, .str a3.Text, i4 a3.Ref]) (v := Sl.t (⟨false, [a3]⟩ : Sl ac_)) rfl hS hH (by kernel_rfl) (by kernel_rfl) (by kernel_rfl) (by kernel_rfl) (by kernel_rfl) (And.intro (by kernel_rfl) (And.intro (by kernel_rfl) trivial)) (by kernel_rfl) (HLi (HLi (HLs (HLi HL.nil)))) (by kernel_rfl) ?_; intro t9 σ s ht9 hH hS
     have hH : Heap σ0 σ [.own true 4 t4 y7.Vals.t, .own true 4 t9 (Sl.t (⟨false, [a3]⟩ : Sl ac_)), .own true 4 t8 y12.t, .box b6 [i4 y7.Id, i4 y7.Kind, .str y7.Name, i4 y7.Low, t3, t4, i4 y7.Default.Kind, i4 y7.Default.Num, .str y7.Default.Text, i4 y7.Default.Ref], .own true 1 t2 (Sl.t (⟨false, [⟨y1⟩, ⟨y3⟩]⟩ : Sl (Iv .i64))), .own true 4 t1 (Sl.t (⟨false, [a1, a2, a3]⟩ : Sl ac_)), .box b5 [i4 0, (nt aa_)], .box b4 (ac_.cells a3), .box b3 (ac_.cells a2), .box b2 (ac_.cells a1), .box b1 (aj_.cells a0)] := hH.sel [2, 0, 1, 3, 4, 5, 6, 7, 8, 9, 10] rfl (by kernel_rfl)
     obtain ⟨y13, hy13, h⟩ := bind_some h
     refine iV_ rfl (by exact hn0) (z := true) (t1 := t4) (a := y7.Vals) (b := (⟨false, [a3]⟩ : Sl ac_)) (e := 28) (by_ := 40) (zc := [i4 0, i4 0, .str ⟨#[]⟩, i4 0]) (by exact fun b e o n h => Or.inr ⟨true, by kernel_rfl, (by simp only [List.mem_cons, List.not_mem_nil, or_false, not_or, not_false_eq_true]; exact ⟨(Heap.neO hH 0 3 (by decide) (by rw [← h]; rfl) rfl), (Heap.neO hH 0 7 (by decide) (by rw [← h]; rfl) rfl)⟩)⟩) rfl hS hH rfl rfl (by kernel_rfl) (by kernel_rfl) (by kernel_rfl) (by kernel_rfl) (by kernel_rfl) (by kernel_rfl) hy13 ?_; intro t10 σ s ht10 hH hS
     refine qs 1 [(4, .ptr b1 0 0 2), (8, .ptr b5 0 0 2), (12, i4 y5), (13, .ptr b6 0 0 10), (46, t8), (51, t10), (52, .ptr b6 0 4 1)] hS ?_; intro s hS
     have hH : Heap σ0 σ [.box b6 [i4 y7.Id, i4 y7.Kind, .str y7.Name, i4 y7.Low, t3, t4, i4 y7.Default.Kind, i4 y7.Default.Num, .str y7.Default.Text, i4 y7.Default.Ref], .own true 4 t10 y13.t, .own true 4 t8 y12.t, .own true 1 t2 (Sl.t (⟨false, [⟨y1⟩, ⟨y3⟩]⟩ : Sl (Iv .i64))), .own true 4 t1 (Sl.t (⟨false, [a1, a2, a3]⟩ : Sl ac_)), .box b5 [i4 0, (nt aa_)], .box b4 (ac_.cells a3), .box b3 (ac_.cells a2), .box b2 (ac_.cells a1), .box b1 (aj_.cells a0)] := hH.sel [2, 0, 1, 3, 4, 5, 6, 7, 8, 9] rfl (by kernel_rfl)
     refine bC_ rfl (v := t8) (cs := [t8]) (cells' := [i4 y7.Id, i4 y7.Kind, .str y7.Name, i4 y7.Low, t8, t4, i4 y7.Default.Kind, i4 y7.Default.Num, .str y7.Default.Text, i4 y7.Default.Ref]) (by exact Or.inr ⟨false, by kernel_rfl, trivial⟩) rfl hS hH rfl rfl (by simp [ht8.1, ht8.2]) (by simp [ht8.1, ht8.2]) (by kernel_rfl) ?_; intro σ s hH hS
     refine qs 1 [(4, .ptr b1 0 0 2), (8, .ptr b5 0 0 2), (12, i4 y5), (13, .ptr b6 0 0 10), (51, t10), (53, .ptr b6 0 5 1)] hS ?_; intro s hS
     refine bC_ rfl (v := t10) (cs := [t10]) (cells' := [i4 y7.Id, i4 y7.Kind, .str y7.Name, i4 y7.Low, t8, t10, i4 y7.Default.Kind, i4 y7.Default.Num, .str y7.Default.Text, i4 y7.Default.Ref]) (by exact Or.inr ⟨false, by kernel_rfl, trivial⟩) rfl hS hH rfl rfl (by simp [ht10.1, ht10.2]) (by simp [ht10.1, ht10.2]) (by kernel_rfl) ?_; intro σ s hH hS
     refine ae_ (bk_n (sq_n (ad_ (ab_ ?_))))
     refine ai_ (v := .agg (aj_.cells a0)) 9 trivial rfl hS hH rfl rfl (by kernel_rfl) ?_; intro s hS
     refine qs 1 [(8, .ptr b5 0 0 2), (13, .ptr b6 0 0 10), (74, .agg (aj_.cells a0)), (75, i4 y5)] hS ?_; intro s hS
     refine ai_ (v := .agg [i4 y7.Id, i4 y7.Kind, .str y7.Name, i4 y7.Low, t8, t10, i4 y7.Default.Kind, i4 y7.Default.Num, .str y7.Default.Text, i4 y7.Default.Ref]) 0 trivial rfl hS hH rfl rfl (by kernel_rfl) ?_; intro s hS
     obtain ⟨y14, hy14, h⟩ := bind_some h
     have hH : Heap σ0 σ [.own true 4 t8 y12.t, .own true 4 t10 y13.t, .box b6 [i4 y7.Id, i4 y7.Kind, .str y7.Name, i4 y7.Low, t8, t10, i4 y7.Default.Kind, i4 y7.Default.Num, .str y7.Default.Text, i4 y7.Default.Ref], .own true 1 t2 (Sl.t (⟨false, [⟨y1⟩, ⟨y3⟩]⟩ : Sl (Iv .i64))), .own true 4 t1 (Sl.t (⟨false, [a1, a2, a3]⟩ : Sl ac_)), .box b5 [i4 0, (nt aa_)], .box b4 (ac_.cells a3), .box b3 (ac_.cells a2), .box b2 (ac_.cells a1), .box b1 (aj_.cells a0)] := hH.sel [2, 1, 0, 3, 4, 5, 6, 7, 8, 9] rfl (by kernel_rfl)
     refine a2_ (ents := [.own true 4 t8 y12.t, .own true 4 t10 y13.t]) (z := false) (ts := [.agg (aj_.cells a0), i4 y5, .agg [i4 y7.Id, i4 y7.Kind, .str y7.Name, i4 y7.Low, t8, t10, i4 y7.Default.Kind, i4 y7.Default.Num, .str y7.Default.Text, i4 y7.Default.Ref]]) (vs := [.agg (aj_.cells a0), i4 y5, .agg [i4 y7.Id, i4 y7.Kind, .str y7.Name, i4 y7.Low, y12.t, y13.t, i4 y7.Default.Kind, i4 y7.Default.Num, .str y7.Default.Text, i4 y7.Default.Ref]]) rfl rfl hS rfl rfl rfl hH (HL.agg (es1 := []) (es2 := [.own true 4 t8 y12.t, .own true 4 t10 y13.t]) (HLi (HLp HL.nil)) (HLi (HL.agg (es1 := [.own true 4 t8 y12.t, .own true 4 t10 y13.t]) (es2 := []) (HLi (HLi (HLs (HLi (HL.own rfl (HL.own rfl (HLi (HLi (HLs (HLi HL.nil)))))))))) HL.nil))) hy14 ?_; intro hs σ s hl hH hS
     obtain ⟨t11, rfl⟩ := len1 hl
     have hH : Heap σ0 σ [.own true 10 t11 y14.Objects.t, .own true 4 t8 y12.t, .own true 4 t10 y13.t, .box b6 [i4 y7.Id, i4 y7.Kind, .str y7.Name, i4 y7.Low, t8, t10, i4 y7.Default.Kind, i4 y7.Default.Num, .str y7.Default.Text, i4 y7.Default.Ref], .own true 1 t2 (Sl.t (⟨false, [⟨y1⟩, ⟨y3⟩]⟩ : Sl (Iv .i64))), .own true 4 t1 (Sl.t (⟨false, [a1, a2, a3]⟩ : Sl ac_)), .box b5 [i4 0, (nt aa_)], .box b4 (ac_.cells a3), .box b3 (ac_.cells a2), .box b2 (ac_.cells a1), .box b1 (aj_.cells a0)] := hH
     have ht11 : aV_ t11 := Heap.one hH
     have hH : Heap σ0 σ [.box b5 [i4 0, (nt aa_)], .own true 10 t11 y14.Objects.t, .own true 4 t8 y12.t, .own true 4 t10 y13.t, .box b6 [i4 y7.Id, i4 y7.Kind, .str y7.Name, i4 y7.Low, t8, t10, i4 y7.Default.Kind, i4 y7.Default.Num, .str y7.Default.Text, i4 y7.Default.Ref], .own true 1 t2 (Sl.t (⟨false, [⟨y1⟩, ⟨y3⟩]⟩ : Sl (Iv .i64))), .own true 4 t1 (Sl.t (⟨false, [a1, a2, a3]⟩ : Sl ac_)), .box b4 (ac_.cells a3), .box b3 (ac_.cells a2), .box b2 (ac_.cells a1), .box b1 (aj_.cells a0)] := hH.sel [6, 0, 1, 2, 3, 4, 5, 7, 8, 9, 10] rfl (by kernel_rfl)
     refine aF_ (cs := [i4 y14.Next, t11]) rfl hS hH rfl rfl (by simp [ht11.1, ht11.2]) ?_; intro σ s hH hS
     refine qs 2 [(8, .ptr b5 0 0 2), (9, .bool true), (10, i4 0)] hS ?_; intro s hS
     refine ae_ (sq_n (ao_ ?_))
     injection h with h; subst h
     have hH : Heap σ0 σ [.own true 10 t11 y14.Objects.t, .box b5 [i4 y14.Next, t11], .own true 4 t8 y12.t, .own true 4 t10 y13.t, .box b6 [i4 y7.Id, i4 y7.Kind, .str y7.Name, i4 y7.Low, t8, t10, i4 y7.Default.Kind, i4 y7.Default.Num, .str y7.Default.Text, i4 y7.Default.Ref], .own true 1 t2 (Sl.t (⟨false, [⟨y1⟩, ⟨y3⟩]⟩ : Sl (Iv .i64))), .own true 4 t1 (Sl.t (⟨false, [a1, a2, a3]⟩ : Sl ac_)), .box b4 (ac_.cells a3), .box b3 (ac_.cells a2), .box b2 (ac_.cells a1), .box b1 (aj_.cells a0)] := hH.sel [1, 0, 2, 3, 4, 5, 6, 7, 8, 9, 10] rfl (by kernel_rfl)
     exact a8_ [t11] [.box b5 [i4 y14.Next, t11], .own true 4 t8 y12.t, .own true 4 t10 y13.t, .box b6 [i4 y7.Id, i4 y7.Kind, .str y7.Name, i4 y7.Low, t8, t10, i4 y7.Default.Kind, i4 y7.Default.Num, .str y7.Default.Text, i4 y7.Default.Ref], .own true 1 t2 (Sl.t (⟨false, [⟨y1⟩, ⟨y3⟩]⟩ : Sl (Iv .i64))), .own true 4 t1 (Sl.t (⟨false, [a1, a2, a3]⟩ : Sl ac_)), .box b4 (ac_.cells a3), .box b3 (ac_.cells a2), .box b2 (ac_.cells a1), .box b1 (aj_.cells a0)] (bf_ (v := .agg [i4 y14.Next, t11]) hS (hH.at 1 rfl) rfl (by kernel_rfl) (an_ (v := .bool true) hS rfl (an_ (v := i4 0) hS rfl r_nil))) (by kernel_rfl) rfl hH (by kernel_rfl)
noncomputable def eq_ (a0 : (Sl ac_)) (a1 : Int) : Option Int := (if (decide ((w4 (a1 - (a0.l.length : Int))) < 0)) = true then (some (-1)) else ((aM_ (S := (Int × Int)) (R := (Int ⊕ Int)) (fun st1 => (if (decide (st1.2 < (a0.l.length : Int))) = true then ((elt a0 st1.2).bind fun y2 => ((bB_ y2 st1.1).bind fun y3 => (if (decide (y3 < 0)) = true then (some (.inr (.inr (-1)))) else (some (.inl (y3, (w4 (st1.2 + 1)))))))) else (some (.inr (.inl st1.1))))) ((w4 (a1 - (a0.l.length : Int))), 0)).bind fun y1 => (Sum.elim (fun y1 => (some y1)) (fun y1 => (some y1)) y1)))
theorem ii_ (a0 : (Sl ac_)) (a1 : Int) (r : Int) (h : eq_ a0 a1 = some r) : df_ a0 a1 = some r := by
 unfold eq_ at h
 refine ax_ E_i64_inj rfl rfl ok_43 rfl (all_cons (by kernel_rfl) (all_cons (by kernel_rfl) all_nil)) ?_
 intro σ0 s hS hH
 have hS := am_ (L' := [(0, a0.t), (1, i4 a1)]) hS (by kernel_rfl)
 refine ad_ (ab_ ?_)
 refine qs 1 [(0, a0.t), (1, i4 a1)] hS ?_; intro s hS
 refine ae_ (sq_n (ad_ (ab_ ?_)))
 refine qs 5 [(0, a0.t), (1, i4 (w4 (a1 - (a0.l.length : Int))))] hS ?_; intro s hS
 refine ae_ (sq_n (ad_ (ad_ (ab_ ?_))))
 refine qs 2 [(0, a0.t), (1, i4 (w4 (a1 - (a0.l.length : Int)))), (11, .bool (decide ((w4 (a1 - (a0.l.length : Int))) < 0)))] hS ?_; intro s hS
 refine ae_ (sq_n ?_)
 by_cases hc1 : (decide ((w4 (a1 - (a0.l.length : Int))) < 0)) = true
 ·have h := ak_ hc1 h
  refine af_ hS rfl (fun _ => ?_) (fun hf => ah_ hc1 hf)
  refine ad_ (ab_ ?_)
  refine qs 1 [(4, i4 (-1))] hS ?_; intro s hS
  refine ae_ (sq_n (ao_ (sq_r ?_)))
  injection h with h; subst h
  exact aq_ hH (an_ (v := i4 (-1)) hS rfl r_nil) rfl (by kernel_rfl) (by simp [pureT, pureL, E_i64])
 ·have h := al_ hc1 h
  refine af_ hS rfl (fun hf => ag_ hc1 hf) (fun _ => ?_)
  refine as_ (sq_n (ad_ (ad_ (ab_ ?_))))
  refine qs 1 [(0, a0.t), (1, i4 (w4 (a1 - (a0.l.length : Int)))), (5, i4 0)] hS ?_; intro s hS
  refine ae_ (sq_n (aw_ ?_))
  obtain ⟨y1, hy1, h⟩ := bind_some h
  refine bd_ (fun (st1 : (Int × Int)) (fr : Fr) => Sub [(0, a0.t), (1, i4 st1.1), (5, i4 st1.2)] fr.s ∧ Heap σ0 fr.σ []) (fun (y1 : (Int ⊕ Int)) (e : aC_) (fr : Fr) => (Sum.elim (fun y => e = (.exit 0) ∧ Sub [(1, i4 y)] fr.s ∧ Heap σ0 fr.σ []) (fun y => e = .ret ∧ endW Try.prog (Try.f43.results.toList) σ0 (E_i64 y) .ret fr)) y1) hy1 (And.intro (am_ hS (by kernel_rfl)) hH) ?_ ?_
  ·clear h hy1 hS hH; clear y1; intro st1 x fr h HI; obtain ⟨s, σ⟩ := fr; obtain ⟨hS, hH⟩ := HI
   refine ad_ (ad_ (ab_ ?_))
   refine qs 4 [(0, a0.t), (1, i4 st1.1), (5, i4 st1.2), (15, .bool (decide (st1.2 < (a0.l.length : Int))))] hS ?_; intro s hS
   refine ae_ (sq_n ?_)
   by_cases hc2 : (decide (st1.2 < (a0.l.length : Int))) = true
   ·have h := ak_ hc2 h
    refine af_ hS rfl (fun _ => ?_) (fun hf => ah_ hc2 hf)
    refine as_ (sq_n (ad_ (aw_ (ad_ (ab_ ?_)))))
    refine qs 2 [(0, a0.t), (1, i4 st1.1), (5, i4 st1.2), (18, a0.t), (19, i4 st1.2)] hS ?_; intro s hS
    obtain ⟨y2, hy2, h⟩ := bind_some h
    refine bh_ (sl := a0) (e := 43) [i4 y2.Kind, i4 y2.Num, .str y2.Text, i4 y2.Ref] rfl hS rfl rfl (by kernel_rfl) (by kernel_rfl) hy2 rfl ?_; intro rest1 s hS
    refine qs 2 [(0, a0.t), (5, i4 st1.2), (21, .agg (ac_.cells y2)), (22, i4 st1.1)] hS ?_; intro s hS
    obtain ⟨y3, hy3, h⟩ := bind_some h
    refine ar_ (a := []) (b := []) (xs := [.agg (ac_.cells y2), i4 st1.1]) rfl hS rfl rfl hy3 ?_; intro s hS
    refine qs 1 [(0, a0.t), (1, i4 y3), (5, i4 st1.2)] hS ?_; intro s hS
    refine ae_ (sq_n (ad_ (ab_ ?_)))
    refine qs 2 [(0, a0.t), (1, i4 y3), (5, i4 st1.2), (25, .bool (decide (y3 < 0)))] hS ?_; intro s hS
    refine ae_ (sq_n ?_)
    by_cases hc3 : (decide (y3 < 0)) = true
    ·have h := ak_ hc3 h
     refine af_ hS rfl (fun _ => ?_) (fun hf => ah_ hc3 hf)
     refine ad_ (ab_ ?_)
     refine qs 1 [(4, i4 (-1))] hS ?_; intro s hS
     refine ae_ (sq_n (ao_ (bk_r (sq_r ?_))))
     injection h with h; subst h
     exact And.intro rfl (aq_ hH (an_ (v := i4 (-1)) hS rfl r_nil) rfl (by kernel_rfl) (by simp [pureT, pureL, E_i64]))
    ·have h := al_ hc3 h
     refine af_ hS rfl (fun hf => ag_ hc3 hf) (fun _ => ?_)
     refine as_ (bk_n (sq_n (ab_ ?_)))
     refine qs 3 [(0, a0.t), (1, i4 y3), (5, i4 (w4 (st1.2 + 1)))] hS ?_; intro s hS
     refine ae_ ?_
     injection h with h; subst h
     exact And.intro (am_ hS (by kernel_rfl)) hH
   ·have h := al_ hc2 h
    refine af_ hS rfl (fun hf => ag_ hc2 hf) (fun _ => ?_)
    refine ba_ (sq_x ?_)
    injection h with h; subst h
    exact And.intro rfl (And.intro (am_ hS (by kernel_rfl)) hH)
  ·clear hS hH; intro e fr HF; obtain ⟨s, σ⟩ := fr
   rcases y1 with y1 | y1
   ·obtain ⟨rfl, hS, hH⟩ := HF
    refine bk_e (sq_n (ad_ (ab_ ?_)))
    refine qs 2 [(4, i4 y1)] hS ?_; intro s hS
    refine ae_ (sq_n (ao_ ?_))
    injection h with h; subst h
    exact aq_ hH (an_ (v := i4 y1) hS rfl r_nil) rfl (by kernel_rfl) (by simp [pureT, pureL, E_i64])
   ·obtain ⟨rfl, HE⟩ := HF
    refine bk_r (sq_r ?_)
    injection h with h; subst h; exact HE
noncomputable def eB_ (a0 : (Sl ac_)) : Option (Sl ac_) := ((mkS 40 ((⟨0, 0, ⟨#[]⟩, 0⟩ : ac_) : ac_) (a0.l.length : Int) (a0.l.length : Int)).bind fun y1 => ((aM_ (S := (Int × (Sl ac_))) (R := (Sl ac_)) (fun st1 => (if (decide (st1.1 < (a0.l.length : Int))) = true then ((elt a0 st1.1).bind fun y3 => ((aQ_ y3).bind fun y4 => ((elt st1.2 st1.1).bind fun y5 => (some (.inl ((w4 (st1.1 + 1)), (setS st1.2 st1.1 (y4 : ac_)))))))) else (some (.inr st1.2)))) (0, y1)).bind fun y2 => (some y2)))
theorem iU_ (a0 : (Sl ac_)) (r : (Sl ac_)) (h : eB_ a0 = some r) : cY_ a0 = some r := by
 unfold eB_ at h
 refine cx_ rfl rfl ok_45 rfl (all_cons (by kernel_rfl) all_nil) ?_
 intro σ0 s hS hH
 have hS := am_ (L' := [(0, a0.t)]) hS (by kernel_rfl)
 refine ad_ (ab_ ?_)
 refine qs 1 [(0, a0.t)] hS ?_; intro s hS
 refine ae_ (sq_n (ad_ (ab_ ?_)))
 refine qs 2 [(0, a0.t), (6, i4 (a0.l.length : Int))] hS ?_; intro s hS
 obtain ⟨y1, hy1, h⟩ := bind_some h
 refine oZ_ (z := true) (e := 28) (by_ := 40) (x0 := ((⟨0, 0, ⟨#[]⟩, 0⟩ : ac_) : ac_)) (fun σ d => by simp [Enc.cells, ac_.cells, Iv]) rfl hS hH rfl rfl (by kernel_rfl) (by kernel_rfl) (by kernel_rfl) (by kernel_rfl) rfl hy1 ?_; intro t1 σ s ht1 hH hS
 refine qs 1 [(0, a0.t), (3, t1)] hS ?_; intro s hS
 refine ae_ (sq_n (ad_ (ad_ (ab_ ?_))))
 refine qs 1 [(0, a0.t), (3, t1), (4, i4 0)] hS ?_; intro s hS
 refine ae_ (sq_n (aw_ ?_))
 obtain ⟨y2, hy2, h⟩ := bind_some h
 refine bd_ (fun (st1 : (Int × (Sl ac_))) (fr : Fr) => Sub [(0, a0.t), (3, t1), (4, i4 st1.1)] fr.s ∧ Heap σ0 fr.σ [.own true 4 t1 st1.2.t]) (fun (y2 : (Sl ac_)) (e : aC_) (fr : Fr) => e = (.exit 0) ∧ Sub [(3, t1)] fr.s ∧ Heap σ0 fr.σ [.own true 4 t1 y2.t]) hy2 (And.intro (am_ hS (by kernel_rfl)) hH) ?_ ?_
 ·clear h hy2 hS hH; clear y2; intro st1 x fr h HI; obtain ⟨s, σ⟩ := fr; obtain ⟨hS, hH⟩ := HI
  refine ad_ (ad_ (ab_ ?_))
  refine qs 4 [(0, a0.t), (3, t1), (4, i4 st1.1), (11, .bool (decide (st1.1 < (a0.l.length : Int))))] hS ?_; intro s hS
  refine ae_ (sq_n ?_)
  by_cases hc1 : (decide (st1.1 < (a0.l.length : Int))) = true
  ·have h := ak_ hc1 h
   refine af_ hS rfl (fun _ => ?_) (fun hf => ah_ hc1 hf)
   refine as_ (sq_n (ad_ (aw_ (ab_ ?_))))
   refine qs 4 [(0, a0.t), (3, t1), (4, i4 st1.1), (14, t1), (15, i4 st1.1), (16, a0.t), (17, i4 st1.1)] hS ?_; intro s hS
   obtain ⟨y3, hy3, h⟩ := bind_some h
   refine bh_ (sl := a0) (e := 43) [i4 y3.Kind, i4 y3.Num, .str y3.Text, i4 y3.Ref] rfl hS rfl rfl (by kernel_rfl) (by kernel_rfl) hy3 rfl ?_; intro rest1 s hS
   refine qs 1 [(0, a0.t), (3, t1), (4, i4 st1.1), (14, t1), (15, i4 st1.1), (19, .agg (ac_.cells y3))] hS ?_; intro s hS
   obtain ⟨y4, hy4, h⟩ := bind_some h
   refine ar_ (a := []) (b := []) (xs := [.agg (ac_.cells y3)]) rfl hS rfl rfl hy4 ?_; intro s hS
   obtain ⟨y5, hy5, h⟩ := bind_some h
   refine cP_ (a := st1.2) (e := 28) (fun _ _ _ _ _ => trivial) rfl hS hH rfl rfl (by kernel_rfl) (by kernel_rfl) hy5 ?_; intro hb1 hb1e s hl_hb1 hS
   refine bQ_ (ents := []) (a := st1.2) (j := st1.1) (y := y5) (y' := (y4 : ac_)) (off := 0) (c := [i4 y5.Kind, i4 y5.Num, .str y5.Text, i4 y5.Ref]) (us := [i4 y4.Kind, i4 y4.Num, .str y4.Text, i4 y4.Ref]) (vs := [i4 y4.Kind, i4 y4.Num, .str y4.Text, i4 y4.Ref]) (v := .agg (ac_.cells y4)) rfl hS hH hl_hb1 rfl rfl rfl (by kernel_rfl) (by kernel_rfl) rfl hy5 rfl (HLi (HLi (HLs (HLi HL.nil)))) rfl (by kernel_rfl) ?_; intro σ s hH hS
   refine ae_ (bk_n (sq_n (ab_ ?_)))
   refine qs 3 [(0, a0.t), (3, t1), (4, i4 (w4 (st1.1 + 1)))] hS ?_; intro s hS
   refine ae_ ?_
   injection h with h; subst h
   exact And.intro (am_ hS (by kernel_rfl)) hH
  ·have h := al_ hc1 h
   refine af_ hS rfl (fun hf => ag_ hc1 hf) (fun _ => ?_)
   refine ba_ (sq_x ?_)
   injection h with h; subst h
   exact And.intro rfl (And.intro (am_ hS (by kernel_rfl)) hH)
 ·clear hS hH; intro e fr HF; obtain ⟨s, σ⟩ := fr
  obtain ⟨rfl, hS, hH⟩ := HF
  refine bk_e (sq_n (ad_ (ab_ ?_)))
  refine qs 2 [(2, t1)] hS ?_; intro s hS
  refine ae_ (sq_n (ao_ ?_))
  injection h with h; subst h
  exact a8_ [t1] [] (an_ (v := t1) hS rfl r_nil) (by kernel_rfl) rfl hH (by kernel_rfl)
noncomputable def ei_ (a0 : (Sl ac_)) (a1 : (Sl ac_)) : Option Bool := (if ((!decide ((a0.l.length : Int) = (a1.l.length : Int)))) = true then (some false) else ((aM_ (S := Int) (R := (Unit ⊕ Bool)) (fun st1 => (if (decide (st1 < (a0.l.length : Int))) = true then ((elt a0 st1).bind fun y2 => ((elt a1 st1).bind fun y3 => ((cA_ y2 y3).bind fun y4 => (if (!y4) = true then (some (.inr (.inr false))) else (some (.inl (w4 (st1 + 1)))))))) else (some (.inr (.inl ()))))) 0).bind fun y1 => (Sum.elim (fun y1 => (some true)) (fun y1 => (some y1)) y1)))
theorem iz_ (a0 : (Sl ac_)) (a1 : (Sl ac_)) (r : Bool) (h : ei_ a0 a1 = some r) : dc_ a0 a1 = some r := by
 unfold ei_ at h
 refine ax_ E_bool_inj rfl rfl ok_47 rfl (all_cons (by kernel_rfl) (all_cons (by kernel_rfl) all_nil)) ?_
 intro σ0 s hS hH
 have hS := am_ (L' := [(0, a0.t), (1, a1.t)]) hS (by kernel_rfl)
 refine ad_ (ab_ ?_)
 refine qs 1 [(0, a0.t), (1, a1.t)] hS ?_; intro s hS
 refine ae_ (sq_n (ad_ (ad_ (ab_ ?_))))
 refine qs 5 [(0, a0.t), (1, a1.t), (10, .bool ((!decide ((a0.l.length : Int) = (a1.l.length : Int)))))] hS ?_; intro s hS
 refine ae_ (sq_n ?_)
 by_cases hc1 : ((!decide ((a0.l.length : Int) = (a1.l.length : Int)))) = true
 ·have h := ak_ hc1 h
  refine af_ hS rfl (fun _ => ?_) (fun hf => ah_ hc1 hf)
  refine ad_ (ab_ ?_)
  refine qs 1 [(4, .bool false)] hS ?_; intro s hS
  refine ae_ (sq_n (ao_ (sq_r ?_)))
  injection h with h; subst h
  exact aq_ hH (an_ (v := .bool false) hS rfl r_nil) rfl (by kernel_rfl) (by simp [pureT, pureL, E_bool])
 ·have h := al_ hc1 h
  refine af_ hS rfl (fun hf => ag_ hc1 hf) (fun _ => ?_)
  refine as_ (sq_n (ad_ (ad_ (ab_ ?_))))
  refine qs 1 [(0, a0.t), (1, a1.t), (5, i4 0)] hS ?_; intro s hS
  refine ae_ (sq_n (aw_ ?_))
  obtain ⟨y1, hy1, h⟩ := bind_some h
  refine bd_ (fun (st1 : Int) (fr : Fr) => Sub [(0, a0.t), (1, a1.t), (5, i4 st1)] fr.s ∧ Heap σ0 fr.σ []) (fun (y1 : (Unit ⊕ Bool)) (e : aC_) (fr : Fr) => (Sum.elim (fun y => e = (.exit 0) ∧ Sub [] fr.s ∧ Heap σ0 fr.σ []) (fun y => e = .ret ∧ endW Try.prog (Try.f47.results.toList) σ0 (E_bool y) .ret fr)) y1) hy1 (And.intro (am_ hS (by kernel_rfl)) hH) ?_ ?_
  ·clear h hy1 hS hH; clear y1; intro st1 x fr h HI; obtain ⟨s, σ⟩ := fr; obtain ⟨hS, hH⟩ := HI
   refine ad_ (ad_ (ab_ ?_))
   refine qs 4 [(0, a0.t), (1, a1.t), (5, i4 st1), (14, .bool (decide (st1 < (a0.l.length : Int))))] hS ?_; intro s hS
   refine ae_ (sq_n ?_)
   by_cases hc2 : (decide (st1 < (a0.l.length : Int))) = true
   ·have h := ak_ hc2 h
    refine af_ hS rfl (fun _ => ?_) (fun hf => ah_ hc2 hf)
    refine as_ (sq_n (ad_ (aw_ (ad_ ?_))))
    refine dk_ (by kernel_rfl) hH ?_; intro mb σ hH
    refine qs 2 [(0, a0.t), (1, a1.t), (5, i4 st1), (17, a0.t), (18, i4 st1)] hS ?_; intro s hS
    obtain ⟨y2, hy2, h⟩ := bind_some h
    refine bh_ (sl := a0) (e := 28) [i4 y2.Kind, i4 y2.Num, .str y2.Text, i4 y2.Ref] rfl hS rfl rfl (by kernel_rfl) (by kernel_rfl) hy2 rfl ?_; intro rest1 s hS
    refine qs 3 [(0, a0.t), (1, a1.t), (5, i4 st1), (20, .agg (ac_.cells y2)), (21, a1.t), (22, i4 st1)] hS ?_; intro s hS
    obtain ⟨y3, hy3, h⟩ := bind_some h
    refine bh_ (sl := a1) (e := 28) [i4 y3.Kind, i4 y3.Num, .str y3.Text, i4 y3.Ref] rfl hS rfl rfl (by kernel_rfl) (by kernel_rfl) hy3 rfl ?_; intro rest2 s hS
    refine qs 1 [(0, a0.t), (1, a1.t), (5, i4 st1), (20, .agg (ac_.cells y2)), (24, .agg (ac_.cells y3))] hS ?_; intro s hS
    obtain ⟨y4, hy4, h⟩ := bind_some h
    refine ar_ (a := []) (b := []) (xs := [.agg (ac_.cells y2), .agg (ac_.cells y3)]) rfl hS rfl rfl hy4 ?_; intro s hS
    refine qs 1 [(0, a0.t), (1, a1.t), (5, i4 st1), (26, .bool (!y4))] hS ?_; intro s hS
    refine ae_ (sq_n ?_)
    by_cases hc3 : (!y4) = true
    ·have h := ak_ hc3 h
     refine af_ hS rfl (fun _ => ?_) (fun hf => ah_ hc3 hf)
     refine ad_ (ab_ ?_)
     refine qs 1 [(4, .bool false)] hS ?_; intro s hS
     refine ae_ (sq_n (ao_ (bk_r (sq_r ?_))))
     injection h with h; subst h
     exact And.intro rfl (aq_ hH (an_ (v := .bool false) hS rfl r_nil) rfl (by kernel_rfl) (by simp [pureT, pureL, E_bool]))
    ·have h := al_ hc3 h
     refine af_ hS rfl (fun hf => ag_ hc3 hf) (fun _ => ?_)
     refine as_ (bk_n (sq_n (ab_ ?_)))
     refine qs 3 [(0, a0.t), (1, a1.t), (5, i4 (w4 (st1 + 1)))] hS ?_; intro s hS
     refine ae_ ?_
     injection h with h; subst h
     exact And.intro (am_ hS (by kernel_rfl)) hH
   ·have h := al_ hc2 h
    refine af_ hS rfl (fun hf => ag_ hc2 hf) (fun _ => ?_)
    refine ba_ (sq_x ?_)
    injection h with h; subst h
    exact And.intro rfl (And.intro (am_ hS (by kernel_rfl)) hH)
  ·clear hS hH; intro e fr HF; obtain ⟨s, σ⟩ := fr
   rcases y1 with y1 | y1
   ·obtain ⟨rfl, hS, hH⟩ := HF
    refine bk_e (sq_n (ad_ (ab_ ?_)))
    refine qs 1 [(4, .bool true)] hS ?_; intro s hS
    refine ae_ (sq_n (ao_ ?_))
    injection h with h; subst h
    exact aq_ hH (an_ (v := .bool true) hS rfl r_nil) rfl (by kernel_rfl) (by simp [pureT, pureL, E_bool])
   ·obtain ⟨rfl, HE⟩ := HF
    refine bk_r (sq_r ?_)
    injection h with h; subst h; exact HE
noncomputable def dw_ (a0 : (Sl ac_)) (a1 : Int) : Option Int := ((aM_ (S := (Int × Int)) (R := (Int ⊕ Int)) (fun st1 => (if (decide (st1.2 < (a0.l.length : Int))) = true then ((elt a0 st1.2).bind fun y2 => (if (!decide (y2.Kind = st1.1)) = true then (some (.inr (.inr (-1)))) else ((elt a0 st1.2).bind fun y3 => (if (!decide (y3.Num = (w4 (st1.1 + 1)))) = true then (some (.inr (.inr (-1)))) else ((elt a0 st1.2).bind fun y4 => ((aJ_ (w4 ((w4 (st1.1 + 1)) + 1))).bind fun y5 => (if (!decide (y4.Text = y5)) = true then (some (.inr (.inr (-1)))) else ((elt a0 st1.2).bind fun y6 => (if (!decide (y6.Ref = (w4 ((w4 ((w4 (st1.1 + 1)) + 1)) + 1)))) = true then (some (.inr (.inr (-1)))) else (some (.inl ((w4 ((w4 ((w4 ((w4 (st1.1 + 1)) + 1)) + 1)) + 1)), (w4 (st1.2 + 1)))))))))))))) else (some (.inr (.inl st1.1))))) (a1, 0)).bind fun y1 => (Sum.elim (fun y1 => (some y1)) (fun y1 => (some y1)) y1))
theorem hA_ (a0 : (Sl ac_)) (a1 : Int) (r : Int) (h : dw_ a0 a1 = some r) : a1_ a0 a1 = some r := by
 unfold dw_ at h
 refine ax_ E_i64_inj rfl rfl ok_49 rfl (all_cons (by kernel_rfl) (all_cons (by kernel_rfl) all_nil)) ?_
 intro σ0 s hS hH
 have hS := am_ (L' := [(0, a0.t), (1, i4 a1)]) hS (by kernel_rfl)
 refine ad_ (ab_ ?_)
 refine qs 1 [(0, a0.t), (1, i4 a1)] hS ?_; intro s hS
 refine ae_ (sq_n (ad_ (ad_ (ab_ ?_))))
 refine qs 1 [(0, a0.t), (1, i4 a1), (5, i4 0)] hS ?_; intro s hS
 refine ae_ (sq_n (aw_ ?_))
 obtain ⟨y1, hy1, h⟩ := bind_some h
 refine bd_ (fun (st1 : (Int × Int)) (fr : Fr) => Sub [(0, a0.t), (1, i4 st1.1), (5, i4 st1.2)] fr.s ∧ Heap σ0 fr.σ []) (fun (y1 : (Int ⊕ Int)) (e : aC_) (fr : Fr) => (Sum.elim (fun y => e = (.exit 0) ∧ Sub [(1, i4 y)] fr.s ∧ Heap σ0 fr.σ []) (fun y => e = .ret ∧ endW Try.prog (Try.f49.results.toList) σ0 (E_i64 y) .ret fr)) y1) hy1 (And.intro (am_ hS (by kernel_rfl)) hH) ?_ ?_
 ·clear h hy1 hS hH; clear y1; intro st1 x fr h HI; obtain ⟨s, σ⟩ := fr; obtain ⟨hS, hH⟩ := HI
  refine ad_ (ad_ (ab_ ?_))
  refine qs 4 [(0, a0.t), (1, i4 st1.1), (5, i4 st1.2), (9, .bool (decide (st1.2 < (a0.l.length : Int))))] hS ?_; intro s hS
  refine ae_ (sq_n ?_)
  by_cases hc1 : (decide (st1.2 < (a0.l.length : Int))) = true
  ·have h := ak_ hc1 h
   refine af_ hS rfl (fun _ => ?_) (fun hf => ah_ hc1 hf)
   refine as_ (sq_n (ad_ (aw_ (ad_ (ad_ (ab_ ?_))))))
   refine qs 2 [(0, a0.t), (1, i4 st1.1), (5, i4 st1.2), (12, a0.t), (13, i4 st1.2)] hS ?_; intro s hS
   obtain ⟨y2, hy2, h⟩ := bind_some h
   refine bh_ (sl := a0) (e := 28) [i4 y2.Kind, i4 y2.Num, .str y2.Text, i4 y2.Ref] rfl hS rfl rfl (by kernel_rfl) (by kernel_rfl) hy2 rfl ?_; intro rest1 s hS
   refine qs 4 [(0, a0.t), (1, i4 st1.1), (5, i4 st1.2), (18, .bool (!decide (y2.Kind = st1.1)))] hS ?_; intro s hS
   refine ae_ (sq_n ?_)
   by_cases hc2 : (!decide (y2.Kind = st1.1)) = true
   ·have h := ak_ hc2 h
    refine af_ hS rfl (fun _ => ?_) (fun hf => ah_ hc2 hf)
    refine ad_ (ab_ ?_)
    refine qs 1 [(4, i4 (-1))] hS ?_; intro s hS
    refine ae_ (sq_n (ao_ (sq_r (bk_r (sq_r ?_)))))
    injection h with h; subst h
    exact And.intro rfl (aq_ hH (an_ (v := i4 (-1)) hS rfl r_nil) rfl (by kernel_rfl) (by simp [pureT, pureL, E_i64]))
   ·have h := al_ hc2 h
    refine af_ hS rfl (fun hf => ag_ hc2 hf) (fun _ => ?_)
    refine as_ (sq_n (ad_ (ab_ ?_)))
    refine qs 3 [(0, a0.t), (1, i4 (w4 (st1.1 + 1))), (5, i4 st1.2)] hS ?_; intro s hS
    refine ae_ (sq_n (ad_ (ad_ (ab_ ?_))))
    refine qs 2 [(0, a0.t), (1, i4 (w4 (st1.1 + 1))), (5, i4 st1.2), (21, a0.t), (22, i4 st1.2)] hS ?_; intro s hS
    obtain ⟨y3, hy3, h⟩ := bind_some h
    refine bh_ (sl := a0) (e := 28) [i4 y3.Kind, i4 y3.Num, .str y3.Text, i4 y3.Ref] rfl hS rfl rfl (by kernel_rfl) (by kernel_rfl) hy3 rfl ?_; intro rest2 s hS
    refine qs 4 [(0, a0.t), (1, i4 (w4 (st1.1 + 1))), (5, i4 st1.2), (27, .bool (!decide (y3.Num = (w4 (st1.1 + 1)))))] hS ?_; intro s hS
    refine ae_ (sq_n ?_)
    by_cases hc3 : (!decide (y3.Num = (w4 (st1.1 + 1)))) = true
    ·have h := ak_ hc3 h
     refine af_ hS rfl (fun _ => ?_) (fun hf => ah_ hc3 hf)
     refine ad_ (ab_ ?_)
     refine qs 1 [(4, i4 (-1))] hS ?_; intro s hS
     refine ae_ (sq_n (ao_ (sq_r (bk_r (sq_r ?_)))))
     injection h with h; subst h
     exact And.intro rfl (aq_ hH (an_ (v := i4 (-1)) hS rfl r_nil) rfl (by kernel_rfl) (by simp [pureT, pureL, E_i64]))
    ·have h := al_ hc3 h
     refine af_ hS rfl (fun hf => ag_ hc3 hf) (fun _ => ?_)
     refine as_ (sq_n (ad_ (ab_ ?_)))
     refine qs 3 [(0, a0.t), (1, i4 (w4 ((w4 (st1.1 + 1)) + 1))), (5, i4 st1.2)] hS ?_; intro s hS
     refine ae_ (sq_n (ad_ (ad_ ?_)))
     refine dk_ (by kernel_rfl) hH ?_; intro mb σ hH
     refine qs 2 [(0, a0.t), (1, i4 (w4 ((w4 (st1.1 + 1)) + 1))), (5, i4 st1.2), (30, a0.t), (31, i4 st1.2)] hS ?_; intro s hS
     obtain ⟨y4, hy4, h⟩ := bind_some h
     refine bh_ (sl := a0) (e := 28) [i4 y4.Kind, i4 y4.Num, .str y4.Text, i4 y4.Ref] rfl hS rfl rfl (by kernel_rfl) (by kernel_rfl) hy4 rfl ?_; intro rest3 s hS
     refine qs 3 [(0, a0.t), (1, i4 (w4 ((w4 (st1.1 + 1)) + 1))), (5, i4 st1.2), (34, .str y4.Text), (35, i4 (w4 ((w4 (st1.1 + 1)) + 1)))] hS ?_; intro s hS
     obtain ⟨y5, hy5, h⟩ := bind_some h
     refine ar_ (a := []) (b := []) (xs := [i4 (w4 ((w4 (st1.1 + 1)) + 1))]) rfl hS rfl rfl hy5 ?_; intro s hS
     refine qs 1 [(0, a0.t), (1, i4 (w4 ((w4 (st1.1 + 1)) + 1))), (5, i4 st1.2), (37, .bool (!decide (y4.Text = y5)))] hS ?_; intro s hS
     refine ae_ (sq_n ?_)
     by_cases hc4 : (!decide (y4.Text = y5)) = true
     ·have h := ak_ hc4 h
      refine af_ hS rfl (fun _ => ?_) (fun hf => ah_ hc4 hf)
      refine ad_ (ab_ ?_)
      refine qs 1 [(4, i4 (-1))] hS ?_; intro s hS
      refine ae_ (sq_n (ao_ (sq_r (bk_r (sq_r ?_)))))
      injection h with h; subst h
      exact And.intro rfl (aq_ hH (an_ (v := i4 (-1)) hS rfl r_nil) rfl (by kernel_rfl) (by simp [pureT, pureL, E_i64]))
     ·have h := al_ hc4 h
      refine af_ hS rfl (fun hf => ag_ hc4 hf) (fun _ => ?_)
      refine as_ (sq_n (ad_ (ab_ ?_)))
      refine qs 3 [(0, a0.t), (1, i4 (w4 ((w4 ((w4 (st1.1 + 1)) + 1)) + 1))), (5, i4 st1.2)] hS ?_; intro s hS
      refine ae_ (sq_n (ad_ (ad_ (ab_ ?_))))
      refine qs 2 [(0, a0.t), (1, i4 (w4 ((w4 ((w4 (st1.1 + 1)) + 1)) + 1))), (5, i4 st1.2), (40, a0.t), (41, i4 st1.2)] hS ?_; intro s hS
      obtain ⟨y6, hy6, h⟩ := bind_some h
      refine bh_ (sl := a0) (e := 28) [i4 y6.Kind, i4 y6.Num, .str y6.Text, i4 y6.Ref] rfl hS rfl rfl (by kernel_rfl) (by kernel_rfl) hy6 rfl ?_; intro rest4 s hS
      refine qs 4 [(0, a0.t), (1, i4 (w4 ((w4 ((w4 (st1.1 + 1)) + 1)) + 1))), (5, i4 st1.2), (46, .bool (!decide (y6.Ref = (w4 ((w4 ((w4 (st1.1 + 1)) + 1)) + 1)))))] hS ?_; intro s hS
      refine ae_ (sq_n ?_)
      by_cases hc5 : (!decide (y6.Ref = (w4 ((w4 ((w4 (st1.1 + 1)) + 1)) + 1)))) = true
      ·have h := ak_ hc5 h
       refine af_ hS rfl (fun _ => ?_) (fun hf => ah_ hc5 hf)
       refine ad_ (ab_ ?_)
       refine qs 1 [(4, i4 (-1))] hS ?_; intro s hS
       refine ae_ (sq_n (ao_ (sq_r (bk_r (sq_r ?_)))))
       injection h with h; subst h
       exact And.intro rfl (aq_ hH (an_ (v := i4 (-1)) hS rfl r_nil) rfl (by kernel_rfl) (by simp [pureT, pureL, E_i64]))
      ·have h := al_ hc5 h
       refine af_ hS rfl (fun hf => ag_ hc5 hf) (fun _ => ?_)
       refine as_ (sq_n (ab_ ?_))
       refine qs 3 [(0, a0.t), (1, i4 (w4 ((w4 ((w4 ((w4 (st1.1 + 1)) + 1)) + 1)) + 1))), (5, i4 st1.2)] hS ?_; intro s hS
       refine ae_ (bk_n (sq_n (ab_ ?_)))
       refine qs 3 [(0, a0.t), (1, i4 (w4 ((w4 ((w4 ((w4 (st1.1 + 1)) + 1)) + 1)) + 1))), (5, i4 (w4 (st1.2 + 1)))] hS ?_; intro s hS
       refine ae_ ?_
       injection h with h; subst h
       exact And.intro (am_ hS (by kernel_rfl)) hH
  ·have h := al_ hc1 h
   refine af_ hS rfl (fun hf => ag_ hc1 hf) (fun _ => ?_)
   refine ba_ (sq_x ?_)
   injection h with h; subst h
   exact And.intro rfl (And.intro (am_ hS (by kernel_rfl)) hH)
 ·clear hS hH; intro e fr HF; obtain ⟨s, σ⟩ := fr
  rcases y1 with y1 | y1
  ·obtain ⟨rfl, hS, hH⟩ := HF
   refine bk_e (sq_n (ad_ (ab_ ?_)))
   refine qs 2 [(4, i4 y1)] hS ?_; intro s hS
   refine ae_ (sq_n (ao_ ?_))
   injection h with h; subst h
   exact aq_ hH (an_ (v := i4 y1) hS rfl r_nil) rfl (by kernel_rfl) (by simp [pureT, pureL, E_i64])
  ·obtain ⟨rfl, HE⟩ := HF
   refine bk_r (sq_r ?_)
   injection h with h; subst h; exact HE
noncomputable def dP_ (a0 : (Sl aa_)) (a1 : Int) : Option Int := (if (decide ((w4 (a1 - (a0.l.length : Int))) < 0)) = true then (some (-1)) else ((aM_ (S := (Int × Int)) (R := (Int ⊕ Int)) (fun st1 => (if (decide (st1.2 < (a0.l.length : Int))) = true then ((elt a0 st1.2).bind fun y2 => ((ep_ y2 st1.1).bind fun y3 => (if (decide (y3 < 0)) = true then (some (.inr (.inr (-1)))) else (some (.inl (y3, (w4 (st1.2 + 1)))))))) else (some (.inr (.inl st1.1))))) ((w4 (a1 - (a0.l.length : Int))), 0)).bind fun y1 => (Sum.elim (fun y1 => (some y1)) (fun y1 => (some y1)) y1)))
theorem h4_ (a0 : (Sl aa_)) (a1 : Int) (r : Int) (h : dP_ a0 a1 = some r) : dS_ a0 a1 = some r := by
 unfold dP_ at h
 refine ax_ E_i64_inj rfl rfl ok_57 rfl (all_cons (by kernel_rfl) (all_cons (by kernel_rfl) all_nil)) ?_
 intro σ0 s hS hH
 have hS := am_ (L' := [(0, a0.t), (1, i4 a1)]) hS (by kernel_rfl)
 refine ad_ (ab_ ?_)
 refine qs 1 [(0, a0.t), (1, i4 a1)] hS ?_; intro s hS
 refine ae_ (sq_n (ad_ (ab_ ?_)))
 refine qs 5 [(0, a0.t), (1, i4 (w4 (a1 - (a0.l.length : Int))))] hS ?_; intro s hS
 refine ae_ (sq_n (ad_ (ad_ (ab_ ?_))))
 refine qs 2 [(0, a0.t), (1, i4 (w4 (a1 - (a0.l.length : Int)))), (11, .bool (decide ((w4 (a1 - (a0.l.length : Int))) < 0)))] hS ?_; intro s hS
 refine ae_ (sq_n ?_)
 by_cases hc1 : (decide ((w4 (a1 - (a0.l.length : Int))) < 0)) = true
 ·have h := ak_ hc1 h
  refine af_ hS rfl (fun _ => ?_) (fun hf => ah_ hc1 hf)
  refine ad_ (ab_ ?_)
  refine qs 1 [(4, i4 (-1))] hS ?_; intro s hS
  refine ae_ (sq_n (ao_ (sq_r ?_)))
  injection h with h; subst h
  exact aq_ hH (an_ (v := i4 (-1)) hS rfl r_nil) rfl (by kernel_rfl) (by simp [pureT, pureL, E_i64])
 ·have h := al_ hc1 h
  refine af_ hS rfl (fun hf => ag_ hc1 hf) (fun _ => ?_)
  refine as_ (sq_n (ad_ (ad_ (ab_ ?_))))
  refine qs 1 [(0, a0.t), (1, i4 (w4 (a1 - (a0.l.length : Int)))), (5, i4 0)] hS ?_; intro s hS
  refine ae_ (sq_n (aw_ ?_))
  obtain ⟨y1, hy1, h⟩ := bind_some h
  refine bd_ (fun (st1 : (Int × Int)) (fr : Fr) => Sub [(0, a0.t), (1, i4 st1.1), (5, i4 st1.2)] fr.s ∧ Heap σ0 fr.σ []) (fun (y1 : (Int ⊕ Int)) (e : aC_) (fr : Fr) => (Sum.elim (fun y => e = (.exit 0) ∧ Sub [(1, i4 y)] fr.s ∧ Heap σ0 fr.σ []) (fun y => e = .ret ∧ endW Try.prog (Try.f57.results.toList) σ0 (E_i64 y) .ret fr)) y1) hy1 (And.intro (am_ hS (by kernel_rfl)) hH) ?_ ?_
  ·clear h hy1 hS hH; clear y1; intro st1 x fr h HI; obtain ⟨s, σ⟩ := fr; obtain ⟨hS, hH⟩ := HI
   refine ad_ (ad_ (ab_ ?_))
   refine qs 4 [(0, a0.t), (1, i4 st1.1), (5, i4 st1.2), (15, .bool (decide (st1.2 < (a0.l.length : Int))))] hS ?_; intro s hS
   refine ae_ (sq_n ?_)
   by_cases hc2 : (decide (st1.2 < (a0.l.length : Int))) = true
   ·have h := ak_ hc2 h
    refine af_ hS rfl (fun _ => ?_) (fun hf => ah_ hc2 hf)
    refine as_ (sq_n (ad_ (aw_ (ad_ (ab_ ?_)))))
    refine qs 2 [(0, a0.t), (1, i4 st1.1), (5, i4 st1.2), (18, a0.t), (19, i4 st1.2)] hS ?_; intro s hS
    obtain ⟨y2, hy2, h⟩ := bind_some h
    refine bh_ (sl := a0) (e := 45) [i4 y2.Id, i4 y2.Kind, .str y2.Name, i4 y2.Low, y2.Keys.t, y2.Vals.t, i4 y2.Default.Kind, i4 y2.Default.Num, .str y2.Default.Text, i4 y2.Default.Ref] rfl hS rfl rfl (by kernel_rfl) (by kernel_rfl) hy2 rfl ?_; intro rest1 s hS
    refine qs 2 [(0, a0.t), (5, i4 st1.2), (21, .agg (aa_.cells y2)), (22, i4 st1.1)] hS ?_; intro s hS
    obtain ⟨y3, hy3, h⟩ := bind_some h
    refine ar_ (a := []) (b := []) (xs := [.agg (aa_.cells y2), i4 st1.1]) rfl hS rfl rfl hy3 ?_; intro s hS
    refine qs 1 [(0, a0.t), (1, i4 y3), (5, i4 st1.2)] hS ?_; intro s hS
    refine ae_ (sq_n (ad_ (ab_ ?_)))
    refine qs 2 [(0, a0.t), (1, i4 y3), (5, i4 st1.2), (25, .bool (decide (y3 < 0)))] hS ?_; intro s hS
    refine ae_ (sq_n ?_)
    by_cases hc3 : (decide (y3 < 0)) = true
    ·have h := ak_ hc3 h
     refine af_ hS rfl (fun _ => ?_) (fun hf => ah_ hc3 hf)
     refine ad_ (ab_ ?_)
     refine qs 1 [(4, i4 (-1))] hS ?_; intro s hS
     refine ae_ (sq_n (ao_ (bk_r (sq_r ?_))))
     injection h with h; subst h
     exact And.intro rfl (aq_ hH (an_ (v := i4 (-1)) hS rfl r_nil) rfl (by kernel_rfl) (by simp [pureT, pureL, E_i64]))
    ·have h := al_ hc3 h
     refine af_ hS rfl (fun hf => ag_ hc3 hf) (fun _ => ?_)
     refine as_ (bk_n (sq_n (ab_ ?_)))
     refine qs 3 [(0, a0.t), (1, i4 y3), (5, i4 (w4 (st1.2 + 1)))] hS ?_; intro s hS
     refine ae_ ?_
     injection h with h; subst h
     exact And.intro (am_ hS (by kernel_rfl)) hH
   ·have h := al_ hc2 h
    refine af_ hS rfl (fun hf => ag_ hc2 hf) (fun _ => ?_)
    refine ba_ (sq_x ?_)
    injection h with h; subst h
    exact And.intro rfl (And.intro (am_ hS (by kernel_rfl)) hH)
  ·clear hS hH; intro e fr HF; obtain ⟨s, σ⟩ := fr
   rcases y1 with y1 | y1
   ·obtain ⟨rfl, hS, hH⟩ := HF
    refine bk_e (sq_n (ad_ (ab_ ?_)))
    refine qs 2 [(4, i4 y1)] hS ?_; intro s hS
    refine ae_ (sq_n (ao_ ?_))
    injection h with h; subst h
    exact aq_ hH (an_ (v := i4 y1) hS rfl r_nil) rfl (by kernel_rfl) (by simp [pureT, pureL, E_i64])
   ·obtain ⟨rfl, HE⟩ := HF
    refine bk_r (sq_r ?_)
    injection h with h; subst h; exact HE
end Go.Am
