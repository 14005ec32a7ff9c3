/- Functions of the program. -/
import Derived.Test.YtfnjieagnkmceaaAd0
set_option maxRecDepth 100000
set_option maxHeartbeats 4000000
set_option linter.unusedVariables false
set_option linter.unusedSimpArgs false
namespace Go.Am
open Go.Proofs
noncomputable def dx_ (a0 : ac_) : Option Bool := (if (decide (a0.Kind = 4)) = true then (some true) else (some (decide (a0.Kind = 5))))
theorem hM_ (a0 : ac_) (r : Bool) (h : dx_ a0 = some r) : dr_ a0 = some r := by
 unfold dx_ at h
 refine ax_ E_bool_inj rfl rfl ok_89 rfl (all_cons (by kernel_rfl) all_nil) ?_
 intro σ0 s hS hH
 have hS := am_ (L' := [(0, .agg (ac_.cells a0))]) hS (by kernel_rfl)
 refine ad_ (ab_ ?_)
 refine aT_ (v := .agg (ac_.cells a0)) (cs := [i4 a0.Kind, i4 a0.Num, .str a0.Text, i4 a0.Ref]) rfl hS hH rfl rfl (by kernel_rfl) ?_; intro b1 σ s hH hS
 refine qs 1 [(1, .ptr b1 0 0 4)] hS ?_; intro s hS
 refine ae_ (sq_n (ad_ (ab_ ?_)))
 refine qs 1 [(1, .ptr b1 0 0 4), (3, .ptr b1 0 0 1)] hS ?_; intro s hS
 refine ai_ (v := i4 a0.Kind) 0 trivial rfl hS hH rfl rfl (by kernel_rfl) ?_; intro s hS
 refine qs 2 [(6, .bool (decide (a0.Kind = 4))), (1, .ptr b1 0 0 4)] hS ?_; intro s hS
 by_cases hc1 : (decide (a0.Kind = 4)) = true
 ·have h := ak_ hc1 h
  have hS := ap_ hS hc1
  refine qs 5 [(2, .bool true)] hS ?_; intro s hS
  refine ae_ (sq_n (ao_ ?_))
  injection h with h; subst h
  exact aq_ hH (an_ (v := .bool true) hS rfl r_nil) rfl (by kernel_rfl) (by simp [pureT, pureL, E_bool])
 ·have h := al_ hc1 h
  have hS := ap_ hS (aB_ hc1)
  refine qs 1 [(6, .bool false), (7, .ptr b1 0 0 1)] hS ?_; intro s hS
  refine ai_ (v := i4 a0.Kind) 0 trivial rfl hS hH rfl rfl (by kernel_rfl) ?_; intro s hS
  refine qs 3 [(2, .bool (decide (a0.Kind = 5)))] hS ?_; intro s hS
  refine ae_ (sq_n (ao_ ?_))
  injection h with h; subst h
  exact aq_ hH (an_ (v := .bool (decide (a0.Kind = 5))) hS rfl r_nil) rfl (by kernel_rfl) (by simp [pureT, pureL, E_bool])
noncomputable def dR_ (a0 : ac_) : Option Bool := (if (decide (a0.Kind = 4)) = true then (some true) else (some (decide (a0.Kind = 5))))
theorem h3_ (a0 : ac_) (r : Bool) (h : dR_ a0 = some r) : dN_ a0 = some r := by
 unfold dR_ at h
 refine ax_ E_bool_inj rfl rfl ok_91 rfl (all_cons (by kernel_rfl) all_nil) ?_
 intro σ0 s hS hH
 have hS := am_ (L' := [(0, .agg (ac_.cells a0))]) hS (by kernel_rfl)
 refine ad_ (ab_ ?_)
 refine aT_ (v := .agg (ac_.cells a0)) (cs := [i4 a0.Kind, i4 a0.Num, .str a0.Text, i4 a0.Ref]) rfl hS hH rfl rfl (by kernel_rfl) ?_; intro b1 σ s hH hS
 refine qs 1 [(1, .ptr b1 0 0 4)] hS ?_; intro s hS
 refine ae_ (sq_n (ad_ (ab_ ?_)))
 refine qs 1 [(1, .ptr b1 0 0 4), (3, .ptr b1 0 0 1)] hS ?_; intro s hS
 refine ai_ (v := i4 a0.Kind) 0 trivial rfl hS hH rfl rfl (by kernel_rfl) ?_; intro s hS
 refine qs 2 [(6, .bool (decide (a0.Kind = 4))), (1, .ptr b1 0 0 4)] hS ?_; intro s hS
 by_cases hc1 : (decide (a0.Kind = 4)) = true
 ·have h := ak_ hc1 h
  have hS := ap_ hS hc1
  refine qs 5 [(2, .bool true)] hS ?_; intro s hS
  refine ae_ (sq_n (ao_ ?_))
  injection h with h; subst h
  exact aq_ hH (an_ (v := .bool true) hS rfl r_nil) rfl (by kernel_rfl) (by simp [pureT, pureL, E_bool])
 ·have h := al_ hc1 h
  have hS := ap_ hS (aB_ hc1)
  refine qs 1 [(6, .bool false), (7, .ptr b1 0 0 1)] hS ?_; intro s hS
  refine ai_ (v := i4 a0.Kind) 0 trivial rfl hS hH rfl rfl (by kernel_rfl) ?_; intro s hS
  refine qs 3 [(2, .bool (decide (a0.Kind = 5)))] hS ?_; intro s hS
  refine ae_ (sq_n (ao_ ?_))
  injection h with h; subst h
  exact aq_ hH (an_ (v := .bool (decide (a0.Kind = 5))) hS rfl r_nil) rfl (by kernel_rfl) (by simp [pureT, pureL, E_bool])
noncomputable def bz_ (a0 : aa_) (a1 : ac_) : Option Int := (if (decide (a0.Kind = 2)) = true then ((a4_ a0.Keys a1).bind fun y1 => (some y1)) else (if (decide (a1.Kind = 2)) = true then ((eZ_ (w4 (a1.Num - a0.Low)) (a0.Vals.l.length : Int)).bind fun y2 => (if y2 = true then (some (w4 (a1.Num - a0.Low))) else (some (-1)))) else (some (-1))))
theorem f2_ (a0 : aa_) (a1 : ac_) (r : Int) (h : bz_ a0 a1 = some r) : cf_ a0 a1 = some r := by
 unfold bz_ at h
 refine ax_ E_i64_inj rfl rfl ok_92 rfl (all_cons (by kernel_rfl) (all_cons (by kernel_rfl) all_nil)) ?_
 intro σ0 s hS hH
 have hS := am_ (L' := [(0, .agg (aa_.cells a0)), (1, .agg (ac_.cells a1))]) hS (by kernel_rfl)
 refine ad_ (ab_ ?_)
 refine aT_ (v := .agg (aa_.cells a0)) (cs := [i4 a0.Id, i4 a0.Kind, .str a0.Name, i4 a0.Low, a0.Keys.t, a0.Vals.t, i4 a0.Default.Kind, i4 a0.Default.Num, .str a0.Default.Text, i4 a0.Default.Ref]) rfl hS hH rfl rfl (by kernel_rfl) ?_; intro b1 σ s hH hS
 refine aT_ (v := .agg (ac_.cells a1)) (cs := [i4 a1.Kind, i4 a1.Num, .str a1.Text, i4 a1.Ref]) rfl hS hH rfl rfl (by kernel_rfl) ?_; intro b2 σ s hH hS
 refine qs 1 [(2, .ptr b1 0 0 10), (3, .ptr b2 0 0 4)] hS ?_; intro s hS
 refine ae_ (sq_n (ad_ (ad_ (ab_ ?_))))
 refine qs 1 [(2, .ptr b1 0 0 10), (3, .ptr b2 0 0 4), (6, .ptr b1 0 1 1)] hS ?_; intro s hS
 refine ai_ (v := i4 a0.Kind) 1 trivial rfl hS hH rfl rfl (by kernel_rfl) ?_; intro s hS
 refine qs 1 [(2, .ptr b1 0 0 10), (3, .ptr b2 0 0 4), (8, .bool (decide (a0.Kind = 2)))] hS ?_; intro s hS
 refine ae_ (sq_n ?_)
 by_cases hc1 : (decide (a0.Kind = 2)) = true
 ·have h := ak_ hc1 h
  refine af_ hS rfl (fun _ => ?_) (fun hf => ah_ hc1 hf)
  refine ad_ (ab_ ?_)
  refine qs 1 [(3, .ptr b2 0 0 4), (9, .ptr b1 0 4 1)] hS ?_; intro s hS
  refine ai_ (v := a0.Keys.t) 1 trivial rfl hS hH rfl rfl (by kernel_rfl) ?_; intro s hS
  refine ai_ (v := .agg (ac_.cells a1)) 0 trivial rfl hS hH rfl rfl (by kernel_rfl) ?_; intro s hS
  obtain ⟨y1, hy1, h⟩ := bind_some h
  refine ar_ (a := []) (b := []) (xs := [a0.Keys.t, .agg (ac_.cells a1)]) rfl hS rfl rfl hy1 ?_; intro s hS
  refine qs 1 [(4, i4 y1)] hS ?_; intro s hS
  refine ae_ (sq_n (ao_ (sq_r ?_)))
  injection h with h; subst h
  exact aq_ hH (an_ (v := i4 y1) hS rfl r_nil) rfl (by kernel_rfl) (by simp [pureT, pureL, E_i64])
 ·have h := al_ hc1 h
  refine af_ hS rfl (fun hf => ag_ hc1 hf) (fun _ => ?_)
  refine as_ (sq_n (ad_ (ad_ (ab_ ?_))))
  refine qs 1 [(2, .ptr b1 0 0 10), (3, .ptr b2 0 0 4), (13, .ptr b2 0 1 1)] hS ?_; intro s hS
  refine ai_ (v := i4 a1.Num) 0 trivial rfl hS hH rfl rfl (by kernel_rfl) ?_; intro s hS
  refine qs 1 [(2, .ptr b1 0 0 10), (3, .ptr b2 0 0 4), (14, i4 a1.Num), (15, .ptr b1 0 3 1)] hS ?_; intro s hS
  refine ai_ (v := i4 a0.Low) 1 trivial rfl hS hH rfl rfl (by kernel_rfl) ?_; intro s hS
  refine qs 2 [(2, .ptr b1 0 0 10), (3, .ptr b2 0 0 4), (5, i4 (w4 (a1.Num - a0.Low)))] hS ?_; intro s hS
  refine ae_ (sq_n (ad_ (ab_ ?_)))
  refine qs 1 [(2, .ptr b1 0 0 10), (5, i4 (w4 (a1.Num - a0.Low))), (18, .ptr b2 0 0 1)] hS ?_; intro s hS
  refine ai_ (v := i4 a1.Kind) 0 trivial rfl hS hH rfl rfl (by kernel_rfl) ?_; intro s hS
  refine qs 2 [(21, .bool (decide (a1.Kind = 2))), (2, .ptr b1 0 0 10), (5, i4 (w4 (a1.Num - a0.Low)))] hS ?_; intro s hS
  by_cases hc2 : (decide (a1.Kind = 2)) = true
  ·have h := ak_ hc2 h
   have hS := ap_ hS hc2
   refine qs 2 [(5, i4 (w4 (a1.Num - a0.Low))), (21, .bool true), (22, i4 (w4 (a1.Num - a0.Low))), (23, .ptr b1 0 5 1)] hS ?_; intro s hS
   refine ai_ (v := a0.Vals.t) 1 trivial rfl hS hH rfl rfl (by kernel_rfl) ?_; intro s hS
   refine qs 1 [(5, i4 (w4 (a1.Num - a0.Low))), (21, .bool true), (22, i4 (w4 (a1.Num - a0.Low))), (25, i4 (a0.Vals.l.length : Int))] hS ?_; intro s hS
   obtain ⟨y2, hy2, h⟩ := bind_some h
   refine ar_ (a := []) (b := []) (xs := [i4 (w4 (a1.Num - a0.Low)), i4 (a0.Vals.l.length : Int)]) rfl hS rfl rfl hy2 ?_; intro s hS
   refine qs 1 [(5, i4 (w4 (a1.Num - a0.Low))), (27, .bool y2)] hS ?_; intro s hS
   refine ae_ (sq_n ?_)
   by_cases hc3 : y2 = true
   ·have h := ak_ hc3 h
    refine af_ hS rfl (fun _ => ?_) (fun hf => ah_ hc3 hf)
    refine ad_ (ab_ ?_)
    refine qs 2 [(4, i4 (w4 (a1.Num - a0.Low)))] hS ?_; intro s hS
    refine ae_ (sq_n (ao_ (sq_r ?_)))
    injection h with h; subst h
    exact aq_ hH (an_ (v := i4 (w4 (a1.Num - a0.Low))) hS rfl r_nil) rfl (by kernel_rfl) (by simp [pureT, pureL, E_i64])
   ·have h := al_ hc3 h
    refine af_ hS rfl (fun hf => ag_ hc3 hf) (fun _ => ?_)
    refine as_ (sq_n (ad_ (ab_ ?_)))
    refine qs 1 [(4, i4 (-1))] hS ?_; intro s hS
    refine ae_ (sq_n (ao_ ?_))
    injection h with h; subst h
    exact aq_ hH (an_ (v := i4 (-1)) hS rfl r_nil) rfl (by kernel_rfl) (by simp [pureT, pureL, E_i64])
  ·have h := al_ hc2 h
   have hS := ap_ hS (aB_ hc2)
   refine qs 6 [(5, i4 (w4 (a1.Num - a0.Low))), (27, .bool false)] hS ?_; intro s hS
   refine ae_ (sq_n ?_)
   refine af_ (t := false) hS rfl (fun hf => by cases hf) (fun _ => ?_)
   refine as_ (sq_n (ad_ (ab_ ?_)))
   refine qs 1 [(4, i4 (-1))] hS ?_; intro s hS
   refine ae_ (sq_n (ao_ ?_))
   injection h with h; subst h
   exact aq_ hH (an_ (v := i4 (-1)) hS rfl r_nil) rfl (by kernel_rfl) (by simp [pureT, pureL, E_i64])
noncomputable def cU_ (a0 : aj_) : Option aj_ := ((aM_ (S := (Int × (Sl aa_))) (R := (Sl aa_)) (fun st1 => (if (decide (st1.1 < (a0.Objects.l.length : Int))) = true then ((elt a0.Objects st1.1).bind fun y2 => ((aR_ y2).bind fun y3 => ((appS 128 st1.2 (⟨false, [y3]⟩ : Sl aa_)).bind fun y4 => (some (.inl ((w4 (st1.1 + 1)), y4)))))) else (some (.inr st1.2)))) (0, (⟨true, []⟩ : Sl aa_))).bind fun y1 => (some (⟨a0.Next, y1⟩ : aj_)))
theorem hg_ (a0 : aj_) (r : aj_) (h : cU_ a0 = some r) : bw_ a0 = some r := by
 unfold cU_ at h
 refine cx_ rfl rfl ok_93 rfl (all_cons (by kernel_rfl) all_nil) ?_
 intro σ0 s hS hH
 have hS := am_ (L' := [(0, .agg (aj_.cells a0))]) hS (by kernel_rfl)
 refine ad_ (ab_ ?_)
 refine aT_ (v := .agg (aj_.cells a0)) (cs := [i4 a0.Next, a0.Objects.t]) rfl hS hH rfl rfl (by kernel_rfl) ?_; intro b1 σ s hH hS
 refine aO_ (z := [i4 0, (nt aa_)]) rfl hS hH (by kernel_rfl) ?_; intro b2 σ s hH hS
 refine ae_ (sq_n (ad_ (ab_ ?_)))
 refine qs 1 [(1, .ptr b1 0 0 2), (2, .ptr b2 0 0 2), (6, .ptr b1 0 0 1)] hS ?_; intro s hS
 refine ai_ (v := i4 a0.Next) 1 trivial rfl hS hH rfl rfl (by kernel_rfl) ?_; intro s hS
 refine qs 1 [(1, .ptr b1 0 0 2), (2, .ptr b2 0 0 2), (8, .agg [i4 a0.Next, (nt aa_)])] hS ?_; intro s hS
 refine aO_ (z := [i4 0, (nt aa_)]) rfl hS hH (by kernel_rfl) ?_; intro b3 σ s hH hS
 refine aF_ (cs := [i4 a0.Next, (nt aa_)]) rfl hS hH rfl rfl (by kernel_rfl) ?_; intro σ s hH hS
 refine ae_ (sq_n (ad_ (ad_ (ab_ ?_))))
 refine qs 1 [(2, .ptr b2 0 0 2), (3, .ptr b3 0 0 2), (9, .ptr b1 0 1 1)] hS ?_; intro s hS
 refine ai_ (v := a0.Objects.t) 2 trivial rfl hS hH rfl rfl (by kernel_rfl) ?_; intro s hS
 refine qs 2 [(2, .ptr b2 0 0 2), (3, .ptr b3 0 0 2), (10, a0.Objects.t), (11, i4 (a0.Objects.l.length : Int)), (12, i4 0)] hS ?_; intro s hS
 refine ae_ (sq_n (aw_ ?_))
 obtain ⟨y1, hy1, h⟩ := bind_some h
 have hH := Heap.addNil hH true 10
 refine bd_ (fun (st1 : (Int × (Sl aa_))) (fr : Fr) => ∃ t2, aV_ t2 ∧ Sub [(2, .ptr b2 0 0 2), (3, .ptr b3 0 0 2), (10, a0.Objects.t), (11, i4 (a0.Objects.l.length : Int)), (12, i4 st1.1)] fr.s ∧ Heap σ0 fr.σ [.box b3 [i4 a0.Next, t2], .box b2 [i4 0, (nt aa_)], .own true 10 t2 st1.2.t]) (fun (y1 : (Sl aa_)) (e : aC_) (fr : Fr) => ∃ t3, aV_ t3 ∧ e = (.exit 0) ∧ Sub [(2, .ptr b2 0 0 2), (3, .ptr b3 0 0 2)] fr.s ∧ Heap σ0 fr.σ [.box b3 [i4 a0.Next, t3], .box b2 [i4 0, (nt aa_)], .own true 10 t3 y1.t]) hy1 (Exists.intro (T.row true 0 []) (And.intro ⟨rfl, rfl⟩ (And.intro (am_ hS (by kernel_rfl)) (Heap.sel hH [1, 2, 0] rfl (by kernel_rfl))))) ?_ ?_
 ·clear h hy1 hS hH; clear y1; intro st1 x fr h HI; obtain ⟨s, σ⟩ := fr; obtain ⟨t2, ht2, ⟨hS, hH⟩⟩ := HI
  refine ad_ (ab_ ?_)
  refine qs 1 [(2, .ptr b2 0 0 2), (3, .ptr b3 0 0 2), (10, a0.Objects.t), (11, i4 (a0.Objects.l.length : Int)), (12, i4 st1.1), (13, .bool (decide (st1.1 < (a0.Objects.l.length : Int))))] hS ?_; intro s hS
  refine ae_ (sq_n (ad_ ?_))
  by_cases hc1 : (decide (st1.1 < (a0.Objects.l.length : Int))) = true
  ·have h := ak_ hc1 h
   refine af_ hS rfl (fun _ => ?_) (fun hf => ah_ hc1 hf)
   refine as_ (sq_n (ad_ (aw_ (ad_ (ab_ ?_)))))
   obtain ⟨y2, hy2, h⟩ := bind_some h
   refine bh_ (sl := a0.Objects) (e := 30) [i4 y2.Id, i4 y2.Kind, .str y2.Name, i4 y2.Low, y2.Keys.t, y2.Vals.t, i4 y2.Default.Kind, i4 y2.Default.Num, .str y2.Default.Text, i4 y2.Default.Ref] rfl hS rfl rfl (by kernel_rfl) (by kernel_rfl) hy2 rfl ?_; intro rest1 s hS
   refine qs 1 [(2, .ptr b2 0 0 2), (3, .ptr b3 0 0 2), (10, a0.Objects.t), (11, i4 (a0.Objects.l.length : Int)), (12, i4 st1.1), (15, .agg (aa_.cells y2))] hS ?_; intro s hS
   refine aO_ (z := [i4 0, i4 0, .str ⟨#[]⟩, i4 0, (nt ac_), (nt ac_), i4 0, i4 0, .str ⟨#[]⟩, i4 0]) rfl hS hH (by kernel_rfl) ?_; intro b4 σ s hH hS
   refine a0_ (v := .agg (aa_.cells y2)) (cs := [i4 y2.Id, i4 y2.Kind, .str y2.Name, i4 y2.Low, y2.Keys.t, y2.Vals.t, i4 y2.Default.Kind, i4 y2.Default.Num, .str y2.Default.Text, i4 y2.Default.Ref]) (cells' := [i4 y2.Id, i4 y2.Kind, .str y2.Name, i4 y2.Low, y2.Keys.t, y2.Vals.t, i4 y2.Default.Kind, i4 y2.Default.Num, .str y2.Default.Text, i4 y2.Default.Ref]) rfl hS hH rfl rfl rfl (by kernel_rfl) (by kernel_rfl) ?_; intro σ s hH hS
   refine ae_ (sq_n ?_)
   refine b6_ (W2 (fun _ => True) (fun _ => True)) (fun _ => rfl) (by kernel_rfl) (by kernel_rfl) hH ?_; intro mb σs σ hn0 hlt hlto hH
   have hlt_b3 : b3 < mb := hlt b3 _ (List.Mem.tail _ (List.Mem.head _))
   refine qs 1 [(2, .ptr b2 0 0 2), (3, .ptr b3 0 0 2), (5, .ptr b4 0 0 10), (10, a0.Objects.t), (11, i4 (a0.Objects.l.length : Int)), (12, i4 st1.1), (16, .ptr b3 0 1 1)] hS ?_; intro s hS
   refine ai_ (v := t2) 1 (Or.inr ⟨hlt_b3, Or.inl (by kernel_rfl)⟩) rfl hS hH rfl rfl (by kernel_rfl) ?_; intro s hS
   refine ai_ (v := .agg (aa_.cells y2)) 0 (Or.inl (by kernel_rfl)) rfl hS hH rfl rfl (by kernel_rfl) ?_; intro s hS
   obtain ⟨y3, hy3, h⟩ := bind_some h
   refine a2_ (ents := []) (z := false) (ts := [.agg (aa_.cells y2)]) (vs := [.agg (aa_.cells y2)]) rfl rfl hS rfl rfl rfl hH (HL.agg (es1 := []) (es2 := []) (HLi (HLi (HLs (HLi (HLp (HLp (HLi (HLi (HLs (HLi HL.nil)))))))))) HL.nil) hy3 ?_; intro hs σ s hl hH hS
   obtain ⟨t4, t5, rfl⟩ := len2 hl
   have hH : Heap σ0 σ [.own true 4 t4 y3.Keys.t, .own true 4 t5 y3.Vals.t, .box b4 (aa_.cells y2), .box b3 [i4 a0.Next, t2], .box b2 [i4 0, (nt aa_)], .own true 10 t2 st1.2.t] := hH
   have ht4 : aV_ t4 := Heap.one hH
   have ht5 : aV_ t5 := Heap.one (hH.at 1 rfl)
   refine jA_ rfl (by exact hn0) (ents := [.own true 4 t4 y3.Keys.t, .own true 4 t5 y3.Vals.t]) (e := 30) (sz := 10) (z := true) (vs := [.agg [i4 y3.Id, i4 y3.Kind, .str y3.Name, i4 y3.Low, t4, t5, i4 y3.Default.Kind, i4 y3.Default.Num, .str y3.Default.Text, i4 y3.Default.Ref]]) (zc := [i4 0, i4 0, .str ⟨#[]⟩, i4 0, (nt ac_), (nt ac_), i4 0, i4 0, .str ⟨#[]⟩, i4 0]) (cs := [i4 y3.Id, i4 y3.Kind, .str y3.Name, i4 y3.Low, t4, t5, i4 y3.Default.Kind, i4 y3.Default.Num, .str y3.Default.Text, i4 y3.Default.Ref]) (us := [i4 y3.Id, i4 y3.Kind, .str y3.Name, i4 y3.Low, y3.Keys.t, y3.Vals.t, i4 y3.Default.Kind, i4 y3.Default.Num, .str y3.Default.Text, i4 y3.Default.Ref]) (v := Sl.t (⟨false, [y3]⟩ : Sl aa_)) rfl hS hH (by kernel_rfl) (by kernel_rfl) (by kernel_rfl) (by kernel_rfl) (by kernel_rfl) (And.intro (by kernel_rfl) (And.intro (by simp [ht4.1, ht4.2, ht5.1, ht5.2]) trivial)) (by kernel_rfl) (HLi (HLi (HLs (HLi (HL.own rfl (HL.own rfl (HLi (HLi (HLs (HLi HL.nil)))))))))) (by kernel_rfl) ?_; intro t6 σ s ht6 hH hS
   have hH : Heap σ0 σ [.own true 10 t2 st1.2.t, .own true 10 t6 (Sl.t (⟨false, [y3]⟩ : Sl aa_)), .box b4 (aa_.cells y2), .box b3 [i4 a0.Next, t2], .box b2 [i4 0, (nt aa_)]] := hH.sel [4, 0, 1, 2, 3] rfl (by kernel_rfl)
   obtain ⟨y4, hy4, h⟩ := bind_some h
   refine iV_ rfl (by exact hn0) (z := true) (t1 := t2) (a := st1.2) (b := (⟨false, [y3]⟩ : Sl aa_)) (e := 30) (by_ := 128) (zc := [i4 0, i4 0, .str ⟨#[]⟩, i4 0, (nt ac_), (nt ac_), i4 0, i4 0, .str ⟨#[]⟩, i4 0]) (by exact fun _ _ _ _ _ => Or.inr ⟨true, by kernel_rfl, trivial⟩) rfl hS hH rfl rfl (by kernel_rfl) (by kernel_rfl) (by kernel_rfl) (by kernel_rfl) (by kernel_rfl) (by kernel_rfl) hy4 ?_; intro t7 σ s ht7 hH hS
   refine qs 1 [(2, .ptr b2 0 0 2), (3, .ptr b3 0 0 2), (10, a0.Objects.t), (11, i4 (a0.Objects.l.length : Int)), (12, i4 st1.1), (21, t7), (22, .ptr b3 0 1 1)] hS ?_; intro s hS
   have hH : Heap σ0 σ [.box b3 [i4 a0.Next, t2], .own true 10 t7 y4.t, .box b4 (aa_.cells y2), .box b2 [i4 0, (nt aa_)]] := hH.sel [2, 0, 1, 3] rfl (by kernel_rfl)
   refine bC_ rfl (v := t7) (cs := [t7]) (cells' := [i4 a0.Next, t7]) (by exact Or.inr ⟨false, by kernel_rfl, trivial⟩) rfl hS hH rfl rfl (by simp [ht7.1, ht7.2]) (by simp [ht7.1, ht7.2]) (by kernel_rfl) ?_; intro σ s hH hS
   refine ae_ (bk_n (sq_n (ab_ ?_)))
   refine qs 2 [(2, .ptr b2 0 0 2), (3, .ptr b3 0 0 2), (10, a0.Objects.t), (11, i4 (a0.Objects.l.length : Int)), (12, i4 (w4 (st1.1 + 1)))] hS ?_; intro s hS
   refine ae_ ?_
   injection h with h; subst h
   exact Exists.intro t7 (And.intro ht7 (And.intro (am_ hS (by kernel_rfl)) (Heap.sel hH [0, 3, 1] rfl (by kernel_rfl))))
  ·have h := al_ hc1 h
   refine af_ hS rfl (fun hf => ag_ hc1 hf) (fun _ => ?_)
   refine ba_ (sq_x ?_)
   injection h with h; subst h
   exact Exists.intro t2 (And.intro ht2 (And.intro rfl (And.intro (am_ hS (by kernel_rfl)) hH)))
 ·clear hS hH; intro e fr HF; obtain ⟨s, σ⟩ := fr
  obtain ⟨t3, ht3, ⟨rfl, hS, hH⟩⟩ := HF
  refine bk_e (sq_n (ad_ (ab_ ?_)))
  refine ai_ (v := .agg [i4 a0.Next, t3]) 0 trivial rfl hS hH rfl rfl (by kernel_rfl) ?_; intro s hS
  have hH : Heap σ0 σ [.box b2 [i4 0, (nt aa_)], .box b3 [i4 a0.Next, t3], .own true 10 t3 y1.t] := hH.sel [1, 0, 2] rfl (by kernel_rfl)
  refine aF_ (cs := [i4 a0.Next, t3]) rfl hS hH rfl rfl (by simp [ht3.1, ht3.2]) ?_; intro σ s hH hS
  refine ae_ (sq_n (ao_ ?_))
  injection h with h; subst h
  have hH : Heap σ0 σ [.own true 10 t3 y1.t, .box b2 [i4 a0.Next, t3], .box b3 [i4 a0.Next, t3]] := hH.sel [2, 0, 1] rfl (by kernel_rfl)
  exact a8_ [t3] [.box b2 [i4 a0.Next, t3], .box b3 [i4 a0.Next, t3]] (bf_ (v := .agg [i4 a0.Next, t3]) hS (hH.at 1 rfl) rfl (by kernel_rfl) r_nil) (by kernel_rfl) rfl hH (by kernel_rfl)
noncomputable def fU_ (a0 : Int) (a1 : Int) (a2 : Int) : Option Bool := (if (decide (a1 ≤ a0)) = true then (some (decide (a0 ≤ a2))) else (some false))
theorem kx_ (a0 : Int) (a1 : Int) (a2 : Int) (r : Bool) (h : fU_ a0 a1 a2 = some r) : a7_ a0 a1 a2 = some r := by
 unfold fU_ at h
 refine ax_ E_bool_inj rfl rfl ok_94 rfl (all_cons (by kernel_rfl) (all_cons (by kernel_rfl) (all_cons (by kernel_rfl) all_nil))) ?_
 intro σ0 s hS hH
 have hS := am_ (L' := [(0, i4 a0), (1, i4 a1), (2, i4 a2)]) hS (by kernel_rfl)
 refine ad_ (ab_ ?_)
 refine qs 1 [(0, i4 a0), (1, i4 a1), (2, i4 a2)] hS ?_; intro s hS
 refine ae_ (sq_n (ad_ (ab_ ?_)))
 refine qs 4 [(10, .bool (decide (a1 ≤ a0))), (0, i4 a0), (2, i4 a2)] hS ?_; intro s hS
 by_cases hc1 : (decide (a1 ≤ a0)) = true
 ·have h := ak_ hc1 h
  have hS := ap_ hS hc1
  refine qs 5 [(6, .bool (decide (a0 ≤ a2)))] hS ?_; intro s hS
  refine ae_ (sq_n (ao_ ?_))
  injection h with h; subst h
  exact aq_ hH (an_ (v := .bool (decide (a0 ≤ a2))) hS rfl r_nil) rfl (by kernel_rfl) (by simp [pureT, pureL, E_bool])
 ·have h := al_ hc1 h
  have hS := ap_ hS (aB_ hc1)
  refine qs 5 [(6, .bool false)] hS ?_; intro s hS
  refine ae_ (sq_n (ao_ ?_))
  injection h with h; subst h
  exact aq_ hH (an_ (v := .bool false) hS rfl r_nil) rfl (by kernel_rfl) (by simp [pureT, pureL, E_bool])
noncomputable def fq_ (a0 : Int) (a1 : Int) (a2 : Int) : Option Bool := (if (decide (a1 ≤ a0)) = true then (some (decide (a0 ≤ a2))) else (some false))
theorem jM_ (a0 : Int) (a1 : Int) (a2 : Int) (r : Bool) (h : fq_ a0 a1 a2 = some r) : bR_ a0 a1 a2 = some r := by
 unfold fq_ at h
 refine ax_ E_bool_inj rfl rfl ok_95 rfl (all_cons (by kernel_rfl) (all_cons (by kernel_rfl) (all_cons (by kernel_rfl) all_nil))) ?_
 intro σ0 s hS hH
 have hS := am_ (L' := [(0, i4 a0), (1, i4 a1), (2, i4 a2)]) hS (by kernel_rfl)
 refine ad_ (ab_ ?_)
 refine qs 1 [(0, i4 a0), (1, i4 a1), (2, i4 a2)] hS ?_; intro s hS
 refine ae_ (sq_n (ad_ (ab_ ?_)))
 refine qs 4 [(10, .bool (decide (a1 ≤ a0))), (0, i4 a0), (2, i4 a2)] hS ?_; intro s hS
 by_cases hc1 : (decide (a1 ≤ a0)) = true
 ·have h := ak_ hc1 h
  have hS := ap_ hS hc1
  refine qs 5 [(6, .bool (decide (a0 ≤ a2)))] hS ?_; intro s hS
  refine ae_ (sq_n (ao_ ?_))
  injection h with h; subst h
  exact aq_ hH (an_ (v := .bool (decide (a0 ≤ a2))) hS rfl r_nil) rfl (by kernel_rfl) (by simp [pureT, pureL, E_bool])
 ·have h := al_ hc1 h
  have hS := ap_ hS (aB_ hc1)
  refine qs 5 [(6, .bool false)] hS ?_; intro s hS
  refine ae_ (sq_n (ao_ ?_))
  injection h with h; subst h
  exact aq_ hH (an_ (v := .bool false) hS rfl r_nil) rfl (by kernel_rfl) (by simp [pureT, pureL, E_bool])
noncomputable def cF_ (a0 : (Sl ac_)) : Option (Sl ac_) := ((appS 40 (⟨false, []⟩ : Sl ac_) a0).bind fun y1 => (some y1))
theorem gw_ (a0 : (Sl ac_)) (r : (Sl ac_)) (h : cF_ a0 = some r) : bO_ a0 = some r := by
 unfold cF_ at h
 refine cx_ rfl rfl ok_98 rfl (all_cons (by kernel_rfl) all_nil) ?_
 intro σ0 s hS hH
 have hS := am_ (L' := [(0, a0.t)]) hS (by kernel_rfl)
 refine ad_ (ab_ ?_)
 refine qs 1 [(0, a0.t)] hS ?_; intro s hS
 refine ae_ (sq_n (ad_ (ab_ ?_)))
 refine q2_ (e := 28) (sz := 4) (z := true) (zc := [i4 0, i4 0, .str ⟨#[]⟩, i4 0]) rfl (by exact trivial) rfl hS hH (by kernel_rfl) (by kernel_rfl) (by kernel_rfl) (by kernel_rfl) ?_; intro t1 σ s ht1 hH hS
 have hH : Heap σ0 σ [.own true 4 t1 (Sl.t (⟨false, []⟩ : Sl ac_))] := hH
 refine qs 1 [(3, t1), (4, a0.t)] hS ?_; intro s hS
 obtain ⟨y1, hy1, h⟩ := bind_some h
 refine mf_ (z := true) (t1 := t1) (a := (⟨false, []⟩ : Sl ac_)) (b := a0) (e := 28) (by_ := 40) (zc := [i4 0, i4 0, .str ⟨#[]⟩, i4 0]) rfl hS hH rfl rfl (by kernel_rfl) (by kernel_rfl) (by kernel_rfl) (by kernel_rfl) (by kernel_rfl) (by kernel_rfl) hy1 ?_; intro t2 σ s ht2 hH hS
 refine qs 1 [(2, t2)] hS ?_; intro s hS
 refine ae_ (sq_n (ao_ ?_))
 injection h with h; subst h
 exact a8_ [t2] [] (an_ (v := t2) hS rfl r_nil) (by kernel_rfl) rfl hH (by kernel_rfl)
noncomputable def dq_ (a0 : aj_) (a1 : (Sl ac_)) : Option Bool := ((dX_ a0).bind fun y1 => (if y1 = true then ((aD_ a1 (T.fn 73 [.agg (aj_.cells a0)] [])).bind fun y2 => (some y2)) else (some false)))
theorem hN_ (a0 : aj_) (a1 : (Sl ac_)) (r : Bool) (h : dq_ a0 a1 = some r) : dm_ a0 a1 = some r := by
 unfold dq_ at h
 refine ax_ E_bool_inj rfl rfl ok_100 rfl (all_cons (by kernel_rfl) (all_cons (by kernel_rfl) all_nil)) ?_
 intro σ0 s hS hH
 have hS := am_ (L' := [(0, .agg (aj_.cells a0)), (1, a1.t)]) hS (by kernel_rfl)
 refine ad_ (ab_ ?_)
 refine aT_ (v := .agg (aj_.cells a0)) (cs := [i4 a0.Next, a0.Objects.t]) rfl hS hH rfl rfl (by kernel_rfl) ?_; intro b1 σ s hH hS
 refine qs 1 [(1, a1.t), (2, .ptr b1 0 0 2)] hS ?_; intro s hS
 refine ae_ (sq_n (ad_ (ab_ ?_)))
 refine ai_ (v := .agg (aj_.cells a0)) 0 trivial rfl hS hH rfl rfl (by kernel_rfl) ?_; intro s hS
 obtain ⟨y1, hy1, h⟩ := bind_some h
 refine ar_ (a := []) (b := []) (xs := [.agg (aj_.cells a0)]) rfl hS rfl rfl hy1 ?_; intro s hS
 refine qs 1 [(7, .bool y1), (1, a1.t), (2, .ptr b1 0 0 2)] hS ?_; intro s hS
 by_cases hc1 : y1 = true
 ·have h := ak_ hc1 h
  have hS := ap_ hS hc1
  refine qs 1 [(2, .ptr b1 0 0 2), (7, .bool true), (8, a1.t)] hS ?_; intro s hS
  refine ai_ (v := .agg (aj_.cells a0)) 0 trivial rfl hS hH rfl rfl (by kernel_rfl) ?_; intro s hS
  refine qs 1 [(7, .bool true), (8, a1.t), (10, T.fn 73 [.agg (aj_.cells a0)] [])] hS ?_; intro s hS
  obtain ⟨y2, hy2, h⟩ := bind_some h
  refine ar_ (a := []) (b := []) (xs := [a1.t, T.fn 73 [.agg (aj_.cells a0)] []]) rfl hS rfl rfl hy2 ?_; intro s hS
  refine qs 2 [(4, .bool y2)] hS ?_; intro s hS
  refine ae_ (sq_n (ao_ ?_))
  injection h with h; subst h
  exact aq_ hH (an_ (v := .bool y2) hS rfl r_nil) rfl (by kernel_rfl) (by simp [pureT, pureL, E_bool])
 ·have h := al_ hc1 h
  have hS := ap_ hS (aB_ hc1)
  refine qs 6 [(4, .bool false)] hS ?_; intro s hS
  refine ae_ (sq_n (ao_ ?_))
  injection h with h; subst h
  exact aq_ hH (an_ (v := .bool false) hS rfl r_nil) rfl (by kernel_rfl) (by simp [pureT, pureL, E_bool])
noncomputable def bF_ (a0 : (Sl ac_)) : Option (Sl ac_) := (if a0.z = true then (some ⟨true, []⟩) else ((appS 40 (⟨false, []⟩ : Sl ac_) a0).bind fun y1 => (some y1)))
theorem d3_ (a0 : (Sl ac_)) (r : (Sl ac_)) (h : bF_ a0 = some r) : bn_ a0 = some r := by
 unfold bF_ at h
 refine cx_ rfl rfl ok_101 rfl (all_cons (by kernel_rfl) all_nil) ?_
 intro σ0 s hS hH
 have hS := am_ (L' := [(0, a0.t)]) hS (by kernel_rfl)
 refine ad_ (ab_ ?_)
 refine qs 1 [(0, a0.t)] hS ?_; intro s hS
 refine ae_ (sq_n (ad_ (ad_ (ab_ ?_))))
 refine qs 2 [(0, a0.t), (4, .bool a0.z)] hS ?_; intro s hS
 refine ae_ (sq_n ?_)
 by_cases hc1 : a0.z = true
 ·have h := ak_ hc1 h
  refine af_ hS rfl (fun _ => ?_) (fun hf => ah_ hc1 hf)
  refine ad_ (ab_ ?_)
  refine qs 1 [(2, (nt ac_))] hS ?_; intro s hS
  refine ae_ (sq_n (ao_ (sq_r ?_)))
  injection h with h; subst h
  have hH := Heap.addNil hH true 4
  exact a8_ [(T.row true 0 [])] [] (an_ (v := (nt ac_)) hS rfl r_nil) (by kernel_rfl) rfl hH (by kernel_rfl)
 ·have h := al_ hc1 h
  refine af_ hS rfl (fun hf => ag_ hc1 hf) (fun _ => ?_)
  refine as_ (sq_n (ad_ (ab_ ?_)))
  refine q2_ (e := 28) (sz := 4) (z := true) (zc := [i4 0, i4 0, .str ⟨#[]⟩, i4 0]) rfl (by exact trivial) rfl hS hH (by kernel_rfl) (by kernel_rfl) (by kernel_rfl) (by kernel_rfl) ?_; intro t1 σ s ht1 hH hS
  have hH : Heap σ0 σ [.own true 4 t1 (Sl.t (⟨false, []⟩ : Sl ac_))] := hH
  refine qs 1 [(5, t1), (6, a0.t)] hS ?_; intro s hS
  obtain ⟨y1, hy1, h⟩ := bind_some h
  refine mf_ (z := true) (t1 := t1) (a := (⟨false, []⟩ : Sl ac_)) (b := a0) (e := 28) (by_ := 40) (zc := [i4 0, i4 0, .str ⟨#[]⟩, i4 0]) rfl hS hH rfl rfl (by kernel_rfl) (by kernel_rfl) (by kernel_rfl) (by kernel_rfl) (by kernel_rfl) (by kernel_rfl) hy1 ?_; intro t2 σ s ht2 hH hS
  refine qs 1 [(2, t2)] hS ?_; intro s hS
  refine ae_ (sq_n (ao_ ?_))
  injection h with h; subst h
  exact a8_ [t2] [] (an_ (v := t2) hS rfl r_nil) (by kernel_rfl) rfl hH (by kernel_rfl)
noncomputable def di_ (a0 : Int) : Option ByteArray := (if (decide (a0 ≤ 0)) = true then (some ⟨#[109, 48]⟩) else ((aM_ (S := (Int × ByteArray)) (R := ByteArray) (fun st1 => (if (decide (0 < st1.1)) = true then ((strS ((⟨false, [⟨(IntKind.u8.wrap (w4 (48 + (st1.1.tmod 10))))⟩]⟩ : Sl (Iv .u8)))).bind fun y2 => ((catB y2 st1.2).bind fun y3 => (some (.inl ((w4 (st1.1.tdiv 10)), y3))))) else (some (.inr st1.2)))) (a0, ⟨#[]⟩)).bind fun y1 => ((catB ⟨#[109]⟩ y1).bind fun y4 => (some y4))))
theorem ir_ (a0 : Int) (r : ByteArray) (h : di_ a0 = some r) : aJ_ a0 = some r := by
 unfold di_ at h
 refine ax_ E_str_inj rfl rfl ok_103 rfl (all_cons (by kernel_rfl) all_nil) ?_
 intro σ0 s hS hH
 have hS := am_ (L' := [(0, i4 a0)]) hS (by kernel_rfl)
 refine ad_ (ab_ ?_)
 refine qs 1 [(0, i4 a0)] hS ?_; intro s hS
 refine ae_ (sq_n (ad_ (ad_ (ab_ ?_))))
 refine qs 2 [(0, i4 a0), (5, .bool (decide (a0 ≤ 0)))] hS ?_; intro s hS
 refine ae_ (sq_n ?_)
 by_cases hc1 : (decide (a0 ≤ 0)) = true
 ·have h := ak_ hc1 h
  refine af_ hS rfl (fun _ => ?_) (fun hf => ah_ hc1 hf)
  refine ad_ (ab_ ?_)
  refine qs 1 [(2, .str ⟨#[109, 48]⟩)] hS ?_; intro s hS
  refine ae_ (sq_n (ao_ (sq_r ?_)))
  injection h with h; subst h
  exact aq_ hH (an_ (v := .str ⟨#[109, 48]⟩) hS rfl r_nil) rfl (by kernel_rfl) (by simp [pureT, pureL, E_str])
 ·have h := al_ hc1 h
  refine af_ hS rfl (fun hf => ag_ hc1 hf) (fun _ => ?_)
  refine as_ (sq_n (ad_ (ab_ ?_)))
  refine qs 1 [(0, i4 a0), (3, .str ⟨#[]⟩)] hS ?_; intro s hS
  refine ae_ (sq_n (ad_ (aw_ ?_)))
  obtain ⟨y1, hy1, h⟩ := bind_some h
  refine bd_ (fun (st1 : (Int × ByteArray)) (fr : Fr) => Sub [(0, i4 st1.1), (3, .str st1.2)] fr.s ∧ Heap σ0 fr.σ []) (fun (y1 : ByteArray) (e : aC_) (fr : Fr) => e = (.exit 0) ∧ Sub [(3, .str y1)] fr.s ∧ Heap σ0 fr.σ []) hy1 (And.intro (am_ hS (by kernel_rfl)) hH) ?_ ?_
  ·clear h hy1 hS hH; clear y1; intro st1 x fr h HI; obtain ⟨s, σ⟩ := fr; obtain ⟨hS, hH⟩ := HI
   refine ad_ (ad_ (ab_ ?_))
   refine qs 2 [(0, i4 st1.1), (3, .str st1.2), (7, .bool (decide (0 < st1.1)))] hS ?_; intro s hS
   refine ae_ (sq_n ?_)
   by_cases hc2 : (decide (0 < st1.1)) = true
   ·have h := ak_ hc2 h
    refine af_ hS rfl (fun _ => ?_) (fun hf => ah_ hc2 hf)
    refine as_ (sq_n (aw_ (ad_ (ab_ ?_))))
    refine qs 4 [(0, i4 st1.1), (3, .str st1.2), (11, .int .u8 (IntKind.u8.wrap (w4 (48 + (st1.1.tmod 10)))))] hS ?_; intro s hS
    refine q_bs (ents := []) (e := 5) (sz := 1) (z := true) (vs := [.int .u8 (IntKind.u8.wrap (w4 (48 + (st1.1.tmod 10))))]) (zc := [.int .u8 0]) (cs := [.int .u8 (IntKind.u8.wrap (w4 (48 + (st1.1.tmod 10))))]) (us := [.int .u8 (IntKind.u8.wrap (w4 (48 + (st1.1.tmod 10))))]) (v := Sl.t (⟨false, [⟨(IntKind.u8.wrap (w4 (48 + (st1.1.tmod 10))))⟩]⟩ : Sl (Iv .u8))) rfl hS hH (by kernel_rfl) (by kernel_rfl) (by kernel_rfl) (by kernel_rfl) (by kernel_rfl) (And.intro (by kernel_rfl) (And.intro (by kernel_rfl) trivial)) (by kernel_rfl) (HLi HL.nil) (by kernel_rfl) ?_; intro t1 σ s ht1 hH hS
    obtain ⟨y2, hy2, h⟩ := bind_some h
    refine sz_ (a := (⟨false, [⟨(IntKind.u8.wrap (w4 (48 + (st1.1.tmod 10))))⟩]⟩ : Sl (Iv .u8))) (e := 5) rfl hS hH rfl (by kernel_rfl) (by kernel_rfl) (by kernel_rfl) hy2 ?_; intro s hS
    refine qs 1 [(0, i4 st1.1), (13, .str y2), (14, .str st1.2)] hS ?_; intro s hS
    obtain ⟨y3, hy3, h⟩ := bind_some h
    refine ph_ rfl hS rfl rfl hy3 ?_; intro s hS
    refine qs 1 [(0, i4 st1.1), (3, .str y3)] hS ?_; intro s hS
    refine ae_ (sq_n (ab_ ?_))
    refine qs 3 [(0, i4 (w4 (st1.1.tdiv 10))), (3, .str y3)] hS ?_; intro s hS
    refine ae_ (bk_n ?_)
    injection h with h; subst h
    exact And.intro (am_ hS (by kernel_rfl)) (Heap.sel hH [] rfl (by kernel_rfl))
   ·have h := al_ hc2 h
    refine af_ hS rfl (fun hf => ag_ hc2 hf) (fun _ => ?_)
    refine ba_ (sq_x ?_)
    injection h with h; subst h
    exact And.intro rfl (And.intro (am_ hS (by kernel_rfl)) hH)
  ·clear hS hH; intro e fr HF; obtain ⟨s, σ⟩ := fr
   obtain ⟨rfl, hS, hH⟩ := HF
   refine bk_e (sq_n (ad_ (ab_ ?_)))
   refine qs 1 [(18, .str y1)] hS ?_; intro s hS
   obtain ⟨y4, hy4, h⟩ := bind_some h
   refine ph_ rfl hS rfl rfl hy4 ?_; intro s hS
   refine qs 1 [(2, .str y4)] hS ?_; intro s hS
   refine ae_ (sq_n (ao_ ?_))
   injection h with h; subst h
   exact aq_ hH (an_ (v := .str y4) hS rfl r_nil) rfl (by kernel_rfl) (by simp [pureT, pureL, E_str])
noncomputable def c1_ (a0 : aa_) (a1 : Int) : Option Int := ((cL_ a0.Id a1).bind fun y1 => (some y1))
theorem gD_ (a0 : aa_) (a1 : Int) (r : Int) (h : c1_ a0 a1 = some r) : bi_ a0 a1 = some r := by
 unfold c1_ at h
 refine ax_ E_i64_inj rfl rfl ok_113 rfl (all_cons (by kernel_rfl) (all_cons (by kernel_rfl) all_nil)) ?_
 intro σ0 s hS hH
 have hS := am_ (L' := [(0, .agg (aa_.cells a0)), (1, i4 a1)]) hS (by kernel_rfl)
 refine ad_ (ab_ ?_)
 refine aT_ (v := .agg (aa_.cells a0)) (cs := [i4 a0.Id, i4 a0.Kind, .str a0.Name, i4 a0.Low, a0.Keys.t, a0.Vals.t, i4 a0.Default.Kind, i4 a0.Default.Num, .str a0.Default.Text, i4 a0.Default.Ref]) rfl hS hH rfl rfl (by kernel_rfl) ?_; intro b1 σ s hH hS
 refine qs 1 [(1, i4 a1), (2, .ptr b1 0 0 10)] hS ?_; intro s hS
 refine ae_ (sq_n (ad_ (ab_ ?_)))
 refine qs 1 [(1, i4 a1), (5, .ptr b1 0 0 1)] hS ?_; intro s hS
 refine ai_ (v := i4 a0.Id) 0 trivial rfl hS hH rfl rfl (by kernel_rfl) ?_; intro s hS
 refine qs 1 [(6, i4 a0.Id), (7, i4 a1)] hS ?_; intro s hS
 obtain ⟨y1, hy1, h⟩ := bind_some h
 refine ar_ (a := []) (b := []) (xs := [i4 a0.Id, i4 a1]) rfl hS rfl rfl hy1 ?_; intro s hS
 refine qs 1 [(4, i4 y1)] hS ?_; intro s hS
 refine ae_ (sq_n (ao_ ?_))
 injection h with h; subst h
 exact aq_ hH (an_ (v := i4 y1) hS rfl r_nil) rfl (by kernel_rfl) (by simp [pureT, pureL, E_i64])
noncomputable def cK_ (a0 : Int) (a1 : Int) : Option Int := ((cm_ a0).bind fun y1 => ((cm_ a1).bind fun y2 => (if y1 = true then (if y2 = true then (some 0) else (some (-1))) else (if y2 = true then (some 1) else (if (decide (a0 < a1)) = true then (some (-1)) else (if (decide (a1 < a0)) = true then (some 1) else (some 0)))))))
theorem gB_ (a0 : Int) (a1 : Int) (r : Int) (h : cK_ a0 a1 = some r) : cL_ a0 a1 = some r := by
 unfold cK_ at h
 refine ax_ E_i64_inj rfl rfl ok_114 rfl (all_cons (by kernel_rfl) (all_cons (by kernel_rfl) all_nil)) ?_
 intro σ0 s hS hH
 have hS := am_ (L' := [(0, i4 a0), (1, i4 a1)]) hS (by kernel_rfl)
 refine ad_ (ab_ ?_)
 refine qs 1 [(0, i4 a0), (1, i4 a1)] hS ?_; intro s hS
 refine ae_ (sq_n (ad_ (ab_ ?_)))
 refine qs 1 [(0, i4 a0), (1, i4 a1), (7, i4 a0)] hS ?_; intro s hS
 obtain ⟨y1, hy1, h⟩ := bind_some h
 refine ar_ (a := []) (b := []) (xs := [i4 a0]) rfl hS rfl rfl hy1 ?_; intro s hS
 refine qs 1 [(0, i4 a0), (1, i4 a1), (5, .bool y1)] hS ?_; intro s hS
 refine ae_ (sq_n (ad_ (ab_ ?_)))
 refine qs 1 [(0, i4 a0), (1, i4 a1), (5, .bool y1), (9, i4 a1)] hS ?_; intro s hS
 obtain ⟨y2, hy2, h⟩ := bind_some h
 refine ar_ (a := []) (b := []) (xs := [i4 a1]) rfl hS rfl rfl hy2 ?_; intro s hS
 refine qs 1 [(0, i4 a0), (1, i4 a1), (5, .bool y1), (6, .bool y2)] hS ?_; intro s hS
 refine ae_ (sq_n (ad_ (ad_ (ab_ ?_))))
 refine qs 1 [(0, i4 a0), (1, i4 a1), (6, .bool y2), (11, .bool y1)] hS ?_; intro s hS
 refine ae_ (sq_n ?_)
 by_cases hc1 : y1 = true
 ·have h := ak_ hc1 h
  refine af_ hS rfl (fun _ => ?_) (fun hf => ah_ hc1 hf)
  refine ad_ (ad_ (ab_ ?_))
  refine qs 1 [(12, .bool y2)] hS ?_; intro s hS
  refine ae_ (sq_n ?_)
  by_cases hc2 : y2 = true
  ·have h := ak_ hc2 h
   refine af_ hS rfl (fun _ => ?_) (fun hf => ah_ hc2 hf)
   refine ad_ (ab_ ?_)
   refine qs 1 [(4, i4 0)] hS ?_; intro s hS
   refine ae_ (sq_n (ao_ (sq_r (sq_r ?_))))
   injection h with h; subst h
   exact aq_ hH (an_ (v := i4 0) hS rfl r_nil) rfl (by kernel_rfl) (by simp [pureT, pureL, E_i64])
  ·have h := al_ hc2 h
   refine af_ hS rfl (fun hf => ag_ hc2 hf) (fun _ => ?_)
   refine as_ (sq_n (ad_ (ab_ ?_)))
   refine qs 1 [(4, i4 (-1))] hS ?_; intro s hS
   refine ae_ (sq_n (ao_ (sq_r ?_)))
   injection h with h; subst h
   exact aq_ hH (an_ (v := i4 (-1)) hS rfl r_nil) rfl (by kernel_rfl) (by simp [pureT, pureL, E_i64])
 ·have h := al_ hc1 h
  refine af_ hS rfl (fun hf => ag_ hc1 hf) (fun _ => ?_)
  refine as_ (sq_n (ad_ (ad_ (ab_ ?_))))
  refine qs 1 [(0, i4 a0), (1, i4 a1), (13, .bool y2)] hS ?_; intro s hS
  refine ae_ (sq_n ?_)
  by_cases hc3 : y2 = true
  ·have h := ak_ hc3 h
   refine af_ hS rfl (fun _ => ?_) (fun hf => ah_ hc3 hf)
   refine ad_ (ab_ ?_)
   refine qs 1 [(4, i4 1)] hS ?_; intro s hS
   refine ae_ (sq_n (ao_ (sq_r ?_)))
   injection h with h; subst h
   exact aq_ hH (an_ (v := i4 1) hS rfl r_nil) rfl (by kernel_rfl) (by simp [pureT, pureL, E_i64])
  ·have h := al_ hc3 h
   refine af_ hS rfl (fun hf => ag_ hc3 hf) (fun _ => ?_)
   refine as_ (sq_n (ad_ (ad_ (ab_ ?_))))
   refine qs 3 [(0, i4 a0), (1, i4 a1), (16, .bool (decide (a0 < a1)))] hS ?_; intro s hS
   refine ae_ (sq_n ?_)
   by_cases hc4 : (decide (a0 < a1)) = true
   ·have h := ak_ hc4 h
    refine af_ hS rfl (fun _ => ?_) (fun hf => ah_ hc4 hf)
    refine ad_ (ab_ ?_)
    refine qs 1 [(4, i4 (-1))] hS ?_; intro s hS
    refine ae_ (sq_n (ao_ (sq_r ?_)))
    injection h with h; subst h
    exact aq_ hH (an_ (v := i4 (-1)) hS rfl r_nil) rfl (by kernel_rfl) (by simp [pureT, pureL, E_i64])
   ·have h := al_ hc4 h
    refine af_ hS rfl (fun hf => ag_ hc4 hf) (fun _ => ?_)
    refine as_ (sq_n (ad_ (ad_ (ab_ ?_))))
    refine qs 3 [(19, .bool (decide (a1 < a0)))] hS ?_; intro s hS
    refine ae_ (sq_n ?_)
    by_cases hc5 : (decide (a1 < a0)) = true
    ·have h := ak_ hc5 h
     refine af_ hS rfl (fun _ => ?_) (fun hf => ah_ hc5 hf)
     refine ad_ (ab_ ?_)
     refine qs 1 [(4, i4 1)] hS ?_; intro s hS
     refine ae_ (sq_n (ao_ (sq_r ?_)))
     injection h with h; subst h
     exact aq_ hH (an_ (v := i4 1) hS rfl r_nil) rfl (by kernel_rfl) (by simp [pureT, pureL, E_i64])
    ·have h := al_ hc5 h
     refine af_ hS rfl (fun hf => ag_ hc5 hf) (fun _ => ?_)
     refine as_ (sq_n (ad_ (ab_ ?_)))
     refine qs 1 [(4, i4 0)] hS ?_; intro s hS
     refine ae_ (sq_n (ao_ ?_))
     injection h with h; subst h
     exact aq_ hH (an_ (v := i4 0) hS rfl r_nil) rfl (by kernel_rfl) (by simp [pureT, pureL, E_i64])
noncomputable def cb_ (a0 : (Sl ac_)) (a1 : Int) : Option Bool := (if (decide (a1 < (a0.l.length : Int))) = true then (some false) else ((aM_ (S := Int) (R := (Unit ⊕ Bool)) (fun st1 => (if (decide (st1 < (a0.l.length : Int))) = true then ((elt a0 st1).bind fun y2 => ((bK_ y2).bind fun y3 => (if (!y3) = true then (some (.inr (.inr false))) else (some (.inl (w4 (st1 + 1))))))) else (some (.inr (.inl ()))))) 0).bind fun y1 => (Sum.elim (fun y1 => (some true)) (fun y1 => (some y1)) y1)))
theorem f0_ (a0 : (Sl ac_)) (a1 : Int) (r : Bool) (h : cb_ a0 a1 = some r) : be_ a0 a1 = some r := by
 unfold cb_ at h
 refine ax_ E_bool_inj rfl rfl ok_115 rfl (all_cons (by kernel_rfl) (all_cons (by kernel_rfl) all_nil)) ?_
 intro σ0 s hS hH
 have hS := am_ (L' := [(0, a0.t), (1, i4 a1)]) hS (by kernel_rfl)
 refine ad_ (ab_ ?_)
 refine qs 1 [(0, a0.t), (1, i4 a1)] hS ?_; intro s hS
 refine ae_ (sq_n (ad_ (ad_ (ab_ ?_))))
 refine qs 4 [(0, a0.t), (9, .bool (decide (a1 < (a0.l.length : Int))))] hS ?_; intro s hS
 refine ae_ (sq_n ?_)
 by_cases hc1 : (decide (a1 < (a0.l.length : Int))) = true
 ·have h := ak_ hc1 h
  refine af_ hS rfl (fun _ => ?_) (fun hf => ah_ hc1 hf)
  refine ad_ (ab_ ?_)
  refine qs 1 [(4, .bool false)] hS ?_; intro s hS
  refine ae_ (sq_n (ao_ (sq_r ?_)))
  injection h with h; subst h
  exact aq_ hH (an_ (v := .bool false) hS rfl r_nil) rfl (by kernel_rfl) (by simp [pureT, pureL, E_bool])
 ·have h := al_ hc1 h
  refine af_ hS rfl (fun hf => ag_ hc1 hf) (fun _ => ?_)
  refine as_ (sq_n (ad_ (ad_ (ab_ ?_))))
  refine qs 1 [(0, a0.t), (5, i4 0)] hS ?_; intro s hS
  refine ae_ (sq_n (aw_ ?_))
  obtain ⟨y1, hy1, h⟩ := bind_some h
  refine bd_ (fun (st1 : Int) (fr : Fr) => Sub [(0, a0.t), (5, i4 st1)] fr.s ∧ Heap σ0 fr.σ []) (fun (y1 : (Unit ⊕ Bool)) (e : aC_) (fr : Fr) => (Sum.elim (fun y => e = (.exit 0) ∧ Sub [] fr.s ∧ Heap σ0 fr.σ []) (fun y => e = .ret ∧ endW Try.prog (Try.f115.results.toList) σ0 (E_bool y) .ret fr)) y1) hy1 (And.intro (am_ hS (by kernel_rfl)) hH) ?_ ?_
  ·clear h hy1 hS hH; clear y1; intro st1 x fr h HI; obtain ⟨s, σ⟩ := fr; obtain ⟨hS, hH⟩ := HI
   refine ad_ (ad_ (ab_ ?_))
   refine qs 4 [(0, a0.t), (5, i4 st1), (13, .bool (decide (st1 < (a0.l.length : Int))))] hS ?_; intro s hS
   refine ae_ (sq_n ?_)
   by_cases hc2 : (decide (st1 < (a0.l.length : Int))) = true
   ·have h := ak_ hc2 h
    refine af_ hS rfl (fun _ => ?_) (fun hf => ah_ hc2 hf)
    refine as_ (sq_n (ad_ (aw_ (ad_ (ab_ ?_)))))
    refine qs 2 [(0, a0.t), (5, i4 st1), (16, a0.t), (17, i4 st1)] hS ?_; intro s hS
    obtain ⟨y2, hy2, h⟩ := bind_some h
    refine bh_ (sl := a0) (e := 28) [i4 y2.Kind, i4 y2.Num, .str y2.Text, i4 y2.Ref] rfl hS rfl rfl (by kernel_rfl) (by kernel_rfl) hy2 rfl ?_; intro rest1 s hS
    refine qs 1 [(0, a0.t), (5, i4 st1), (19, .agg (ac_.cells y2))] hS ?_; intro s hS
    obtain ⟨y3, hy3, h⟩ := bind_some h
    refine ar_ (a := []) (b := []) (xs := [.agg (ac_.cells y2)]) rfl hS rfl rfl hy3 ?_; intro s hS
    refine qs 1 [(0, a0.t), (5, i4 st1), (21, .bool (!y3))] hS ?_; intro s hS
    refine ae_ (sq_n ?_)
    by_cases hc3 : (!y3) = true
    ·have h := ak_ hc3 h
     refine af_ hS rfl (fun _ => ?_) (fun hf => ah_ hc3 hf)
     refine ad_ (ab_ ?_)
     refine qs 1 [(4, .bool false)] hS ?_; intro s hS
     refine ae_ (sq_n (ao_ (bk_r (sq_r ?_))))
     injection h with h; subst h
     exact And.intro rfl (aq_ hH (an_ (v := .bool false) hS rfl r_nil) rfl (by kernel_rfl) (by simp [pureT, pureL, E_bool]))
    ·have h := al_ hc3 h
     refine af_ hS rfl (fun hf => ag_ hc3 hf) (fun _ => ?_)
     refine as_ (bk_n (sq_n (ab_ ?_)))
     refine qs 3 [(0, a0.t), (5, i4 (w4 (st1 + 1)))] hS ?_; intro s hS
     refine ae_ ?_
     injection h with h; subst h
     exact And.intro (am_ hS (by kernel_rfl)) hH
   ·have h := al_ hc2 h
    refine af_ hS rfl (fun hf => ag_ hc2 hf) (fun _ => ?_)
    refine ba_ (sq_x ?_)
    injection h with h; subst h
    exact And.intro rfl (And.intro (am_ hS (by kernel_rfl)) hH)
  ·clear hS hH; intro e fr HF; obtain ⟨s, σ⟩ := fr
   rcases y1 with y1 | y1
   ·obtain ⟨rfl, hS, hH⟩ := HF
    refine bk_e (sq_n (ad_ (ab_ ?_)))
    refine qs 1 [(4, .bool true)] hS ?_; intro s hS
    refine ae_ (sq_n (ao_ ?_))
    injection h with h; subst h
    exact aq_ hH (an_ (v := .bool true) hS rfl r_nil) rfl (by kernel_rfl) (by simp [pureT, pureL, E_bool])
   ·obtain ⟨rfl, HE⟩ := HF
    refine bk_r (sq_r ?_)
    injection h with h; subst h; exact HE
noncomputable def c5_ (a0 : (Sl ac_)) : Option Bool := ((aM_ (S := Int) (R := (Unit ⊕ Bool)) (fun st1 => (if (decide (st1 < (a0.l.length : Int))) = true then ((aM_ (S := Int) (R := (Unit ⊕ Bool)) (fun st2 => (if (decide (st2 < st1)) = true then ((elt a0 st1).bind fun y3 => ((elt a0 st2).bind fun y4 => ((b2_ y3 y4).bind fun y5 => (if y5 = true then (some (.inr (.inr false))) else (some (.inl (w4 (st2 + 1)))))))) else (some (.inr (.inl ()))))) 0).bind fun y2 => (Sum.elim (fun y2 => (some (.inl (w4 (st1 + 1))))) (fun y2 => (some (.inr (.inr y2)))) y2)) else (some (.inr (.inl ()))))) 0).bind fun y1 => (Sum.elim (fun y1 => (some true)) (fun y1 => (some y1)) y1))
theorem hi_ (a0 : (Sl ac_)) (r : Bool) (h : c5_ a0 = some r) : b7_ a0 = some r := by
 unfold c5_ at h
 refine ax_ E_bool_inj rfl rfl ok_116 rfl (all_cons (by kernel_rfl) all_nil) ?_
 intro σ0 s hS hH
 have hS := am_ (L' := [(0, a0.t)]) hS (by kernel_rfl)
 refine ad_ (ab_ ?_)
 refine qs 1 [(0, a0.t)] hS ?_; intro s hS
 refine ae_ (sq_n (ad_ (ad_ (ab_ ?_))))
 refine qs 1 [(0, a0.t), (3, i4 0)] hS ?_; intro s hS
 refine ae_ (sq_n (aw_ ?_))
 obtain ⟨y1, hy1, h⟩ := bind_some h
 refine bd_ (fun (st1 : Int) (fr : Fr) => Sub [(0, a0.t), (3, i4 st1)] fr.s ∧ Heap σ0 fr.σ []) (fun (y1 : (Unit ⊕ Bool)) (e : aC_) (fr : Fr) => (Sum.elim (fun y => e = (.exit 0) ∧ Sub [] fr.s ∧ Heap σ0 fr.σ []) (fun y => e = .ret ∧ endW Try.prog (Try.f116.results.toList) σ0 (E_bool y) .ret fr)) y1) hy1 (And.intro (am_ hS (by kernel_rfl)) hH) ?_ ?_
 ·clear h hy1 hS hH; clear y1; intro st1 x fr h HI; obtain ⟨s, σ⟩ := fr; obtain ⟨hS, hH⟩ := HI
  refine ad_ (ad_ (ab_ ?_))
  refine qs 4 [(0, a0.t), (3, i4 st1), (8, .bool (decide (st1 < (a0.l.length : Int))))] hS ?_; intro s hS
  refine ae_ (sq_n ?_)
  by_cases hc1 : (decide (st1 < (a0.l.length : Int))) = true
  ·have h := ak_ hc1 h
   refine af_ hS rfl (fun _ => ?_) (fun hf => ah_ hc1 hf)
   refine as_ (sq_n (ad_ (aw_ (ad_ (ab_ ?_)))))
   refine qs 1 [(0, a0.t), (3, i4 st1), (4, i4 0)] hS ?_; intro s hS
   refine ae_ (sq_n (aw_ ?_))
   obtain ⟨y2, hy2, h⟩ := bind_some h
   refine bd_ (fun (st2 : Int) (fr : Fr) => Sub [(0, a0.t), (3, i4 st1), (4, i4 st2)] fr.s ∧ Heap σ0 fr.σ []) (fun (y2 : (Unit ⊕ Bool)) (e : aC_) (fr : Fr) => (Sum.elim (fun y => e = (.exit 2) ∧ Sub [(0, a0.t), (3, i4 st1)] fr.s ∧ Heap σ0 fr.σ []) (fun y => e = .ret ∧ endW Try.prog (Try.f116.results.toList) σ0 (E_bool y) .ret fr)) y2) hy2 (And.intro (am_ hS (by kernel_rfl)) hH) ?_ ?_
   ·clear h hy2 hS hH; clear y2; intro st2 x fr h HI; obtain ⟨s, σ⟩ := fr; obtain ⟨hS, hH⟩ := HI
    refine ad_ (ad_ (ab_ ?_))
    refine qs 3 [(0, a0.t), (3, i4 st1), (4, i4 st2), (13, .bool (decide (st2 < st1)))] hS ?_; intro s hS
    refine ae_ (sq_n ?_)
    by_cases hc2 : (decide (st2 < st1)) = true
    ·have h := ak_ hc2 h
     refine af_ hS rfl (fun _ => ?_) (fun hf => ah_ hc2 hf)
     refine as_ (sq_n (ad_ (aw_ (ad_ ?_))))
     refine dk_ (by kernel_rfl) hH ?_; intro mb σ hH
     refine qs 2 [(0, a0.t), (3, i4 st1), (4, i4 st2), (16, a0.t), (17, i4 st1)] hS ?_; intro s hS
     obtain ⟨y3, hy3, h⟩ := bind_some h
     refine bh_ (sl := a0) (e := 28) [i4 y3.Kind, i4 y3.Num, .str y3.Text, i4 y3.Ref] rfl hS rfl rfl (by kernel_rfl) (by kernel_rfl) hy3 rfl ?_; intro rest1 s hS
     refine qs 3 [(0, a0.t), (3, i4 st1), (4, i4 st2), (19, .agg (ac_.cells y3)), (20, a0.t), (21, i4 st2)] hS ?_; intro s hS
     obtain ⟨y4, hy4, h⟩ := bind_some h
     refine bh_ (sl := a0) (e := 28) [i4 y4.Kind, i4 y4.Num, .str y4.Text, i4 y4.Ref] rfl hS rfl rfl (by kernel_rfl) (by kernel_rfl) hy4 rfl ?_; intro rest2 s hS
     refine qs 1 [(0, a0.t), (3, i4 st1), (4, i4 st2), (19, .agg (ac_.cells y3)), (23, .agg (ac_.cells y4))] hS ?_; intro s hS
     obtain ⟨y5, hy5, h⟩ := bind_some h
     refine ar_ (a := []) (b := []) (xs := [.agg (ac_.cells y3), .agg (ac_.cells y4)]) rfl hS rfl rfl hy5 ?_; intro s hS
     refine ae_ (sq_n ?_)
     by_cases hc3 : y5 = true
     ·have h := ak_ hc3 h
      refine af_ hS rfl (fun _ => ?_) (fun hf => ah_ hc3 hf)
      refine ad_ (ab_ ?_)
      refine qs 1 [(2, .bool false)] hS ?_; intro s hS
      refine ae_ (sq_n (ao_ (bk_r (sq_r ?_))))
      injection h with h; subst h
      exact And.intro rfl (aq_ hH (an_ (v := .bool false) hS rfl r_nil) rfl (by kernel_rfl) (by simp [pureT, pureL, E_bool]))
     ·have h := al_ hc3 h
      refine af_ hS rfl (fun hf => ag_ hc3 hf) (fun _ => ?_)
      refine as_ (bk_n (sq_n (ab_ ?_)))
      refine qs 3 [(0, a0.t), (3, i4 st1), (4, i4 (w4 (st2 + 1)))] hS ?_; intro s hS
      refine ae_ ?_
      injection h with h; subst h
      exact And.intro (am_ hS (by kernel_rfl)) hH
    ·have h := al_ hc2 h
     refine af_ hS rfl (fun hf => ag_ hc2 hf) (fun _ => ?_)
     refine ba_ (sq_x ?_)
     injection h with h; subst h
     exact And.intro rfl (And.intro (am_ hS (by kernel_rfl)) hH)
   ·clear hS hH; intro e fr HF; obtain ⟨s, σ⟩ := fr
    rcases y2 with y2 | y2
    ·obtain ⟨rfl, hS, hH⟩ := HF
     refine bk_e (bk_n (sq_n (ab_ ?_)))
     refine qs 3 [(0, a0.t), (3, i4 (w4 (st1 + 1)))] hS ?_; intro s hS
     refine ae_ ?_
     injection h with h; subst h
     exact And.intro (am_ hS (by kernel_rfl)) hH
    ·obtain ⟨rfl, HE⟩ := HF
     refine bk_r (bk_r (sq_r ?_))
     injection h with h; subst h; exact And.intro rfl HE
  ·have h := al_ hc1 h
   refine af_ hS rfl (fun hf => ag_ hc1 hf) (fun _ => ?_)
   refine ba_ (sq_x ?_)
   injection h with h; subst h
   exact And.intro rfl (And.intro (am_ hS (by kernel_rfl)) hH)
 ·clear hS hH; intro e fr HF; obtain ⟨s, σ⟩ := fr
  rcases y1 with y1 | y1
  ·obtain ⟨rfl, hS, hH⟩ := HF
   refine bk_e (sq_n (ad_ (ab_ ?_)))
   refine qs 1 [(2, .bool true)] hS ?_; intro s hS
   refine ae_ (sq_n (ao_ ?_))
   injection h with h; subst h
   exact aq_ hH (an_ (v := .bool true) hS rfl r_nil) rfl (by kernel_rfl) (by simp [pureT, pureL, E_bool])
  ·obtain ⟨rfl, HE⟩ := HF
   refine bk_r (sq_r ?_)
   injection h with h; subst h; exact HE
noncomputable def dB_ (a0 : ac_) : Option Bool := (if (decide (a0.Kind = 1)) = true then ((br_ a0 false true false).bind fun y1 => (if y1 = true then (some (decide ((a0.Text.size : Int) ≤ 200))) else (some false))) else (if (decide (a0.Kind = 2)) = true then ((br_ a0 true false false).bind fun y2 => (if y2 = true then ((a7_ a0.Num (-1000000000000) 1000000000000).bind fun y3 => (some y3)) else (some false))) else (if (decide (a0.Kind = 3)) = true then ((br_ a0 false true false).bind fun y4 => (if y4 = true then ((a7_ (a0.Text.size : Int) 1 1200).bind fun y5 => (some y5)) else (some false))) else (((if (decide (a0.Kind = 4)) = true then (some (decide (a0.Kind = 4))) else (if (decide (a0.Kind = 5)) = true then (some (decide (a0.Kind = 5))) else (some (decide (a0.Kind = 6))))) : Option Bool).bind fun y6 => (if y6 = true then ((br_ a0 false false true).bind fun y7 => (if y7 = true then ((a7_ a0.Ref 1 1000000).bind fun y8 => (some y8)) else (some false))) else (((if (decide (a0.Kind = 7)) = true then (some (decide (a0.Kind = 7))) else (some (decide (a0.Kind = 8)))) : Option Bool).bind fun y9 => (if y9 = true then ((br_ a0 false true false).bind fun y10 => (if y10 = true then ((c4_ a0.Text).bind fun y11 => (some y11)) else (some false))) else (some false))))))))
theorem ho_ (a0 : ac_) (r : Bool) (h : dB_ a0 = some r) : bK_ a0 = some r := by
 unfold dB_ at h
 refine ax_ E_bool_inj rfl rfl ok_117 rfl (all_cons (by kernel_rfl) all_nil) ?_
 intro σ0 s hS hH
 have hS := am_ (L' := [(0, .agg (ac_.cells a0))]) hS (by kernel_rfl)
 refine ad_ (ab_ ?_)
 refine aT_ (v := .agg (ac_.cells a0)) (cs := [i4 a0.Kind, i4 a0.Num, .str a0.Text, i4 a0.Ref]) rfl hS hH rfl rfl (by kernel_rfl) ?_; intro b1 σ s hH hS
 refine qs 1 [(1, .ptr b1 0 0 4)] hS ?_; intro s hS
 refine ae_ (sq_n (ad_ (ad_ (ab_ ?_))))
 refine qs 1 [(1, .ptr b1 0 0 4), (3, .ptr b1 0 0 1)] hS ?_; intro s hS
 refine ai_ (v := i4 a0.Kind) 0 trivial rfl hS hH rfl rfl (by kernel_rfl) ?_; intro s hS
 refine ae_ (sq_n (aw_ (ad_ (ab_ ?_))))
 refine qs 2 [(1, .ptr b1 0 0 4), (4, i4 a0.Kind), (5, .bool (decide (a0.Kind = 1)))] hS ?_; intro s hS
 refine ae_ (sq_n ?_)
 by_cases hc1 : (decide (a0.Kind = 1)) = true
 ·have h := ak_ hc1 h
  refine af_ hS rfl (fun _ => ?_) (fun hf => ah_ hc1 hf)
  refine ad_ (ab_ ?_)
  refine ai_ (v := .agg (ac_.cells a0)) 0 trivial rfl hS hH rfl rfl (by kernel_rfl) ?_; intro s hS
  obtain ⟨y1, hy1, h⟩ := bind_some h
  refine ar_ (a := []) (b := []) (xs := [.agg (ac_.cells a0), .bool false, .bool true, .bool false]) rfl hS rfl rfl hy1 ?_; intro s hS
  refine qs 1 [(9, .bool y1), (1, .ptr b1 0 0 4)] hS ?_; intro s hS
  by_cases hc2 : y1 = true
  ·have h := ak_ hc2 h
   have hS := ap_ hS hc2
   refine qs 1 [(9, .bool true), (10, .ptr b1 0 2 1)] hS ?_; intro s hS
   refine ai_ (v := .str a0.Text) 0 trivial rfl hS hH rfl rfl (by kernel_rfl) ?_; intro s hS
   refine qs 4 [(2, .bool (decide ((a0.Text.size : Int) ≤ 200)))] hS ?_; intro s hS
   refine ae_ (sq_n (ao_ (bk_r (sq_r ?_))))
   injection h with h; subst h
   exact aq_ hH (an_ (v := .bool (decide ((a0.Text.size : Int) ≤ 200))) hS rfl r_nil) rfl (by kernel_rfl) (by simp [pureT, pureL, E_bool])
  ·have h := al_ hc2 h
   have hS := ap_ hS (aB_ hc2)
   refine qs 6 [(2, .bool false)] hS ?_; intro s hS
   refine ae_ (sq_n (ao_ (bk_r (sq_r ?_))))
   injection h with h; subst h
   exact aq_ hH (an_ (v := .bool false) hS rfl r_nil) rfl (by kernel_rfl) (by simp [pureT, pureL, E_bool])
 ·have h := al_ hc1 h
  refine af_ hS rfl (fun hf => ag_ hc1 hf) (fun _ => ?_)
  refine ad_ (ab_ ?_)
  refine qs 2 [(1, .ptr b1 0 0 4), (4, i4 a0.Kind), (15, .bool (decide (a0.Kind = 2)))] hS ?_; intro s hS
  refine ae_ (sq_n ?_)
  by_cases hc3 : (decide (a0.Kind = 2)) = true
  ·have h := ak_ hc3 h
   refine af_ hS rfl (fun _ => ?_) (fun hf => ah_ hc3 hf)
   refine ad_ (ab_ ?_)
   refine ai_ (v := .agg (ac_.cells a0)) 0 trivial rfl hS hH rfl rfl (by kernel_rfl) ?_; intro s hS
   obtain ⟨y2, hy2, h⟩ := bind_some h
   refine ar_ (a := []) (b := []) (xs := [.agg (ac_.cells a0), .bool true, .bool false, .bool false]) rfl hS rfl rfl hy2 ?_; intro s hS
   refine qs 1 [(19, .bool y2), (1, .ptr b1 0 0 4)] hS ?_; intro s hS
   by_cases hc4 : y2 = true
   ·have h := ak_ hc4 h
    have hS := ap_ hS hc4
    refine qs 1 [(19, .bool true), (20, .ptr b1 0 1 1)] hS ?_; intro s hS
    refine ai_ (v := i4 a0.Num) 0 trivial rfl hS hH rfl rfl (by kernel_rfl) ?_; intro s hS
    obtain ⟨y3, hy3, h⟩ := bind_some h
    refine ar_ (a := []) (b := []) (xs := [i4 a0.Num, i4 (-1000000000000), i4 1000000000000]) rfl hS rfl rfl hy3 ?_; intro s hS
    refine qs 2 [(2, .bool y3)] hS ?_; intro s hS
    refine ae_ (sq_n (ao_ (bk_r (sq_r ?_))))
    injection h with h; subst h
    exact aq_ hH (an_ (v := .bool y3) hS rfl r_nil) rfl (by kernel_rfl) (by simp [pureT, pureL, E_bool])
   ·have h := al_ hc4 h
    have hS := ap_ hS (aB_ hc4)
    refine qs 5 [(2, .bool false)] hS ?_; intro s hS
    refine ae_ (sq_n (ao_ (bk_r (sq_r ?_))))
    injection h with h; subst h
    exact aq_ hH (an_ (v := .bool false) hS rfl r_nil) rfl (by kernel_rfl) (by simp [pureT, pureL, E_bool])
  ·have h := al_ hc3 h
   refine af_ hS rfl (fun hf => ag_ hc3 hf) (fun _ => ?_)
   refine ad_ (ab_ ?_)
   refine qs 2 [(1, .ptr b1 0 0 4), (4, i4 a0.Kind), (24, .bool (decide (a0.Kind = 3)))] hS ?_; intro s hS
   refine ae_ (sq_n ?_)
   by_cases hc5 : (decide (a0.Kind = 3)) = true
   ·have h := ak_ hc5 h
    refine af_ hS rfl (fun _ => ?_) (fun hf => ah_ hc5 hf)
    refine ad_ (ab_ ?_)
    refine ai_ (v := .agg (ac_.cells a0)) 0 trivial rfl hS hH rfl rfl (by kernel_rfl) ?_; intro s hS
    obtain ⟨y4, hy4, h⟩ := bind_some h
    refine ar_ (a := []) (b := []) (xs := [.agg (ac_.cells a0), .bool false, .bool true, .bool false]) rfl hS rfl rfl hy4 ?_; intro s hS
    refine qs 1 [(28, .bool y4), (1, .ptr b1 0 0 4)] hS ?_; intro s hS
    by_cases hc6 : y4 = true
    ·have h := ak_ hc6 h
     have hS := ap_ hS hc6
     refine qs 1 [(28, .bool true), (29, .ptr b1 0 2 1)] hS ?_; intro s hS
     refine ai_ (v := .str a0.Text) 0 trivial rfl hS hH rfl rfl (by kernel_rfl) ?_; intro s hS
     refine qs 1 [(28, .bool true), (31, i4 (a0.Text.size : Int))] hS ?_; intro s hS
     obtain ⟨y5, hy5, h⟩ := bind_some h
     refine ar_ (a := []) (b := []) (xs := [i4 (a0.Text.size : Int), i4 1, i4 1200]) rfl hS rfl rfl hy5 ?_; intro s hS
     refine qs 2 [(2, .bool y5)] hS ?_; intro s hS
     refine ae_ (sq_n (ao_ (bk_r (sq_r ?_))))
     injection h with h; subst h
     exact aq_ hH (an_ (v := .bool y5) hS rfl r_nil) rfl (by kernel_rfl) (by simp [pureT, pureL, E_bool])
    ·have h := al_ hc6 h
     have hS := ap_ hS (aB_ hc6)
     refine qs 6 [(2, .bool false)] hS ?_; intro s hS
     refine ae_ (sq_n (ao_ (bk_r (sq_r ?_))))
     injection h with h; subst h
     exact aq_ hH (an_ (v := .bool false) hS rfl r_nil) rfl (by kernel_rfl) (by simp [pureT, pureL, E_bool])
   ·have h := al_ hc5 h
    refine af_ hS rfl (fun hf => ag_ hc5 hf) (fun _ => ?_)
    refine ad_ (ad_ (ab_ ?_))
    refine qs 2 [(1, .ptr b1 0 0 4), (4, i4 a0.Kind), (34, .bool (decide (a0.Kind = 4)))] hS ?_; intro s hS
    refine ae_ (sq_n ?_)
    obtain ⟨y6, hy6, h⟩ := bind_some h
    refine codeQ_mono (Q := fun e fr => e = .normal ∧ Sub [(1, .ptr b1 0 0 4), (4, i4 a0.Kind), (34, .bool y6)] fr.s ∧ Heap σ0 fr.σ [.box b1 (ac_.cells a0)]) ?_ ?_
    ·intro e fr HF; obtain ⟨s, σ⟩ := fr
     obtain ⟨rfl, hS, hH⟩ := HF
     refine sq_n ?_
     by_cases hc7 : y6 = true
     ·have h := ak_ hc7 h
      refine af_ hS rfl (fun _ => ?_) (fun hf => ah_ hc7 hf)
      refine ad_ (ab_ ?_)
      refine ai_ (v := .agg (ac_.cells a0)) 0 trivial rfl hS hH rfl rfl (by kernel_rfl) ?_; intro s hS
      obtain ⟨y7, hy7, h⟩ := bind_some h
      refine ar_ (a := []) (b := []) (xs := [.agg (ac_.cells a0), .bool false, .bool false, .bool true]) rfl hS rfl rfl hy7 ?_; intro s hS
      refine qs 1 [(40, .bool y7), (1, .ptr b1 0 0 4)] hS ?_; intro s hS
      by_cases hc8 : y7 = true
      ·have h := ak_ hc8 h
       have hS := ap_ hS hc8
       refine qs 1 [(40, .bool true), (41, .ptr b1 0 3 1)] hS ?_; intro s hS
       refine ai_ (v := i4 a0.Ref) 0 trivial rfl hS hH rfl rfl (by kernel_rfl) ?_; intro s hS
       obtain ⟨y8, hy8, h⟩ := bind_some h
       refine ar_ (a := []) (b := []) (xs := [i4 a0.Ref, i4 1, i4 1000000]) rfl hS rfl rfl hy8 ?_; intro s hS
       refine qs 2 [(2, .bool y8)] hS ?_; intro s hS
       refine ae_ (sq_n (ao_ (bk_r (sq_r ?_))))
       injection h with h; subst h
       exact aq_ hH (an_ (v := .bool y8) hS rfl r_nil) rfl (by kernel_rfl) (by simp [pureT, pureL, E_bool])
      ·have h := al_ hc8 h
       have hS := ap_ hS (aB_ hc8)
       refine qs 5 [(2, .bool false)] hS ?_; intro s hS
       refine ae_ (sq_n (ao_ (bk_r (sq_r ?_))))
       injection h with h; subst h
       exact aq_ hH (an_ (v := .bool false) hS rfl r_nil) rfl (by kernel_rfl) (by simp [pureT, pureL, E_bool])
     ·have h := al_ hc7 h
      refine af_ hS rfl (fun hf => ag_ hc7 hf) (fun _ => ?_)
      refine ad_ (ad_ (ab_ ?_))
      refine qs 2 [(1, .ptr b1 0 0 4), (4, i4 a0.Kind), (45, .bool (decide (a0.Kind = 7)))] hS ?_; intro s hS
      refine ae_ (sq_n ?_)
      obtain ⟨y9, hy9, h⟩ := bind_some h
      refine codeQ_mono (Q := fun e fr => e = .normal ∧ Sub [(1, .ptr b1 0 0 4), (45, .bool y9)] fr.s ∧ Heap σ0 fr.σ [.box b1 (ac_.cells a0)]) ?_ ?_
      ·intro e fr HF; obtain ⟨s, σ⟩ := fr
       obtain ⟨rfl, hS, hH⟩ := HF
       refine sq_n ?_
       by_cases hc9 : y9 = true
       ·have h := ak_ hc9 h
        refine af_ hS rfl (fun _ => ?_) (fun hf => ah_ hc9 hf)
        refine ad_ (ab_ ?_)
        refine ai_ (v := .agg (ac_.cells a0)) 0 trivial rfl hS hH rfl rfl (by kernel_rfl) ?_; intro s hS
        obtain ⟨y10, hy10, h⟩ := bind_some h
        refine ar_ (a := []) (b := []) (xs := [.agg (ac_.cells a0), .bool false, .bool true, .bool false]) rfl hS rfl rfl hy10 ?_; intro s hS
        refine qs 1 [(50, .bool y10), (1, .ptr b1 0 0 4)] hS ?_; intro s hS
        by_cases hc10 : y10 = true
        ·have h := ak_ hc10 h
         have hS := ap_ hS hc10
         refine qs 1 [(50, .bool true), (51, .ptr b1 0 2 1)] hS ?_; intro s hS
         refine ai_ (v := .str a0.Text) 0 trivial rfl hS hH rfl rfl (by kernel_rfl) ?_; intro s hS
         obtain ⟨y11, hy11, h⟩ := bind_some h
         refine ar_ (a := []) (b := []) (xs := [.str a0.Text]) rfl hS rfl rfl hy11 ?_; intro s hS
         refine qs 2 [(2, .bool y11)] hS ?_; intro s hS
         refine ae_ (sq_n (ao_ (bk_r (sq_r ?_))))
         injection h with h; subst h
         exact aq_ hH (an_ (v := .bool y11) hS rfl r_nil) rfl (by kernel_rfl) (by simp [pureT, pureL, E_bool])
        ·have h := al_ hc10 h
         have hS := ap_ hS (aB_ hc10)
         refine qs 5 [(2, .bool false)] hS ?_; intro s hS
         refine ae_ (sq_n (ao_ (bk_r (sq_r ?_))))
         injection h with h; subst h
         exact aq_ hH (an_ (v := .bool false) hS rfl r_nil) rfl (by kernel_rfl) (by simp [pureT, pureL, E_bool])
       ·have h := al_ hc9 h
        refine af_ hS rfl (fun hf => ag_ hc9 hf) (fun _ => ?_)
        refine as_ (bk_n (sq_n (ad_ (ab_ ?_))))
        refine qs 1 [(2, .bool false)] hS ?_; intro s hS
        refine ae_ (sq_n (ao_ ?_))
        injection h with h; subst h
        exact aq_ hH (an_ (v := .bool false) hS rfl r_nil) rfl (by kernel_rfl) (by simp [pureT, pureL, E_bool])
      ·clear h; have h := hy9
       by_cases hc11 : (decide (a0.Kind = 7)) = true
       ·have h := ak_ hc11 h
        refine af_ hS rfl (fun _ => ?_) (fun hf => ah_ hc11 hf)
        refine as_ ?_
        injection h with h; subst h
        exact And.intro rfl (And.intro (am_ hS (by kernel_rfl)) hH)
       ·have h := al_ hc11 h
        refine af_ hS rfl (fun hf => ag_ hc11 hf) (fun _ => ?_)
        refine ab_ ?_
        refine qs 2 [(1, .ptr b1 0 0 4), (45, .bool (decide (a0.Kind = 8)))] hS ?_; intro s hS
        refine ae_ ?_
        injection h with h; subst h
        exact And.intro rfl (And.intro (am_ hS (by kernel_rfl)) hH)
    ·clear h; have h := hy6
     by_cases hc12 : (decide (a0.Kind = 4)) = true
     ·have h := ak_ hc12 h
      refine af_ hS rfl (fun _ => ?_) (fun hf => ah_ hc12 hf)
      refine as_ ?_
      injection h with h; subst h
      exact And.intro rfl (And.intro (am_ hS (by kernel_rfl)) hH)
     ·have h := al_ hc12 h
      refine af_ hS rfl (fun hf => ag_ hc12 hf) (fun _ => ?_)
      refine ad_ (ab_ ?_)
      refine qs 2 [(1, .ptr b1 0 0 4), (4, i4 a0.Kind), (34, .bool (decide (a0.Kind = 5)))] hS ?_; intro s hS
      refine ae_ (sq_n ?_)
      by_cases hc13 : (decide (a0.Kind = 5)) = true
      ·have h := ak_ hc13 h
       refine af_ hS rfl (fun _ => ?_) (fun hf => ah_ hc13 hf)
       refine as_ ?_
       injection h with h; subst h
       exact And.intro rfl (And.intro (am_ hS (by kernel_rfl)) hH)
      ·have h := al_ hc13 h
       refine af_ hS rfl (fun hf => ag_ hc13 hf) (fun _ => ?_)
       refine ab_ ?_
       refine qs 2 [(1, .ptr b1 0 0 4), (4, i4 a0.Kind), (34, .bool (decide (a0.Kind = 6)))] hS ?_; intro s hS
       refine ae_ ?_
       injection h with h; subst h
       exact And.intro rfl (And.intro (am_ hS (by kernel_rfl)) hH)
noncomputable def fl_ (a0 : ByteArray) : Option Bool := (if (!decide (a0 = (⟨#[]⟩ : ByteArray))) = true then (if (decide ((a0.size : Int) ≤ 12)) = true then ((du_ a0 0).bind fun y1 => (some (decide (y1 = (a0.size : Int))))) else (some false)) else (some false))
theorem jS_ (a0 : ByteArray) (r : Bool) (h : fl_ a0 = some r) : c4_ a0 = some r := by
 unfold fl_ at h
 refine ax_ E_bool_inj rfl rfl ok_118 rfl (all_cons (by kernel_rfl) all_nil) ?_
 intro σ0 s hS hH
 have hS := am_ (L' := [(0, .str a0)]) hS (by kernel_rfl)
 refine ad_ (ab_ ?_)
 refine qs 1 [(0, .str a0)] hS ?_; intro s hS
 refine ae_ (sq_n (ad_ (ab_ ?_)))
 refine qs 3 [(5, .bool (!decide (a0 = (⟨#[]⟩ : ByteArray)))), (0, .str a0)] hS ?_; intro s hS
 by_cases hc1 : (!decide (a0 = (⟨#[]⟩ : ByteArray))) = true
 ·have h := ak_ hc1 h
  have hS := ap_ hS hc1
  refine qs 5 [(10, .bool (decide ((a0.size : Int) ≤ 12))), (0, .str a0)] hS ?_; intro s hS
  by_cases hc2 : (decide ((a0.size : Int) ≤ 12)) = true
  ·have h := ak_ hc2 h
   have hS := ap_ hS hc2
   refine qs 1 [(0, .str a0), (10, .bool true), (11, .str a0)] hS ?_; intro s hS
   obtain ⟨y1, hy1, h⟩ := bind_some h
   refine ar_ (a := []) (b := []) (xs := [.str a0, i4 0]) rfl hS rfl rfl hy1 ?_; intro s hS
   refine qs 5 [(2, .bool (decide (y1 = (a0.size : Int))))] hS ?_; intro s hS
   refine ae_ (sq_n (ao_ ?_))
   injection h with h; subst h
   exact aq_ hH (an_ (v := .bool (decide (y1 = (a0.size : Int)))) hS rfl r_nil) rfl (by kernel_rfl) (by simp [pureT, pureL, E_bool])
  ·have h := al_ hc2 h
   have hS := ap_ hS (aB_ hc2)
   refine qs 7 [(2, .bool false)] hS ?_; intro s hS
   refine ae_ (sq_n (ao_ ?_))
   injection h with h; subst h
   exact aq_ hH (an_ (v := .bool false) hS rfl r_nil) rfl (by kernel_rfl) (by simp [pureT, pureL, E_bool])
 ·have h := al_ hc1 h
  have hS := ap_ hS (aB_ hc1)
  refine qs 12 [(2, .bool false)] hS ?_; intro s hS
  refine ae_ (sq_n (ao_ ?_))
  injection h with h; subst h
  exact aq_ hH (an_ (v := .bool false) hS rfl r_nil) rfl (by kernel_rfl) (by simp [pureT, pureL, E_bool])
noncomputable def cu_ (a0 : (Sl ac_)) : Option Bool := ((aM_ (S := Int) (R := (Unit ⊕ Bool)) (fun st1 => (if (decide (st1 < (a0.l.length : Int))) = true then ((elt a0 st1).bind fun y2 => (if (!decide (y2.Kind = 1)) = true then (some (.inr (.inr false))) else ((elt a0 st1).bind fun y3 => ((c4_ y3.Text).bind fun y4 => (if (!y4) = true then (some (.inr (.inr false))) else (some (.inl (w4 (st1 + 1))))))))) else (some (.inr (.inl ()))))) 0).bind fun y1 => (Sum.elim (fun y1 => (if (decide (1 ≤ (a0.l.length : Int))) = true then ((be_ a0 6).bind fun y5 => (if y5 = true then ((b7_ a0).bind fun y6 => (some y6)) else (some false))) else (some false))) (fun y1 => (some y1)) y1))
theorem gj_ (a0 : (Sl ac_)) (r : Bool) (h : cu_ a0 = some r) : cv_ a0 = some r := by
 unfold cu_ at h
 refine ax_ E_bool_inj rfl rfl ok_119 rfl (all_cons (by kernel_rfl) all_nil) ?_
 intro σ0 s hS hH
 have hS := am_ (L' := [(0, a0.t)]) hS (by kernel_rfl)
 refine ad_ (ab_ ?_)
 refine qs 1 [(0, a0.t)] hS ?_; intro s hS
 refine ae_ (sq_n (ad_ (ad_ (ab_ ?_))))
 refine qs 1 [(0, a0.t), (3, i4 0)] hS ?_; intro s hS
 refine ae_ (sq_n (aw_ ?_))
 obtain ⟨y1, hy1, h⟩ := bind_some h
 refine bd_ (fun (st1 : Int) (fr : Fr) => Sub [(0, a0.t), (3, i4 st1)] fr.s ∧ Heap σ0 fr.σ []) (fun (y1 : (Unit ⊕ Bool)) (e : aC_) (fr : Fr) => (Sum.elim (fun y => e = (.exit 0) ∧ Sub [(0, a0.t)] fr.s ∧ Heap σ0 fr.σ []) (fun y => e = .ret ∧ endW Try.prog (Try.f119.results.toList) σ0 (E_bool y) .ret fr)) y1) hy1 (And.intro (am_ hS (by kernel_rfl)) hH) ?_ ?_
 ·clear h hy1 hS hH; clear y1; intro st1 x fr h HI; obtain ⟨s, σ⟩ := fr; obtain ⟨hS, hH⟩ := HI
  refine ad_ (ad_ (ab_ ?_))
  refine qs 4 [(0, a0.t), (3, i4 st1), (7, .bool (decide (st1 < (a0.l.length : Int))))] hS ?_; intro s hS
  refine ae_ (sq_n ?_)
  by_cases hc1 : (decide (st1 < (a0.l.length : Int))) = true
  ·have h := ak_ hc1 h
   refine af_ hS rfl (fun _ => ?_) (fun hf => ah_ hc1 hf)
   refine as_ (sq_n (ad_ (aw_ (ad_ (ab_ ?_)))))
   refine qs 2 [(0, a0.t), (3, i4 st1), (10, a0.t), (11, i4 st1)] hS ?_; intro s hS
   obtain ⟨y2, hy2, h⟩ := bind_some h
   refine bh_ (sl := a0) (e := 28) [i4 y2.Kind, i4 y2.Num, .str y2.Text, i4 y2.Ref] rfl hS rfl rfl (by kernel_rfl) (by kernel_rfl) hy2 rfl ?_; intro rest1 s hS
   refine qs 4 [(16, .bool (!decide (y2.Kind = 1))), (0, a0.t), (3, i4 st1)] hS ?_; intro s hS
   by_cases hc2 : (!decide (y2.Kind = 1)) = true
   ·have h := ak_ hc2 h
    have hS := ap_ hS hc2
    refine qs 8 [(0, a0.t), (3, i4 st1), (24, .bool true)] hS ?_; intro s hS
    refine ae_ (sq_n ?_)
    refine af_ (t := true) hS rfl (fun _ => ?_) (fun hf => by cases hf)
    refine ad_ (ab_ ?_)
    refine qs 1 [(2, .bool false)] hS ?_; intro s hS
    refine ae_ (sq_n (ao_ (bk_r (sq_r ?_))))
    injection h with h; subst h
    exact And.intro rfl (aq_ hH (an_ (v := .bool false) hS rfl r_nil) rfl (by kernel_rfl) (by simp [pureT, pureL, E_bool]))
   ·have h := al_ hc2 h
    have hS := ap_ hS (aB_ hc2)
    refine qs 2 [(0, a0.t), (3, i4 st1), (16, .bool false), (17, a0.t), (18, i4 st1)] hS ?_; intro s hS
    obtain ⟨y3, hy3, h⟩ := bind_some h
    refine bh_ (sl := a0) (e := 28) [i4 y3.Kind, i4 y3.Num, .str y3.Text, i4 y3.Ref] rfl hS rfl rfl (by kernel_rfl) (by kernel_rfl) hy3 rfl ?_; intro rest2 s hS
    refine qs 2 [(0, a0.t), (3, i4 st1), (16, .bool false), (21, .str y3.Text)] hS ?_; intro s hS
    obtain ⟨y4, hy4, h⟩ := bind_some h
    refine ar_ (a := []) (b := []) (xs := [.str y3.Text]) rfl hS rfl rfl hy4 ?_; intro s hS
    refine qs 2 [(0, a0.t), (3, i4 st1), (24, .bool (!y4))] hS ?_; intro s hS
    refine ae_ (sq_n ?_)
    by_cases hc3 : (!y4) = true
    ·have h := ak_ hc3 h
     refine af_ hS rfl (fun _ => ?_) (fun hf => ah_ hc3 hf)
     refine ad_ (ab_ ?_)
     refine qs 1 [(2, .bool false)] hS ?_; intro s hS
     refine ae_ (sq_n (ao_ (bk_r (sq_r ?_))))
     injection h with h; subst h
     exact And.intro rfl (aq_ hH (an_ (v := .bool false) hS rfl r_nil) rfl (by kernel_rfl) (by simp [pureT, pureL, E_bool]))
    ·have h := al_ hc3 h
     refine af_ hS rfl (fun hf => ag_ hc3 hf) (fun _ => ?_)
     refine as_ (bk_n (sq_n (ab_ ?_)))
     refine qs 3 [(0, a0.t), (3, i4 (w4 (st1 + 1)))] hS ?_; intro s hS
     refine ae_ ?_
     injection h with h; subst h
     exact And.intro (am_ hS (by kernel_rfl)) hH
  ·have h := al_ hc1 h
   refine af_ hS rfl (fun hf => ag_ hc1 hf) (fun _ => ?_)
   refine ba_ (sq_x ?_)
   injection h with h; subst h
   exact And.intro rfl (And.intro (am_ hS (by kernel_rfl)) hH)
 ·clear hS hH; intro e fr HF; obtain ⟨s, σ⟩ := fr
  rcases y1 with y1 | y1
  ·obtain ⟨rfl, hS, hH⟩ := HF
   refine bk_e (sq_n (ad_ (ab_ ?_)))
   refine qs 4 [(28, .bool (decide (1 ≤ (a0.l.length : Int)))), (0, a0.t)] hS ?_; intro s hS
   by_cases hc4 : (decide (1 ≤ (a0.l.length : Int))) = true
   ·have h := ak_ hc4 h
    have hS := ap_ hS hc4
    refine qs 1 [(0, a0.t), (28, .bool true), (29, a0.t)] hS ?_; intro s hS
    obtain ⟨y5, hy5, h⟩ := bind_some h
    refine ar_ (a := []) (b := []) (xs := [a0.t, i4 6]) rfl hS rfl rfl hy5 ?_; intro s hS
    refine qs 2 [(32, .bool y5), (0, a0.t)] hS ?_; intro s hS
    by_cases hc5 : y5 = true
    ·have h := ak_ hc5 h
     have hS := ap_ hS hc5
     refine qs 1 [(32, .bool true), (33, a0.t)] hS ?_; intro s hS
     obtain ⟨y6, hy6, h⟩ := bind_some h
     refine ar_ (a := []) (b := []) (xs := [a0.t]) rfl hS rfl rfl hy6 ?_; intro s hS
     refine qs 2 [(2, .bool y6)] hS ?_; intro s hS
     refine ae_ (sq_n (ao_ ?_))
     injection h with h; subst h
     exact aq_ hH (an_ (v := .bool y6) hS rfl r_nil) rfl (by kernel_rfl) (by simp [pureT, pureL, E_bool])
    ·have h := al_ hc5 h
     have hS := ap_ hS (aB_ hc5)
     refine qs 4 [(2, .bool false)] hS ?_; intro s hS
     refine ae_ (sq_n (ao_ ?_))
     injection h with h; subst h
     exact aq_ hH (an_ (v := .bool false) hS rfl r_nil) rfl (by kernel_rfl) (by simp [pureT, pureL, E_bool])
   ·have h := al_ hc4 h
    have hS := ap_ hS (aB_ hc4)
    refine qs 8 [(2, .bool false)] hS ?_; intro s hS
    refine ae_ (sq_n (ao_ ?_))
    injection h with h; subst h
    exact aq_ hH (an_ (v := .bool false) hS rfl r_nil) rfl (by kernel_rfl) (by simp [pureT, pureL, E_bool])
  ·obtain ⟨rfl, HE⟩ := HF
   refine bk_r (sq_r ?_)
   injection h with h; subst h; exact HE
noncomputable def dW_ (a0 : aj_) (a1 : (Sl ac_)) : Option Bool := ((aM_ (S := Int) (R := (Unit ⊕ Bool)) (fun st1 => (if (decide (st1 < (a1.l.length : Int))) = true then ((elt a1 st1).bind fun y2 => ((b4_ a0 y2).bind fun y3 => (if (!y3) = true then (some (.inr (.inr false))) else (some (.inl (w4 (st1 + 1))))))) else (some (.inr (.inl ()))))) 0).bind fun y1 => (Sum.elim (fun y1 => (some true)) (fun y1 => (some y1)) y1))
theorem hZ_ (a0 : aj_) (a1 : (Sl ac_)) (r : Bool) (h : dW_ a0 a1 = some r) : aY_ a0 a1 = some r := by
 unfold dW_ at h
 refine iN_ E_bool_inj rfl rfl ok_120 (fun bs hb => by obtain ⟨bp0, rfl⟩ := bl1 hb; exact rfl) (fun bs hb => by obtain ⟨bp0, rfl⟩ := bl1 hb; exact (all_cons rfl (all_cons (by kernel_rfl) all_nil))) ?_
 intro σ0 bs s hL hS hH
 obtain ⟨bp0, rfl, hL_bp0⟩ := kT_ hL
 clear hL
 have hS := am_ (L' := [(0, .ptr bp0 0 0 2), (1, a1.t)]) hS (by kernel_rfl)
 refine ad_ (ab_ ?_)
 refine qs 1 [(0, .ptr bp0 0 0 2), (1, a1.t)] hS ?_; intro s hS
 refine ae_ (sq_n (ad_ (ad_ (ab_ ?_))))
 refine qs 1 [(0, .ptr bp0 0 0 2), (1, a1.t), (5, i4 0)] hS ?_; intro s hS
 refine ae_ (sq_n (aw_ ?_))
 obtain ⟨y1, hy1, h⟩ := bind_some h
 refine bd_ (fun (st1 : Int) (fr : Fr) => Sub [(0, .ptr bp0 0 0 2), (1, a1.t), (5, i4 st1)] fr.s ∧ Heap σ0 fr.σ []) (fun (y1 : (Unit ⊕ Bool)) (e : aC_) (fr : Fr) => (Sum.elim (fun y => e = (.exit 0) ∧ Sub [] fr.s ∧ Heap σ0 fr.σ []) (fun y => e = .ret ∧ endW Try.prog (Try.f120.results.toList) σ0 (E_bool y) .ret fr)) y1) hy1 (And.intro (am_ hS (by kernel_rfl)) hH) ?_ ?_
 ·clear h hy1 hS hH; clear y1; intro st1 x fr h HI; obtain ⟨s, σ⟩ := fr; obtain ⟨hS, hH⟩ := HI
  refine ad_ (ad_ (ab_ ?_))
  refine qs 4 [(0, .ptr bp0 0 0 2), (1, a1.t), (5, i4 st1), (9, .bool (decide (st1 < (a1.l.length : Int))))] hS ?_; intro s hS
  refine ae_ (sq_n ?_)
  by_cases hc1 : (decide (st1 < (a1.l.length : Int))) = true
  ·have h := ak_ hc1 h
   refine af_ hS rfl (fun _ => ?_) (fun hf => ah_ hc1 hf)
   refine as_ (sq_n (ad_ (aw_ (ad_ (ab_ ?_)))))
   refine qs 3 [(0, .ptr bp0 0 0 2), (1, a1.t), (5, i4 st1), (12, .ptr bp0 0 0 2), (13, a1.t), (14, i4 st1)] hS ?_; intro s hS
   obtain ⟨y2, hy2, h⟩ := bind_some h
   refine bh_ (sl := a1) (e := 28) [i4 y2.Kind, i4 y2.Num, .str y2.Text, i4 y2.Ref] rfl hS rfl rfl (by kernel_rfl) (by kernel_rfl) hy2 rfl ?_; intro rest1 s hS
   refine qs 1 [(0, .ptr bp0 0 0 2), (1, a1.t), (5, i4 st1), (12, .ptr bp0 0 0 2), (16, .agg (ac_.cells y2))] hS ?_; intro s hS
   obtain ⟨y3, hy3, h⟩ := bind_some h
   refine fI_ (xs := [.ptr bp0 0 0 2, .agg (ac_.cells y2)]) (cs := [[i4 a0.Next, a0.Objects.t]]) [bp0] rfl hS rfl rfl rfl (And.intro (Lent.grow hL_bp0 hH.grow) trivial) hy3 ?_; intro s hS
   refine qs 1 [(0, .ptr bp0 0 0 2), (1, a1.t), (5, i4 st1), (18, .bool (!y3))] hS ?_; intro s hS
   refine ae_ (sq_n ?_)
   by_cases hc2 : (!y3) = true
   ·have h := ak_ hc2 h
    refine af_ hS rfl (fun _ => ?_) (fun hf => ah_ hc2 hf)
    refine ad_ (ab_ ?_)
    refine qs 1 [(4, .bool false)] hS ?_; intro s hS
    refine ae_ (sq_n (ao_ (bk_r (sq_r ?_))))
    injection h with h; subst h
    exact And.intro rfl (aq_ hH (an_ (v := .bool false) hS rfl r_nil) rfl (by kernel_rfl) (by simp [pureT, pureL, E_bool]))
   ·have h := al_ hc2 h
    refine af_ hS rfl (fun hf => ag_ hc2 hf) (fun _ => ?_)
    refine as_ (bk_n (sq_n (ab_ ?_)))
    refine qs 3 [(0, .ptr bp0 0 0 2), (1, a1.t), (5, i4 (w4 (st1 + 1)))] hS ?_; intro s hS
    refine ae_ ?_
    injection h with h; subst h
    exact And.intro (am_ hS (by kernel_rfl)) hH
  ·have h := al_ hc1 h
   refine af_ hS rfl (fun hf => ag_ hc1 hf) (fun _ => ?_)
   refine ba_ (sq_x ?_)
   injection h with h; subst h
   exact And.intro rfl (And.intro (am_ hS (by kernel_rfl)) hH)
 ·clear hS hH; intro e fr HF; obtain ⟨s, σ⟩ := fr
  rcases y1 with y1 | y1
  ·obtain ⟨rfl, hS, hH⟩ := HF
   refine bk_e (sq_n (ad_ (ab_ ?_)))
   refine qs 1 [(4, .bool true)] hS ?_; intro s hS
   refine ae_ (sq_n (ao_ ?_))
   injection h with h; subst h
   exact aq_ hH (an_ (v := .bool true) hS rfl r_nil) rfl (by kernel_rfl) (by simp [pureT, pureL, E_bool])
  ·obtain ⟨rfl, HE⟩ := HF
   refine bk_r (sq_r ?_)
   injection h with h; subst h; exact HE
noncomputable def eQ_ (a0 : aj_) (a1 : ac_) : Option Bool := ((bK_ a1).bind fun y1 => (if (!y1) = true then (some false) else ((en_ a1).bind fun y2 => (if (!y2) = true then (some true) else ((b5_ a0 a1.Ref).bind fun y3 => (if (decide (0 ≤ y3)) = true then ((elt a0.Objects y3).bind fun y4 => ((cw_ a1.Kind).bind fun y5 => (some (decide (y4.Kind = y5))))) else (some false)))))))
theorem i9_ (a0 : aj_) (a1 : ac_) (r : Bool) (h : eQ_ a0 a1 = some r) : b4_ a0 a1 = some r := by
 unfold eQ_ at h
 refine iN_ E_bool_inj rfl rfl ok_121 (fun bs hb => by obtain ⟨bp0, rfl⟩ := bl1 hb; exact rfl) (fun bs hb => by obtain ⟨bp0, rfl⟩ := bl1 hb; exact (all_cons rfl (all_cons (by kernel_rfl) all_nil))) ?_
 intro σ0 bs s hL hS hH
 obtain ⟨bp0, rfl, hL_bp0⟩ := kT_ hL
 clear hL
 have hS := am_ (L' := [(0, .ptr bp0 0 0 2), (1, .agg (ac_.cells a1))]) hS (by kernel_rfl)
 refine ad_ (ab_ ?_)
 refine aT_ (v := .agg (ac_.cells a1)) (cs := [i4 a1.Kind, i4 a1.Num, .str a1.Text, i4 a1.Ref]) rfl hS hH rfl rfl (by kernel_rfl) ?_; intro b1 σ s hH hS
 refine qs 1 [(0, .ptr bp0 0 0 2), (3, .ptr b1 0 0 4)] hS ?_; intro s hS
 refine ae_ (sq_n (ad_ (ad_ (ab_ ?_))))
 refine ai_ (v := .agg (ac_.cells a1)) 0 trivial rfl hS hH rfl rfl (by kernel_rfl) ?_; intro s hS
 obtain ⟨y1, hy1, h⟩ := bind_some h
 refine ar_ (a := []) (b := []) (xs := [.agg (ac_.cells a1)]) rfl hS rfl rfl hy1 ?_; intro s hS
 refine qs 1 [(0, .ptr bp0 0 0 2), (3, .ptr b1 0 0 4), (8, .bool (!y1))] hS ?_; intro s hS
 refine ae_ (sq_n ?_)
 by_cases hc1 : (!y1) = true
 ·have h := ak_ hc1 h
  refine af_ hS rfl (fun _ => ?_) (fun hf => ah_ hc1 hf)
  refine ad_ (ab_ ?_)
  refine qs 1 [(4, .bool false)] hS ?_; intro s hS
  refine ae_ (sq_n (ao_ (sq_r ?_)))
  injection h with h; subst h
  exact aq_ hH (an_ (v := .bool false) hS rfl r_nil) rfl (by kernel_rfl) (by simp [pureT, pureL, E_bool])
 ·have h := al_ hc1 h
  refine af_ hS rfl (fun hf => ag_ hc1 hf) (fun _ => ?_)
  refine as_ (sq_n (ad_ (ad_ (ab_ ?_))))
  refine ai_ (v := .agg (ac_.cells a1)) 0 trivial rfl hS hH rfl rfl (by kernel_rfl) ?_; intro s hS
  obtain ⟨y2, hy2, h⟩ := bind_some h
  refine ar_ (a := []) (b := []) (xs := [.agg (ac_.cells a1)]) rfl hS rfl rfl hy2 ?_; intro s hS
  refine qs 1 [(0, .ptr bp0 0 0 2), (3, .ptr b1 0 0 4), (11, .bool (!y2))] hS ?_; intro s hS
  refine ae_ (sq_n ?_)
  by_cases hc2 : (!y2) = true
  ·have h := ak_ hc2 h
   refine af_ hS rfl (fun _ => ?_) (fun hf => ah_ hc2 hf)
   refine ad_ (ab_ ?_)
   refine qs 1 [(4, .bool true)] hS ?_; intro s hS
   refine ae_ (sq_n (ao_ (sq_r ?_)))
   injection h with h; subst h
   exact aq_ hH (an_ (v := .bool true) hS rfl r_nil) rfl (by kernel_rfl) (by simp [pureT, pureL, E_bool])
  ·have h := al_ hc2 h
   refine af_ hS rfl (fun hf => ag_ hc2 hf) (fun _ => ?_)
   refine as_ (sq_n (ad_ (ab_ ?_)))
   refine qs 2 [(0, .ptr bp0 0 0 2), (3, .ptr b1 0 0 4), (12, .ptr bp0 0 0 2), (13, .ptr b1 0 3 1)] hS ?_; intro s hS
   refine ai_ (v := i4 a1.Ref) 0 trivial rfl hS hH rfl rfl (by kernel_rfl) ?_; intro s hS
   obtain ⟨y3, hy3, h⟩ := bind_some h
   refine fI_ (xs := [.ptr bp0 0 0 2, i4 a1.Ref]) (cs := [[i4 a0.Next, a0.Objects.t]]) [bp0] rfl hS rfl rfl rfl (And.intro (Lent.grow hL_bp0 hH.grow) trivial) hy3 ?_; intro s hS
   refine qs 1 [(0, .ptr bp0 0 0 2), (3, .ptr b1 0 0 4), (5, i4 y3)] hS ?_; intro s hS
   refine ae_ (sq_n (ad_ ?_))
   refine dk_ (by kernel_rfl) hH ?_; intro mb σ hH
   refine qs 3 [(18, .bool (decide (0 ≤ y3))), (0, .ptr bp0 0 0 2), (3, .ptr b1 0 0 4), (5, i4 y3)] hS ?_; intro s hS
   by_cases hc3 : (decide (0 ≤ y3)) = true
   ·have h := ak_ hc3 h
    have hS := ap_ hS hc3
    refine qs 3 [(3, .ptr b1 0 0 4), (5, i4 y3), (18, .bool true), (21, .ptr bp0 0 1 1)] hS ?_; intro s hS
    refine ce_ (v := a0.Objects.t) trivial rfl hS hH hL_bp0 rfl (by kernel_rfl) ?_; intro s hS
    refine qs 1 [(3, .ptr b1 0 0 4), (18, .bool true), (22, a0.Objects.t), (23, i4 y3)] hS ?_; intro s hS
    obtain ⟨y4, hy4, h⟩ := bind_some h
    refine bh_ (sl := a0.Objects) (e := 30) [i4 y4.Id, i4 y4.Kind, .str y4.Name, i4 y4.Low, y4.Keys.t, y4.Vals.t, i4 y4.Default.Kind, i4 y4.Default.Num, .str y4.Default.Text, i4 y4.Default.Ref] rfl hS rfl rfl (by kernel_rfl) (by kernel_rfl) hy4 rfl ?_; intro rest1 s hS
    refine qs 3 [(18, .bool true), (26, i4 y4.Kind), (27, .ptr b1 0 0 1)] hS ?_; intro s hS
    refine ai_ (v := i4 a1.Kind) 0 trivial rfl hS hH rfl rfl (by kernel_rfl) ?_; intro s hS
    obtain ⟨y5, hy5, h⟩ := bind_some h
    refine ar_ (a := []) (b := []) (xs := [i4 a1.Kind]) rfl hS rfl rfl hy5 ?_; intro s hS
    refine qs 3 [(4, .bool (decide (y4.Kind = y5)))] hS ?_; intro s hS
    refine ae_ (sq_n (ao_ ?_))
    injection h with h; subst h
    exact aq_ hH (an_ (v := .bool (decide (y4.Kind = y5))) hS rfl r_nil) rfl (by kernel_rfl) (by simp [pureT, pureL, E_bool])
   ·have h := al_ hc3 h
    have hS := ap_ hS (aB_ hc3)
    refine qs 14 [(4, .bool false)] hS ?_; intro s hS
    refine ae_ (sq_n (ao_ ?_))
    injection h with h; subst h
    exact aq_ hH (an_ (v := .bool false) hS rfl r_nil) rfl (by kernel_rfl) (by simp [pureT, pureL, E_bool])
noncomputable def dy_ (a0 : Int) : Option Bool := ((bR_ a0 1 1000000).bind fun y1 => (some y1))
theorem hJ_ (a0 : Int) (r : Bool) (h : dy_ a0 = some r) : cl_ a0 = some r := by
 unfold dy_ at h
 refine ax_ E_bool_inj rfl rfl ok_122 rfl (all_cons (by kernel_rfl) all_nil) ?_
 intro σ0 s hS hH
 have hS := am_ (L' := [(0, i4 a0)]) hS (by kernel_rfl)
 refine ad_ (ab_ ?_)
 refine qs 1 [(0, i4 a0)] hS ?_; intro s hS
 refine ae_ (sq_n (ad_ (ab_ ?_)))
 refine qs 1 [(3, i4 a0)] hS ?_; intro s hS
 obtain ⟨y1, hy1, h⟩ := bind_some h
 refine ar_ (a := []) (b := []) (xs := [i4 a0, i4 1, i4 1000000]) rfl hS rfl rfl hy1 ?_; intro s hS
 refine qs 1 [(2, .bool y1)] hS ?_; intro s hS
 refine ae_ (sq_n (ao_ ?_))
 injection h with h; subst h
 exact aq_ hH (an_ (v := .bool y1) hS rfl r_nil) rfl (by kernel_rfl) (by simp [pureT, pureL, E_bool])
end Go.Am
