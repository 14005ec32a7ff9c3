/- Functions of the program. -/
import Derived.Test.YthpmndnnpnojjaaAd0
set_option maxRecDepth 100000
set_option maxHeartbeats 4000000
set_option linter.unusedVariables false
set_option linter.unusedSimpArgs false
namespace Go.Am
open Go.Proofs
noncomputable def bU_ (a0 : (Sl ad_)) (a1 : Int) : Option Int := (if (decide ((w4 (a1 - (a0.l.length : Int))) < 0)) = true then (some (-1)) else ((aI_ (S := (Int × Int)) (R := (Int ⊕ Int)) (fun st1 => (if (decide (st1.2 < (a0.l.length : Int))) = true then ((elt a0 st1.2).bind fun y2 => ((bn_ y2 st1.1).bind fun y3 => (if (decide (y3 < 0)) = true then (some (.inr (.inr (-1)))) else (some (.inl (y3, (w4 (st1.2 + 1)))))))) else (some (.inr (.inl st1.1))))) ((w4 (a1 - (a0.l.length : Int))), 0)).bind fun y1 => (Sum.elim (fun y1 => (some y1)) (fun y1 => (some y1)) y1)))
theorem d0_ (a0 : (Sl ad_)) (a1 : Int) (r : Int) (h : bU_ a0 a1 = some r) : cN_ a0 a1 = some r := by
 unfold bU_ at h
 refine aF_ E_i64_inj rfl rfl ok_26 rfl (all_cons (by kernel_rfl) (all_cons (by kernel_rfl) all_nil)) ?_
 intro σ0 s hS hH
 have hS := aj_ (L' := [(0, a0.t), (1, i4 a1)]) hS (by kernel_rfl)
 refine ab_ (aa_ ?_)
 refine qs 1 [(0, a0.t), (1, i4 a1)] hS ?_; intro s hS
 refine ac_ (sq_n (ab_ (aa_ ?_)))
 refine qs 5 [(0, a0.t), (1, i4 (w4 (a1 - (a0.l.length : Int))))] hS ?_; intro s hS
 refine ac_ (sq_n (ab_ (ab_ (aa_ ?_))))
 refine qs 2 [(0, a0.t), (1, i4 (w4 (a1 - (a0.l.length : Int)))), (11, .bool (decide ((w4 (a1 - (a0.l.length : Int))) < 0)))] hS ?_; intro s hS
 refine ac_ (sq_n ?_)
 by_cases hc1 : (decide ((w4 (a1 - (a0.l.length : Int))) < 0)) = true
 ·have h := ai_ hc1 h
  refine ae_ hS rfl (fun _ => ?_) (fun hf => ag_ hc1 hf)
  refine ab_ (aa_ ?_)
  refine qs 1 [(4, i4 (-1))] hS ?_; intro s hS
  refine ac_ (sq_n (al_ (sq_r ?_)))
  injection h with h; subst h
  exact am_ hH (ak_ (v := i4 (-1)) hS rfl r_nil) rfl (by kernel_rfl) (by simp [pureT, pureL, E_i64])
 ·have h := ah_ hc1 h
  refine ae_ hS rfl (fun hf => af_ hc1 hf) (fun _ => ?_)
  refine aq_ (sq_n (ab_ (ab_ (aa_ ?_))))
  refine qs 1 [(0, a0.t), (1, i4 (w4 (a1 - (a0.l.length : Int)))), (5, i4 0)] hS ?_; intro s hS
  refine ac_ (sq_n (ax_ ?_))
  obtain ⟨y1, hy1, h⟩ := bind_some h
  refine bw_ (fun (st1 : (Int × Int)) (fr : Fr) => Sub [(0, a0.t), (1, i4 st1.1), (5, i4 st1.2)] fr.s ∧ Heap σ0 fr.σ []) (fun (y1 : (Int ⊕ Int)) (e : aB_) (fr : Fr) => (Sum.elim (fun y => e = (.exit 0) ∧ Sub [(1, i4 y)] fr.s ∧ Heap σ0 fr.σ []) (fun y => e = .ret ∧ endW Try.prog (Try.f26.results.toList) σ0 (E_i64 y) .ret fr)) y1) hy1 (And.intro (aj_ hS (by kernel_rfl)) hH) ?_ ?_
  ·clear h hy1 hS hH; clear y1; intro st1 x fr h HI; obtain ⟨s, σ⟩ := fr; obtain ⟨hS, hH⟩ := HI
   refine ab_ (ab_ (aa_ ?_))
   refine qs 4 [(0, a0.t), (1, i4 st1.1), (5, i4 st1.2), (15, .bool (decide (st1.2 < (a0.l.length : Int))))] hS ?_; intro s hS
   refine ac_ (sq_n ?_)
   by_cases hc2 : (decide (st1.2 < (a0.l.length : Int))) = true
   ·have h := ai_ hc2 h
    refine ae_ hS rfl (fun _ => ?_) (fun hf => ag_ hc2 hf)
    refine aq_ (sq_n (ab_ (ax_ (ab_ (aa_ ?_)))))
    refine qs 2 [(0, a0.t), (1, i4 st1.1), (5, i4 st1.2), (18, a0.t), (19, i4 st1.2)] hS ?_; intro s hS
    obtain ⟨y2, hy2, h⟩ := bind_some h
    refine co_ (sl := a0) (e := 88) [.str y2.Name, i4 y2.Pattern.Kind, i4 y2.Pattern.Num, .str y2.Pattern.Text, y2.Pattern.Kids.t] rfl hS rfl rfl (by kernel_rfl) (by kernel_rfl) hy2 rfl ?_; intro rest1 s hS
    refine qs 2 [(0, a0.t), (5, i4 st1.2), (21, .agg (ad_.cells y2)), (22, i4 st1.1)] hS ?_; intro s hS
    obtain ⟨y3, hy3, h⟩ := bind_some h
    refine aw_ (a := []) (b := []) (xs := [.agg (ad_.cells y2), i4 st1.1]) rfl hS rfl rfl hy3 ?_; intro s hS
    refine qs 1 [(0, a0.t), (1, i4 y3), (5, i4 st1.2)] hS ?_; intro s hS
    refine ac_ (sq_n (ab_ (aa_ ?_)))
    refine qs 2 [(0, a0.t), (1, i4 y3), (5, i4 st1.2), (25, .bool (decide (y3 < 0)))] hS ?_; intro s hS
    refine ac_ (sq_n ?_)
    by_cases hc3 : (decide (y3 < 0)) = true
    ·have h := ai_ hc3 h
     refine ae_ hS rfl (fun _ => ?_) (fun hf => ag_ hc3 hf)
     refine ab_ (aa_ ?_)
     refine qs 1 [(4, i4 (-1))] hS ?_; intro s hS
     refine ac_ (sq_n (al_ (bk_r (sq_r ?_))))
     injection h with h; subst h
     exact And.intro rfl (am_ hH (ak_ (v := i4 (-1)) hS rfl r_nil) rfl (by kernel_rfl) (by simp [pureT, pureL, E_i64]))
    ·have h := ah_ hc3 h
     refine ae_ hS rfl (fun hf => af_ hc3 hf) (fun _ => ?_)
     refine aq_ (bk_n (sq_n (aa_ ?_)))
     refine qs 3 [(0, a0.t), (1, i4 y3), (5, i4 (w4 (st1.2 + 1)))] hS ?_; intro s hS
     refine ac_ ?_
     injection h with h; subst h
     exact And.intro (aj_ hS (by kernel_rfl)) hH
   ·have h := ah_ hc2 h
    refine ae_ hS rfl (fun hf => af_ hc2 hf) (fun _ => ?_)
    refine bl_ (sq_x ?_)
    injection h with h; subst h
    exact And.intro rfl (And.intro (aj_ hS (by kernel_rfl)) hH)
  ·clear hS hH; intro e fr HF; obtain ⟨s, σ⟩ := fr
   rcases y1 with y1 | y1
   ·obtain ⟨rfl, hS, hH⟩ := HF
    refine bk_e (sq_n (ab_ (aa_ ?_)))
    refine qs 2 [(4, i4 y1)] hS ?_; intro s hS
    refine ac_ (sq_n (al_ ?_))
    injection h with h; subst h
    exact am_ hH (ak_ (v := i4 y1) hS rfl r_nil) rfl (by kernel_rfl) (by simp [pureT, pureL, E_i64])
   ·obtain ⟨rfl, HE⟩ := HF
    refine bk_r (sq_r ?_)
    injection h with h; subst h; exact HE
noncomputable def bt_ (a0 : (Sl ad_)) (a1 : ByteArray) : Option (DPattern × Bool) := ((cr_ a0 a1).bind fun y1 => (if (decide (y1 < 0)) = true then (some ((⟨0, 0, ⟨#[]⟩, ⟨true, []⟩⟩ : DPattern), false)) else ((c0_ a0).bind fun y2 => (if (!y2) = true then (some ((⟨0, 0, ⟨#[]⟩, ⟨true, []⟩⟩ : DPattern), false)) else ((elt a0 y1).bind fun y3 => ((aW_ y3.Pattern).bind fun y4 => (some (y4, true))))))))
theorem eT_ (a0 : (Sl ad_)) (a1 : ByteArray) (r : (DPattern × Bool)) (h : bt_ a0 a1 = some r) : b7_ a0 a1 = some r := by
 unfold bt_ at h
 refine ec_ rfl rfl ok_27 rfl (all_cons (by kernel_rfl) (all_cons (by kernel_rfl) all_nil)) ?_
 intro σ0 s hS hH
 have hS := aj_ (L' := [(0, a0.t), (1, .str a1)]) hS (by kernel_rfl)
 refine ab_ (aa_ ?_)
 refine bo_ (z := [i4 0, i4 0, .str ⟨#[]⟩, (nt DPattern)]) rfl hS hH (by kernel_rfl) ?_; intro b1 σ s hH hS
 refine qs 1 [(0, a0.t), (1, .str a1), (4, .ptr b1 0 0 4)] hS ?_; intro s hS
 refine ac_ (sq_n (ab_ (aa_ ?_)))
 refine qs 2 [(0, a0.t), (4, .ptr b1 0 0 4), (7, a0.t), (8, .str a1)] hS ?_; intro s hS
 obtain ⟨y1, hy1, h⟩ := bind_some h
 refine aw_ (a := []) (b := []) (xs := [a0.t, .str a1]) rfl hS rfl rfl hy1 ?_; intro s hS
 refine qs 1 [(0, a0.t), (4, .ptr b1 0 0 4), (6, i4 y1)] hS ?_; intro s hS
 refine ac_ (sq_n (ab_ (ab_ (aa_ ?_))))
 refine qs 3 [(12, .bool (decide (y1 < 0))), (0, a0.t), (4, .ptr b1 0 0 4), (6, i4 y1)] hS ?_; intro s hS
 by_cases hc1 : (decide (y1 < 0)) = true
 ·have h := ai_ hc1 h
  have hS := ao_ hS hc1
  refine qs 4 [(0, a0.t), (4, .ptr b1 0 0 4), (6, i4 y1), (16, .bool true)] hS ?_; intro s hS
  refine ac_ (sq_n ?_)
  refine ae_ (t := true) hS rfl (fun _ => ?_) (fun hf => by cases hf)
  refine ab_ (aa_ ?_)
  refine qs 1 [(4, .ptr b1 0 0 4), (17, .agg [i4 0, i4 0, .str ⟨#[]⟩, (nt DPattern)])] hS ?_; intro s hS
  refine aV_ (cs := [i4 0, i4 0, .str ⟨#[]⟩, (nt DPattern)]) rfl hS hH rfl rfl (by kernel_rfl) ?_; intro σ s hH hS
  refine qs 1 [(4, .ptr b1 0 0 4), (5, .bool false)] hS ?_; intro s hS
  refine ac_ (sq_n (al_ (sq_r ?_)))
  injection h with h; subst h
  have hH := Heap.addNil hH true 4
  exact dV_ [(T.row true 0 [])] [.box b1 [i4 0, i4 0, .str ⟨#[]⟩, (nt DPattern)]] (dW_ (v := .agg [i4 0, i4 0, .str ⟨#[]⟩, (nt DPattern)]) hS (hH.at 1 rfl) rfl (by kernel_rfl) (ak_ (v := .bool false) hS rfl r_nil)) (by kernel_rfl) rfl hH (by kernel_rfl)
 ·have h := ah_ hc1 h
  have hS := ao_ hS (aY_ hc1)
  refine qs 1 [(0, a0.t), (4, .ptr b1 0 0 4), (6, i4 y1), (12, .bool false), (13, a0.t)] hS ?_; intro s hS
  obtain ⟨y2, hy2, h⟩ := bind_some h
  refine aw_ (a := []) (b := []) (xs := [a0.t]) rfl hS rfl rfl hy2 ?_; intro s hS
  refine qs 2 [(0, a0.t), (4, .ptr b1 0 0 4), (6, i4 y1), (16, .bool (!y2))] hS ?_; intro s hS
  refine ac_ (sq_n ?_)
  by_cases hc2 : (!y2) = true
  ·have h := ai_ hc2 h
   refine ae_ hS rfl (fun _ => ?_) (fun hf => ag_ hc2 hf)
   refine ab_ (aa_ ?_)
   refine qs 1 [(4, .ptr b1 0 0 4), (17, .agg [i4 0, i4 0, .str ⟨#[]⟩, (nt DPattern)])] hS ?_; intro s hS
   refine aV_ (cs := [i4 0, i4 0, .str ⟨#[]⟩, (nt DPattern)]) rfl hS hH rfl rfl (by kernel_rfl) ?_; intro σ s hH hS
   refine qs 1 [(4, .ptr b1 0 0 4), (5, .bool false)] hS ?_; intro s hS
   refine ac_ (sq_n (al_ (sq_r ?_)))
   injection h with h; subst h
   have hH := Heap.addNil hH true 4
   exact dV_ [(T.row true 0 [])] [.box b1 [i4 0, i4 0, .str ⟨#[]⟩, (nt DPattern)]] (dW_ (v := .agg [i4 0, i4 0, .str ⟨#[]⟩, (nt DPattern)]) hS (hH.at 1 rfl) rfl (by kernel_rfl) (ak_ (v := .bool false) hS rfl r_nil)) (by kernel_rfl) rfl hH (by kernel_rfl)
  ·have h := ah_ hc2 h
   refine ae_ hS rfl (fun hf => af_ hc2 hf) (fun _ => ?_)
   refine aq_ (sq_n (ab_ (aa_ ?_)))
   refine qs 2 [(4, .ptr b1 0 0 4), (18, a0.t), (19, i4 y1)] hS ?_; intro s hS
   obtain ⟨y3, hy3, h⟩ := bind_some h
   refine co_ (sl := a0) (e := 82) [.str y3.Name, i4 y3.Pattern.Kind, i4 y3.Pattern.Num, .str y3.Pattern.Text, y3.Pattern.Kids.t] rfl hS rfl rfl (by kernel_rfl) (by kernel_rfl) hy3 rfl ?_; intro rest1 s hS
   refine qs 2 [(4, .ptr b1 0 0 4), (22, .agg [i4 y3.Pattern.Kind, i4 y3.Pattern.Num, .str y3.Pattern.Text, y3.Pattern.Kids.t])] hS ?_; intro s hS
   obtain ⟨y4, hy4, h⟩ := bind_some h
   refine bL_ (ents := []) (z := false) (ts := [.agg [i4 y3.Pattern.Kind, i4 y3.Pattern.Num, .str y3.Pattern.Text, y3.Pattern.Kids.t]]) (vs := [.agg [i4 y3.Pattern.Kind, i4 y3.Pattern.Num, .str y3.Pattern.Text, y3.Pattern.Kids.t]]) rfl rfl hS rfl rfl rfl hH (HL.agg (es1 := []) (es2 := []) (HLi (HLi (HLs (HLp HL.nil)))) HL.nil) hy4 ?_; intro hs σ s hl hH hS
   obtain ⟨t1, rfl⟩ := len1 hl
   have hH : Heap σ0 σ [.own true 4 t1 y4.Kids.t, .box b1 [i4 0, i4 0, .str ⟨#[]⟩, (nt DPattern)]] := hH
   have ht1 : bu_ t1 := Heap.one hH
   have hH : Heap σ0 σ [.box b1 [i4 0, i4 0, .str ⟨#[]⟩, (nt DPattern)], .own true 4 t1 y4.Kids.t] := hH.sel [1, 0] rfl (by kernel_rfl)
   refine aV_ (cs := [i4 y4.Kind, i4 y4.Num, .str y4.Text, t1]) rfl hS hH rfl rfl (by simp [ht1.1, ht1.2]) ?_; intro σ s hH hS
   refine qs 1 [(4, .ptr b1 0 0 4), (5, .bool true)] hS ?_; intro s hS
   refine ac_ (sq_n (al_ ?_))
   injection h with h; subst h
   have hH : Heap σ0 σ [.own true 4 t1 y4.Kids.t, .box b1 [i4 y4.Kind, i4 y4.Num, .str y4.Text, t1]] := hH.sel [1, 0] rfl (by kernel_rfl)
   exact dV_ [t1] [.box b1 [i4 y4.Kind, i4 y4.Num, .str y4.Text, t1]] (dW_ (v := .agg [i4 y4.Kind, i4 y4.Num, .str y4.Text, t1]) hS (hH.at 1 rfl) rfl (by kernel_rfl) (ak_ (v := .bool true) hS rfl r_nil)) (by kernel_rfl) rfl hH (by kernel_rfl)
noncomputable def c3_ (a0 : (Sl ad_)) : Option (Sl ad_) := ((mkS 72 ((⟨⟨#[]⟩, (⟨0, 0, ⟨#[]⟩, ⟨true, []⟩⟩ : DPattern)⟩ : ad_) : ad_) (a0.l.length : Int) (a0.l.length : Int)).bind fun y1 => ((aI_ (S := (Int × (Sl ad_))) (R := (Sl ad_)) (fun st1 => (if (decide (st1.1 < (a0.l.length : Int))) = true then ((elt a0 st1.1).bind fun y3 => ((dt_ y3).bind fun y4 => ((elt st1.2 st1.1).bind fun y5 => (some (.inl ((w4 (st1.1 + 1)), (setS st1.2 st1.1 (y4 : ad_)))))))) else (some (.inr st1.2)))) (0, y1)).bind fun y2 => (some y2)))
theorem f0_ (a0 : (Sl ad_)) (r : (Sl ad_)) (h : c3_ a0 = some r) : a9_ a0 = some r := by
 unfold c3_ at h
 refine ec_ rfl rfl ok_28 rfl (all_cons (by kernel_rfl) all_nil) ?_
 intro σ0 s hS hH
 have hS := aj_ (L' := [(0, a0.t)]) hS (by kernel_rfl)
 refine ab_ (aa_ ?_)
 refine qs 1 [(0, a0.t)] hS ?_; intro s hS
 refine ac_ (sq_n (ab_ (aa_ ?_)))
 refine qs 2 [(0, a0.t), (6, i4 (a0.l.length : Int))] hS ?_; intro s hS
 obtain ⟨y1, hy1, h⟩ := bind_some h
 refine lf_ (z := true) (e := 82) (by_ := 72) (x0 := ((⟨⟨#[]⟩, (⟨0, 0, ⟨#[]⟩, ⟨true, []⟩⟩ : DPattern)⟩ : ad_) : ad_)) (fun σ d => by simp [Enc.cells, ad_.cells, Iv]) rfl hS hH rfl rfl (by kernel_rfl) (by kernel_rfl) (by kernel_rfl) (by kernel_rfl) rfl hy1 ?_; intro t1 σ s ht1 hH hS
 refine qs 1 [(0, a0.t), (3, t1)] hS ?_; intro s hS
 refine ac_ (sq_n (ab_ (ab_ (aa_ ?_))))
 refine qs 1 [(0, a0.t), (3, t1), (4, i4 0)] hS ?_; intro s hS
 refine ac_ (sq_n (ax_ ?_))
 obtain ⟨y2, hy2, h⟩ := bind_some h
 refine bw_ (fun (st1 : (Int × (Sl ad_))) (fr : Fr) => Sub [(0, a0.t), (3, t1), (4, i4 st1.1)] fr.s ∧ Heap σ0 fr.σ [.own true 5 t1 st1.2.t]) (fun (y2 : (Sl ad_)) (e : aB_) (fr : Fr) => e = (.exit 0) ∧ Sub [(3, t1)] fr.s ∧ Heap σ0 fr.σ [.own true 5 t1 y2.t]) hy2 (And.intro (aj_ hS (by kernel_rfl)) hH) ?_ ?_
 ·clear h hy2 hS hH; clear y2; intro st1 x fr h HI; obtain ⟨s, σ⟩ := fr; obtain ⟨hS, hH⟩ := HI
  refine ab_ (ab_ (aa_ ?_))
  refine qs 4 [(0, a0.t), (3, t1), (4, i4 st1.1), (11, .bool (decide (st1.1 < (a0.l.length : Int))))] hS ?_; intro s hS
  refine ac_ (sq_n ?_)
  by_cases hc1 : (decide (st1.1 < (a0.l.length : Int))) = true
  ·have h := ai_ hc1 h
   refine ae_ hS rfl (fun _ => ?_) (fun hf => ag_ hc1 hf)
   refine aq_ (sq_n (ab_ (ax_ (aa_ ?_))))
   refine qs 4 [(0, a0.t), (3, t1), (4, i4 st1.1), (14, t1), (15, i4 st1.1), (16, a0.t), (17, i4 st1.1)] hS ?_; intro s hS
   obtain ⟨y3, hy3, h⟩ := bind_some h
   refine co_ (sl := a0) (e := 88) [.str y3.Name, i4 y3.Pattern.Kind, i4 y3.Pattern.Num, .str y3.Pattern.Text, y3.Pattern.Kids.t] rfl hS rfl rfl (by kernel_rfl) (by kernel_rfl) hy3 rfl ?_; intro rest1 s hS
   refine qs 1 [(0, a0.t), (3, t1), (4, i4 st1.1), (14, t1), (15, i4 st1.1), (19, .agg (ad_.cells y3))] hS ?_; intro s hS
   obtain ⟨y4, hy4, h⟩ := bind_some h
   refine bL_ (ents := []) (z := false) (ts := [.agg (ad_.cells y3)]) (vs := [.agg (ad_.cells y3)]) rfl rfl hS rfl rfl rfl hH (HL.agg (es1 := []) (es2 := []) (HLs (HLi (HLi (HLs (HLp HL.nil))))) HL.nil) hy4 ?_; intro hs σ s hl hH hS
   obtain ⟨t2, rfl⟩ := len1 hl
   have hH : Heap σ0 σ [.own true 4 t2 y4.Pattern.Kids.t, .own true 5 t1 st1.2.t] := hH
   have ht2 : bu_ t2 := Heap.one hH
   have hH : Heap σ0 σ [.own true 5 t1 st1.2.t, .own true 4 t2 y4.Pattern.Kids.t] := hH.sel [1, 0] rfl (by kernel_rfl)
   obtain ⟨y5, hy5, h⟩ := bind_some h
   refine ee_ (a := st1.2) (e := 82) (fun _ _ _ _ _ => trivial) rfl hS hH rfl rfl (by kernel_rfl) (by kernel_rfl) hy5 ?_; intro hb1 hb1e s hl_hb1 hS
   refine cL_ (ents := [.own true 4 t2 y4.Pattern.Kids.t]) (a := st1.2) (j := st1.1) (y := y5) (y' := (y4 : ad_)) (off := 0) (c := [.str y5.Name, i4 y5.Pattern.Kind, i4 y5.Pattern.Num, .str y5.Pattern.Text, y5.Pattern.Kids.t]) (us := [.str y4.Name, i4 y4.Pattern.Kind, i4 y4.Pattern.Num, .str y4.Pattern.Text, t2]) (vs := [.str y4.Name, i4 y4.Pattern.Kind, i4 y4.Pattern.Num, .str y4.Pattern.Text, y4.Pattern.Kids.t]) (v := .agg [.str y4.Name, i4 y4.Pattern.Kind, i4 y4.Pattern.Num, .str y4.Pattern.Text, t2]) rfl hS hH hl_hb1 rfl rfl rfl (by simp [ht2.1, ht2.2]) (by kernel_rfl) rfl hy5 rfl (HLs (HLi (HLi (HLs (HL.own rfl HL.nil))))) rfl (by kernel_rfl) ?_; intro σ s hH hS
   refine ac_ (bk_n (sq_n (aa_ ?_)))
   refine qs 3 [(0, a0.t), (3, t1), (4, i4 (w4 (st1.1 + 1)))] hS ?_; intro s hS
   refine ac_ ?_
   injection h with h; subst h
   exact And.intro (aj_ hS (by kernel_rfl)) hH
  ·have h := ah_ hc1 h
   refine ae_ hS rfl (fun hf => af_ hc1 hf) (fun _ => ?_)
   refine bl_ (sq_x ?_)
   injection h with h; subst h
   exact And.intro rfl (And.intro (aj_ hS (by kernel_rfl)) hH)
 ·clear hS hH; intro e fr HF; obtain ⟨s, σ⟩ := fr
  obtain ⟨rfl, hS, hH⟩ := HF
  refine bk_e (sq_n (ab_ (aa_ ?_)))
  refine qs 2 [(2, t1)] hS ?_; intro s hS
  refine ac_ (sq_n (al_ ?_))
  injection h with h; subst h
  exact dV_ [t1] [] (ak_ (v := t1) hS rfl r_nil) (by kernel_rfl) rfl hH (by kernel_rfl)
noncomputable def bp_ (a0 : (Sl ad_)) (a1 : ByteArray) : Option (DPattern × Bool) := ((b1_ a0 a1).bind fun y1 => (if (!y1.2) = true then (some ((⟨0, 0, ⟨#[]⟩, ⟨true, []⟩⟩ : DPattern), false)) else ((cP_ a0).bind fun y2 => (if (!y2) = true then (some ((⟨0, 0, ⟨#[]⟩, ⟨true, []⟩⟩ : DPattern), false)) else ((a5_ y1.1).bind fun y3 => (some (y3, true)))))))
theorem eM_ (a0 : (Sl ad_)) (a1 : ByteArray) (r : (DPattern × Bool)) (h : bp_ a0 a1 = some r) : bs_ a0 a1 = some r := by
 unfold bp_ at h
 refine ec_ rfl rfl ok_29 rfl (all_cons (by kernel_rfl) (all_cons (by kernel_rfl) all_nil)) ?_
 intro σ0 s hS hH
 have hS := aj_ (L' := [(0, a0.t), (1, .str a1)]) hS (by kernel_rfl)
 refine ab_ (aa_ ?_)
 refine bo_ (z := [i4 0, i4 0, .str ⟨#[]⟩, (nt DPattern)]) rfl hS hH (by kernel_rfl) ?_; intro b1 σ s hH hS
 refine qs 1 [(0, a0.t), (1, .str a1), (4, .ptr b1 0 0 4)] hS ?_; intro s hS
 refine ac_ (sq_n (ab_ (aa_ ?_)))
 refine qs 2 [(0, a0.t), (4, .ptr b1 0 0 4), (9, a0.t), (10, .str a1)] hS ?_; intro s hS
 obtain ⟨y1, hy1, h⟩ := bind_some h
 refine aw_ (a := []) (b := []) (xs := [a0.t, .str a1]) rfl hS rfl rfl hy1 ?_; intro s hS
 refine qs 3 [(0, a0.t), (4, .ptr b1 0 0 4), (12, .agg [i4 y1.1.Kind, i4 y1.1.Num, .str y1.1.Text, y1.1.Kids.t]), (13, .bool y1.2)] hS ?_; intro s hS
 refine bo_ (z := [i4 0, i4 0, .str ⟨#[]⟩, (nt DPattern)]) rfl hS hH (by kernel_rfl) ?_; intro b2 σ s hH hS
 refine aV_ (cs := [i4 y1.1.Kind, i4 y1.1.Num, .str y1.1.Text, y1.1.Kids.t]) rfl hS hH rfl rfl (by kernel_rfl) ?_; intro σ s hH hS
 refine qs 1 [(0, a0.t), (4, .ptr b1 0 0 4), (6, .ptr b2 0 0 4), (7, .bool y1.2)] hS ?_; intro s hS
 refine ac_ (sq_n (ab_ (ab_ (aa_ ?_))))
 refine qs 3 [(16, .bool (!y1.2)), (0, a0.t), (4, .ptr b1 0 0 4), (6, .ptr b2 0 0 4)] hS ?_; intro s hS
 by_cases hc1 : (!y1.2) = true
 ·have h := ai_ hc1 h
  have hS := ao_ hS hc1
  refine qs 4 [(4, .ptr b1 0 0 4), (6, .ptr b2 0 0 4), (20, .bool true)] hS ?_; intro s hS
  refine ac_ (sq_n ?_)
  refine ae_ (t := true) hS rfl (fun _ => ?_) (fun hf => by cases hf)
  refine ab_ (aa_ ?_)
  refine qs 1 [(4, .ptr b1 0 0 4), (21, .agg [i4 0, i4 0, .str ⟨#[]⟩, (nt DPattern)])] hS ?_; intro s hS
  have hH : Heap σ0 σ [.box b1 [i4 0, i4 0, .str ⟨#[]⟩, (nt DPattern)], .box b2 [i4 y1.1.Kind, i4 y1.1.Num, .str y1.1.Text, y1.1.Kids.t]] := hH.sel [1, 0] rfl (by kernel_rfl)
  refine aV_ (cs := [i4 0, i4 0, .str ⟨#[]⟩, (nt DPattern)]) rfl hS hH rfl rfl (by kernel_rfl) ?_; intro σ s hH hS
  refine qs 1 [(4, .ptr b1 0 0 4), (5, .bool false)] hS ?_; intro s hS
  refine ac_ (sq_n (al_ (sq_r ?_)))
  injection h with h; subst h
  have hH := Heap.addNil hH true 4
  exact dV_ [(T.row true 0 [])] [.box b1 [i4 0, i4 0, .str ⟨#[]⟩, (nt DPattern)], .box b2 [i4 y1.1.Kind, i4 y1.1.Num, .str y1.1.Text, y1.1.Kids.t]] (dW_ (v := .agg [i4 0, i4 0, .str ⟨#[]⟩, (nt DPattern)]) hS (hH.at 1 rfl) rfl (by kernel_rfl) (ak_ (v := .bool false) hS rfl r_nil)) (by kernel_rfl) rfl hH (by kernel_rfl)
 ·have h := ah_ hc1 h
  have hS := ao_ hS (aY_ hc1)
  refine qs 1 [(4, .ptr b1 0 0 4), (6, .ptr b2 0 0 4), (16, .bool false), (17, a0.t)] hS ?_; intro s hS
  obtain ⟨y2, hy2, h⟩ := bind_some h
  refine aw_ (a := []) (b := []) (xs := [a0.t]) rfl hS rfl rfl hy2 ?_; intro s hS
  refine qs 2 [(4, .ptr b1 0 0 4), (6, .ptr b2 0 0 4), (20, .bool (!y2))] hS ?_; intro s hS
  refine ac_ (sq_n ?_)
  by_cases hc2 : (!y2) = true
  ·have h := ai_ hc2 h
   refine ae_ hS rfl (fun _ => ?_) (fun hf => ag_ hc2 hf)
   refine ab_ (aa_ ?_)
   refine qs 1 [(4, .ptr b1 0 0 4), (21, .agg [i4 0, i4 0, .str ⟨#[]⟩, (nt DPattern)])] hS ?_; intro s hS
   have hH : Heap σ0 σ [.box b1 [i4 0, i4 0, .str ⟨#[]⟩, (nt DPattern)], .box b2 [i4 y1.1.Kind, i4 y1.1.Num, .str y1.1.Text, y1.1.Kids.t]] := hH.sel [1, 0] rfl (by kernel_rfl)
   refine aV_ (cs := [i4 0, i4 0, .str ⟨#[]⟩, (nt DPattern)]) rfl hS hH rfl rfl (by kernel_rfl) ?_; intro σ s hH hS
   refine qs 1 [(4, .ptr b1 0 0 4), (5, .bool false)] hS ?_; intro s hS
   refine ac_ (sq_n (al_ (sq_r ?_)))
   injection h with h; subst h
   have hH := Heap.addNil hH true 4
   exact dV_ [(T.row true 0 [])] [.box b1 [i4 0, i4 0, .str ⟨#[]⟩, (nt DPattern)], .box b2 [i4 y1.1.Kind, i4 y1.1.Num, .str y1.1.Text, y1.1.Kids.t]] (dW_ (v := .agg [i4 0, i4 0, .str ⟨#[]⟩, (nt DPattern)]) hS (hH.at 1 rfl) rfl (by kernel_rfl) (ak_ (v := .bool false) hS rfl r_nil)) (by kernel_rfl) rfl hH (by kernel_rfl)
  ·have h := ah_ hc2 h
   refine ae_ hS rfl (fun hf => af_ hc2 hf) (fun _ => ?_)
   refine aq_ (sq_n (ab_ (aa_ ?_)))
   refine as_ (v := .agg [i4 y1.1.Kind, i4 y1.1.Num, .str y1.1.Text, y1.1.Kids.t]) 0 trivial rfl hS hH rfl rfl (by kernel_rfl) ?_; intro s hS
   obtain ⟨y3, hy3, h⟩ := bind_some h
   refine bL_ (ents := []) (z := false) (ts := [.agg [i4 y1.1.Kind, i4 y1.1.Num, .str y1.1.Text, y1.1.Kids.t]]) (vs := [.agg [i4 y1.1.Kind, i4 y1.1.Num, .str y1.1.Text, y1.1.Kids.t]]) rfl rfl hS rfl rfl rfl hH (HL.agg (es1 := []) (es2 := []) (HLi (HLi (HLs (HLp HL.nil)))) HL.nil) hy3 ?_; intro hs σ s hl hH hS
   obtain ⟨t1, rfl⟩ := len1 hl
   have hH : Heap σ0 σ [.own true 4 t1 y3.Kids.t, .box b2 [i4 y1.1.Kind, i4 y1.1.Num, .str y1.1.Text, y1.1.Kids.t], .box b1 [i4 0, i4 0, .str ⟨#[]⟩, (nt DPattern)]] := hH
   have ht1 : bu_ t1 := Heap.one hH
   have hH : Heap σ0 σ [.box b1 [i4 0, i4 0, .str ⟨#[]⟩, (nt DPattern)], .own true 4 t1 y3.Kids.t, .box b2 [i4 y1.1.Kind, i4 y1.1.Num, .str y1.1.Text, y1.1.Kids.t]] := hH.sel [2, 0, 1] rfl (by kernel_rfl)
   refine aV_ (cs := [i4 y3.Kind, i4 y3.Num, .str y3.Text, t1]) rfl hS hH rfl rfl (by simp [ht1.1, ht1.2]) ?_; intro σ s hH hS
   refine qs 1 [(4, .ptr b1 0 0 4), (5, .bool true)] hS ?_; intro s hS
   refine ac_ (sq_n (al_ ?_))
   injection h with h; subst h
   have hH : Heap σ0 σ [.own true 4 t1 y3.Kids.t, .box b1 [i4 y3.Kind, i4 y3.Num, .str y3.Text, t1], .box b2 [i4 y1.1.Kind, i4 y1.1.Num, .str y1.1.Text, y1.1.Kids.t]] := hH.sel [1, 0, 2] rfl (by kernel_rfl)
   exact dV_ [t1] [.box b1 [i4 y3.Kind, i4 y3.Num, .str y3.Text, t1], .box b2 [i4 y1.1.Kind, i4 y1.1.Num, .str y1.1.Text, y1.1.Kids.t]] (dW_ (v := .agg [i4 y3.Kind, i4 y3.Num, .str y3.Text, t1]) hS (hH.at 1 rfl) rfl (by kernel_rfl) (ak_ (v := .bool true) hS rfl r_nil)) (by kernel_rfl) rfl hH (by kernel_rfl)
noncomputable def cX_ (a0 : (Sl ad_)) (a1 : (Sl ad_)) : Option Bool := (if ((!decide ((a0.l.length : Int) = (a1.l.length : Int)))) = true then (some false) else ((aI_ (S := Int) (R := (Unit ⊕ Bool)) (fun st1 => (if (decide (st1 < (a0.l.length : Int))) = true then ((elt a0 st1).bind fun y2 => ((elt a1 st1).bind fun y3 => ((di_ y2 y3).bind fun y4 => (if (!y4) = true then (some (.inr (.inr false))) else (some (.inl (w4 (st1 + 1)))))))) else (some (.inr (.inl ()))))) 0).bind fun y1 => (Sum.elim (fun y1 => (some true)) (fun y1 => (some y1)) y1)))
theorem gh_ (a0 : (Sl ad_)) (a1 : (Sl ad_)) (r : Bool) (h : cX_ a0 a1 = some r) : c4_ a0 a1 = some r := by
 unfold cX_ at h
 refine aF_ E_bool_inj rfl rfl ok_30 rfl (all_cons (by kernel_rfl) (all_cons (by kernel_rfl) all_nil)) ?_
 intro σ0 s hS hH
 have hS := aj_ (L' := [(0, a0.t), (1, a1.t)]) hS (by kernel_rfl)
 refine ab_ (aa_ ?_)
 refine qs 1 [(0, a0.t), (1, a1.t)] hS ?_; intro s hS
 refine ac_ (sq_n (ab_ (ab_ (aa_ ?_))))
 refine qs 5 [(0, a0.t), (1, a1.t), (10, .bool ((!decide ((a0.l.length : Int) = (a1.l.length : Int)))))] hS ?_; intro s hS
 refine ac_ (sq_n ?_)
 by_cases hc1 : ((!decide ((a0.l.length : Int) = (a1.l.length : Int)))) = true
 ·have h := ai_ hc1 h
  refine ae_ hS rfl (fun _ => ?_) (fun hf => ag_ hc1 hf)
  refine ab_ (aa_ ?_)
  refine qs 1 [(4, .bool false)] hS ?_; intro s hS
  refine ac_ (sq_n (al_ (sq_r ?_)))
  injection h with h; subst h
  exact am_ hH (ak_ (v := .bool false) hS rfl r_nil) rfl (by kernel_rfl) (by simp [pureT, pureL, E_bool])
 ·have h := ah_ hc1 h
  refine ae_ hS rfl (fun hf => af_ hc1 hf) (fun _ => ?_)
  refine aq_ (sq_n (ab_ (ab_ (aa_ ?_))))
  refine qs 1 [(0, a0.t), (1, a1.t), (5, i4 0)] hS ?_; intro s hS
  refine ac_ (sq_n (ax_ ?_))
  obtain ⟨y1, hy1, h⟩ := bind_some h
  refine bw_ (fun (st1 : Int) (fr : Fr) => Sub [(0, a0.t), (1, a1.t), (5, i4 st1)] fr.s ∧ Heap σ0 fr.σ []) (fun (y1 : (Unit ⊕ Bool)) (e : aB_) (fr : Fr) => (Sum.elim (fun y => e = (.exit 0) ∧ Sub [] fr.s ∧ Heap σ0 fr.σ []) (fun y => e = .ret ∧ endW Try.prog (Try.f30.results.toList) σ0 (E_bool y) .ret fr)) y1) hy1 (And.intro (aj_ hS (by kernel_rfl)) hH) ?_ ?_
  ·clear h hy1 hS hH; clear y1; intro st1 x fr h HI; obtain ⟨s, σ⟩ := fr; obtain ⟨hS, hH⟩ := HI
   refine ab_ (ab_ (aa_ ?_))
   refine qs 4 [(0, a0.t), (1, a1.t), (5, i4 st1), (14, .bool (decide (st1 < (a0.l.length : Int))))] hS ?_; intro s hS
   refine ac_ (sq_n ?_)
   by_cases hc2 : (decide (st1 < (a0.l.length : Int))) = true
   ·have h := ai_ hc2 h
    refine ae_ hS rfl (fun _ => ?_) (fun hf => ag_ hc2 hf)
    refine aq_ (sq_n (ab_ (ax_ (ab_ ?_))))
    refine hE_ (by kernel_rfl) hH ?_; intro mb σ hH
    refine qs 2 [(0, a0.t), (1, a1.t), (5, i4 st1), (17, a0.t), (18, i4 st1)] hS ?_; intro s hS
    obtain ⟨y2, hy2, h⟩ := bind_some h
    refine co_ (sl := a0) (e := 82) [.str y2.Name, i4 y2.Pattern.Kind, i4 y2.Pattern.Num, .str y2.Pattern.Text, y2.Pattern.Kids.t] rfl hS rfl rfl (by kernel_rfl) (by kernel_rfl) hy2 rfl ?_; intro rest1 s hS
    refine qs 3 [(0, a0.t), (1, a1.t), (5, i4 st1), (20, .agg (ad_.cells y2)), (21, a1.t), (22, i4 st1)] hS ?_; intro s hS
    obtain ⟨y3, hy3, h⟩ := bind_some h
    refine co_ (sl := a1) (e := 82) [.str y3.Name, i4 y3.Pattern.Kind, i4 y3.Pattern.Num, .str y3.Pattern.Text, y3.Pattern.Kids.t] rfl hS rfl rfl (by kernel_rfl) (by kernel_rfl) hy3 rfl ?_; intro rest2 s hS
    refine qs 1 [(0, a0.t), (1, a1.t), (5, i4 st1), (20, .agg (ad_.cells y2)), (24, .agg (ad_.cells y3))] hS ?_; intro s hS
    obtain ⟨y4, hy4, h⟩ := bind_some h
    refine aw_ (a := []) (b := []) (xs := [.agg (ad_.cells y2), .agg (ad_.cells y3)]) rfl hS rfl rfl hy4 ?_; intro s hS
    refine qs 1 [(0, a0.t), (1, a1.t), (5, i4 st1), (26, .bool (!y4))] hS ?_; intro s hS
    refine ac_ (sq_n ?_)
    by_cases hc3 : (!y4) = true
    ·have h := ai_ hc3 h
     refine ae_ hS rfl (fun _ => ?_) (fun hf => ag_ hc3 hf)
     refine ab_ (aa_ ?_)
     refine qs 1 [(4, .bool false)] hS ?_; intro s hS
     refine ac_ (sq_n (al_ (bk_r (sq_r ?_))))
     injection h with h; subst h
     exact And.intro rfl (am_ hH (ak_ (v := .bool false) hS rfl r_nil) rfl (by kernel_rfl) (by simp [pureT, pureL, E_bool]))
    ·have h := ah_ hc3 h
     refine ae_ hS rfl (fun hf => af_ hc3 hf) (fun _ => ?_)
     refine aq_ (bk_n (sq_n (aa_ ?_)))
     refine qs 3 [(0, a0.t), (1, a1.t), (5, i4 (w4 (st1 + 1)))] hS ?_; intro s hS
     refine ac_ ?_
     injection h with h; subst h
     exact And.intro (aj_ hS (by kernel_rfl)) hH
   ·have h := ah_ hc2 h
    refine ae_ hS rfl (fun hf => af_ hc2 hf) (fun _ => ?_)
    refine bl_ (sq_x ?_)
    injection h with h; subst h
    exact And.intro rfl (And.intro (aj_ hS (by kernel_rfl)) hH)
  ·clear hS hH; intro e fr HF; obtain ⟨s, σ⟩ := fr
   rcases y1 with y1 | y1
   ·obtain ⟨rfl, hS, hH⟩ := HF
    refine bk_e (sq_n (ab_ (aa_ ?_)))
    refine qs 1 [(4, .bool true)] hS ?_; intro s hS
    refine ac_ (sq_n (al_ ?_))
    injection h with h; subst h
    exact am_ hH (ak_ (v := .bool true) hS rfl r_nil) rfl (by kernel_rfl) (by simp [pureT, pureL, E_bool])
   ·obtain ⟨rfl, HE⟩ := HF
    refine bk_r (sq_r ?_)
    injection h with h; subst h; exact HE
noncomputable def bH_ (a0 : DPattern) (a1 : Int) : Option Int := (if (decide ((w4 (a1 - (a0.Text.size : Int))) < 0)) = true then (some (-1)) else ((cd_ a0.Kids (w4 (a1 - (a0.Text.size : Int)))).bind fun y1 => (if (decide (y1 < 0)) = true then (some (-1)) else (some y1))))
theorem dS_ (a0 : DPattern) (a1 : Int) (r : Int) (h : bH_ a0 a1 = some r) : a3_ a0 a1 = some r := by
 unfold bH_ at h
 refine aF_ E_i64_inj rfl rfl ok_37 rfl (all_cons (by kernel_rfl) (all_cons (by kernel_rfl) all_nil)) ?_
 intro σ0 s hS hH
 have hS := aj_ (L' := [(0, .agg [i4 a0.Kind, i4 a0.Num, .str a0.Text, a0.Kids.t]), (1, i4 a1)]) hS (by kernel_rfl)
 refine ab_ (aa_ ?_)
 refine dy_ (v := .agg [i4 a0.Kind, i4 a0.Num, .str a0.Text, a0.Kids.t]) (cs := [i4 a0.Kind, i4 a0.Num, .str a0.Text, a0.Kids.t]) rfl hS hH rfl rfl (by kernel_rfl) ?_; intro b1 σ s hH hS
 refine qs 1 [(1, i4 a1), (2, .ptr b1 0 0 4)] hS ?_; intro s hS
 refine ac_ (sq_n (ab_ (aa_ ?_)))
 refine qs 2 [(2, .ptr b1 0 0 4), (5, i4 a1), (6, .ptr b1 0 2 1)] hS ?_; intro s hS
 refine as_ (v := .str a0.Text) 0 trivial rfl hS hH rfl rfl (by kernel_rfl) ?_; intro s hS
 refine qs 3 [(1, i4 (w4 (a1 - (a0.Text.size : Int)))), (2, .ptr b1 0 0 4)] hS ?_; intro s hS
 refine ac_ (sq_n (ab_ (ab_ (aa_ ?_))))
 refine qs 2 [(1, i4 (w4 (a1 - (a0.Text.size : Int)))), (2, .ptr b1 0 0 4), (11, .bool (decide ((w4 (a1 - (a0.Text.size : Int))) < 0)))] hS ?_; intro s hS
 refine ac_ (sq_n ?_)
 by_cases hc1 : (decide ((w4 (a1 - (a0.Text.size : Int))) < 0)) = true
 ·have h := ai_ hc1 h
  refine ae_ hS rfl (fun _ => ?_) (fun hf => ag_ hc1 hf)
  refine ab_ (aa_ ?_)
  refine qs 1 [(4, i4 (-1))] hS ?_; intro s hS
  refine ac_ (sq_n (al_ (sq_r ?_)))
  injection h with h; subst h
  exact am_ hH (ak_ (v := i4 (-1)) hS rfl r_nil) rfl (by kernel_rfl) (by simp [pureT, pureL, E_i64])
 ·have h := ah_ hc1 h
  refine ae_ hS rfl (fun hf => af_ hc1 hf) (fun _ => ?_)
  refine aq_ (sq_n (ab_ (aa_ ?_)))
  refine qs 1 [(1, i4 (w4 (a1 - (a0.Text.size : Int)))), (12, .ptr b1 0 3 1)] hS ?_; intro s hS
  refine as_ (v := a0.Kids.t) 0 trivial rfl hS hH rfl rfl (by kernel_rfl) ?_; intro s hS
  refine qs 1 [(13, a0.Kids.t), (14, i4 (w4 (a1 - (a0.Text.size : Int))))] hS ?_; intro s hS
  obtain ⟨y1, hy1, h⟩ := bind_some h
  refine aw_ (a := []) (b := []) (xs := [a0.Kids.t, i4 (w4 (a1 - (a0.Text.size : Int)))]) rfl hS rfl rfl hy1 ?_; intro s hS
  refine qs 1 [(1, i4 y1)] hS ?_; intro s hS
  refine ac_ (sq_n (ab_ (ab_ (aa_ ?_))))
  refine qs 2 [(1, i4 y1), (17, .bool (decide (y1 < 0)))] hS ?_; intro s hS
  refine ac_ (sq_n ?_)
  by_cases hc2 : (decide (y1 < 0)) = true
  ·have h := ai_ hc2 h
   refine ae_ hS rfl (fun _ => ?_) (fun hf => ag_ hc2 hf)
   refine ab_ (aa_ ?_)
   refine qs 1 [(4, i4 (-1))] hS ?_; intro s hS
   refine ac_ (sq_n (al_ (sq_r ?_)))
   injection h with h; subst h
   exact am_ hH (ak_ (v := i4 (-1)) hS rfl r_nil) rfl (by kernel_rfl) (by simp [pureT, pureL, E_i64])
  ·have h := ah_ hc2 h
   refine ae_ hS rfl (fun hf => af_ hc2 hf) (fun _ => ?_)
   refine aq_ (sq_n (ab_ (aa_ ?_)))
   refine qs 2 [(4, i4 y1)] hS ?_; intro s hS
   refine ac_ (sq_n (al_ ?_))
   injection h with h; subst h
   exact am_ hH (ak_ (v := i4 y1) hS rfl r_nil) rfl (by kernel_rfl) (by simp [pureT, pureL, E_i64])
noncomputable def cC_ (a0 : DPattern) : Option DPattern := ((cg_ a0.Kids).bind fun y1 => (some (⟨a0.Kind, a0.Num, a0.Text, y1⟩ : DPattern)))
theorem fz_ (a0 : DPattern) (r : DPattern) (h : cC_ a0 = some r) : bi_ a0 = some r := by
 unfold cC_ at h
 refine ec_ rfl rfl ok_39 rfl (all_cons (by kernel_rfl) all_nil) ?_
 intro σ0 s hS hH
 have hS := aj_ (L' := [(0, .agg [i4 a0.Kind, i4 a0.Num, .str a0.Text, a0.Kids.t])]) hS (by kernel_rfl)
 refine ab_ (aa_ ?_)
 refine dy_ (v := .agg [i4 a0.Kind, i4 a0.Num, .str a0.Text, a0.Kids.t]) (cs := [i4 a0.Kind, i4 a0.Num, .str a0.Text, a0.Kids.t]) rfl hS hH rfl rfl (by kernel_rfl) ?_; intro b1 σ s hH hS
 refine bo_ (z := [i4 0, i4 0, .str ⟨#[]⟩, (nt DPattern)]) rfl hS hH (by kernel_rfl) ?_; intro b2 σ s hH hS
 refine ac_ (sq_n (ab_ (aa_ ?_)))
 refine bo_ (z := [i4 0, i4 0, .str ⟨#[]⟩, (nt DPattern)]) rfl hS hH (by kernel_rfl) ?_; intro b3 σ s hH hS
 refine ac_ (sq_n (ab_ (aa_ ?_)))
 refine qs 1 [(1, .ptr b1 0 0 4), (2, .ptr b2 0 0 4), (3, .ptr b3 0 0 4), (4, .ptr b1 0 0 1)] hS ?_; intro s hS
 refine as_ (v := i4 a0.Kind) 2 trivial rfl hS hH rfl rfl (by kernel_rfl) ?_; intro s hS
 refine qs 1 [(1, .ptr b1 0 0 4), (2, .ptr b2 0 0 4), (3, .ptr b3 0 0 4), (5, i4 a0.Kind), (6, .ptr b3 0 0 1)] hS ?_; intro s hS
 refine df_ (v := i4 a0.Kind) (cs := [i4 a0.Kind]) (cells' := [i4 a0.Kind, i4 0, .str ⟨#[]⟩, (nt DPattern)]) rfl hS hH rfl rfl rfl (by kernel_rfl) (by kernel_rfl) ?_; intro σ s hH hS
 refine ac_ (sq_n (ab_ (aa_ ?_)))
 refine qs 1 [(1, .ptr b1 0 0 4), (2, .ptr b2 0 0 4), (3, .ptr b3 0 0 4), (7, .ptr b1 0 1 1)] hS ?_; intro s hS
 refine as_ (v := i4 a0.Num) 2 trivial rfl hS hH rfl rfl (by kernel_rfl) ?_; intro s hS
 refine qs 1 [(1, .ptr b1 0 0 4), (2, .ptr b2 0 0 4), (3, .ptr b3 0 0 4), (8, i4 a0.Num), (9, .ptr b3 0 1 1)] hS ?_; intro s hS
 refine df_ (v := i4 a0.Num) (cs := [i4 a0.Num]) (cells' := [i4 a0.Kind, i4 a0.Num, .str ⟨#[]⟩, (nt DPattern)]) rfl hS hH rfl rfl rfl (by kernel_rfl) (by kernel_rfl) ?_; intro σ s hH hS
 refine ac_ (sq_n (ab_ (aa_ ?_)))
 refine qs 1 [(1, .ptr b1 0 0 4), (2, .ptr b2 0 0 4), (3, .ptr b3 0 0 4), (10, .ptr b1 0 2 1)] hS ?_; intro s hS
 refine as_ (v := .str a0.Text) 2 trivial rfl hS hH rfl rfl (by kernel_rfl) ?_; intro s hS
 refine qs 1 [(1, .ptr b1 0 0 4), (2, .ptr b2 0 0 4), (3, .ptr b3 0 0 4), (11, .str a0.Text), (12, .ptr b3 0 2 1)] hS ?_; intro s hS
 refine df_ (v := .str a0.Text) (cs := [.str a0.Text]) (cells' := [i4 a0.Kind, i4 a0.Num, .str a0.Text, (nt DPattern)]) rfl hS hH rfl rfl rfl (by kernel_rfl) (by kernel_rfl) ?_; intro σ s hH hS
 refine ac_ (sq_n (ab_ (aa_ ?_)))
 refine qs 1 [(2, .ptr b2 0 0 4), (3, .ptr b3 0 0 4), (13, .ptr b1 0 3 1)] hS ?_; intro s hS
 refine as_ (v := a0.Kids.t) 2 trivial rfl hS hH rfl rfl (by kernel_rfl) ?_; intro s hS
 obtain ⟨y1, hy1, h⟩ := bind_some h
 refine bL_ (ents := []) (z := false) (ts := [a0.Kids.t]) (vs := [a0.Kids.t]) rfl rfl hS rfl rfl rfl hH (HLp HL.nil) hy1 ?_; intro hs σ s hl hH hS
 obtain ⟨t1, rfl⟩ := len1 hl
 have hH : Heap σ0 σ [.own true 4 t1 y1.t, .box b3 [i4 a0.Kind, i4 a0.Num, .str a0.Text, (nt DPattern)], .box b2 [i4 0, i4 0, .str ⟨#[]⟩, (nt DPattern)], .box b1 [i4 a0.Kind, i4 a0.Num, .str a0.Text, a0.Kids.t]] := hH
 have ht1 : bu_ t1 := Heap.one hH
 refine qs 1 [(2, .ptr b2 0 0 4), (3, .ptr b3 0 0 4), (15, t1), (16, .ptr b3 0 3 1)] hS ?_; intro s hS
 have hH : Heap σ0 σ [.box b3 [i4 a0.Kind, i4 a0.Num, .str a0.Text, (nt DPattern)], .own true 4 t1 y1.t, .box b2 [i4 0, i4 0, .str ⟨#[]⟩, (nt DPattern)], .box b1 [i4 a0.Kind, i4 a0.Num, .str a0.Text, a0.Kids.t]] := hH.sel [1, 0, 2, 3] rfl (by kernel_rfl)
 refine df_ (v := t1) (cs := [t1]) (cells' := [i4 a0.Kind, i4 a0.Num, .str a0.Text, t1]) rfl hS hH rfl rfl (by simp [ht1.1, ht1.2]) (by simp [ht1.1, ht1.2]) (by kernel_rfl) ?_; intro σ s hH hS
 refine ac_ (sq_n (ab_ (aa_ ?_)))
 refine as_ (v := .agg [i4 a0.Kind, i4 a0.Num, .str a0.Text, t1]) 0 trivial rfl hS hH rfl rfl (by kernel_rfl) ?_; intro s hS
 have hH : Heap σ0 σ [.box b2 [i4 0, i4 0, .str ⟨#[]⟩, (nt DPattern)], .box b3 [i4 a0.Kind, i4 a0.Num, .str a0.Text, t1], .own true 4 t1 y1.t, .box b1 [i4 a0.Kind, i4 a0.Num, .str a0.Text, a0.Kids.t]] := hH.sel [2, 0, 1, 3] rfl (by kernel_rfl)
 refine aV_ (cs := [i4 a0.Kind, i4 a0.Num, .str a0.Text, t1]) rfl hS hH rfl rfl (by simp [ht1.1, ht1.2]) ?_; intro σ s hH hS
 refine ac_ (sq_n (al_ ?_))
 injection h with h; subst h
 have hH : Heap σ0 σ [.own true 4 t1 y1.t, .box b2 [i4 a0.Kind, i4 a0.Num, .str a0.Text, t1], .box b3 [i4 a0.Kind, i4 a0.Num, .str a0.Text, t1], .box b1 [i4 a0.Kind, i4 a0.Num, .str a0.Text, a0.Kids.t]] := hH.sel [2, 0, 1, 3] rfl (by kernel_rfl)
 exact dV_ [t1] [.box b2 [i4 a0.Kind, i4 a0.Num, .str a0.Text, t1], .box b3 [i4 a0.Kind, i4 a0.Num, .str a0.Text, t1], .box b1 [i4 a0.Kind, i4 a0.Num, .str a0.Text, a0.Kids.t]] (dW_ (v := .agg [i4 a0.Kind, i4 a0.Num, .str a0.Text, t1]) hS (hH.at 1 rfl) rfl (by kernel_rfl) r_nil) (by kernel_rfl) rfl hH (by kernel_rfl)
noncomputable def b6_ (a0 : Int) : Option ByteArray := (if (decide (a0 ≤ 0)) = true then (some ⟨#[109, 48]⟩) else ((aI_ (S := (Int × ByteArray)) (R := ByteArray) (fun st1 => (if (decide (0 < st1.1)) = true then ((strS ((⟨false, [⟨(IntKind.u8.wrap (w4 (48 + (st1.1.tmod 10))))⟩]⟩ : Sl (Iv .u8)))).bind fun y2 => ((catB y2 st1.2).bind fun y3 => (some (.inl ((w4 (st1.1.tdiv 10)), y3))))) else (some (.inr st1.2)))) (a0, ⟨#[]⟩)).bind fun y1 => ((catB ⟨#[109]⟩ y1).bind fun y4 => (some y4))))
theorem ge_ (a0 : Int) (r : ByteArray) (h : b6_ a0 = some r) : aE_ a0 = some r := by
 unfold b6_ at h
 refine aF_ E_str_inj rfl rfl ok_63 rfl (all_cons (by kernel_rfl) all_nil) ?_
 intro σ0 s hS hH
 have hS := aj_ (L' := [(0, i4 a0)]) hS (by kernel_rfl)
 refine ab_ (aa_ ?_)
 refine qs 1 [(0, i4 a0)] hS ?_; intro s hS
 refine ac_ (sq_n (ab_ (ab_ (aa_ ?_))))
 refine qs 2 [(0, i4 a0), (5, .bool (decide (a0 ≤ 0)))] hS ?_; intro s hS
 refine ac_ (sq_n ?_)
 by_cases hc1 : (decide (a0 ≤ 0)) = true
 ·have h := ai_ hc1 h
  refine ae_ hS rfl (fun _ => ?_) (fun hf => ag_ hc1 hf)
  refine ab_ (aa_ ?_)
  refine qs 1 [(2, .str ⟨#[109, 48]⟩)] hS ?_; intro s hS
  refine ac_ (sq_n (al_ (sq_r ?_)))
  injection h with h; subst h
  exact am_ hH (ak_ (v := .str ⟨#[109, 48]⟩) hS rfl r_nil) rfl (by kernel_rfl) (by simp [pureT, pureL, E_str])
 ·have h := ah_ hc1 h
  refine ae_ hS rfl (fun hf => af_ hc1 hf) (fun _ => ?_)
  refine aq_ (sq_n (ab_ (aa_ ?_)))
  refine qs 1 [(0, i4 a0), (3, .str ⟨#[]⟩)] hS ?_; intro s hS
  refine ac_ (sq_n (ab_ (ax_ ?_)))
  obtain ⟨y1, hy1, h⟩ := bind_some h
  refine bw_ (fun (st1 : (Int × ByteArray)) (fr : Fr) => Sub [(0, i4 st1.1), (3, .str st1.2)] fr.s ∧ Heap σ0 fr.σ []) (fun (y1 : ByteArray) (e : aB_) (fr : Fr) => e = (.exit 0) ∧ Sub [(3, .str y1)] fr.s ∧ Heap σ0 fr.σ []) hy1 (And.intro (aj_ hS (by kernel_rfl)) hH) ?_ ?_
  ·clear h hy1 hS hH; clear y1; intro st1 x fr h HI; obtain ⟨s, σ⟩ := fr; obtain ⟨hS, hH⟩ := HI
   refine ab_ (ab_ (aa_ ?_))
   refine qs 2 [(0, i4 st1.1), (3, .str st1.2), (7, .bool (decide (0 < st1.1)))] hS ?_; intro s hS
   refine ac_ (sq_n ?_)
   by_cases hc2 : (decide (0 < st1.1)) = true
   ·have h := ai_ hc2 h
    refine ae_ hS rfl (fun _ => ?_) (fun hf => ag_ hc2 hf)
    refine aq_ (sq_n (ax_ (ab_ (aa_ ?_))))
    refine qs 4 [(0, i4 st1.1), (3, .str st1.2), (11, .int .u8 (IntKind.u8.wrap (w4 (48 + (st1.1.tmod 10)))))] hS ?_; intro s hS
    refine q_bs (ents := []) (e := 5) (sz := 1) (z := true) (vs := [.int .u8 (IntKind.u8.wrap (w4 (48 + (st1.1.tmod 10))))]) (zc := [.int .u8 0]) (cs := [.int .u8 (IntKind.u8.wrap (w4 (48 + (st1.1.tmod 10))))]) (us := [.int .u8 (IntKind.u8.wrap (w4 (48 + (st1.1.tmod 10))))]) (v := Sl.t (⟨false, [⟨(IntKind.u8.wrap (w4 (48 + (st1.1.tmod 10))))⟩]⟩ : Sl (Iv .u8))) rfl hS hH (by kernel_rfl) (by kernel_rfl) (by kernel_rfl) (by kernel_rfl) (by kernel_rfl) (And.intro (by kernel_rfl) (And.intro (by kernel_rfl) trivial)) (by kernel_rfl) (HLi HL.nil) (by kernel_rfl) ?_; intro t1 σ s ht1 hH hS
    obtain ⟨y2, hy2, h⟩ := bind_some h
    refine oy_ (a := (⟨false, [⟨(IntKind.u8.wrap (w4 (48 + (st1.1.tmod 10))))⟩]⟩ : Sl (Iv .u8))) (e := 5) rfl hS hH rfl (by kernel_rfl) (by kernel_rfl) (by kernel_rfl) hy2 ?_; intro s hS
    refine qs 1 [(0, i4 st1.1), (13, .str y2), (14, .str st1.2)] hS ?_; intro s hS
    obtain ⟨y3, hy3, h⟩ := bind_some h
    refine jH_ rfl hS rfl rfl hy3 ?_; intro s hS
    refine qs 1 [(0, i4 st1.1), (3, .str y3)] hS ?_; intro s hS
    refine ac_ (sq_n (aa_ ?_))
    refine qs 3 [(0, i4 (w4 (st1.1.tdiv 10))), (3, .str y3)] hS ?_; intro s hS
    refine ac_ (bk_n ?_)
    injection h with h; subst h
    exact And.intro (aj_ hS (by kernel_rfl)) (Heap.sel hH [] rfl (by kernel_rfl))
   ·have h := ah_ hc2 h
    refine ae_ hS rfl (fun hf => af_ hc2 hf) (fun _ => ?_)
    refine bl_ (sq_x ?_)
    injection h with h; subst h
    exact And.intro rfl (And.intro (aj_ hS (by kernel_rfl)) hH)
  ·clear hS hH; intro e fr HF; obtain ⟨s, σ⟩ := fr
   obtain ⟨rfl, hS, hH⟩ := HF
   refine bk_e (sq_n (ab_ (aa_ ?_)))
   refine qs 1 [(18, .str y1)] hS ?_; intro s hS
   obtain ⟨y4, hy4, h⟩ := bind_some h
   refine jH_ rfl hS rfl rfl hy4 ?_; intro s hS
   refine qs 1 [(2, .str y4)] hS ?_; intro s hS
   refine ac_ (sq_n (al_ ?_))
   injection h with h; subst h
   exact am_ hH (ak_ (v := .str y4) hS rfl r_nil) rfl (by kernel_rfl) (by simp [pureT, pureL, E_str])
noncomputable def bO_ (a0 : (Sl DPattern)) (a1 : Int) : Option Int := ((aI_ (S := (Int × Int)) (R := (Int ⊕ Int)) (fun st1 => (if (decide (st1.2 < (a0.l.length : Int))) = true then ((elt a0 st1.2).bind fun y2 => (if (!decide (y2.Kind = st1.1)) = true then (some (.inr (.inr (-1)))) else ((elt a0 st1.2).bind fun y3 => (if (!decide (y3.Num = (w4 (st1.1 + 1)))) = true then (some (.inr (.inr (-1)))) else ((elt a0 st1.2).bind fun y4 => ((aE_ (w4 ((w4 (st1.1 + 1)) + 1))).bind fun y5 => (if (!decide (y4.Text = y5)) = true then (some (.inr (.inr (-1)))) else ((elt a0 st1.2).bind fun y6 => ((aN_ y6.Kids (w4 ((w4 ((w4 (st1.1 + 1)) + 1)) + 1))).bind fun y7 => (if (decide (y7 < 0)) = true then (some (.inr (.inr (-1)))) else (some (.inl (y7, (w4 (st1.2 + 1))))))))))))))) else (some (.inr (.inl st1.1))))) (a1, 0)).bind fun y1 => (Sum.elim (fun y1 => (some y1)) (fun y1 => (some y1)) y1))
theorem eE_ (a0 : (Sl DPattern)) (a1 : Int) (r : Int) (h : bO_ a0 a1 = some r) : aN_ a0 a1 = some r := by
 unfold bO_ at h
 refine aF_ E_i64_inj rfl rfl ok_64 rfl (all_cons (by kernel_rfl) (all_cons (by kernel_rfl) all_nil)) ?_
 intro σ0 s hS hH
 have hS := aj_ (L' := [(0, a0.t), (1, i4 a1)]) hS (by kernel_rfl)
 refine ab_ (aa_ ?_)
 refine qs 1 [(0, a0.t), (1, i4 a1)] hS ?_; intro s hS
 refine ac_ (sq_n (ab_ (ab_ (aa_ ?_))))
 refine qs 1 [(0, a0.t), (1, i4 a1), (5, i4 0)] hS ?_; intro s hS
 refine ac_ (sq_n (ax_ ?_))
 obtain ⟨y1, hy1, h⟩ := bind_some h
 refine bw_ (fun (st1 : (Int × Int)) (fr : Fr) => Sub [(0, a0.t), (1, i4 st1.1), (5, i4 st1.2)] fr.s ∧ Heap σ0 fr.σ []) (fun (y1 : (Int ⊕ Int)) (e : aB_) (fr : Fr) => (Sum.elim (fun y => e = (.exit 0) ∧ Sub [(1, i4 y)] fr.s ∧ Heap σ0 fr.σ []) (fun y => e = .ret ∧ endW Try.prog (Try.f64.results.toList) σ0 (E_i64 y) .ret fr)) y1) hy1 (And.intro (aj_ hS (by kernel_rfl)) hH) ?_ ?_
 ·clear h hy1 hS hH; clear y1; intro st1 x fr h HI; obtain ⟨s, σ⟩ := fr; obtain ⟨hS, hH⟩ := HI
  refine ab_ (ab_ (aa_ ?_))
  refine qs 4 [(0, a0.t), (1, i4 st1.1), (5, i4 st1.2), (9, .bool (decide (st1.2 < (a0.l.length : Int))))] hS ?_; intro s hS
  refine ac_ (sq_n ?_)
  by_cases hc1 : (decide (st1.2 < (a0.l.length : Int))) = true
  ·have h := ai_ hc1 h
   refine ae_ hS rfl (fun _ => ?_) (fun hf => ag_ hc1 hf)
   refine aq_ (sq_n (ab_ (ax_ (ab_ (ab_ (aa_ ?_))))))
   refine qs 2 [(0, a0.t), (1, i4 st1.1), (5, i4 st1.2), (12, a0.t), (13, i4 st1.2)] hS ?_; intro s hS
   obtain ⟨y2, hy2, h⟩ := bind_some h
   refine co_ (sl := a0) (e := 26) [i4 y2.Kind, i4 y2.Num, .str y2.Text, y2.Kids.t] rfl hS rfl rfl (by kernel_rfl) (by kernel_rfl) hy2 (DPattern.cells_eq _) ?_; intro rest1 s hS
   refine qs 4 [(0, a0.t), (1, i4 st1.1), (5, i4 st1.2), (18, .bool (!decide (y2.Kind = st1.1)))] hS ?_; intro s hS
   refine ac_ (sq_n ?_)
   by_cases hc2 : (!decide (y2.Kind = st1.1)) = true
   ·have h := ai_ hc2 h
    refine ae_ hS rfl (fun _ => ?_) (fun hf => ag_ hc2 hf)
    refine ab_ (aa_ ?_)
    refine qs 1 [(4, i4 (-1))] hS ?_; intro s hS
    refine ac_ (sq_n (al_ (sq_r (bk_r (sq_r ?_)))))
    injection h with h; subst h
    exact And.intro rfl (am_ hH (ak_ (v := i4 (-1)) hS rfl r_nil) rfl (by kernel_rfl) (by simp [pureT, pureL, E_i64]))
   ·have h := ah_ hc2 h
    refine ae_ hS rfl (fun hf => af_ hc2 hf) (fun _ => ?_)
    refine aq_ (sq_n (ab_ (aa_ ?_)))
    refine qs 3 [(0, a0.t), (1, i4 (w4 (st1.1 + 1))), (5, i4 st1.2)] hS ?_; intro s hS
    refine ac_ (sq_n (ab_ (ab_ (aa_ ?_))))
    refine qs 2 [(0, a0.t), (1, i4 (w4 (st1.1 + 1))), (5, i4 st1.2), (21, a0.t), (22, i4 st1.2)] hS ?_; intro s hS
    obtain ⟨y3, hy3, h⟩ := bind_some h
    refine co_ (sl := a0) (e := 26) [i4 y3.Kind, i4 y3.Num, .str y3.Text, y3.Kids.t] rfl hS rfl rfl (by kernel_rfl) (by kernel_rfl) hy3 (DPattern.cells_eq _) ?_; intro rest2 s hS
    refine qs 4 [(0, a0.t), (1, i4 (w4 (st1.1 + 1))), (5, i4 st1.2), (27, .bool (!decide (y3.Num = (w4 (st1.1 + 1)))))] hS ?_; intro s hS
    refine ac_ (sq_n ?_)
    by_cases hc3 : (!decide (y3.Num = (w4 (st1.1 + 1)))) = true
    ·have h := ai_ hc3 h
     refine ae_ hS rfl (fun _ => ?_) (fun hf => ag_ hc3 hf)
     refine ab_ (aa_ ?_)
     refine qs 1 [(4, i4 (-1))] hS ?_; intro s hS
     refine ac_ (sq_n (al_ (sq_r (bk_r (sq_r ?_)))))
     injection h with h; subst h
     exact And.intro rfl (am_ hH (ak_ (v := i4 (-1)) hS rfl r_nil) rfl (by kernel_rfl) (by simp [pureT, pureL, E_i64]))
    ·have h := ah_ hc3 h
     refine ae_ hS rfl (fun hf => af_ hc3 hf) (fun _ => ?_)
     refine aq_ (sq_n (ab_ (aa_ ?_)))
     refine qs 3 [(0, a0.t), (1, i4 (w4 ((w4 (st1.1 + 1)) + 1))), (5, i4 st1.2)] hS ?_; intro s hS
     refine ac_ (sq_n (ab_ (ab_ ?_)))
     refine hE_ (by kernel_rfl) hH ?_; intro mb σ hH
     refine qs 2 [(0, a0.t), (1, i4 (w4 ((w4 (st1.1 + 1)) + 1))), (5, i4 st1.2), (30, a0.t), (31, i4 st1.2)] hS ?_; intro s hS
     obtain ⟨y4, hy4, h⟩ := bind_some h
     refine co_ (sl := a0) (e := 26) [i4 y4.Kind, i4 y4.Num, .str y4.Text, y4.Kids.t] rfl hS rfl rfl (by kernel_rfl) (by kernel_rfl) hy4 (DPattern.cells_eq _) ?_; intro rest3 s hS
     refine qs 3 [(0, a0.t), (1, i4 (w4 ((w4 (st1.1 + 1)) + 1))), (5, i4 st1.2), (34, .str y4.Text), (35, i4 (w4 ((w4 (st1.1 + 1)) + 1)))] hS ?_; intro s hS
     obtain ⟨y5, hy5, h⟩ := bind_some h
     refine aw_ (a := []) (b := []) (xs := [i4 (w4 ((w4 (st1.1 + 1)) + 1))]) rfl hS rfl rfl hy5 ?_; intro s hS
     refine qs 1 [(0, a0.t), (1, i4 (w4 ((w4 (st1.1 + 1)) + 1))), (5, i4 st1.2), (37, .bool (!decide (y4.Text = y5)))] hS ?_; intro s hS
     refine ac_ (sq_n ?_)
     by_cases hc4 : (!decide (y4.Text = y5)) = true
     ·have h := ai_ hc4 h
      refine ae_ hS rfl (fun _ => ?_) (fun hf => ag_ hc4 hf)
      refine ab_ (aa_ ?_)
      refine qs 1 [(4, i4 (-1))] hS ?_; intro s hS
      refine ac_ (sq_n (al_ (sq_r (bk_r (sq_r ?_)))))
      injection h with h; subst h
      exact And.intro rfl (am_ hH (ak_ (v := i4 (-1)) hS rfl r_nil) rfl (by kernel_rfl) (by simp [pureT, pureL, E_i64]))
     ·have h := ah_ hc4 h
      refine ae_ hS rfl (fun hf => af_ hc4 hf) (fun _ => ?_)
      refine aq_ (sq_n (ab_ (aa_ ?_)))
      refine qs 3 [(0, a0.t), (1, i4 (w4 ((w4 ((w4 (st1.1 + 1)) + 1)) + 1))), (5, i4 st1.2)] hS ?_; intro s hS
      refine ac_ (sq_n (ab_ (aa_ ?_)))
      refine qs 2 [(0, a0.t), (1, i4 (w4 ((w4 ((w4 (st1.1 + 1)) + 1)) + 1))), (5, i4 st1.2), (40, a0.t), (41, i4 st1.2)] hS ?_; intro s hS
      obtain ⟨y6, hy6, h⟩ := bind_some h
      refine co_ (sl := a0) (e := 26) [i4 y6.Kind, i4 y6.Num, .str y6.Text, y6.Kids.t] rfl hS rfl rfl (by kernel_rfl) (by kernel_rfl) hy6 (DPattern.cells_eq _) ?_; intro rest4 s hS
      refine qs 3 [(0, a0.t), (5, i4 st1.2), (44, y6.Kids.t), (45, i4 (w4 ((w4 ((w4 (st1.1 + 1)) + 1)) + 1)))] hS ?_; intro s hS
      obtain ⟨y7, hy7, h⟩ := bind_some h
      refine aw_ (a := []) (b := []) (xs := [y6.Kids.t, i4 (w4 ((w4 ((w4 (st1.1 + 1)) + 1)) + 1))]) rfl hS rfl rfl hy7 ?_; intro s hS
      refine qs 1 [(0, a0.t), (1, i4 y7), (5, i4 st1.2)] hS ?_; intro s hS
      refine ac_ (sq_n (ab_ (aa_ ?_)))
      refine qs 2 [(0, a0.t), (1, i4 y7), (5, i4 st1.2), (48, .bool (decide (y7 < 0)))] hS ?_; intro s hS
      refine ac_ (sq_n ?_)
      by_cases hc5 : (decide (y7 < 0)) = true
      ·have h := ai_ hc5 h
       refine ae_ hS rfl (fun _ => ?_) (fun hf => ag_ hc5 hf)
       refine ab_ (aa_ ?_)
       refine qs 1 [(4, i4 (-1))] hS ?_; intro s hS
       refine ac_ (sq_n (al_ (bk_r (sq_r ?_))))
       injection h with h; subst h
       exact And.intro rfl (am_ hH (ak_ (v := i4 (-1)) hS rfl r_nil) rfl (by kernel_rfl) (by simp [pureT, pureL, E_i64]))
      ·have h := ah_ hc5 h
       refine ae_ hS rfl (fun hf => af_ hc5 hf) (fun _ => ?_)
       refine aq_ (bk_n (sq_n (aa_ ?_)))
       refine qs 3 [(0, a0.t), (1, i4 y7), (5, i4 (w4 (st1.2 + 1)))] hS ?_; intro s hS
       refine ac_ ?_
       injection h with h; subst h
       exact And.intro (aj_ hS (by kernel_rfl)) hH
  ·have h := ah_ hc1 h
   refine ae_ hS rfl (fun hf => af_ hc1 hf) (fun _ => ?_)
   refine bl_ (sq_x ?_)
   injection h with h; subst h
   exact And.intro rfl (And.intro (aj_ hS (by kernel_rfl)) hH)
 ·clear hS hH; intro e fr HF; obtain ⟨s, σ⟩ := fr
  rcases y1 with y1 | y1
  ·obtain ⟨rfl, hS, hH⟩ := HF
   refine bk_e (sq_n (ab_ (aa_ ?_)))
   refine qs 2 [(4, i4 y1)] hS ?_; intro s hS
   refine ac_ (sq_n (al_ ?_))
   injection h with h; subst h
   exact am_ hH (ak_ (v := i4 y1) hS rfl r_nil) rfl (by kernel_rfl) (by simp [pureT, pureL, E_i64])
  ·obtain ⟨rfl, HE⟩ := HF
   refine bk_r (sq_r ?_)
   injection h with h; subst h; exact HE
noncomputable def ct_ (a0 : ad_) (a1 : Int) : Option Int := (if (decide ((w4 (a1 - (a0.Name.size : Int))) < 0)) = true then (some (-1)) else ((a3_ a0.Pattern (w4 (a1 - (a0.Name.size : Int)))).bind fun y1 => (if (decide (y1 < 0)) = true then (some (-1)) else (some y1))))
theorem et_ (a0 : ad_) (a1 : Int) (r : Int) (h : ct_ a0 a1 = some r) : bn_ a0 a1 = some r := by
 unfold ct_ at h
 refine aF_ E_i64_inj rfl rfl ok_65 rfl (all_cons (by kernel_rfl) (all_cons (by kernel_rfl) all_nil)) ?_
 intro σ0 s hS hH
 have hS := aj_ (L' := [(0, .agg (ad_.cells a0)), (1, i4 a1)]) hS (by kernel_rfl)
 refine ab_ (aa_ ?_)
 refine dy_ (v := .agg (ad_.cells a0)) (cs := [.str a0.Name, i4 a0.Pattern.Kind, i4 a0.Pattern.Num, .str a0.Pattern.Text, a0.Pattern.Kids.t]) rfl hS hH rfl rfl (by kernel_rfl) ?_; intro b1 σ s hH hS
 refine qs 1 [(1, i4 a1), (2, .ptr b1 0 0 5)] hS ?_; intro s hS
 refine ac_ (sq_n (ab_ (aa_ ?_)))
 refine qs 2 [(2, .ptr b1 0 0 5), (5, i4 a1), (6, .ptr b1 0 0 1)] hS ?_; intro s hS
 refine as_ (v := .str a0.Name) 0 trivial rfl hS hH rfl rfl (by kernel_rfl) ?_; intro s hS
 refine qs 3 [(1, i4 (w4 (a1 - (a0.Name.size : Int)))), (2, .ptr b1 0 0 5)] hS ?_; intro s hS
 refine ac_ (sq_n (ab_ (ab_ (aa_ ?_))))
 refine qs 2 [(1, i4 (w4 (a1 - (a0.Name.size : Int)))), (2, .ptr b1 0 0 5), (11, .bool (decide ((w4 (a1 - (a0.Name.size : Int))) < 0)))] hS ?_; intro s hS
 refine ac_ (sq_n ?_)
 by_cases hc1 : (decide ((w4 (a1 - (a0.Name.size : Int))) < 0)) = true
 ·have h := ai_ hc1 h
  refine ae_ hS rfl (fun _ => ?_) (fun hf => ag_ hc1 hf)
  refine ab_ (aa_ ?_)
  refine qs 1 [(4, i4 (-1))] hS ?_; intro s hS
  refine ac_ (sq_n (al_ (sq_r ?_)))
  injection h with h; subst h
  exact am_ hH (ak_ (v := i4 (-1)) hS rfl r_nil) rfl (by kernel_rfl) (by simp [pureT, pureL, E_i64])
 ·have h := ah_ hc1 h
  refine ae_ hS rfl (fun hf => af_ hc1 hf) (fun _ => ?_)
  refine aq_ (sq_n (ab_ (aa_ ?_)))
  refine qs 1 [(1, i4 (w4 (a1 - (a0.Name.size : Int)))), (12, .ptr b1 0 1 4)] hS ?_; intro s hS
  refine as_ (v := .agg [i4 a0.Pattern.Kind, i4 a0.Pattern.Num, .str a0.Pattern.Text, a0.Pattern.Kids.t]) 0 trivial rfl hS hH rfl rfl (by kernel_rfl) ?_; intro s hS
  refine qs 1 [(13, .agg [i4 a0.Pattern.Kind, i4 a0.Pattern.Num, .str a0.Pattern.Text, a0.Pattern.Kids.t]), (14, i4 (w4 (a1 - (a0.Name.size : Int))))] hS ?_; intro s hS
  obtain ⟨y1, hy1, h⟩ := bind_some h
  refine aw_ (a := []) (b := []) (xs := [.agg [i4 a0.Pattern.Kind, i4 a0.Pattern.Num, .str a0.Pattern.Text, a0.Pattern.Kids.t], i4 (w4 (a1 - (a0.Name.size : Int)))]) rfl hS rfl rfl hy1 ?_; intro s hS
  refine qs 1 [(1, i4 y1)] hS ?_; intro s hS
  refine ac_ (sq_n (ab_ (ab_ (aa_ ?_))))
  refine qs 2 [(1, i4 y1), (17, .bool (decide (y1 < 0)))] hS ?_; intro s hS
  refine ac_ (sq_n ?_)
  by_cases hc2 : (decide (y1 < 0)) = true
  ·have h := ai_ hc2 h
   refine ae_ hS rfl (fun _ => ?_) (fun hf => ag_ hc2 hf)
   refine ab_ (aa_ ?_)
   refine qs 1 [(4, i4 (-1))] hS ?_; intro s hS
   refine ac_ (sq_n (al_ (sq_r ?_)))
   injection h with h; subst h
   exact am_ hH (ak_ (v := i4 (-1)) hS rfl r_nil) rfl (by kernel_rfl) (by simp [pureT, pureL, E_i64])
  ·have h := ah_ hc2 h
   refine ae_ hS rfl (fun hf => af_ hc2 hf) (fun _ => ?_)
   refine aq_ (sq_n (ab_ (aa_ ?_)))
   refine qs 2 [(4, i4 y1)] hS ?_; intro s hS
   refine ac_ (sq_n (al_ ?_))
   injection h with h; subst h
   exact am_ hH (ak_ (v := i4 y1) hS rfl r_nil) rfl (by kernel_rfl) (by simp [pureT, pureL, E_i64])
noncomputable def cs_ (a0 : (Sl ad_)) (a1 : ByteArray) : Option Int := ((aI_ (S := Int) (R := (Unit ⊕ Int)) (fun st1 => (if (decide (st1 < (a0.l.length : Int))) = true then ((elt a0 st1).bind fun y2 => (if (decide (y2.Name = a1)) = true then (some (.inr (.inr st1))) else (some (.inl (w4 (st1 + 1)))))) else (some (.inr (.inl ()))))) 0).bind fun y1 => (Sum.elim (fun y1 => (some (-1))) (fun y1 => (some y1)) y1))
theorem ev_ (a0 : (Sl ad_)) (a1 : ByteArray) (r : Int) (h : cs_ a0 a1 = some r) : cr_ a0 a1 = some r := by
 unfold cs_ at h
 refine aF_ E_i64_inj rfl rfl ok_66 rfl (all_cons (by kernel_rfl) (all_cons (by kernel_rfl) all_nil)) ?_
 intro σ0 s hS hH
 have hS := aj_ (L' := [(0, a0.t), (1, .str a1)]) hS (by kernel_rfl)
 refine ab_ (aa_ ?_)
 refine qs 1 [(0, a0.t), (1, .str a1)] hS ?_; intro s hS
 refine ac_ (sq_n (ab_ (ab_ (aa_ ?_))))
 refine qs 1 [(0, a0.t), (1, .str a1), (5, i4 0)] hS ?_; intro s hS
 refine ac_ (sq_n (ax_ ?_))
 obtain ⟨y1, hy1, h⟩ := bind_some h
 refine bw_ (fun (st1 : Int) (fr : Fr) => Sub [(0, a0.t), (1, .str a1), (5, i4 st1)] fr.s ∧ Heap σ0 fr.σ []) (fun (y1 : (Unit ⊕ Int)) (e : aB_) (fr : Fr) => (Sum.elim (fun y => e = (.exit 0) ∧ Sub [] fr.s ∧ Heap σ0 fr.σ []) (fun y => e = .ret ∧ endW Try.prog (Try.f66.results.toList) σ0 (E_i64 y) .ret fr)) y1) hy1 (And.intro (aj_ hS (by kernel_rfl)) hH) ?_ ?_
 ·clear h hy1 hS hH; clear y1; intro st1 x fr h HI; obtain ⟨s, σ⟩ := fr; obtain ⟨hS, hH⟩ := HI
  refine ab_ (ab_ (aa_ ?_))
  refine qs 4 [(0, a0.t), (1, .str a1), (5, i4 st1), (9, .bool (decide (st1 < (a0.l.length : Int))))] hS ?_; intro s hS
  refine ac_ (sq_n ?_)
  by_cases hc1 : (decide (st1 < (a0.l.length : Int))) = true
  ·have h := ai_ hc1 h
   refine ae_ hS rfl (fun _ => ?_) (fun hf => ag_ hc1 hf)
   refine aq_ (sq_n (ab_ (ax_ (ab_ (aa_ ?_)))))
   refine qs 2 [(0, a0.t), (1, .str a1), (5, i4 st1), (12, a0.t), (13, i4 st1)] hS ?_; intro s hS
   obtain ⟨y2, hy2, h⟩ := bind_some h
   refine co_ (sl := a0) (e := 82) [.str y2.Name, i4 y2.Pattern.Kind, i4 y2.Pattern.Num, .str y2.Pattern.Text, y2.Pattern.Kids.t] rfl hS rfl rfl (by kernel_rfl) (by kernel_rfl) hy2 rfl ?_; intro rest1 s hS
   refine qs 4 [(0, a0.t), (1, .str a1), (5, i4 st1), (18, .bool (decide (y2.Name = a1)))] hS ?_; intro s hS
   refine ac_ (sq_n ?_)
   by_cases hc2 : (decide (y2.Name = a1)) = true
   ·have h := ai_ hc2 h
    refine ae_ hS rfl (fun _ => ?_) (fun hf => ag_ hc2 hf)
    refine ab_ (aa_ ?_)
    refine qs 2 [(4, i4 st1)] hS ?_; intro s hS
    refine ac_ (sq_n (al_ (bk_r (sq_r ?_))))
    injection h with h; subst h
    exact And.intro rfl (am_ hH (ak_ (v := i4 st1) hS rfl r_nil) rfl (by kernel_rfl) (by simp [pureT, pureL, E_i64]))
   ·have h := ah_ hc2 h
    refine ae_ hS rfl (fun hf => af_ hc2 hf) (fun _ => ?_)
    refine aq_ (bk_n (sq_n (aa_ ?_)))
    refine qs 3 [(0, a0.t), (1, .str a1), (5, i4 (w4 (st1 + 1)))] hS ?_; intro s hS
    refine ac_ ?_
    injection h with h; subst h
    exact And.intro (aj_ hS (by kernel_rfl)) hH
  ·have h := ah_ hc1 h
   refine ae_ hS rfl (fun hf => af_ hc1 hf) (fun _ => ?_)
   refine bl_ (sq_x ?_)
   injection h with h; subst h
   exact And.intro rfl (And.intro (aj_ hS (by kernel_rfl)) hH)
 ·clear hS hH; intro e fr HF; obtain ⟨s, σ⟩ := fr
  rcases y1 with y1 | y1
  ·obtain ⟨rfl, hS, hH⟩ := HF
   refine bk_e (sq_n (ab_ (aa_ ?_)))
   refine qs 1 [(4, i4 (-1))] hS ?_; intro s hS
   refine ac_ (sq_n (al_ ?_))
   injection h with h; subst h
   exact am_ hH (ak_ (v := i4 (-1)) hS rfl r_nil) rfl (by kernel_rfl) (by simp [pureT, pureL, E_i64])
  ·obtain ⟨rfl, HE⟩ := HF
   refine bk_r (sq_r ?_)
   injection h with h; subst h; exact HE
noncomputable def cU_ (a0 : (Sl ad_)) : Option Bool := (if (decide (40 < (a0.l.length : Int))) = true then (some false) else ((aI_ (S := Int) (R := (Unit ⊕ Bool)) (fun st1 => (if (decide (st1 < (a0.l.length : Int))) = true then ((elt a0 st1).bind fun y2 => ((cK_ y2.Name).bind fun y3 => (if (!y3) = true then (some (.inr (.inr false))) else ((elt a0 st1).bind fun y4 => ((bQ_ y4.Pattern).bind fun y5 => (if (!y5) = true then (some (.inr (.inr false))) else ((aI_ (S := Int) (R := (Unit ⊕ Bool)) (fun st2 => (if (decide (st2 < st1)) = true then ((elt a0 st2).bind fun y7 => ((elt a0 st1).bind fun y8 => (if (decide (y7.Name = y8.Name)) = true then (some (.inr (.inr false))) else (some (.inl (w4 (st2 + 1))))))) else (some (.inr (.inl ()))))) 0).bind fun y6 => (Sum.elim (fun y6 => (some (.inl (w4 (st1 + 1))))) (fun y6 => (some (.inr (.inr y6)))) y6)))))))) else (some (.inr (.inl ()))))) 0).bind fun y1 => (Sum.elim (fun y1 => (some true)) (fun y1 => (some y1)) y1)))
theorem fX_ (a0 : (Sl ad_)) (r : Bool) (h : cU_ a0 = some r) : c0_ a0 = some r := by
 unfold cU_ at h
 refine aF_ E_bool_inj rfl rfl ok_67 rfl (all_cons (by kernel_rfl) all_nil) ?_
 intro σ0 s hS hH
 have hS := aj_ (L' := [(0, a0.t)]) hS (by kernel_rfl)
 refine ab_ (aa_ ?_)
 refine qs 1 [(0, a0.t)] hS ?_; intro s hS
 refine ac_ (sq_n (ab_ (ab_ (aa_ ?_))))
 refine qs 3 [(0, a0.t), (7, .bool (decide (40 < (a0.l.length : Int))))] hS ?_; intro s hS
 refine ac_ (sq_n ?_)
 by_cases hc1 : (decide (40 < (a0.l.length : Int))) = true
 ·have h := ai_ hc1 h
  refine ae_ hS rfl (fun _ => ?_) (fun hf => ag_ hc1 hf)
  refine ab_ (aa_ ?_)
  refine qs 1 [(2, .bool false)] hS ?_; intro s hS
  refine ac_ (sq_n (al_ (sq_r ?_)))
  injection h with h; subst h
  exact am_ hH (ak_ (v := .bool false) hS rfl r_nil) rfl (by kernel_rfl) (by simp [pureT, pureL, E_bool])
 ·have h := ah_ hc1 h
  refine ae_ hS rfl (fun hf => af_ hc1 hf) (fun _ => ?_)
  refine aq_ (sq_n (ab_ (ab_ (aa_ ?_))))
  refine qs 1 [(0, a0.t), (3, i4 0)] hS ?_; intro s hS
  refine ac_ (sq_n (ax_ ?_))
  obtain ⟨y1, hy1, h⟩ := bind_some h
  refine bw_ (fun (st1 : Int) (fr : Fr) => Sub [(0, a0.t), (3, i4 st1)] fr.s ∧ Heap σ0 fr.σ []) (fun (y1 : (Unit ⊕ Bool)) (e : aB_) (fr : Fr) => (Sum.elim (fun y => e = (.exit 0) ∧ Sub [] fr.s ∧ Heap σ0 fr.σ []) (fun y => e = .ret ∧ endW Try.prog (Try.f67.results.toList) σ0 (E_bool y) .ret fr)) y1) hy1 (And.intro (aj_ hS (by kernel_rfl)) hH) ?_ ?_
  ·clear h hy1 hS hH; clear y1; intro st1 x fr h HI; obtain ⟨s, σ⟩ := fr; obtain ⟨hS, hH⟩ := HI
   refine ab_ (ab_ (aa_ ?_))
   refine qs 4 [(0, a0.t), (3, i4 st1), (11, .bool (decide (st1 < (a0.l.length : Int))))] hS ?_; intro s hS
   refine ac_ (sq_n ?_)
   by_cases hc2 : (decide (st1 < (a0.l.length : Int))) = true
   ·have h := ai_ hc2 h
    refine ae_ hS rfl (fun _ => ?_) (fun hf => ag_ hc2 hf)
    refine aq_ (sq_n (ab_ (ax_ (ab_ (ab_ (aa_ ?_))))))
    refine qs 2 [(0, a0.t), (3, i4 st1), (14, a0.t), (15, i4 st1)] hS ?_; intro s hS
    obtain ⟨y2, hy2, h⟩ := bind_some h
    refine co_ (sl := a0) (e := 82) [.str y2.Name, i4 y2.Pattern.Kind, i4 y2.Pattern.Num, .str y2.Pattern.Text, y2.Pattern.Kids.t] rfl hS rfl rfl (by kernel_rfl) (by kernel_rfl) hy2 rfl ?_; intro rest1 s hS
    refine qs 2 [(0, a0.t), (3, i4 st1), (18, .str y2.Name)] hS ?_; intro s hS
    obtain ⟨y3, hy3, h⟩ := bind_some h
    refine aw_ (a := []) (b := []) (xs := [.str y2.Name]) rfl hS rfl rfl hy3 ?_; intro s hS
    refine qs 2 [(21, .bool (!y3)), (0, a0.t), (3, i4 st1)] hS ?_; intro s hS
    by_cases hc3 : (!y3) = true
    ·have h := ai_ hc3 h
     have hS := ao_ hS hc3
     refine qs 8 [(0, a0.t), (3, i4 st1), (29, .bool true)] hS ?_; intro s hS
     refine ac_ (sq_n ?_)
     refine ae_ (t := true) hS rfl (fun _ => ?_) (fun hf => by cases hf)
     refine ab_ (aa_ ?_)
     refine qs 1 [(2, .bool false)] hS ?_; intro s hS
     refine ac_ (sq_n (al_ (sq_r (bk_r (sq_r ?_)))))
     injection h with h; subst h
     exact And.intro rfl (am_ hH (ak_ (v := .bool false) hS rfl r_nil) rfl (by kernel_rfl) (by simp [pureT, pureL, E_bool]))
    ·have h := ah_ hc3 h
     have hS := ao_ hS (aY_ hc3)
     refine qs 2 [(0, a0.t), (3, i4 st1), (21, .bool false), (22, a0.t), (23, i4 st1)] hS ?_; intro s hS
     obtain ⟨y4, hy4, h⟩ := bind_some h
     refine co_ (sl := a0) (e := 82) [.str y4.Name, i4 y4.Pattern.Kind, i4 y4.Pattern.Num, .str y4.Pattern.Text, y4.Pattern.Kids.t] rfl hS rfl rfl (by kernel_rfl) (by kernel_rfl) hy4 rfl ?_; intro rest2 s hS
     refine qs 2 [(0, a0.t), (3, i4 st1), (21, .bool false), (26, .agg [i4 y4.Pattern.Kind, i4 y4.Pattern.Num, .str y4.Pattern.Text, y4.Pattern.Kids.t])] hS ?_; intro s hS
     obtain ⟨y5, hy5, h⟩ := bind_some h
     refine aw_ (a := []) (b := []) (xs := [.agg [i4 y4.Pattern.Kind, i4 y4.Pattern.Num, .str y4.Pattern.Text, y4.Pattern.Kids.t]]) rfl hS rfl rfl hy5 ?_; intro s hS
     refine qs 2 [(0, a0.t), (3, i4 st1), (29, .bool (!y5))] hS ?_; intro s hS
     refine ac_ (sq_n ?_)
     by_cases hc4 : (!y5) = true
     ·have h := ai_ hc4 h
      refine ae_ hS rfl (fun _ => ?_) (fun hf => ag_ hc4 hf)
      refine ab_ (aa_ ?_)
      refine qs 1 [(2, .bool false)] hS ?_; intro s hS
      refine ac_ (sq_n (al_ (sq_r (bk_r (sq_r ?_)))))
      injection h with h; subst h
      exact And.intro rfl (am_ hH (ak_ (v := .bool false) hS rfl r_nil) rfl (by kernel_rfl) (by simp [pureT, pureL, E_bool]))
     ·have h := ah_ hc4 h
      refine ae_ hS rfl (fun hf => af_ hc4 hf) (fun _ => ?_)
      refine aq_ (sq_n (ab_ (aa_ ?_)))
      refine qs 1 [(0, a0.t), (3, i4 st1), (4, i4 0)] hS ?_; intro s hS
      refine ac_ (sq_n (ax_ ?_))
      obtain ⟨y6, hy6, h⟩ := bind_some h
      refine bw_ (fun (st2 : Int) (fr : Fr) => Sub [(0, a0.t), (3, i4 st1), (4, i4 st2)] fr.s ∧ Heap σ0 fr.σ []) (fun (y6 : (Unit ⊕ Bool)) (e : aB_) (fr : Fr) => (Sum.elim (fun y => e = (.exit 2) ∧ Sub [(0, a0.t), (3, i4 st1)] fr.s ∧ Heap σ0 fr.σ []) (fun y => e = .ret ∧ endW Try.prog (Try.f67.results.toList) σ0 (E_bool y) .ret fr)) y6) hy6 (And.intro (aj_ hS (by kernel_rfl)) hH) ?_ ?_
      ·clear h hy6 hS hH; clear y6; intro st2 x fr h HI; obtain ⟨s, σ⟩ := fr; obtain ⟨hS, hH⟩ := HI
       refine ab_ (ab_ (aa_ ?_))
       refine qs 3 [(0, a0.t), (3, i4 st1), (4, i4 st2), (32, .bool (decide (st2 < st1)))] hS ?_; intro s hS
       refine ac_ (sq_n ?_)
       by_cases hc5 : (decide (st2 < st1)) = true
       ·have h := ai_ hc5 h
        refine ae_ hS rfl (fun _ => ?_) (fun hf => ag_ hc5 hf)
        refine aq_ (sq_n (ab_ (ax_ (ab_ ?_))))
        refine hE_ (by kernel_rfl) hH ?_; intro mb σ hH
        refine qs 2 [(0, a0.t), (3, i4 st1), (4, i4 st2), (35, a0.t), (36, i4 st2)] hS ?_; intro s hS
        obtain ⟨y7, hy7, h⟩ := bind_some h
        refine co_ (sl := a0) (e := 82) [.str y7.Name, i4 y7.Pattern.Kind, i4 y7.Pattern.Num, .str y7.Pattern.Text, y7.Pattern.Kids.t] rfl hS rfl rfl (by kernel_rfl) (by kernel_rfl) hy7 rfl ?_; intro rest3 s hS
        refine qs 4 [(0, a0.t), (3, i4 st1), (4, i4 st2), (39, .str y7.Name), (40, a0.t), (41, i4 st1)] hS ?_; intro s hS
        obtain ⟨y8, hy8, h⟩ := bind_some h
        refine co_ (sl := a0) (e := 82) [.str y8.Name, i4 y8.Pattern.Kind, i4 y8.Pattern.Num, .str y8.Pattern.Text, y8.Pattern.Kids.t] rfl hS rfl rfl (by kernel_rfl) (by kernel_rfl) hy8 rfl ?_; intro rest4 s hS
        refine qs 3 [(0, a0.t), (3, i4 st1), (4, i4 st2), (45, .bool (decide (y7.Name = y8.Name)))] hS ?_; intro s hS
        refine ac_ (sq_n ?_)
        by_cases hc6 : (decide (y7.Name = y8.Name)) = true
        ·have h := ai_ hc6 h
         refine ae_ hS rfl (fun _ => ?_) (fun hf => ag_ hc6 hf)
         refine ab_ (aa_ ?_)
         refine qs 1 [(2, .bool false)] hS ?_; intro s hS
         refine ac_ (sq_n (al_ (bk_r (sq_r ?_))))
         injection h with h; subst h
         exact And.intro rfl (am_ hH (ak_ (v := .bool false) hS rfl r_nil) rfl (by kernel_rfl) (by simp [pureT, pureL, E_bool]))
        ·have h := ah_ hc6 h
         refine ae_ hS rfl (fun hf => af_ hc6 hf) (fun _ => ?_)
         refine aq_ (bk_n (sq_n (aa_ ?_)))
         refine qs 3 [(0, a0.t), (3, i4 st1), (4, i4 (w4 (st2 + 1)))] hS ?_; intro s hS
         refine ac_ ?_
         injection h with h; subst h
         exact And.intro (aj_ hS (by kernel_rfl)) hH
       ·have h := ah_ hc5 h
        refine ae_ hS rfl (fun hf => af_ hc5 hf) (fun _ => ?_)
        refine bl_ (sq_x ?_)
        injection h with h; subst h
        exact And.intro rfl (And.intro (aj_ hS (by kernel_rfl)) hH)
      ·clear hS hH; intro e fr HF; obtain ⟨s, σ⟩ := fr
       rcases y6 with y6 | y6
       ·obtain ⟨rfl, hS, hH⟩ := HF
        refine bk_e (bk_n (sq_n (aa_ ?_)))
        refine qs 3 [(0, a0.t), (3, i4 (w4 (st1 + 1)))] hS ?_; intro s hS
        refine ac_ ?_
        injection h with h; subst h
        exact And.intro (aj_ hS (by kernel_rfl)) hH
       ·obtain ⟨rfl, HE⟩ := HF
        refine bk_r (bk_r (sq_r ?_))
        injection h with h; subst h; exact And.intro rfl HE
   ·have h := ah_ hc2 h
    refine ae_ hS rfl (fun hf => af_ hc2 hf) (fun _ => ?_)
    refine bl_ (sq_x ?_)
    injection h with h; subst h
    exact And.intro rfl (And.intro (aj_ hS (by kernel_rfl)) hH)
  ·clear hS hH; intro e fr HF; obtain ⟨s, σ⟩ := fr
   rcases y1 with y1 | y1
   ·obtain ⟨rfl, hS, hH⟩ := HF
    refine bk_e (sq_n (ab_ (aa_ ?_)))
    refine qs 1 [(2, .bool true)] hS ?_; intro s hS
    refine ac_ (sq_n (al_ ?_))
    injection h with h; subst h
    exact am_ hH (ak_ (v := .bool true) hS rfl r_nil) rfl (by kernel_rfl) (by simp [pureT, pureL, E_bool])
   ·obtain ⟨rfl, HE⟩ := HF
    refine bk_r (sq_r ?_)
    injection h with h; subst h; exact HE
noncomputable def ds_ (a0 : DPattern) : Option DPattern := ((aI_ (S := (Int × (Sl DPattern))) (R := (Sl DPattern)) (fun st1 => (if (decide (st1.1 < (a0.Kids.l.length : Int))) = true then ((elt a0.Kids st1.1).bind fun y2 => ((aW_ y2).bind fun y3 => ((appS 56 st1.2 (⟨false, [y3]⟩ : Sl DPattern)).bind fun y4 => (some (.inl ((w4 (st1.1 + 1)), y4)))))) else (some (.inr st1.2)))) (0, (⟨true, []⟩ : Sl DPattern))).bind fun y1 => (some (⟨a0.Kind, a0.Num, a0.Text, y1⟩ : DPattern)))
theorem gj_ (a0 : DPattern) (r : DPattern) (h : ds_ a0 = some r) : aW_ a0 = some r := by
 unfold ds_ at h
 refine ec_ rfl rfl ok_68 rfl (all_cons (by kernel_rfl) all_nil) ?_
 intro σ0 s hS hH
 have hS := aj_ (L' := [(0, .agg [i4 a0.Kind, i4 a0.Num, .str a0.Text, a0.Kids.t])]) hS (by kernel_rfl)
 refine ab_ (aa_ ?_)
 refine dy_ (v := .agg [i4 a0.Kind, i4 a0.Num, .str a0.Text, a0.Kids.t]) (cs := [i4 a0.Kind, i4 a0.Num, .str a0.Text, a0.Kids.t]) rfl hS hH rfl rfl (by kernel_rfl) ?_; intro b1 σ s hH hS
 refine bo_ (z := [i4 0, i4 0, .str ⟨#[]⟩, (nt DPattern)]) rfl hS hH (by kernel_rfl) ?_; intro b2 σ s hH hS
 refine ac_ (sq_n (ab_ (aa_ ?_)))
 refine qs 1 [(1, .ptr b1 0 0 4), (2, .ptr b2 0 0 4), (5, .ptr b1 0 0 1)] hS ?_; intro s hS
 refine as_ (v := i4 a0.Kind) 1 trivial rfl hS hH rfl rfl (by kernel_rfl) ?_; intro s hS
 refine qs 1 [(1, .ptr b1 0 0 4), (2, .ptr b2 0 0 4), (6, i4 a0.Kind), (7, .ptr b1 0 1 1)] hS ?_; intro s hS
 refine as_ (v := i4 a0.Num) 1 trivial rfl hS hH rfl rfl (by kernel_rfl) ?_; intro s hS
 refine qs 1 [(1, .ptr b1 0 0 4), (2, .ptr b2 0 0 4), (6, i4 a0.Kind), (8, i4 a0.Num), (9, .ptr b1 0 2 1)] hS ?_; intro s hS
 refine as_ (v := .str a0.Text) 1 trivial rfl hS hH rfl rfl (by kernel_rfl) ?_; intro s hS
 refine qs 1 [(1, .ptr b1 0 0 4), (2, .ptr b2 0 0 4), (11, .agg [i4 a0.Kind, i4 a0.Num, .str a0.Text, (nt DPattern)])] hS ?_; intro s hS
 refine bo_ (z := [i4 0, i4 0, .str ⟨#[]⟩, (nt DPattern)]) rfl hS hH (by kernel_rfl) ?_; intro b3 σ s hH hS
 refine aV_ (cs := [i4 a0.Kind, i4 a0.Num, .str a0.Text, (nt DPattern)]) rfl hS hH rfl rfl (by kernel_rfl) ?_; intro σ s hH hS
 refine ac_ (sq_n (ab_ (ab_ (aa_ ?_))))
 refine qs 1 [(1, .ptr b1 0 0 4), (2, .ptr b2 0 0 4), (3, .ptr b3 0 0 4), (4, i4 0)] hS ?_; intro s hS
 refine ac_ (sq_n (ax_ ?_))
 obtain ⟨y1, hy1, h⟩ := bind_some h
 have hH := Heap.addNil hH true 4
 refine bw_ (fun (st1 : (Int × (Sl DPattern))) (fr : Fr) => ∃ t2, bu_ t2 ∧ Sub [(1, .ptr b1 0 0 4), (2, .ptr b2 0 0 4), (3, .ptr b3 0 0 4), (4, i4 st1.1)] fr.s ∧ Heap σ0 fr.σ [.box b3 [i4 a0.Kind, i4 a0.Num, .str a0.Text, t2], .box b2 [i4 0, i4 0, .str ⟨#[]⟩, (nt DPattern)], .box b1 [i4 a0.Kind, i4 a0.Num, .str a0.Text, a0.Kids.t], .own true 4 t2 st1.2.t]) (fun (y1 : (Sl DPattern)) (e : aB_) (fr : Fr) => ∃ t3, bu_ t3 ∧ e = (.exit 0) ∧ Sub [(2, .ptr b2 0 0 4), (3, .ptr b3 0 0 4)] fr.s ∧ Heap σ0 fr.σ [.box b3 [i4 a0.Kind, i4 a0.Num, .str a0.Text, t3], .box b2 [i4 0, i4 0, .str ⟨#[]⟩, (nt DPattern)], .own true 4 t3 y1.t]) hy1 (Exists.intro (T.row true 0 []) (And.intro ⟨rfl, rfl⟩ (And.intro (aj_ hS (by kernel_rfl)) (Heap.sel hH [1, 2, 3, 0] rfl (by kernel_rfl))))) ?_ ?_
 ·clear h hy1 hS hH; clear y1; intro st1 x fr h HI; obtain ⟨s, σ⟩ := fr; obtain ⟨t2, ht2, ⟨hS, hH⟩⟩ := HI
  refine ab_ (ab_ (aa_ ?_))
  refine qs 2 [(1, .ptr b1 0 0 4), (2, .ptr b2 0 0 4), (3, .ptr b3 0 0 4), (4, i4 st1.1), (12, i4 st1.1), (13, .ptr b1 0 3 1)] hS ?_; intro s hS
  refine as_ (v := a0.Kids.t) 2 trivial rfl hS hH rfl rfl (by kernel_rfl) ?_; intro s hS
  refine qs 2 [(1, .ptr b1 0 0 4), (2, .ptr b2 0 0 4), (3, .ptr b3 0 0 4), (4, i4 st1.1), (16, .bool (decide (st1.1 < (a0.Kids.l.length : Int))))] hS ?_; intro s hS
  refine ac_ (sq_n ?_)
  by_cases hc1 : (decide (st1.1 < (a0.Kids.l.length : Int))) = true
  ·have h := ai_ hc1 h
   refine ae_ hS rfl (fun _ => ?_) (fun hf => ag_ hc1 hf)
   refine aq_ (sq_n (ab_ (ax_ ?_)))
   refine ky_ (W2 (fun _ => True) (fun _ => True)) (fun _ => rfl) (by kernel_rfl) (by kernel_rfl) hH ?_; intro mb σs σ hn0 hlt hlto hH
   have hlt_b3 : b3 < mb := hlt b3 _ (List.Mem.head _)
   refine qs 1 [(1, .ptr b1 0 0 4), (2, .ptr b2 0 0 4), (3, .ptr b3 0 0 4), (4, i4 st1.1), (19, .ptr b3 0 3 1)] hS ?_; intro s hS
   refine as_ (v := t2) 0 (Or.inr ⟨hlt_b3, Or.inl (by kernel_rfl)⟩) rfl hS hH rfl rfl (by kernel_rfl) ?_; intro s hS
   refine qs 1 [(1, .ptr b1 0 0 4), (2, .ptr b2 0 0 4), (3, .ptr b3 0 0 4), (4, i4 st1.1), (20, t2), (21, .ptr b1 0 3 1)] hS ?_; intro s hS
   refine as_ (v := a0.Kids.t) 2 (Or.inl (by kernel_rfl)) rfl hS hH rfl rfl (by kernel_rfl) ?_; intro s hS
   refine qs 1 [(1, .ptr b1 0 0 4), (2, .ptr b2 0 0 4), (3, .ptr b3 0 0 4), (4, i4 st1.1), (20, t2), (22, a0.Kids.t), (23, i4 st1.1)] hS ?_; intro s hS
   obtain ⟨y2, hy2, h⟩ := bind_some h
   refine co_ (sl := a0.Kids) (e := 26) [i4 y2.Kind, i4 y2.Num, .str y2.Text, y2.Kids.t] rfl hS rfl rfl (by kernel_rfl) (by kernel_rfl) hy2 (DPattern.cells_eq _) ?_; intro rest1 s hS
   refine qs 1 [(1, .ptr b1 0 0 4), (2, .ptr b2 0 0 4), (3, .ptr b3 0 0 4), (4, i4 st1.1), (20, t2), (25, .agg [i4 y2.Kind, i4 y2.Num, .str y2.Text, y2.Kids.t])] hS ?_; intro s hS
   obtain ⟨y3, hy3, h⟩ := bind_some h
   refine bL_ (ents := []) (z := false) (ts := [.agg [i4 y2.Kind, i4 y2.Num, .str y2.Text, y2.Kids.t]]) (vs := [.agg [i4 y2.Kind, i4 y2.Num, .str y2.Text, y2.Kids.t]]) rfl rfl hS rfl rfl rfl hH (HL.agg (es1 := []) (es2 := []) (HLi (HLi (HLs (HLp HL.nil)))) HL.nil) hy3 ?_; intro hs σ s hl hH hS
   obtain ⟨t4, rfl⟩ := len1 hl
   have hH : Heap σ0 σ [.own true 4 t4 y3.Kids.t, .box b3 [i4 a0.Kind, i4 a0.Num, .str a0.Text, t2], .box b2 [i4 0, i4 0, .str ⟨#[]⟩, (nt DPattern)], .box b1 [i4 a0.Kind, i4 a0.Num, .str a0.Text, a0.Kids.t], .own true 4 t2 st1.2.t] := hH
   have ht4 : bu_ t4 := Heap.one hH
   refine mH_ rfl (by exact hn0) (ents := [.own true 4 t4 y3.Kids.t]) (e := 26) (sz := 4) (z := true) (vs := [.agg [i4 y3.Kind, i4 y3.Num, .str y3.Text, t4]]) (zc := [i4 0, i4 0, .str ⟨#[]⟩, (nt DPattern)]) (cs := [i4 y3.Kind, i4 y3.Num, .str y3.Text, t4]) (us := [i4 y3.Kind, i4 y3.Num, .str y3.Text, y3.Kids.t]) (v := Sl.t (⟨false, [y3]⟩ : Sl DPattern)) rfl hS hH (by kernel_rfl) (by kernel_rfl) (by kernel_rfl) (by kernel_rfl) (by kernel_rfl) (And.intro (by kernel_rfl) (And.intro (by simp [ht4.1, ht4.2]) trivial)) (by kernel_rfl) (HLi (HLi (HLs (HL.own rfl HL.nil)))) (by simp only [Sl.t, an_, DPattern.enc_eq, List.length_cons, List.length_nil, List.cons_append, List.nil_append]) ?_; intro t5 σ s ht5 hH hS
   have hH : Heap σ0 σ [.own true 4 t2 st1.2.t, .own true 4 t5 (Sl.t (⟨false, [y3]⟩ : Sl DPattern)), .box b3 [i4 a0.Kind, i4 a0.Num, .str a0.Text, t2], .box b2 [i4 0, i4 0, .str ⟨#[]⟩, (nt DPattern)], .box b1 [i4 a0.Kind, i4 a0.Num, .str a0.Text, a0.Kids.t]] := hH.sel [4, 0, 1, 2, 3] rfl (by kernel_rfl)
   obtain ⟨y4, hy4, h⟩ := bind_some h
   refine lj_ rfl (by exact hn0) (z := true) (t1 := t2) (a := st1.2) (b := (⟨false, [y3]⟩ : Sl DPattern)) (e := 26) (by_ := 56) (zc := [i4 0, i4 0, .str ⟨#[]⟩, (nt DPattern)]) (by exact fun _ _ _ _ _ => Or.inr ⟨true, by kernel_rfl, trivial⟩) rfl hS hH rfl rfl (by kernel_rfl) (by kernel_rfl) (by kernel_rfl) (by kernel_rfl) (by kernel_rfl) (by kernel_rfl) hy4 ?_; intro t6 σ s ht6 hH hS
   refine qs 1 [(1, .ptr b1 0 0 4), (2, .ptr b2 0 0 4), (3, .ptr b3 0 0 4), (4, i4 st1.1), (28, t6), (29, .ptr b3 0 3 1)] hS ?_; intro s hS
   have hH : Heap σ0 σ [.box b3 [i4 a0.Kind, i4 a0.Num, .str a0.Text, t2], .own true 4 t6 y4.t, .box b2 [i4 0, i4 0, .str ⟨#[]⟩, (nt DPattern)], .box b1 [i4 a0.Kind, i4 a0.Num, .str a0.Text, a0.Kids.t]] := hH.sel [1, 0, 2, 3] rfl (by kernel_rfl)
   refine hi_ rfl (v := t6) (cs := [t6]) (cells' := [i4 a0.Kind, i4 a0.Num, .str a0.Text, t6]) (by exact Or.inr ⟨false, by kernel_rfl, trivial⟩) rfl hS hH rfl rfl (by simp [ht6.1, ht6.2]) (by simp [ht6.1, ht6.2]) (by kernel_rfl) ?_; intro σ s hH hS
   refine ac_ (bk_n (sq_n (aa_ ?_)))
   refine qs 3 [(1, .ptr b1 0 0 4), (2, .ptr b2 0 0 4), (3, .ptr b3 0 0 4), (4, i4 (w4 (st1.1 + 1)))] hS ?_; intro s hS
   refine ac_ ?_
   injection h with h; subst h
   exact Exists.intro t6 (And.intro ht6 (And.intro (aj_ hS (by kernel_rfl)) (Heap.sel hH [0, 2, 3, 1] rfl (by kernel_rfl))))
  ·have h := ah_ hc1 h
   refine ae_ hS rfl (fun hf => af_ hc1 hf) (fun _ => ?_)
   refine bl_ (sq_x ?_)
   injection h with h; subst h
   exact Exists.intro t2 (And.intro ht2 (And.intro rfl (And.intro (aj_ hS (by kernel_rfl)) (Heap.sel hH [0, 1, 3] rfl (by kernel_rfl)))))
 ·clear hS hH; intro e fr HF; obtain ⟨s, σ⟩ := fr
  obtain ⟨t3, ht3, ⟨rfl, hS, hH⟩⟩ := HF
  refine bk_e (sq_n (ab_ (aa_ ?_)))
  refine as_ (v := .agg [i4 a0.Kind, i4 a0.Num, .str a0.Text, t3]) 0 trivial rfl hS hH rfl rfl (by kernel_rfl) ?_; intro s hS
  have hH : Heap σ0 σ [.box b2 [i4 0, i4 0, .str ⟨#[]⟩, (nt DPattern)], .box b3 [i4 a0.Kind, i4 a0.Num, .str a0.Text, t3], .own true 4 t3 y1.t] := hH.sel [1, 0, 2] rfl (by kernel_rfl)
  refine aV_ (cs := [i4 a0.Kind, i4 a0.Num, .str a0.Text, t3]) rfl hS hH rfl rfl (by simp [ht3.1, ht3.2]) ?_; intro σ s hH hS
  refine ac_ (sq_n (al_ ?_))
  injection h with h; subst h
  have hH : Heap σ0 σ [.own true 4 t3 y1.t, .box b2 [i4 a0.Kind, i4 a0.Num, .str a0.Text, t3], .box b3 [i4 a0.Kind, i4 a0.Num, .str a0.Text, t3]] := hH.sel [2, 0, 1] rfl (by kernel_rfl)
  exact dV_ [t3] [.box b2 [i4 a0.Kind, i4 a0.Num, .str a0.Text, t3], .box b3 [i4 a0.Kind, i4 a0.Num, .str a0.Text, t3]] (dW_ (v := .agg [i4 a0.Kind, i4 a0.Num, .str a0.Text, t3]) hS (hH.at 1 rfl) rfl (by kernel_rfl) r_nil) (by kernel_rfl) rfl hH (by kernel_rfl)
noncomputable def du_ (a0 : ad_) : Option ad_ := ((bi_ a0.Pattern).bind fun y1 => (some (⟨a0.Name, y1⟩ : ad_)))
theorem gk_ (a0 : ad_) (r : ad_) (h : du_ a0 = some r) : dt_ a0 = some r := by
 unfold du_ at h
 refine ec_ rfl rfl ok_69 rfl (all_cons (by kernel_rfl) all_nil) ?_
 intro σ0 s hS hH
 have hS := aj_ (L' := [(0, .agg (ad_.cells a0))]) hS (by kernel_rfl)
 refine ab_ (aa_ ?_)
 refine dy_ (v := .agg (ad_.cells a0)) (cs := [.str a0.Name, i4 a0.Pattern.Kind, i4 a0.Pattern.Num, .str a0.Pattern.Text, a0.Pattern.Kids.t]) rfl hS hH rfl rfl (by kernel_rfl) ?_; intro b1 σ s hH hS
 refine bo_ (z := [.str ⟨#[]⟩, i4 0, i4 0, .str ⟨#[]⟩, (nt DPattern)]) rfl hS hH (by kernel_rfl) ?_; intro b2 σ s hH hS
 refine ac_ (sq_n (ab_ (aa_ ?_)))
 refine bo_ (z := [.str ⟨#[]⟩, i4 0, i4 0, .str ⟨#[]⟩, (nt DPattern)]) rfl hS hH (by kernel_rfl) ?_; intro b3 σ s hH hS
 refine ac_ (sq_n (ab_ (aa_ ?_)))
 refine qs 1 [(1, .ptr b1 0 0 5), (2, .ptr b2 0 0 5), (3, .ptr b3 0 0 5), (4, .ptr b1 0 0 1)] hS ?_; intro s hS
 refine as_ (v := .str a0.Name) 2 trivial rfl hS hH rfl rfl (by kernel_rfl) ?_; intro s hS
 refine qs 1 [(1, .ptr b1 0 0 5), (2, .ptr b2 0 0 5), (3, .ptr b3 0 0 5), (5, .str a0.Name), (6, .ptr b3 0 0 1)] hS ?_; intro s hS
 refine df_ (v := .str a0.Name) (cs := [.str a0.Name]) (cells' := [.str a0.Name, i4 0, i4 0, .str ⟨#[]⟩, (nt DPattern)]) rfl hS hH rfl rfl rfl (by kernel_rfl) (by kernel_rfl) ?_; intro σ s hH hS
 refine ac_ (sq_n (ab_ (aa_ ?_)))
 refine qs 1 [(2, .ptr b2 0 0 5), (3, .ptr b3 0 0 5), (7, .ptr b1 0 1 4)] hS ?_; intro s hS
 refine as_ (v := .agg [i4 a0.Pattern.Kind, i4 a0.Pattern.Num, .str a0.Pattern.Text, a0.Pattern.Kids.t]) 2 trivial rfl hS hH rfl rfl (by kernel_rfl) ?_; intro s hS
 obtain ⟨y1, hy1, h⟩ := bind_some h
 refine bL_ (ents := []) (z := false) (ts := [.agg [i4 a0.Pattern.Kind, i4 a0.Pattern.Num, .str a0.Pattern.Text, a0.Pattern.Kids.t]]) (vs := [.agg [i4 a0.Pattern.Kind, i4 a0.Pattern.Num, .str a0.Pattern.Text, a0.Pattern.Kids.t]]) rfl rfl hS rfl rfl rfl hH (HL.agg (es1 := []) (es2 := []) (HLi (HLi (HLs (HLp HL.nil)))) HL.nil) hy1 ?_; intro hs σ s hl hH hS
 obtain ⟨t1, rfl⟩ := len1 hl
 have hH : Heap σ0 σ [.own true 4 t1 y1.Kids.t, .box b3 [.str a0.Name, i4 0, i4 0, .str ⟨#[]⟩, (nt DPattern)], .box b2 [.str ⟨#[]⟩, i4 0, i4 0, .str ⟨#[]⟩, (nt DPattern)], .box b1 (ad_.cells a0)] := hH
 have ht1 : bu_ t1 := Heap.one hH
 refine qs 1 [(2, .ptr b2 0 0 5), (3, .ptr b3 0 0 5), (9, .agg [i4 y1.Kind, i4 y1.Num, .str y1.Text, t1]), (10, .ptr b3 0 1 4)] hS ?_; intro s hS
 have hH : Heap σ0 σ [.box b3 [.str a0.Name, i4 0, i4 0, .str ⟨#[]⟩, (nt DPattern)], .own true 4 t1 y1.Kids.t, .box b2 [.str ⟨#[]⟩, i4 0, i4 0, .str ⟨#[]⟩, (nt DPattern)], .box b1 (ad_.cells a0)] := hH.sel [1, 0, 2, 3] rfl (by kernel_rfl)
 refine df_ (v := .agg [i4 y1.Kind, i4 y1.Num, .str y1.Text, t1]) (cs := [i4 y1.Kind, i4 y1.Num, .str y1.Text, t1]) (cells' := [.str a0.Name, i4 y1.Kind, i4 y1.Num, .str y1.Text, t1]) rfl hS hH rfl rfl rfl (by simp [ht1.1, ht1.2]) (by kernel_rfl) ?_; intro σ s hH hS
 refine ac_ (sq_n (ab_ (aa_ ?_)))
 refine as_ (v := .agg [.str a0.Name, i4 y1.Kind, i4 y1.Num, .str y1.Text, t1]) 0 trivial rfl hS hH rfl rfl (by kernel_rfl) ?_; intro s hS
 have hH : Heap σ0 σ [.box b2 [.str ⟨#[]⟩, i4 0, i4 0, .str ⟨#[]⟩, (nt DPattern)], .box b3 [.str a0.Name, i4 y1.Kind, i4 y1.Num, .str y1.Text, t1], .own true 4 t1 y1.Kids.t, .box b1 (ad_.cells a0)] := hH.sel [2, 0, 1, 3] rfl (by kernel_rfl)
 refine aV_ (cs := [.str a0.Name, i4 y1.Kind, i4 y1.Num, .str y1.Text, t1]) rfl hS hH rfl rfl (by simp [ht1.1, ht1.2]) ?_; intro σ s hH hS
 refine ac_ (sq_n (al_ ?_))
 injection h with h; subst h
 have hH : Heap σ0 σ [.own true 4 t1 y1.Kids.t, .box b2 [.str a0.Name, i4 y1.Kind, i4 y1.Num, .str y1.Text, t1], .box b3 [.str a0.Name, i4 y1.Kind, i4 y1.Num, .str y1.Text, t1], .box b1 (ad_.cells a0)] := hH.sel [2, 0, 1, 3] rfl (by kernel_rfl)
 exact dV_ [t1] [.box b2 [.str a0.Name, i4 y1.Kind, i4 y1.Num, .str y1.Text, t1], .box b3 [.str a0.Name, i4 y1.Kind, i4 y1.Num, .str y1.Text, t1], .box b1 (ad_.cells a0)] (dW_ (v := .agg [.str a0.Name, i4 y1.Kind, i4 y1.Num, .str y1.Text, t1]) hS (hH.at 1 rfl) rfl (by kernel_rfl) r_nil) (by kernel_rfl) rfl hH (by kernel_rfl)
end Go.Am
