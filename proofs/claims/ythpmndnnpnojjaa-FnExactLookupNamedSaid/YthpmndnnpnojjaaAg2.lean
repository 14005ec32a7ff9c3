/- Functions of the program. -/
import Derived.Test.YthpmndnnpnojjaaAd0
set_option maxRecDepth 100000
set_option maxHeartbeats 4000000
set_option linter.unusedVariables false
set_option linter.unusedSimpArgs false
namespace Go.Am
open Go.Proofs
noncomputable def cI_ (a0 : (Sl ad_)) (a1 : ByteArray) : Option (DPattern × Bool) := ((((aI_ (S := Int) (R := (Unit ⊕ Int)) (fun st1 => (if (decide (st1 < (a0.l.length : Int))) = true then ((elt a0 st1).bind fun y3 => (if (decide (y3.Name = a1)) = true then (some (.inr (.inr st1))) else (some (.inl (w4 (st1 + 1)))))) else (some (.inr (.inl ()))))) 0).bind fun y2 => (Sum.elim (fun y2 => (some (-1))) (fun y2 => (some y2)) y2)) : Option Int).bind fun y1 => (if (decide (y1 < 0)) = true then (some ((⟨0, 0, ⟨#[]⟩, ⟨true, []⟩⟩ : DPattern), false)) else ((elt a0 y1).bind fun y4 => (some (y4.Pattern, true)))))
theorem eG_ (a0 : (Sl ad_)) (a1 : ByteArray) (r : (DPattern × Bool)) (h : cI_ a0 a1 = some r) : b1_ a0 a1 = some r := by
 unfold cI_ at h
 refine aF_ E_t2_DPattern_bool_inj rfl rfl ok_70 rfl (all_cons (by kernel_rfl) (all_cons (by kernel_rfl) all_nil)) ?_
 intro σ0 s hS hH
 have hS := aj_ (L' := [(0, a0.t), (1, .str a1)]) hS (by kernel_rfl)
 refine ab_ (aa_ ?_)
 refine dy_ (v := .str a1) (cs := [.str a1]) rfl hS hH rfl rfl (by kernel_rfl) ?_; intro b1 σ s hH hS
 refine bo_ (z := [i4 0, i4 0, .str ⟨#[]⟩, (nt DPattern)]) rfl hS hH (by kernel_rfl) ?_; intro b2 σ s hH hS
 refine qs 1 [(0, a0.t), (3, .ptr b1 0 0 1), (4, .ptr b2 0 0 4)] hS ?_; intro s hS
 refine ac_ (sq_n (ab_ (aa_ ?_)))
 refine qs 2 [(0, a0.t), (4, .ptr b2 0 0 4), (7, a0.t), (8, T.fn 111 [] [.ptr b1 0 0 1])] hS ?_; intro s hS
 obtain ⟨y1, hy1, h⟩ := bind_some h
 refine mE_ (HF := fun s σ => Sub [(0, a0.t), (4, .ptr b2 0 0 4), (9, i4 y1)] s ∧ Heap σ0 σ [.box b2 [i4 0, i4 0, .str ⟨#[]⟩, (nt DPattern)]]) [a0.t, T.fn 111 [] [.ptr b1 0 0 1]] rfl hS rfl rfl rfl rfl rfl ok_110 rfl ?_ ?_
 ·clear h; have h := hy1; intro s hS
  have hS := aj_ (L' := [(0, a0.t), (1, T.fn 111 [] [.ptr b1 0 0 1])]) hS (by kernel_rfl)
  refine ab_ (aa_ ?_)
  refine qs 1 [(0, a0.t), (1, T.fn 111 [] [.ptr b1 0 0 1])] hS ?_; intro s hS
  refine ac_ (sq_n (ab_ (ab_ (aa_ ?_))))
  refine qs 3 [(0, a0.t), (1, T.fn 111 [] [.ptr b1 0 0 1]), (7, i4 (a0.l.length : Int)), (8, i4 0)] hS ?_; intro s hS
  refine ac_ (sq_n (ax_ ?_))
  obtain ⟨y2, hy2, h⟩ := bind_some h
  refine bw_ (fun (st1 : Int) (fr : Fr) => Sub [(0, a0.t), (1, T.fn 111 [] [.ptr b1 0 0 1]), (7, i4 (a0.l.length : Int)), (8, i4 st1)] fr.s ∧ Heap σ0 fr.σ [.box b2 [i4 0, i4 0, .str ⟨#[]⟩, (nt DPattern)], .box b1 [.str a1]]) (fun (y2 : (Unit ⊕ Int)) (e : aB_) (fr : Fr) => (Sum.elim (fun y => e = (.exit 0) ∧ Sub [] fr.s ∧ Heap σ0 fr.σ [.box b2 [i4 0, i4 0, .str ⟨#[]⟩, (nt DPattern)]]) (fun y => e = .ret ∧ Sub [(4, i4 y)] fr.s ∧ Heap σ0 fr.σ [.box b2 [i4 0, i4 0, .str ⟨#[]⟩, (nt DPattern)]])) y2) hy2 (And.intro (aj_ hS (by kernel_rfl)) hH) ?_ ?_
  ·clear h hy2 hS hH; clear y2; intro st1 x fr h HI; obtain ⟨s, σ⟩ := fr; obtain ⟨hS, hH⟩ := HI
   refine ab_ (aa_ ?_)
   refine qs 1 [(0, a0.t), (1, T.fn 111 [] [.ptr b1 0 0 1]), (7, i4 (a0.l.length : Int)), (8, i4 st1), (9, .bool (decide (st1 < (a0.l.length : Int))))] hS ?_; intro s hS
   refine ac_ (sq_n (ab_ ?_))
   by_cases hc1 : (decide (st1 < (a0.l.length : Int))) = true
   ·have h := ai_ hc1 h
    refine ae_ hS rfl (fun _ => ?_) (fun hf => ag_ hc1 hf)
    refine aq_ (sq_n (ab_ (ax_ (ab_ (aa_ ?_)))))
    refine qs 2 [(0, a0.t), (1, T.fn 111 [] [.ptr b1 0 0 1]), (5, i4 st1), (7, i4 (a0.l.length : Int)), (8, i4 st1)] hS ?_; intro s hS
    refine ac_ (sq_n (ab_ (aa_ ?_)))
    refine qs 3 [(0, a0.t), (1, T.fn 111 [] [.ptr b1 0 0 1]), (5, i4 st1), (7, i4 (a0.l.length : Int)), (8, i4 st1), (11, T.fn 111 [] [.ptr b1 0 0 1]), (12, a0.t), (13, i4 st1)] hS ?_; intro s hS
    obtain ⟨y3, hy3, h⟩ := bind_some h
    refine co_ (sl := a0) (e := 82) [.str y3.Name, i4 y3.Pattern.Kind, i4 y3.Pattern.Num, .str y3.Pattern.Text, y3.Pattern.Kids.t] rfl hS rfl rfl (by kernel_rfl) (by kernel_rfl) hy3 rfl ?_; intro rest1 s hS
    refine qs 1 [(0, a0.t), (1, T.fn 111 [] [.ptr b1 0 0 1]), (5, i4 st1), (7, i4 (a0.l.length : Int)), (8, i4 st1), (11, T.fn 111 [] [.ptr b1 0 0 1]), (15, .agg (ad_.cells y3))] hS ?_; intro s hS
    refine mO_ [.agg (ad_.cells y3), .ptr b1 0 0 1] rfl hS rfl rfl rfl rfl rfl ok_111 rfl ?_; intro s hS
    have hS := aj_ (L' := [(0, .agg (ad_.cells y3)), (1, .ptr b1 0 0 1)]) hS (by kernel_rfl)
    refine ab_ (aa_ ?_)
    refine dy_ (v := .agg (ad_.cells y3)) (cs := [.str y3.Name, i4 y3.Pattern.Kind, i4 y3.Pattern.Num, .str y3.Pattern.Text, y3.Pattern.Kids.t]) rfl hS hH rfl rfl (by kernel_rfl) ?_; intro b3 σ s hH hS
    refine qs 1 [(1, .ptr b1 0 0 1), (2, .ptr b3 0 0 5)] hS ?_; intro s hS
    refine ac_ (sq_n (ab_ (aa_ ?_)))
    refine qs 1 [(1, .ptr b1 0 0 1), (4, .ptr b3 0 0 1)] hS ?_; intro s hS
    refine as_ (v := .str y3.Name) 0 trivial rfl hS hH rfl rfl (by kernel_rfl) ?_; intro s hS
    refine as_ (v := .str a1) 2 trivial rfl hS hH rfl rfl (by kernel_rfl) ?_; intro s hS
    refine qs 2 [(3, .bool (decide (y3.Name = a1)))] hS ?_; intro s hS
    refine ac_ (sq_n (al_ ?_))
    refine lY_ (v := .bool (decide (y3.Name = a1))) (ak_ (v := .bool (decide (y3.Name = a1))) hS rfl r_nil) rfl ?_; intro s hS
    refine ac_ (sq_n ?_)
    by_cases hc2 : (decide (y3.Name = a1)) = true
    ·have h := ai_ hc2 h
     refine ae_ hS rfl (fun _ => ?_) (fun hf => ag_ hc2 hf)
     refine ab_ (aa_ ?_)
     refine qs 2 [(4, i4 st1)] hS ?_; intro s hS
     refine ac_ (sq_n (al_ (bk_r (sq_r ?_))))
     injection h with h; subst h
     exact And.intro rfl (And.intro (aj_ hS (by kernel_rfl)) (Heap.sel hH [1] rfl (by kernel_rfl)))
    ·have h := ah_ hc2 h
     refine ae_ hS rfl (fun hf => af_ hc2 hf) (fun _ => ?_)
     refine aq_ (bk_n (sq_n (aa_ ?_)))
     refine qs 2 [(0, a0.t), (1, T.fn 111 [] [.ptr b1 0 0 1]), (7, i4 (a0.l.length : Int)), (8, i4 (w4 (st1 + 1)))] hS ?_; intro s hS
     refine ac_ ?_
     injection h with h; subst h
     exact And.intro (aj_ hS (by kernel_rfl)) (Heap.sel hH [1, 2] rfl (by kernel_rfl))
   ·have h := ah_ hc1 h
    refine ae_ hS rfl (fun hf => af_ hc1 hf) (fun _ => ?_)
    refine bl_ (sq_x ?_)
    injection h with h; subst h
    exact And.intro rfl (And.intro (aj_ hS (by kernel_rfl)) (Heap.sel hH [0] rfl (by kernel_rfl)))
  ·clear hS hH; intro e fr HF; obtain ⟨s, σ⟩ := fr
   rcases y2 with y2 | y2
   ·obtain ⟨rfl, hS, hH⟩ := HF
    refine bk_e (sq_n (ab_ (aa_ ?_)))
    refine qs 1 [(4, i4 (-1))] hS ?_; intro s hS
    refine ac_ (sq_n (al_ ?_))
    refine lY_ (v := i4 (-1)) (ak_ (v := i4 (-1)) hS rfl r_nil) rfl ?_; intro s hS
    injection h with h; subst h
    exact And.intro (aj_ hS (by kernel_rfl)) hH
   ·obtain ⟨rfl, hS, hH⟩ := HF
    refine bk_r (sq_r ?_)
    refine lY_ (v := i4 y2) (ak_ (v := i4 y2) hS rfl r_nil) rfl ?_; intro s hS
    injection h with h; subst h
    exact And.intro (aj_ hS (by kernel_rfl)) hH
 ·intro s σ HF; obtain ⟨hS, hH⟩ := HF
  refine qs 1 [(0, a0.t), (4, .ptr b2 0 0 4), (6, i4 y1)] hS ?_; intro s hS
  refine ac_ (sq_n (ab_ (ab_ (aa_ ?_))))
  refine qs 2 [(0, a0.t), (4, .ptr b2 0 0 4), (6, i4 y1), (11, .bool (decide (y1 < 0)))] hS ?_; intro s hS
  refine ac_ (sq_n ?_)
  by_cases hc3 : (decide (y1 < 0)) = true
  ·have h := ai_ hc3 h
   refine ae_ hS rfl (fun _ => ?_) (fun hf => ag_ hc3 hf)
   refine ab_ (aa_ ?_)
   refine qs 1 [(4, .ptr b2 0 0 4), (12, .agg [i4 0, i4 0, .str ⟨#[]⟩, (nt DPattern)])] hS ?_; intro s hS
   refine aV_ (cs := [i4 0, i4 0, .str ⟨#[]⟩, (nt DPattern)]) rfl hS hH rfl rfl (by kernel_rfl) ?_; intro σ s hH hS
   refine qs 1 [(4, .ptr b2 0 0 4), (5, .bool false)] hS ?_; intro s hS
   refine ac_ (sq_n (al_ (sq_r ?_)))
   injection h with h; subst h
   exact am_ hH (dW_ (v := .agg [i4 0, i4 0, .str ⟨#[]⟩, (nt DPattern)]) hS hH rfl (by kernel_rfl) (ak_ (v := .bool false) hS rfl r_nil)) rfl (by kernel_rfl) (by simp [pureT, pureL, E_t2_DPattern_bool])
  ·have h := ah_ hc3 h
   refine ae_ hS rfl (fun hf => af_ hc3 hf) (fun _ => ?_)
   refine aq_ (sq_n (ab_ (aa_ ?_)))
   refine qs 2 [(4, .ptr b2 0 0 4), (13, a0.t), (14, i4 y1)] hS ?_; intro s hS
   obtain ⟨y4, hy4, h⟩ := bind_some h
   refine co_ (sl := a0) (e := 82) [.str y4.Name, i4 y4.Pattern.Kind, i4 y4.Pattern.Num, .str y4.Pattern.Text, y4.Pattern.Kids.t] rfl hS rfl rfl (by kernel_rfl) (by kernel_rfl) hy4 rfl ?_; intro rest2 s hS
   refine qs 2 [(4, .ptr b2 0 0 4), (17, .agg [i4 y4.Pattern.Kind, i4 y4.Pattern.Num, .str y4.Pattern.Text, y4.Pattern.Kids.t])] hS ?_; intro s hS
   refine aV_ (cs := [i4 y4.Pattern.Kind, i4 y4.Pattern.Num, .str y4.Pattern.Text, y4.Pattern.Kids.t]) rfl hS hH rfl rfl (by kernel_rfl) ?_; intro σ s hH hS
   refine qs 1 [(4, .ptr b2 0 0 4), (5, .bool true)] hS ?_; intro s hS
   refine ac_ (sq_n (al_ ?_))
   injection h with h; subst h
   exact am_ hH (dW_ (v := .agg [i4 y4.Pattern.Kind, i4 y4.Pattern.Num, .str y4.Pattern.Text, y4.Pattern.Kids.t]) hS hH rfl (by kernel_rfl) (ak_ (v := .bool true) hS rfl r_nil)) rfl (by kernel_rfl) (by simp [pureT, pureL, E_t2_DPattern_bool])
noncomputable def cY_ (a0 : (Sl ad_)) : Option Bool := (if (decide (40 < (a0.l.length : Int))) = true then (some false) else ((bP_ a0 (T.fn 113 [] [])).bind fun y1 => (if (!y1) = true then (some false) else ((aI_ (S := Int) (R := (Unit ⊕ Bool)) (fun st1 => (if (decide (st1 < (a0.l.length : Int))) = true then ((elt a0 st1).bind fun y3 => ((subS a0 0 st1).bind fun y4 => ((b1_ y4 y3.Name).bind fun y5 => (if y5.2 = true then (some (.inr (.inr false))) else (some (.inl (w4 (st1 + 1)))))))) else (some (.inr (.inl ()))))) 0).bind fun y2 => (Sum.elim (fun y2 => (some true)) (fun y2 => (some y2)) y2)))))
theorem gb_ (a0 : (Sl ad_)) (r : Bool) (h : cY_ a0 = some r) : cP_ a0 = some r := by
 unfold cY_ at h
 refine aF_ E_bool_inj rfl rfl ok_71 rfl (all_cons (by kernel_rfl) all_nil) ?_
 intro σ0 s hS hH
 have hS := aj_ (L' := [(0, a0.t)]) hS (by kernel_rfl)
 refine ab_ (aa_ ?_)
 refine qs 1 [(0, a0.t)] hS ?_; intro s hS
 refine ac_ (sq_n (ab_ (ab_ (aa_ ?_))))
 refine qs 4 [(10, .bool (decide (40 < (a0.l.length : Int)))), (0, a0.t)] hS ?_; intro s hS
 by_cases hc1 : (decide (40 < (a0.l.length : Int))) = true
 ·have h := ai_ hc1 h
  have hS := ao_ hS hc1
  refine qs 4 [(0, a0.t), (14, .bool true)] hS ?_; intro s hS
  refine ac_ (sq_n ?_)
  refine ae_ (t := true) hS rfl (fun _ => ?_) (fun hf => by cases hf)
  refine ab_ (aa_ ?_)
  refine qs 1 [(2, .bool false)] hS ?_; intro s hS
  refine ac_ (sq_n (al_ (sq_r ?_)))
  injection h with h; subst h
  exact am_ hH (ak_ (v := .bool false) hS rfl r_nil) rfl (by kernel_rfl) (by simp [pureT, pureL, E_bool])
 ·have h := ah_ hc1 h
  have hS := ao_ hS (aY_ hc1)
  refine qs 1 [(0, a0.t), (10, .bool false), (11, a0.t)] hS ?_; intro s hS
  obtain ⟨y1, hy1, h⟩ := bind_some h
  refine aw_ (a := []) (b := []) (xs := [a0.t, T.fn 113 [] []]) rfl hS rfl rfl hy1 ?_; intro s hS
  refine qs 2 [(0, a0.t), (14, .bool (!y1))] hS ?_; intro s hS
  refine ac_ (sq_n ?_)
  by_cases hc2 : (!y1) = true
  ·have h := ai_ hc2 h
   refine ae_ hS rfl (fun _ => ?_) (fun hf => ag_ hc2 hf)
   refine ab_ (aa_ ?_)
   refine qs 1 [(2, .bool false)] hS ?_; intro s hS
   refine ac_ (sq_n (al_ (sq_r ?_)))
   injection h with h; subst h
   exact am_ hH (ak_ (v := .bool false) hS rfl r_nil) rfl (by kernel_rfl) (by simp [pureT, pureL, E_bool])
  ·have h := ah_ hc2 h
   refine ae_ hS rfl (fun hf => af_ hc2 hf) (fun _ => ?_)
   refine aq_ (sq_n (ab_ (ab_ (aa_ ?_))))
   refine qs 3 [(0, a0.t), (15, a0.t), (16, i4 (a0.l.length : Int)), (17, i4 0)] hS ?_; intro s hS
   refine ac_ (sq_n (ax_ ?_))
   obtain ⟨y2, hy2, h⟩ := bind_some h
   refine bw_ (fun (st1 : Int) (fr : Fr) => Sub [(0, a0.t), (15, a0.t), (16, i4 (a0.l.length : Int)), (17, i4 st1)] fr.s ∧ Heap σ0 fr.σ []) (fun (y2 : (Unit ⊕ Bool)) (e : aB_) (fr : Fr) => (Sum.elim (fun y => e = (.exit 0) ∧ Sub [] fr.s ∧ Heap σ0 fr.σ []) (fun y => e = .ret ∧ endW Try.prog (Try.f71.results.toList) σ0 (E_bool y) .ret fr)) y2) hy2 (And.intro (aj_ hS (by kernel_rfl)) hH) ?_ ?_
   ·clear h hy2 hS hH; clear y2; intro st1 x fr h HI; obtain ⟨s, σ⟩ := fr; obtain ⟨hS, hH⟩ := HI
    refine ab_ (aa_ ?_)
    refine qs 1 [(0, a0.t), (15, a0.t), (16, i4 (a0.l.length : Int)), (17, i4 st1), (18, .bool (decide (st1 < (a0.l.length : Int))))] hS ?_; intro s hS
    refine ac_ (sq_n (ab_ ?_))
    by_cases hc3 : (decide (st1 < (a0.l.length : Int))) = true
    ·have h := ai_ hc3 h
     refine ae_ hS rfl (fun _ => ?_) (fun hf => ag_ hc3 hf)
     refine aq_ (sq_n (ab_ (ax_ (ab_ (aa_ ?_)))))
     refine qs 1 [(0, a0.t), (15, a0.t), (16, i4 (a0.l.length : Int)), (17, i4 st1), (19, i4 st1)] hS ?_; intro s hS
     obtain ⟨y3, hy3, h⟩ := bind_some h
     refine co_ (sl := a0) (e := 82) [.str y3.Name, i4 y3.Pattern.Kind, i4 y3.Pattern.Num, .str y3.Pattern.Text, y3.Pattern.Kids.t] rfl hS rfl rfl (by kernel_rfl) (by kernel_rfl) hy3 rfl ?_; intro rest1 s hS
     refine qs 1 [(0, a0.t), (15, a0.t), (16, i4 (a0.l.length : Int)), (17, i4 st1), (19, i4 st1), (21, .agg (ad_.cells y3))] hS ?_; intro s hS
     refine bo_ (z := [.str ⟨#[]⟩, i4 0, i4 0, .str ⟨#[]⟩, (nt DPattern)]) rfl hS hH (by kernel_rfl) ?_; intro b1 σ s hH hS
     refine qs 1 [(0, a0.t), (3, i4 st1), (4, .ptr b1 0 0 5), (15, a0.t), (16, i4 (a0.l.length : Int)), (17, i4 st1), (21, .agg (ad_.cells y3))] hS ?_; intro s hS
     refine df_ (v := .agg (ad_.cells y3)) (cs := [.str y3.Name, i4 y3.Pattern.Kind, i4 y3.Pattern.Num, .str y3.Pattern.Text, y3.Pattern.Kids.t]) (cells' := [.str y3.Name, i4 y3.Pattern.Kind, i4 y3.Pattern.Num, .str y3.Pattern.Text, y3.Pattern.Kids.t]) rfl hS hH rfl rfl rfl (by kernel_rfl) (by kernel_rfl) ?_; intro σ s hH hS
     refine ac_ (sq_n (ab_ ?_))
     refine ky_ (W2 (fun _ => False) (fun _ => False)) (fun _ => rfl) (by kernel_rfl) (by kernel_rfl) hH ?_; intro mb σs σ hn0 hlt hlto hH
     refine qs 2 [(0, a0.t), (4, .ptr b1 0 0 5), (15, a0.t), (16, i4 (a0.l.length : Int)), (17, i4 st1), (23, a0.t), (24, i4 st1)] hS ?_; intro s hS
     obtain ⟨y4, hy4, h⟩ := bind_some h
     refine mD_ (w := a0) (e := 82) (vlo := none) (vhi := (some (i4 st1))) (a := 0) (b := st1) rfl hS rfl rfl rfl rfl rfl (by kernel_rfl) (by kernel_rfl) hy4 ?_; intro s hS
     refine qs 1 [(0, a0.t), (15, a0.t), (16, i4 (a0.l.length : Int)), (17, i4 st1), (25, y4.t), (26, .ptr b1 0 0 1)] hS ?_; intro s hS
     refine as_ (v := .str y3.Name) 0 (Or.inl (by kernel_rfl)) rfl hS hH rfl rfl (by kernel_rfl) ?_; intro s hS
     obtain ⟨y5, hy5, h⟩ := bind_some h
     refine aw_ (a := []) (b := []) (xs := [y4.t, .str y3.Name]) rfl hS rfl rfl hy5 ?_; intro s hS
     refine qs 3 [(0, a0.t), (15, a0.t), (16, i4 (a0.l.length : Int)), (17, i4 st1), (29, .agg [i4 y5.1.Kind, i4 y5.1.Num, .str y5.1.Text, y5.1.Kids.t]), (30, .bool y5.2)] hS ?_; intro s hS
     refine iP_ rfl (by exact hn0) (z := [i4 0, i4 0, .str ⟨#[]⟩, (nt DPattern)]) rfl hS hH (by kernel_rfl) ?_; intro b2 σ s hwr_b2 hH hS
     refine hi_ rfl (v := .agg [i4 y5.1.Kind, i4 y5.1.Num, .str y5.1.Text, y5.1.Kids.t]) (cs := [i4 y5.1.Kind, i4 y5.1.Num, .str y5.1.Text, y5.1.Kids.t]) (cells' := [i4 y5.1.Kind, i4 y5.1.Num, .str y5.1.Text, y5.1.Kids.t]) (by exact Or.inl hwr_b2) rfl hS hH rfl rfl rfl (by kernel_rfl) (by kernel_rfl) ?_; intro σ s hH hS
     refine qs 1 [(0, a0.t), (6, .bool y5.2), (15, a0.t), (16, i4 (a0.l.length : Int)), (17, i4 st1)] hS ?_; intro s hS
     refine ac_ (sq_n (ab_ (aa_ ?_)))
     refine qs 1 [(0, a0.t), (15, a0.t), (16, i4 (a0.l.length : Int)), (17, i4 st1), (31, .bool y5.2)] hS ?_; intro s hS
     refine ac_ (sq_n ?_)
     by_cases hc4 : y5.2 = true
     ·have h := ai_ hc4 h
      refine ae_ hS rfl (fun _ => ?_) (fun hf => ag_ hc4 hf)
      refine ab_ (aa_ ?_)
      refine qs 1 [(2, .bool false)] hS ?_; intro s hS
      refine ac_ (sq_n (al_ (bk_r (sq_r ?_))))
      injection h with h; subst h
      exact And.intro rfl (am_ hH (ak_ (v := .bool false) hS rfl r_nil) rfl (by kernel_rfl) (by simp [pureT, pureL, E_bool]))
     ·have h := ah_ hc4 h
      refine ae_ hS rfl (fun hf => af_ hc4 hf) (fun _ => ?_)
      refine aq_ (bk_n (sq_n (aa_ ?_)))
      refine qs 2 [(0, a0.t), (15, a0.t), (16, i4 (a0.l.length : Int)), (17, i4 (w4 (st1 + 1)))] hS ?_; intro s hS
      refine ac_ ?_
      injection h with h; subst h
      exact And.intro (aj_ hS (by kernel_rfl)) (Heap.sel hH [] rfl (by kernel_rfl))
    ·have h := ah_ hc3 h
     refine ae_ hS rfl (fun hf => af_ hc3 hf) (fun _ => ?_)
     refine bl_ (sq_x ?_)
     injection h with h; subst h
     exact And.intro rfl (And.intro (aj_ hS (by kernel_rfl)) hH)
   ·clear hS hH; intro e fr HF; obtain ⟨s, σ⟩ := fr
    rcases y2 with y2 | y2
    ·obtain ⟨rfl, hS, hH⟩ := HF
     refine bk_e (sq_n (ab_ (aa_ ?_)))
     refine qs 1 [(2, .bool true)] hS ?_; intro s hS
     refine ac_ (sq_n (al_ ?_))
     injection h with h; subst h
     exact am_ hH (ak_ (v := .bool true) hS rfl r_nil) rfl (by kernel_rfl) (by simp [pureT, pureL, E_bool])
    ·obtain ⟨rfl, HE⟩ := HF
     refine bk_r (sq_r ?_)
     injection h with h; subst h; exact HE
noncomputable def bx_ (a0 : DPattern) : Option DPattern := ((aI_ (S := (Int × (Sl DPattern))) (R := (Sl DPattern)) (fun st1 => (if (decide (st1.1 < (a0.Kids.l.length : Int))) = true then ((elt a0.Kids st1.1).bind fun y2 => ((a5_ y2).bind fun y3 => ((appS 56 st1.2 (⟨false, [y3]⟩ : Sl DPattern)).bind fun y4 => (some (.inl ((w4 (st1.1 + 1)), y4)))))) else (some (.inr st1.2)))) (0, (⟨false, []⟩ : Sl DPattern))).bind fun y1 => (some (⟨a0.Kind, a0.Num, a0.Text, y1⟩ : DPattern)))
theorem d3_ (a0 : DPattern) (r : DPattern) (h : bx_ a0 = some r) : a5_ a0 = some r := by
 unfold bx_ at h
 refine ec_ rfl rfl ok_72 rfl (all_cons (by kernel_rfl) all_nil) ?_
 intro σ0 s hS hH
 have hS := aj_ (L' := [(0, .agg [i4 a0.Kind, i4 a0.Num, .str a0.Text, a0.Kids.t])]) hS (by kernel_rfl)
 refine ab_ (aa_ ?_)
 refine dy_ (v := .agg [i4 a0.Kind, i4 a0.Num, .str a0.Text, a0.Kids.t]) (cs := [i4 a0.Kind, i4 a0.Num, .str a0.Text, a0.Kids.t]) rfl hS hH rfl rfl (by kernel_rfl) ?_; intro b1 σ s hH hS
 refine bo_ (z := [i4 0, i4 0, .str ⟨#[]⟩, (nt DPattern)]) rfl hS hH (by kernel_rfl) ?_; intro b2 σ s hH hS
 refine ac_ (sq_n (ab_ (aa_ ?_)))
 refine oT_ (e := 26) (sz := 4) (z := true) (zc := [i4 0, i4 0, .str ⟨#[]⟩, (nt DPattern)]) rfl (by exact trivial) rfl hS hH (by kernel_rfl) (by kernel_rfl) (by kernel_rfl) (by kernel_rfl) ?_; intro t1 σ s ht1 hH hS
 have hH : Heap σ0 σ [.own true 4 t1 (Sl.t (⟨false, []⟩ : Sl DPattern)), .box b2 [i4 0, i4 0, .str ⟨#[]⟩, (nt DPattern)], .box b1 [i4 a0.Kind, i4 a0.Num, .str a0.Text, a0.Kids.t]] := hH
 refine qs 1 [(1, .ptr b1 0 0 4), (2, .ptr b2 0 0 4), (3, t1)] hS ?_; intro s hS
 refine ac_ (sq_n (ab_ (ab_ (aa_ ?_))))
 refine qs 1 [(1, .ptr b1 0 0 4), (2, .ptr b2 0 0 4), (3, t1), (7, .ptr b1 0 3 1)] hS ?_; intro s hS
 refine as_ (v := a0.Kids.t) 2 trivial rfl hS hH rfl rfl (by kernel_rfl) ?_; intro s hS
 refine qs 2 [(1, .ptr b1 0 0 4), (2, .ptr b2 0 0 4), (3, t1), (8, a0.Kids.t), (9, i4 (a0.Kids.l.length : Int)), (10, i4 0)] hS ?_; intro s hS
 refine ac_ (sq_n (ax_ ?_))
 obtain ⟨y1, hy1, h⟩ := bind_some h
 refine bw_ (fun (st1 : (Int × (Sl DPattern))) (fr : Fr) => ∃ t3, bu_ t3 ∧ Sub [(1, .ptr b1 0 0 4), (2, .ptr b2 0 0 4), (3, t3), (8, a0.Kids.t), (9, i4 (a0.Kids.l.length : Int)), (10, i4 st1.1)] fr.s ∧ Heap σ0 fr.σ [.box b2 [i4 0, i4 0, .str ⟨#[]⟩, (nt DPattern)], .box b1 [i4 a0.Kind, i4 a0.Num, .str a0.Text, a0.Kids.t], .own true 4 t3 st1.2.t]) (fun (y1 : (Sl DPattern)) (e : aB_) (fr : Fr) => ∃ t4, bu_ t4 ∧ e = (.exit 0) ∧ Sub [(1, .ptr b1 0 0 4), (2, .ptr b2 0 0 4), (3, t4)] fr.s ∧ Heap σ0 fr.σ [.box b2 [i4 0, i4 0, .str ⟨#[]⟩, (nt DPattern)], .box b1 [i4 a0.Kind, i4 a0.Num, .str a0.Text, a0.Kids.t], .own true 4 t4 y1.t]) hy1 (Exists.intro t1 (And.intro ht1 (And.intro (aj_ hS (by kernel_rfl)) (Heap.sel hH [1, 2, 0] rfl (by kernel_rfl))))) ?_ ?_
 ·clear h hy1 hS hH; clear y1; intro st1 x fr h HI; obtain ⟨s, σ⟩ := fr; obtain ⟨t3, ht3, ⟨hS, hH⟩⟩ := HI
  refine ab_ (aa_ ?_)
  refine qs 1 [(1, .ptr b1 0 0 4), (2, .ptr b2 0 0 4), (3, t3), (8, a0.Kids.t), (9, i4 (a0.Kids.l.length : Int)), (10, i4 st1.1), (11, .bool (decide (st1.1 < (a0.Kids.l.length : Int))))] hS ?_; intro s hS
  refine ac_ (sq_n (ab_ ?_))
  by_cases hc1 : (decide (st1.1 < (a0.Kids.l.length : Int))) = true
  ·have h := ai_ hc1 h
   refine ae_ hS rfl (fun _ => ?_) (fun hf => ag_ hc1 hf)
   refine aq_ (sq_n (ab_ (ax_ (ab_ (aa_ ?_)))))
   obtain ⟨y2, hy2, h⟩ := bind_some h
   refine co_ (sl := a0.Kids) (e := 26) [i4 y2.Kind, i4 y2.Num, .str y2.Text, y2.Kids.t] rfl hS rfl rfl (by kernel_rfl) (by kernel_rfl) hy2 (DPattern.cells_eq _) ?_; intro rest1 s hS
   refine qs 1 [(1, .ptr b1 0 0 4), (2, .ptr b2 0 0 4), (3, t3), (8, a0.Kids.t), (9, i4 (a0.Kids.l.length : Int)), (10, i4 st1.1), (13, .agg [i4 y2.Kind, i4 y2.Num, .str y2.Text, y2.Kids.t])] hS ?_; intro s hS
   refine bo_ (z := [i4 0, i4 0, .str ⟨#[]⟩, (nt DPattern)]) rfl hS hH (by kernel_rfl) ?_; intro b3 σ s hH hS
   refine aV_ (cs := [i4 y2.Kind, i4 y2.Num, .str y2.Text, y2.Kids.t]) rfl hS hH rfl rfl (by kernel_rfl) ?_; intro σ s hH hS
   refine ac_ (sq_n (aa_ ?_))
   refine qs 1 [(1, .ptr b1 0 0 4), (2, .ptr b2 0 0 4), (5, .ptr b3 0 0 4), (8, a0.Kids.t), (9, i4 (a0.Kids.l.length : Int)), (10, i4 st1.1), (14, t3)] hS ?_; intro s hS
   refine as_ (v := .agg [i4 y2.Kind, i4 y2.Num, .str y2.Text, y2.Kids.t]) 0 trivial rfl hS hH rfl rfl (by kernel_rfl) ?_; intro s hS
   obtain ⟨y3, hy3, h⟩ := bind_some h
   refine bL_ (ents := []) (z := false) (ts := [.agg [i4 y2.Kind, i4 y2.Num, .str y2.Text, y2.Kids.t]]) (vs := [.agg [i4 y2.Kind, i4 y2.Num, .str y2.Text, y2.Kids.t]]) rfl rfl hS rfl rfl rfl hH (HL.agg (es1 := []) (es2 := []) (HLi (HLi (HLs (HLp HL.nil)))) HL.nil) hy3 ?_; intro hs σ s hl hH hS
   obtain ⟨t5, rfl⟩ := len1 hl
   have hH : Heap σ0 σ [.own true 4 t5 y3.Kids.t, .box b3 [i4 y2.Kind, i4 y2.Num, .str y2.Text, y2.Kids.t], .box b2 [i4 0, i4 0, .str ⟨#[]⟩, (nt DPattern)], .box b1 [i4 a0.Kind, i4 a0.Num, .str a0.Text, a0.Kids.t], .own true 4 t3 st1.2.t] := hH
   have ht5 : bu_ t5 := Heap.one hH
   refine q_bs (ents := [.own true 4 t5 y3.Kids.t]) (e := 26) (sz := 4) (z := true) (vs := [.agg [i4 y3.Kind, i4 y3.Num, .str y3.Text, t5]]) (zc := [i4 0, i4 0, .str ⟨#[]⟩, (nt DPattern)]) (cs := [i4 y3.Kind, i4 y3.Num, .str y3.Text, t5]) (us := [i4 y3.Kind, i4 y3.Num, .str y3.Text, y3.Kids.t]) (v := Sl.t (⟨false, [y3]⟩ : Sl DPattern)) rfl hS hH (by kernel_rfl) (by kernel_rfl) (by kernel_rfl) (by kernel_rfl) (by kernel_rfl) (And.intro (by kernel_rfl) (And.intro (by simp [ht5.1, ht5.2]) trivial)) (by kernel_rfl) (HLi (HLi (HLs (HL.own rfl HL.nil)))) (by simp only [Sl.t, an_, DPattern.enc_eq, List.length_cons, List.length_nil, List.cons_append, List.nil_append]) ?_; intro t6 σ s ht6 hH hS
   have hH : Heap σ0 σ [.own true 4 t3 st1.2.t, .own true 4 t6 (Sl.t (⟨false, [y3]⟩ : Sl DPattern)), .box b3 [i4 y2.Kind, i4 y2.Num, .str y2.Text, y2.Kids.t], .box b2 [i4 0, i4 0, .str ⟨#[]⟩, (nt DPattern)], .box b1 [i4 a0.Kind, i4 a0.Num, .str a0.Text, a0.Kids.t]] := hH.sel [4, 0, 1, 2, 3] rfl (by kernel_rfl)
   obtain ⟨y4, hy4, h⟩ := bind_some h
   refine o5_ (z := true) (t1 := t3) (a := st1.2) (b := (⟨false, [y3]⟩ : Sl DPattern)) (e := 26) (by_ := 56) (zc := [i4 0, i4 0, .str ⟨#[]⟩, (nt DPattern)]) rfl hS hH rfl rfl (by kernel_rfl) (by kernel_rfl) (by kernel_rfl) (by kernel_rfl) (by kernel_rfl) (by kernel_rfl) hy4 ?_; intro t7 σ s ht7 hH hS
   refine qs 1 [(1, .ptr b1 0 0 4), (2, .ptr b2 0 0 4), (3, t7), (8, a0.Kids.t), (9, i4 (a0.Kids.l.length : Int)), (10, i4 st1.1)] hS ?_; intro s hS
   refine ac_ (bk_n (sq_n (aa_ ?_)))
   refine qs 2 [(1, .ptr b1 0 0 4), (2, .ptr b2 0 0 4), (3, t7), (8, a0.Kids.t), (9, i4 (a0.Kids.l.length : Int)), (10, i4 (w4 (st1.1 + 1)))] hS ?_; intro s hS
   refine ac_ ?_
   injection h with h; subst h
   exact Exists.intro t7 (And.intro ht7 (And.intro (aj_ hS (by kernel_rfl)) (Heap.sel hH [2, 3, 0] rfl (by kernel_rfl))))
  ·have h := ah_ hc1 h
   refine ae_ hS rfl (fun hf => af_ hc1 hf) (fun _ => ?_)
   refine bl_ (sq_x ?_)
   injection h with h; subst h
   exact Exists.intro t3 (And.intro ht3 (And.intro rfl (And.intro (aj_ hS (by kernel_rfl)) hH)))
 ·clear hS hH; intro e fr HF; obtain ⟨s, σ⟩ := fr
  obtain ⟨t4, ht4, ⟨rfl, hS, hH⟩⟩ := HF
  refine bk_e (sq_n (ab_ (aa_ ?_)))
  refine qs 2 [(1, .ptr b1 0 0 4), (2, .ptr b2 0 0 4), (20, t4), (21, .ptr b1 0 3 1)] hS ?_; intro s hS
  have hH : Heap σ0 σ [.box b1 [i4 a0.Kind, i4 a0.Num, .str a0.Text, a0.Kids.t], .box b2 [i4 0, i4 0, .str ⟨#[]⟩, (nt DPattern)], .own true 4 t4 y1.t] := hH.sel [1, 0, 2] rfl (by kernel_rfl)
  refine df_ (v := t4) (cs := [t4]) (cells' := [i4 a0.Kind, i4 a0.Num, .str a0.Text, t4]) rfl hS hH rfl rfl (by simp [ht4.1, ht4.2]) (by simp [ht4.1, ht4.2]) (by kernel_rfl) ?_; intro σ s hH hS
  refine ac_ (sq_n (ab_ (aa_ ?_)))
  refine as_ (v := .agg [i4 a0.Kind, i4 a0.Num, .str a0.Text, t4]) 0 trivial rfl hS hH rfl rfl (by kernel_rfl) ?_; intro s hS
  have hH : Heap σ0 σ [.box b2 [i4 0, i4 0, .str ⟨#[]⟩, (nt DPattern)], .box b1 [i4 a0.Kind, i4 a0.Num, .str a0.Text, t4], .own true 4 t4 y1.t] := hH.sel [1, 0, 2] rfl (by kernel_rfl)
  refine aV_ (cs := [i4 a0.Kind, i4 a0.Num, .str a0.Text, t4]) rfl hS hH rfl rfl (by simp [ht4.1, ht4.2]) ?_; intro σ s hH hS
  refine ac_ (sq_n (al_ ?_))
  injection h with h; subst h
  have hH : Heap σ0 σ [.own true 4 t4 y1.t, .box b2 [i4 a0.Kind, i4 a0.Num, .str a0.Text, t4], .box b1 [i4 a0.Kind, i4 a0.Num, .str a0.Text, t4]] := hH.sel [2, 0, 1] rfl (by kernel_rfl)
  exact dV_ [t4] [.box b2 [i4 a0.Kind, i4 a0.Num, .str a0.Text, t4], .box b1 [i4 a0.Kind, i4 a0.Num, .str a0.Text, t4]] (dW_ (v := .agg [i4 a0.Kind, i4 a0.Num, .str a0.Text, t4]) hS (hH.at 1 rfl) rfl (by kernel_rfl) r_nil) (by kernel_rfl) rfl hH (by kernel_rfl)
noncomputable def dp_ (a0 : ad_) (a1 : ad_) : Option Bool := (if (!decide (a0.Name = a1.Name)) = true then (some false) else ((aL_ a0.Pattern a1.Pattern).bind fun y1 => (if (!y1) = true then (some false) else (some true))))
theorem gu_ (a0 : ad_) (a1 : ad_) (r : Bool) (h : dp_ a0 a1 = some r) : di_ a0 a1 = some r := by
 unfold dp_ at h
 refine aF_ E_bool_inj rfl rfl ok_73 rfl (all_cons (by kernel_rfl) (all_cons (by kernel_rfl) all_nil)) ?_
 intro σ0 s hS hH
 have hS := aj_ (L' := [(0, .agg (ad_.cells a0)), (1, .agg (ad_.cells a1))]) hS (by kernel_rfl)
 refine ab_ (aa_ ?_)
 refine dy_ (v := .agg (ad_.cells a0)) (cs := [.str a0.Name, i4 a0.Pattern.Kind, i4 a0.Pattern.Num, .str a0.Pattern.Text, a0.Pattern.Kids.t]) rfl hS hH rfl rfl (by kernel_rfl) ?_; intro b1 σ s hH hS
 refine dy_ (v := .agg (ad_.cells a1)) (cs := [.str a1.Name, i4 a1.Pattern.Kind, i4 a1.Pattern.Num, .str a1.Pattern.Text, a1.Pattern.Kids.t]) rfl hS hH rfl rfl (by kernel_rfl) ?_; intro b2 σ s hH hS
 refine qs 1 [(2, .ptr b1 0 0 5), (3, .ptr b2 0 0 5)] hS ?_; intro s hS
 refine ac_ (sq_n (ab_ (ab_ (aa_ ?_))))
 refine qs 1 [(2, .ptr b1 0 0 5), (3, .ptr b2 0 0 5), (5, .ptr b1 0 0 1)] hS ?_; intro s hS
 refine as_ (v := .str a0.Name) 1 trivial rfl hS hH rfl rfl (by kernel_rfl) ?_; intro s hS
 refine qs 1 [(2, .ptr b1 0 0 5), (3, .ptr b2 0 0 5), (6, .str a0.Name), (7, .ptr b2 0 0 1)] hS ?_; intro s hS
 refine as_ (v := .str a1.Name) 0 trivial rfl hS hH rfl rfl (by kernel_rfl) ?_; intro s hS
 refine qs 1 [(2, .ptr b1 0 0 5), (3, .ptr b2 0 0 5), (9, .bool (!decide (a0.Name = a1.Name)))] hS ?_; intro s hS
 refine ac_ (sq_n ?_)
 by_cases hc1 : (!decide (a0.Name = a1.Name)) = true
 ·have h := ai_ hc1 h
  refine ae_ hS rfl (fun _ => ?_) (fun hf => ag_ hc1 hf)
  refine ab_ (aa_ ?_)
  refine qs 1 [(4, .bool false)] hS ?_; intro s hS
  refine ac_ (sq_n (al_ (sq_r ?_)))
  injection h with h; subst h
  exact am_ hH (ak_ (v := .bool false) hS rfl r_nil) rfl (by kernel_rfl) (by simp [pureT, pureL, E_bool])
 ·have h := ah_ hc1 h
  refine ae_ hS rfl (fun hf => af_ hc1 hf) (fun _ => ?_)
  refine aq_ (sq_n (ab_ (ab_ (aa_ ?_))))
  refine qs 1 [(3, .ptr b2 0 0 5), (10, .ptr b1 0 1 4)] hS ?_; intro s hS
  refine as_ (v := .agg [i4 a0.Pattern.Kind, i4 a0.Pattern.Num, .str a0.Pattern.Text, a0.Pattern.Kids.t]) 1 trivial rfl hS hH rfl rfl (by kernel_rfl) ?_; intro s hS
  refine qs 1 [(11, .agg [i4 a0.Pattern.Kind, i4 a0.Pattern.Num, .str a0.Pattern.Text, a0.Pattern.Kids.t]), (12, .ptr b2 0 1 4)] hS ?_; intro s hS
  refine as_ (v := .agg [i4 a1.Pattern.Kind, i4 a1.Pattern.Num, .str a1.Pattern.Text, a1.Pattern.Kids.t]) 0 trivial rfl hS hH rfl rfl (by kernel_rfl) ?_; intro s hS
  obtain ⟨y1, hy1, h⟩ := bind_some h
  refine aw_ (a := []) (b := []) (xs := [.agg [i4 a0.Pattern.Kind, i4 a0.Pattern.Num, .str a0.Pattern.Text, a0.Pattern.Kids.t], .agg [i4 a1.Pattern.Kind, i4 a1.Pattern.Num, .str a1.Pattern.Text, a1.Pattern.Kids.t]]) rfl hS rfl rfl hy1 ?_; intro s hS
  refine qs 1 [(15, .bool (!y1))] hS ?_; intro s hS
  refine ac_ (sq_n ?_)
  by_cases hc2 : (!y1) = true
  ·have h := ai_ hc2 h
   refine ae_ hS rfl (fun _ => ?_) (fun hf => ag_ hc2 hf)
   refine ab_ (aa_ ?_)
   refine qs 1 [(4, .bool false)] hS ?_; intro s hS
   refine ac_ (sq_n (al_ (sq_r ?_)))
   injection h with h; subst h
   exact am_ hH (ak_ (v := .bool false) hS rfl r_nil) rfl (by kernel_rfl) (by simp [pureT, pureL, E_bool])
  ·have h := ah_ hc2 h
   refine ae_ hS rfl (fun hf => af_ hc2 hf) (fun _ => ?_)
   refine aq_ (sq_n (ab_ (aa_ ?_)))
   refine qs 1 [(4, .bool true)] hS ?_; intro s hS
   refine ac_ (sq_n (al_ ?_))
   injection h with h; subst h
   exact am_ hH (ak_ (v := .bool true) hS rfl r_nil) rfl (by kernel_rfl) (by simp [pureT, pureL, E_bool])
noncomputable def bM_ (a0 : DPattern) : Option Bool := ((az_ a0 0).bind fun y1 => (some (decide (y1 ≤ 60))))
theorem eC_ (a0 : DPattern) (r : Bool) (h : bM_ a0 = some r) : bN_ a0 = some r := by
 unfold bM_ at h
 refine aF_ E_bool_inj rfl rfl ok_78 rfl (all_cons (by kernel_rfl) all_nil) ?_
 intro σ0 s hS hH
 have hS := aj_ (L' := [(0, .agg [i4 a0.Kind, i4 a0.Num, .str a0.Text, a0.Kids.t])]) hS (by kernel_rfl)
 refine ab_ (aa_ ?_)
 refine dy_ (v := .agg [i4 a0.Kind, i4 a0.Num, .str a0.Text, a0.Kids.t]) (cs := [i4 a0.Kind, i4 a0.Num, .str a0.Text, a0.Kids.t]) rfl hS hH rfl rfl (by kernel_rfl) ?_; intro b1 σ s hH hS
 refine qs 1 [(1, .ptr b1 0 0 4)] hS ?_; intro s hS
 refine ac_ (sq_n (ab_ (aa_ ?_)))
 refine as_ (v := .agg [i4 a0.Kind, i4 a0.Num, .str a0.Text, a0.Kids.t]) 0 trivial rfl hS hH rfl rfl (by kernel_rfl) ?_; intro s hS
 obtain ⟨y1, hy1, h⟩ := bind_some h
 refine aw_ (a := []) (b := []) (xs := [.agg [i4 a0.Kind, i4 a0.Num, .str a0.Text, a0.Kids.t], i4 0]) rfl hS rfl rfl hy1 ?_; intro s hS
 refine qs 2 [(2, .bool (decide (y1 ≤ 60)))] hS ?_; intro s hS
 refine ac_ (sq_n (al_ ?_))
 injection h with h; subst h
 exact am_ hH (ak_ (v := .bool (decide (y1 ≤ 60))) hS rfl r_nil) rfl (by kernel_rfl) (by simp [pureT, pureL, E_bool])
noncomputable def ei_ (a0 : Int) (a1 : Int) (a2 : Int) : Option Bool := (if (decide (a1 ≤ a0)) = true then (some (decide (a0 ≤ a2))) else (some false))
theorem hR_ (a0 : Int) (a1 : Int) (a2 : Int) (r : Bool) (h : ei_ a0 a1 a2 = some r) : c9_ a0 a1 a2 = some r := by
 unfold ei_ at h
 refine aF_ E_bool_inj rfl rfl ok_85 rfl (all_cons (by kernel_rfl) (all_cons (by kernel_rfl) (all_cons (by kernel_rfl) all_nil))) ?_
 intro σ0 s hS hH
 have hS := aj_ (L' := [(0, i4 a0), (1, i4 a1), (2, i4 a2)]) hS (by kernel_rfl)
 refine ab_ (aa_ ?_)
 refine qs 1 [(0, i4 a0), (1, i4 a1), (2, i4 a2)] hS ?_; intro s hS
 refine ac_ (sq_n (ab_ (aa_ ?_)))
 refine qs 4 [(10, .bool (decide (a1 ≤ a0))), (0, i4 a0), (2, i4 a2)] hS ?_; intro s hS
 by_cases hc1 : (decide (a1 ≤ a0)) = true
 ·have h := ai_ hc1 h
  have hS := ao_ hS hc1
  refine qs 5 [(6, .bool (decide (a0 ≤ a2)))] hS ?_; intro s hS
  refine ac_ (sq_n (al_ ?_))
  injection h with h; subst h
  exact am_ hH (ak_ (v := .bool (decide (a0 ≤ a2))) hS rfl r_nil) rfl (by kernel_rfl) (by simp [pureT, pureL, E_bool])
 ·have h := ah_ hc1 h
  have hS := ao_ hS (aY_ hc1)
  refine qs 5 [(6, .bool false)] hS ?_; intro s hS
  refine ac_ (sq_n (al_ ?_))
  injection h with h; subst h
  exact am_ hH (ak_ (v := .bool false) hS rfl r_nil) rfl (by kernel_rfl) (by simp [pureT, pureL, E_bool])
noncomputable def dQ_ (a0 : Int) (a1 : Int) (a2 : Int) : Option Bool := (if (decide (a1 ≤ a0)) = true then (some (decide (a0 ≤ a2))) else (some false))
theorem g1_ (a0 : Int) (a1 : Int) (a2 : Int) (r : Bool) (h : dQ_ a0 a1 a2 = some r) : bh_ a0 a1 a2 = some r := by
 unfold dQ_ at h
 refine aF_ E_bool_inj rfl rfl ok_90 rfl (all_cons (by kernel_rfl) (all_cons (by kernel_rfl) (all_cons (by kernel_rfl) all_nil))) ?_
 intro σ0 s hS hH
 have hS := aj_ (L' := [(0, i4 a0), (1, i4 a1), (2, i4 a2)]) hS (by kernel_rfl)
 refine ab_ (aa_ ?_)
 refine qs 1 [(0, i4 a0), (1, i4 a1), (2, i4 a2)] hS ?_; intro s hS
 refine ac_ (sq_n (ab_ (aa_ ?_)))
 refine qs 4 [(10, .bool (decide (a1 ≤ a0))), (0, i4 a0), (2, i4 a2)] hS ?_; intro s hS
 by_cases hc1 : (decide (a1 ≤ a0)) = true
 ·have h := ai_ hc1 h
  have hS := ao_ hS hc1
  refine qs 5 [(6, .bool (decide (a0 ≤ a2)))] hS ?_; intro s hS
  refine ac_ (sq_n (al_ ?_))
  injection h with h; subst h
  exact am_ hH (ak_ (v := .bool (decide (a0 ≤ a2))) hS rfl r_nil) rfl (by kernel_rfl) (by simp [pureT, pureL, E_bool])
 ·have h := ah_ hc1 h
  have hS := ao_ hS (aY_ hc1)
  refine qs 5 [(6, .bool false)] hS ?_; intro s hS
  refine ac_ (sq_n (al_ ?_))
  injection h with h; subst h
  exact am_ hH (ak_ (v := .bool false) hS rfl r_nil) rfl (by kernel_rfl) (by simp [pureT, pureL, E_bool])
noncomputable def de_ (a0 : ByteArray) : Option Bool := (some (decide ((a0.size : Int) ≤ 200)))
theorem gp_ (a0 : ByteArray) (r : Bool) (h : de_ a0 = some r) : cq_ a0 = some r := by
 unfold de_ at h
 refine aF_ E_bool_inj rfl rfl ok_95 rfl (all_cons (by kernel_rfl) all_nil) ?_
 intro σ0 s hS hH
 have hS := aj_ (L' := [(0, .str a0)]) hS (by kernel_rfl)
 refine ab_ (aa_ ?_)
 refine qs 1 [(0, .str a0)] hS ?_; intro s hS
 refine ac_ (sq_n (ab_ (aa_ ?_)))
 refine qs 4 [(2, .bool (decide ((a0.size : Int) ≤ 200)))] hS ?_; intro s hS
 refine ac_ (sq_n (al_ ?_))
 injection h with h; subst h
 exact am_ hH (ak_ (v := .bool (decide ((a0.size : Int) ≤ 200))) hS rfl r_nil) rfl (by kernel_rfl) (by simp [pureT, pureL, E_bool])
noncomputable def bv_ (a0 : DPattern) (a1 : Int) : Option Int := (if (decide (a1 < 1)) = true then (some (-1)) else ((dr_ a0).bind fun y1 => (if (!y1) = true then (some (-1)) else ((aI_ (S := (Int × Int)) (R := (Int ⊕ Int)) (fun st1 => (if (decide (st1.2 < (a0.Kids.l.length : Int))) = true then ((elt a0.Kids st1.2).bind fun y3 => ((aH_ y3 (w4 (a1 - st1.1))).bind fun y4 => (if (decide (y4 < 0)) = true then (some (.inr (.inr (-1)))) else (some (.inl ((w4 (st1.1 + y4)), (w4 (st1.2 + 1)))))))) else (some (.inr (.inl st1.1))))) (1, 0)).bind fun y2 => (Sum.elim (fun y2 => (some y2)) (fun y2 => (some y2)) y2)))))
theorem eb_ (a0 : DPattern) (a1 : Int) (r : Int) (h : bv_ a0 a1 = some r) : aH_ a0 a1 = some r := by
 unfold bv_ at h
 refine aF_ E_i64_inj rfl rfl ok_105 rfl (all_cons (by kernel_rfl) (all_cons (by kernel_rfl) all_nil)) ?_
 intro σ0 s hS hH
 have hS := aj_ (L' := [(0, .agg [i4 a0.Kind, i4 a0.Num, .str a0.Text, a0.Kids.t]), (1, i4 a1)]) hS (by kernel_rfl)
 refine ab_ (aa_ ?_)
 refine dy_ (v := .agg [i4 a0.Kind, i4 a0.Num, .str a0.Text, a0.Kids.t]) (cs := [i4 a0.Kind, i4 a0.Num, .str a0.Text, a0.Kids.t]) rfl hS hH rfl rfl (by kernel_rfl) ?_; intro b1 σ s hH hS
 refine qs 1 [(1, i4 a1), (2, .ptr b1 0 0 4)] hS ?_; intro s hS
 refine ac_ (sq_n (ab_ (ab_ (aa_ ?_))))
 refine qs 3 [(10, .bool (decide (a1 < 1))), (1, i4 a1), (2, .ptr b1 0 0 4)] hS ?_; intro s hS
 by_cases hc1 : (decide (a1 < 1)) = true
 ·have h := ai_ hc1 h
  have hS := ao_ hS hc1
  refine qs 4 [(1, i4 a1), (2, .ptr b1 0 0 4), (14, .bool true)] hS ?_; intro s hS
  refine ac_ (sq_n ?_)
  refine ae_ (t := true) hS rfl (fun _ => ?_) (fun hf => by cases hf)
  refine ab_ (aa_ ?_)
  refine qs 1 [(4, i4 (-1))] hS ?_; intro s hS
  refine ac_ (sq_n (al_ (sq_r ?_)))
  injection h with h; subst h
  exact am_ hH (ak_ (v := i4 (-1)) hS rfl r_nil) rfl (by kernel_rfl) (by simp [pureT, pureL, E_i64])
 ·have h := ah_ hc1 h
  have hS := ao_ hS (aY_ hc1)
  refine as_ (v := .agg [i4 a0.Kind, i4 a0.Num, .str a0.Text, a0.Kids.t]) 0 trivial rfl hS hH rfl rfl (by kernel_rfl) ?_; intro s hS
  obtain ⟨y1, hy1, h⟩ := bind_some h
  refine aw_ (a := []) (b := []) (xs := [.agg [i4 a0.Kind, i4 a0.Num, .str a0.Text, a0.Kids.t]]) rfl hS rfl rfl hy1 ?_; intro s hS
  refine qs 2 [(1, i4 a1), (2, .ptr b1 0 0 4), (14, .bool (!y1))] hS ?_; intro s hS
  refine ac_ (sq_n ?_)
  by_cases hc2 : (!y1) = true
  ·have h := ai_ hc2 h
   refine ae_ hS rfl (fun _ => ?_) (fun hf => ag_ hc2 hf)
   refine ab_ (aa_ ?_)
   refine qs 1 [(4, i4 (-1))] hS ?_; intro s hS
   refine ac_ (sq_n (al_ (sq_r ?_)))
   injection h with h; subst h
   exact am_ hH (ak_ (v := i4 (-1)) hS rfl r_nil) rfl (by kernel_rfl) (by simp [pureT, pureL, E_i64])
  ·have h := ah_ hc2 h
   refine ae_ hS rfl (fun hf => af_ hc2 hf) (fun _ => ?_)
   refine aq_ (sq_n (ab_ (aa_ ?_)))
   refine qs 1 [(1, i4 a1), (2, .ptr b1 0 0 4), (5, i4 1)] hS ?_; intro s hS
   refine ac_ (sq_n (ab_ (ab_ (aa_ ?_))))
   refine qs 1 [(1, i4 a1), (2, .ptr b1 0 0 4), (5, i4 1), (6, i4 0)] hS ?_; intro s hS
   refine ac_ (sq_n (ax_ ?_))
   obtain ⟨y2, hy2, h⟩ := bind_some h
   refine bw_ (fun (st1 : (Int × Int)) (fr : Fr) => Sub [(1, i4 a1), (2, .ptr b1 0 0 4), (5, i4 st1.1), (6, i4 st1.2)] fr.s ∧ Heap σ0 fr.σ [.box b1 [i4 a0.Kind, i4 a0.Num, .str a0.Text, a0.Kids.t]]) (fun (y2 : (Int ⊕ Int)) (e : aB_) (fr : Fr) => (Sum.elim (fun y => e = (.exit 0) ∧ Sub [(5, i4 y)] fr.s ∧ Heap σ0 fr.σ []) (fun y => e = .ret ∧ endW Try.prog (Try.f105.results.toList) σ0 (E_i64 y) .ret fr)) y2) hy2 (And.intro (aj_ hS (by kernel_rfl)) hH) ?_ ?_
   ·clear h hy2 hS hH; clear y2; intro st1 x fr h HI; obtain ⟨s, σ⟩ := fr; obtain ⟨hS, hH⟩ := HI
    refine ab_ (ab_ (aa_ ?_))
    refine qs 2 [(1, i4 a1), (2, .ptr b1 0 0 4), (5, i4 st1.1), (6, i4 st1.2), (15, i4 st1.2), (16, .ptr b1 0 3 1)] hS ?_; intro s hS
    refine as_ (v := a0.Kids.t) 0 trivial rfl hS hH rfl rfl (by kernel_rfl) ?_; intro s hS
    refine qs 2 [(1, i4 a1), (2, .ptr b1 0 0 4), (5, i4 st1.1), (6, i4 st1.2), (19, .bool (decide (st1.2 < (a0.Kids.l.length : Int))))] hS ?_; intro s hS
    refine ac_ (sq_n ?_)
    by_cases hc3 : (decide (st1.2 < (a0.Kids.l.length : Int))) = true
    ·have h := ai_ hc3 h
     refine ae_ hS rfl (fun _ => ?_) (fun hf => ag_ hc3 hf)
     refine aq_ (sq_n (ab_ (ax_ (ab_ (aa_ ?_)))))
     refine qs 1 [(1, i4 a1), (2, .ptr b1 0 0 4), (5, i4 st1.1), (6, i4 st1.2), (22, .ptr b1 0 3 1)] hS ?_; intro s hS
     refine as_ (v := a0.Kids.t) 0 trivial rfl hS hH rfl rfl (by kernel_rfl) ?_; intro s hS
     refine qs 1 [(1, i4 a1), (2, .ptr b1 0 0 4), (5, i4 st1.1), (6, i4 st1.2), (23, a0.Kids.t), (24, i4 st1.2)] hS ?_; intro s hS
     obtain ⟨y3, hy3, h⟩ := bind_some h
     refine co_ (sl := a0.Kids) (e := 26) [i4 y3.Kind, i4 y3.Num, .str y3.Text, y3.Kids.t] rfl hS rfl rfl (by kernel_rfl) (by kernel_rfl) hy3 (DPattern.cells_eq _) ?_; intro rest1 s hS
     refine qs 4 [(1, i4 a1), (2, .ptr b1 0 0 4), (5, i4 st1.1), (6, i4 st1.2), (26, .agg [i4 y3.Kind, i4 y3.Num, .str y3.Text, y3.Kids.t]), (29, i4 (w4 (a1 - st1.1)))] hS ?_; intro s hS
     obtain ⟨y4, hy4, h⟩ := bind_some h
     refine aw_ (a := []) (b := []) (xs := [.agg [i4 y3.Kind, i4 y3.Num, .str y3.Text, y3.Kids.t], i4 (w4 (a1 - st1.1))]) rfl hS rfl rfl hy4 ?_; intro s hS
     refine qs 1 [(1, i4 a1), (2, .ptr b1 0 0 4), (5, i4 st1.1), (6, i4 st1.2), (7, i4 y4)] hS ?_; intro s hS
     refine ac_ (sq_n (ab_ (ab_ (aa_ ?_))))
     refine qs 2 [(1, i4 a1), (2, .ptr b1 0 0 4), (5, i4 st1.1), (6, i4 st1.2), (7, i4 y4), (32, .bool (decide (y4 < 0)))] hS ?_; intro s hS
     refine ac_ (sq_n ?_)
     by_cases hc4 : (decide (y4 < 0)) = true
     ·have h := ai_ hc4 h
      refine ae_ hS rfl (fun _ => ?_) (fun hf => ag_ hc4 hf)
      refine ab_ (aa_ ?_)
      refine qs 1 [(4, i4 (-1))] hS ?_; intro s hS
      refine ac_ (sq_n (al_ (sq_r (bk_r (sq_r ?_)))))
      injection h with h; subst h
      exact And.intro rfl (am_ hH (ak_ (v := i4 (-1)) hS rfl r_nil) rfl (by kernel_rfl) (by simp [pureT, pureL, E_i64]))
     ·have h := ah_ hc4 h
      refine ae_ hS rfl (fun hf => af_ hc4 hf) (fun _ => ?_)
      refine aq_ (sq_n (aa_ ?_))
      refine qs 4 [(1, i4 a1), (2, .ptr b1 0 0 4), (5, i4 (w4 (st1.1 + y4))), (6, i4 st1.2)] hS ?_; intro s hS
      refine ac_ (bk_n (sq_n (aa_ ?_)))
      refine qs 3 [(1, i4 a1), (2, .ptr b1 0 0 4), (5, i4 (w4 (st1.1 + y4))), (6, i4 (w4 (st1.2 + 1)))] hS ?_; intro s hS
      refine ac_ ?_
      injection h with h; subst h
      exact And.intro (aj_ hS (by kernel_rfl)) hH
    ·have h := ah_ hc3 h
     refine ae_ hS rfl (fun hf => af_ hc3 hf) (fun _ => ?_)
     refine bl_ (sq_x ?_)
     injection h with h; subst h
     exact And.intro rfl (And.intro (aj_ hS (by kernel_rfl)) (Heap.sel hH [] rfl (by kernel_rfl)))
   ·clear hS hH; intro e fr HF; obtain ⟨s, σ⟩ := fr
    rcases y2 with y2 | y2
    ·obtain ⟨rfl, hS, hH⟩ := HF
     refine bk_e (sq_n (ab_ (aa_ ?_)))
     refine qs 2 [(4, i4 y2)] hS ?_; intro s hS
     refine ac_ (sq_n (al_ ?_))
     injection h with h; subst h
     exact am_ hH (ak_ (v := i4 y2) hS rfl r_nil) rfl (by kernel_rfl) (by simp [pureT, pureL, E_i64])
    ·obtain ⟨rfl, HE⟩ := HF
     refine bk_r (sq_r ?_)
     injection h with h; subst h; exact HE
noncomputable def dO_ (a0 : ByteArray) : Option Bool := (if (!decide (a0 = (⟨#[]⟩ : ByteArray))) = true then (if (decide ((a0.size : Int) ≤ 12)) = true then ((cb_ a0 0).bind fun y1 => (some (decide (y1 = (a0.size : Int))))) else (some false)) else (some false))
theorem g7_ (a0 : ByteArray) (r : Bool) (h : dO_ a0 = some r) : cK_ a0 = some r := by
 unfold dO_ at h
 refine aF_ E_bool_inj rfl rfl ok_108 rfl (all_cons (by kernel_rfl) all_nil) ?_
 intro σ0 s hS hH
 have hS := aj_ (L' := [(0, .str a0)]) hS (by kernel_rfl)
 refine ab_ (aa_ ?_)
 refine qs 1 [(0, .str a0)] hS ?_; intro s hS
 refine ac_ (sq_n (ab_ (aa_ ?_)))
 refine qs 3 [(5, .bool (!decide (a0 = (⟨#[]⟩ : ByteArray)))), (0, .str a0)] hS ?_; intro s hS
 by_cases hc1 : (!decide (a0 = (⟨#[]⟩ : ByteArray))) = true
 ·have h := ai_ hc1 h
  have hS := ao_ hS hc1
  refine qs 5 [(10, .bool (decide ((a0.size : Int) ≤ 12))), (0, .str a0)] hS ?_; intro s hS
  by_cases hc2 : (decide ((a0.size : Int) ≤ 12)) = true
  ·have h := ai_ hc2 h
   have hS := ao_ hS hc2
   refine qs 1 [(0, .str a0), (10, .bool true), (11, .str a0)] hS ?_; intro s hS
   obtain ⟨y1, hy1, h⟩ := bind_some h
   refine aw_ (a := []) (b := []) (xs := [.str a0, i4 0]) rfl hS rfl rfl hy1 ?_; intro s hS
   refine qs 5 [(2, .bool (decide (y1 = (a0.size : Int))))] hS ?_; intro s hS
   refine ac_ (sq_n (al_ ?_))
   injection h with h; subst h
   exact am_ hH (ak_ (v := .bool (decide (y1 = (a0.size : Int)))) hS rfl r_nil) rfl (by kernel_rfl) (by simp [pureT, pureL, E_bool])
  ·have h := ah_ hc2 h
   have hS := ao_ hS (aY_ hc2)
   refine qs 7 [(2, .bool false)] hS ?_; intro s hS
   refine ac_ (sq_n (al_ ?_))
   injection h with h; subst h
   exact am_ hH (ak_ (v := .bool false) hS rfl r_nil) rfl (by kernel_rfl) (by simp [pureT, pureL, E_bool])
 ·have h := ah_ hc1 h
  have hS := ao_ hS (aY_ hc1)
  refine qs 12 [(2, .bool false)] hS ?_; intro s hS
  refine ac_ (sq_n (al_ ?_))
  injection h with h; subst h
  exact am_ hH (ak_ (v := .bool false) hS rfl r_nil) rfl (by kernel_rfl) (by simp [pureT, pureL, E_bool])
noncomputable def bK_ (a0 : DPattern) : Option Bool := ((aH_ a0 60).bind fun y1 => (some (decide (0 < y1))))
theorem ez_ (a0 : DPattern) (r : Bool) (h : bK_ a0 = some r) : bQ_ a0 = some r := by
 unfold bK_ at h
 refine aF_ E_bool_inj rfl rfl ok_109 rfl (all_cons (by kernel_rfl) all_nil) ?_
 intro σ0 s hS hH
 have hS := aj_ (L' := [(0, .agg [i4 a0.Kind, i4 a0.Num, .str a0.Text, a0.Kids.t])]) hS (by kernel_rfl)
 refine ab_ (aa_ ?_)
 refine dy_ (v := .agg [i4 a0.Kind, i4 a0.Num, .str a0.Text, a0.Kids.t]) (cs := [i4 a0.Kind, i4 a0.Num, .str a0.Text, a0.Kids.t]) rfl hS hH rfl rfl (by kernel_rfl) ?_; intro b1 σ s hH hS
 refine qs 1 [(1, .ptr b1 0 0 4)] hS ?_; intro s hS
 refine ac_ (sq_n (ab_ (aa_ ?_)))
 refine as_ (v := .agg [i4 a0.Kind, i4 a0.Num, .str a0.Text, a0.Kids.t]) 0 trivial rfl hS hH rfl rfl (by kernel_rfl) ?_; intro s hS
 obtain ⟨y1, hy1, h⟩ := bind_some h
 refine aw_ (a := []) (b := []) (xs := [.agg [i4 a0.Kind, i4 a0.Num, .str a0.Text, a0.Kids.t], i4 60]) rfl hS rfl rfl hy1 ?_; intro s hS
 refine qs 2 [(2, .bool (decide (0 < y1)))] hS ?_; intro s hS
 refine ac_ (sq_n (al_ ?_))
 injection h with h; subst h
 exact am_ hH (ak_ (v := .bool (decide (0 < y1))) hS rfl r_nil) rfl (by kernel_rfl) (by simp [pureT, pureL, E_bool])
noncomputable def bR_ (a0 : (Sl ad_)) (a1 : T) : Option Bool := (if flat1 a1 = true then ((aI_ (S := Int) (R := (Unit ⊕ Bool)) (fun st1 => (if (decide (st1 < (a0.l.length : Int))) = true then ((elt a0 st1).bind fun y2 => ((ir_ Try.prog md ext E_bool a1 [.agg (ad_.cells y2)]).bind fun y3 => (if (!y3) = true then (some (.inr (.inr false))) else (some (.inl (w4 (st1 + 1))))))) else (some (.inr (.inl ()))))) 0).bind fun y1 => (Sum.elim (fun y1 => (some true)) (fun y1 => (some y1)) y1)) else none)
theorem eB_ (a0 : (Sl ad_)) (a1 : T) (r : Bool) (h : bR_ a0 a1 = some r) : bP_ a0 a1 = some r := by
 unfold bR_ at h
 obtain ⟨hf_a1, h⟩ := jL_ h
 refine aF_ E_bool_inj rfl rfl ok_112 rfl (all_cons (by kernel_rfl) (all_cons (iI_ hf_a1) all_nil)) ?_
 intro σ0 s hS hH
 have hS := aj_ (L' := [(0, a0.t), (1, a1)]) hS (by kernel_rfl)
 refine ab_ (aa_ ?_)
 refine qs 1 [(0, a0.t), (1, a1)] hS ?_; intro s hS
 refine ac_ (sq_n (ab_ (ab_ (aa_ ?_))))
 refine qs 3 [(1, a1), (7, a0.t), (8, i4 (a0.l.length : Int)), (9, i4 0)] hS ?_; intro s hS
 refine ac_ (sq_n (ax_ ?_))
 obtain ⟨y1, hy1, h⟩ := bind_some h
 refine bw_ (fun (st1 : Int) (fr : Fr) => Sub [(1, a1), (7, a0.t), (8, i4 (a0.l.length : Int)), (9, i4 st1)] fr.s ∧ Heap σ0 fr.σ []) (fun (y1 : (Unit ⊕ Bool)) (e : aB_) (fr : Fr) => (Sum.elim (fun y => e = (.exit 0) ∧ Sub [] fr.s ∧ Heap σ0 fr.σ []) (fun y => e = .ret ∧ endW Try.prog (Try.f112.results.toList) σ0 (E_bool y) .ret fr)) y1) hy1 (And.intro (aj_ hS (by kernel_rfl)) hH) ?_ ?_
 ·clear h hy1 hS hH; clear y1; intro st1 x fr h HI; obtain ⟨s, σ⟩ := fr; obtain ⟨hS, hH⟩ := HI
  refine ab_ (aa_ ?_)
  refine qs 1 [(1, a1), (7, a0.t), (8, i4 (a0.l.length : Int)), (9, i4 st1), (10, .bool (decide (st1 < (a0.l.length : Int))))] hS ?_; intro s hS
  refine ac_ (sq_n (ab_ ?_))
  by_cases hc1 : (decide (st1 < (a0.l.length : Int))) = true
  ·have h := ai_ hc1 h
   refine ae_ hS rfl (fun _ => ?_) (fun hf => ag_ hc1 hf)
   refine aq_ (sq_n (ab_ (ax_ (ab_ (aa_ ?_)))))
   obtain ⟨y2, hy2, h⟩ := bind_some h
   refine co_ (sl := a0) (e := 82) [.str y2.Name, i4 y2.Pattern.Kind, i4 y2.Pattern.Num, .str y2.Pattern.Text, y2.Pattern.Kids.t] rfl hS rfl rfl (by kernel_rfl) (by kernel_rfl) hy2 rfl ?_; intro rest1 s hS
   refine qs 1 [(1, a1), (7, a0.t), (8, i4 (a0.l.length : Int)), (9, i4 st1), (12, .agg (ad_.cells y2))] hS ?_; intro s hS
   refine bo_ (z := [.str ⟨#[]⟩, i4 0, i4 0, .str ⟨#[]⟩, (nt DPattern)]) rfl hS hH (by kernel_rfl) ?_; intro b1 σ s hH hS
   refine df_ (v := .agg (ad_.cells y2)) (cs := [.str y2.Name, i4 y2.Pattern.Kind, i4 y2.Pattern.Num, .str y2.Pattern.Text, y2.Pattern.Kids.t]) (cells' := [.str y2.Name, i4 y2.Pattern.Kind, i4 y2.Pattern.Num, .str y2.Pattern.Text, y2.Pattern.Kids.t]) rfl hS hH rfl rfl rfl (by kernel_rfl) (by kernel_rfl) ?_; intro σ s hH hS
   refine ac_ (sq_n (ab_ (aa_ ?_)))
   refine qs 1 [(1, a1), (6, .ptr b1 0 0 5), (7, a0.t), (8, i4 (a0.l.length : Int)), (9, i4 st1), (13, a1)] hS ?_; intro s hS
   refine as_ (v := .agg (ad_.cells y2)) 0 trivial rfl hS hH rfl rfl (by kernel_rfl) ?_; intro s hS
   obtain ⟨y3, hy3, h⟩ := bind_some h
   refine jx_ (p := a1) (xs := [.agg (ad_.cells y2)]) rfl hS rfl rfl hy3 ?_; intro s hS
   refine qs 1 [(1, a1), (7, a0.t), (8, i4 (a0.l.length : Int)), (9, i4 st1), (16, .bool (!y3))] hS ?_; intro s hS
   refine ac_ (sq_n ?_)
   by_cases hc2 : (!y3) = true
   ·have h := ai_ hc2 h
    refine ae_ hS rfl (fun _ => ?_) (fun hf => ag_ hc2 hf)
    refine ab_ (aa_ ?_)
    refine qs 1 [(4, .bool false)] hS ?_; intro s hS
    refine ac_ (sq_n (al_ (bk_r (sq_r ?_))))
    injection h with h; subst h
    exact And.intro rfl (am_ hH (ak_ (v := .bool false) hS rfl r_nil) rfl (by kernel_rfl) (by simp [pureT, pureL, E_bool]))
   ·have h := ah_ hc2 h
    refine ae_ hS rfl (fun hf => af_ hc2 hf) (fun _ => ?_)
    refine aq_ (bk_n (sq_n (aa_ ?_)))
    refine qs 2 [(1, a1), (7, a0.t), (8, i4 (a0.l.length : Int)), (9, i4 (w4 (st1 + 1)))] hS ?_; intro s hS
    refine ac_ ?_
    injection h with h; subst h
    exact And.intro (aj_ hS (by kernel_rfl)) (Heap.sel hH [] rfl (by kernel_rfl))
  ·have h := ah_ hc1 h
   refine ae_ hS rfl (fun hf => af_ hc1 hf) (fun _ => ?_)
   refine bl_ (sq_x ?_)
   injection h with h; subst h
   exact And.intro rfl (And.intro (aj_ hS (by kernel_rfl)) hH)
 ·clear hS hH; intro e fr HF; obtain ⟨s, σ⟩ := fr
  rcases y1 with y1 | y1
  ·obtain ⟨rfl, hS, hH⟩ := HF
   refine bk_e (sq_n (ab_ (aa_ ?_)))
   refine qs 1 [(4, .bool true)] hS ?_; intro s hS
   refine ac_ (sq_n (al_ ?_))
   injection h with h; subst h
   exact am_ hH (ak_ (v := .bool true) hS rfl r_nil) rfl (by kernel_rfl) (by simp [pureT, pureL, E_bool])
  ·obtain ⟨rfl, HE⟩ := HF
   refine bk_r (sq_r ?_)
   injection h with h; subst h; exact HE
noncomputable def ce_ (a0 : ad_) : Option Bool := ((cM_ a0.Name).bind fun y1 => (if y1 = true then ((bN_ a0.Pattern).bind fun y2 => (some y2)) else (some false)))
theorem fb_ (a0 : ad_) (r : Bool) (h : ce_ a0 = some r) : cm_ a0 = some r := by
 unfold ce_ at h
 refine aF_ E_bool_inj rfl rfl ok_113 rfl (all_cons (by kernel_rfl) all_nil) ?_
 intro σ0 s hS hH
 have hS := aj_ (L' := [(0, .agg (ad_.cells a0))]) hS (by kernel_rfl)
 refine ab_ (aa_ ?_)
 refine dy_ (v := .agg (ad_.cells a0)) (cs := [.str a0.Name, i4 a0.Pattern.Kind, i4 a0.Pattern.Num, .str a0.Pattern.Text, a0.Pattern.Kids.t]) rfl hS hH rfl rfl (by kernel_rfl) ?_; intro b1 σ s hH hS
 refine qs 1 [(1, .ptr b1 0 0 5)] hS ?_; intro s hS
 refine ac_ (sq_n (ab_ (aa_ ?_)))
 refine qs 1 [(1, .ptr b1 0 0 5), (3, .ptr b1 0 0 1)] hS ?_; intro s hS
 refine as_ (v := .str a0.Name) 0 trivial rfl hS hH rfl rfl (by kernel_rfl) ?_; intro s hS
 obtain ⟨y1, hy1, h⟩ := bind_some h
 refine aw_ (a := []) (b := []) (xs := [.str a0.Name]) rfl hS rfl rfl hy1 ?_; intro s hS
 refine qs 1 [(6, .bool y1), (1, .ptr b1 0 0 5)] hS ?_; intro s hS
 by_cases hc1 : y1 = true
 ·have h := ai_ hc1 h
  have hS := ao_ hS hc1
  refine qs 1 [(6, .bool true), (7, .ptr b1 0 1 4)] hS ?_; intro s hS
  refine as_ (v := .agg [i4 a0.Pattern.Kind, i4 a0.Pattern.Num, .str a0.Pattern.Text, a0.Pattern.Kids.t]) 0 trivial rfl hS hH rfl rfl (by kernel_rfl) ?_; intro s hS
  obtain ⟨y2, hy2, h⟩ := bind_some h
  refine aw_ (a := []) (b := []) (xs := [.agg [i4 a0.Pattern.Kind, i4 a0.Pattern.Num, .str a0.Pattern.Text, a0.Pattern.Kids.t]]) rfl hS rfl rfl hy2 ?_; intro s hS
  refine qs 2 [(2, .bool y2)] hS ?_; intro s hS
  refine ac_ (sq_n (al_ ?_))
  injection h with h; subst h
  exact am_ hH (ak_ (v := .bool y2) hS rfl r_nil) rfl (by kernel_rfl) (by simp [pureT, pureL, E_bool])
 ·have h := ah_ hc1 h
  have hS := ao_ hS (aY_ hc1)
  refine qs 5 [(2, .bool false)] hS ?_; intro s hS
  refine ac_ (sq_n (al_ ?_))
  injection h with h; subst h
  exact am_ hH (ak_ (v := .bool false) hS rfl r_nil) rfl (by kernel_rfl) (by simp [pureT, pureL, E_bool])
noncomputable def dF_ (a0 : ByteArray) : Option Bool := (if (decide (1 ≤ (a0.size : Int))) = true then (if (decide ((a0.size : Int) ≤ 12)) = true then ((br_ a0 0).bind fun y1 => ((b2_ y1).bind fun y2 => (if y2 = true then ((hF_ a0).bind fun y3 => ((db_ y3 (T.fn 138 [] [])).bind fun y4 => (some y4))) else (some false)))) else (some false)) else (some false))
theorem g8_ (a0 : ByteArray) (r : Bool) (h : dF_ a0 = some r) : cM_ a0 = some r := by
 unfold dF_ at h
 refine aF_ E_bool_inj rfl rfl ok_114 rfl (all_cons (by kernel_rfl) all_nil) ?_
 intro σ0 s hS hH
 have hS := aj_ (L' := [(0, .str a0)]) hS (by kernel_rfl)
 refine ab_ (aa_ ?_)
 refine qs 1 [(0, .str a0)] hS ?_; intro s hS
 refine ac_ (sq_n (ab_ (aa_ ?_)))
 refine qs 4 [(6, .bool (decide (1 ≤ (a0.size : Int)))), (0, .str a0)] hS ?_; intro s hS
 by_cases hc1 : (decide (1 ≤ (a0.size : Int))) = true
 ·have h := ai_ hc1 h
  have hS := ao_ hS hc1
  refine qs 5 [(11, .bool (decide ((a0.size : Int) ≤ 12))), (0, .str a0)] hS ?_; intro s hS
  by_cases hc2 : (decide ((a0.size : Int) ≤ 12)) = true
  ·have h := ai_ hc2 h
   have hS := ao_ hS hc2
   refine qs 1 [(0, .str a0), (11, .bool true), (12, .str a0)] hS ?_; intro s hS
   obtain ⟨y1, hy1, h⟩ := bind_some h
   refine fg_ rfl hS rfl rfl (by kernel_rfl) hy1 ?_; intro s hS
   obtain ⟨y2, hy2, h⟩ := bind_some h
   refine aw_ (a := []) (b := []) (xs := [.int .u8 y1]) rfl hS rfl rfl hy2 ?_; intro s hS
   refine qs 2 [(16, .bool y2), (0, .str a0)] hS ?_; intro s hS
   by_cases hc3 : y2 = true
   ·have h := ai_ hc3 h
    have hS := ao_ hS hc3
    refine qs 1 [(16, .bool true), (17, .str a0)] hS ?_; intro s hS
    obtain ⟨y3, hy3, h⟩ := bind_some h
    refine oG_ (e := 5) rfl hS hH rfl (by kernel_rfl) (by kernel_rfl) (by kernel_rfl) hy3 ?_; intro t1 σ s ht1 hH hS
    obtain ⟨y4, hy4, h⟩ := bind_some h
    refine eD_ (ents := [.own true 1 t1 y3.t]) (z := false) (ts := [t1, T.fn 138 [] []]) (vs := [y3.t, T.fn 138 [] []]) rfl hS rfl rfl rfl hH (HL.own rfl (HL.leaf (fun σ d => i2_ (by first | assumption | rfl)) HL.nil)) hy4 (by kernel_rfl) ?_; intro s hS
    refine qs 2 [(2, .bool y4)] hS ?_; intro s hS
    refine ac_ (sq_n (al_ ?_))
    injection h with h; subst h
    exact am_ hH (ak_ (v := .bool y4) hS rfl r_nil) rfl (by kernel_rfl) (by simp [pureT, pureL, E_bool])
   ·have h := ah_ hc3 h
    have hS := ao_ hS (aY_ hc3)
    refine qs 5 [(2, .bool false)] hS ?_; intro s hS
    refine ac_ (sq_n (al_ ?_))
    injection h with h; subst h
    exact am_ hH (ak_ (v := .bool false) hS rfl r_nil) rfl (by kernel_rfl) (by simp [pureT, pureL, E_bool])
  ·have h := ah_ hc2 h
   have hS := ao_ hS (aY_ hc2)
   refine qs 10 [(2, .bool false)] hS ?_; intro s hS
   refine ac_ (sq_n (al_ ?_))
   injection h with h; subst h
   exact am_ hH (ak_ (v := .bool false) hS rfl r_nil) rfl (by kernel_rfl) (by simp [pureT, pureL, E_bool])
 ·have h := ah_ hc1 h
  have hS := ao_ hS (aY_ hc1)
  refine qs 15 [(2, .bool false)] hS ?_; intro s hS
  refine ac_ (sq_n (al_ ?_))
  injection h with h; subst h
  exact am_ hH (ak_ (v := .bool false) hS rfl r_nil) rfl (by kernel_rfl) (by simp [pureT, pureL, E_bool])
noncomputable def dl_ (a0 : Int) : Option (Int × ByteArray) := (if (decide (a0 = 1)) = true then (some (0, ⟨#[115]⟩)) else ((eu_ a0).bind fun y1 => ((aI_ (S := (Int × ByteArray × Int)) (R := (Int × ByteArray)) (fun st1 => (if (decide (st1.2.2 < (y1.2.size : Int))) = true then ((br_ y1.2 st1.2.2).bind fun y3 => (if (decide (y3 = 112)) = true then (some (.inl ((w4 (st1.1 + 1)), st1.2.1, (w4 (st1.2.2 + 1))))) else ((subB y1.2 st1.2.2 (w4 (st1.2.2 + 1))).bind fun y4 => ((catB st1.2.1 y4).bind fun y5 => (some (.inl (st1.1, y5, (w4 (st1.2.2 + 1))))))))) else (some (.inr (st1.1, st1.2.1))))) (0, ⟨#[]⟩, 0)).bind fun y2 => (some (y2.1, y2.2)))))
theorem er_ (a0 : Int) (r : (Int × ByteArray)) (h : dl_ a0 = some r) : cu_ a0 = some r := by
 unfold dl_ at h
 refine aF_ E_t2_i64_str_inj rfl rfl ok_118 rfl (all_cons (by kernel_rfl) all_nil) ?_
 intro σ0 s hS hH
 have hS := aj_ (L' := [(0, i4 a0)]) hS (by kernel_rfl)
 refine ab_ (aa_ ?_)
 refine qs 2 [(0, i4 a0)] hS ?_; intro s hS
 refine ac_ (sq_n (ab_ (ab_ (aa_ ?_))))
 refine qs 2 [(0, i4 a0), (10, .bool (decide (a0 = 1)))] hS ?_; intro s hS
 refine ac_ (sq_n ?_)
 by_cases hc1 : (decide (a0 = 1)) = true
 ·have h := ai_ hc1 h
  refine ae_ hS rfl (fun _ => ?_) (fun hf => ag_ hc1 hf)
  refine ab_ (aa_ ?_)
  refine qs 2 [(2, i4 0), (3, .str ⟨#[115]⟩)] hS ?_; intro s hS
  refine ac_ (sq_n (al_ (sq_r ?_)))
  injection h with h; subst h
  exact am_ hH (ak_ (v := i4 0) hS rfl (ak_ (v := .str ⟨#[115]⟩) hS rfl r_nil)) rfl (by kernel_rfl) (by simp [pureT, pureL, E_t2_i64_str])
 ·have h := ah_ hc1 h
  refine ae_ hS rfl (fun hf => af_ hc1 hf) (fun _ => ?_)
  refine aq_ (sq_n (ab_ (aa_ ?_)))
  refine qs 1 [(12, i4 a0)] hS ?_; intro s hS
  obtain ⟨y1, hy1, h⟩ := bind_some h
  refine aw_ (a := []) (b := []) (xs := [i4 a0]) rfl hS rfl rfl hy1 ?_; intro s hS
  refine qs 5 [(5, .str y1.2)] hS ?_; intro s hS
  refine ac_ (sq_n (ab_ (aa_ ?_)))
  refine qs 1 [(5, .str y1.2), (6, i4 0)] hS ?_; intro s hS
  refine ac_ (sq_n (ab_ (aa_ ?_)))
  refine qs 1 [(5, .str y1.2), (6, i4 0), (7, .str ⟨#[]⟩)] hS ?_; intro s hS
  refine ac_ (sq_n (ab_ (ab_ (aa_ ?_))))
  refine qs 1 [(5, .str y1.2), (6, i4 0), (7, .str ⟨#[]⟩), (8, i4 0)] hS ?_; intro s hS
  refine ac_ (sq_n (ax_ ?_))
  obtain ⟨y2, hy2, h⟩ := bind_some h
  refine bw_ (fun (st1 : (Int × ByteArray × Int)) (fr : Fr) => Sub [(5, .str y1.2), (6, i4 st1.1), (7, .str st1.2.1), (8, i4 st1.2.2)] fr.s ∧ Heap σ0 fr.σ []) (fun (y2 : (Int × ByteArray)) (e : aB_) (fr : Fr) => e = (.exit 0) ∧ Sub [(6, i4 y2.1), (7, .str y2.2)] fr.s ∧ Heap σ0 fr.σ []) hy2 (And.intro (aj_ hS (by kernel_rfl)) hH) ?_ ?_
  ·clear h hy2 hS hH; clear y2; intro st1 x fr h HI; obtain ⟨s, σ⟩ := fr; obtain ⟨hS, hH⟩ := HI
   refine ab_ (ab_ (aa_ ?_))
   refine qs 4 [(5, .str y1.2), (6, i4 st1.1), (7, .str st1.2.1), (8, i4 st1.2.2), (19, .bool (decide (st1.2.2 < (y1.2.size : Int))))] hS ?_; intro s hS
   refine ac_ (sq_n ?_)
   by_cases hc2 : (decide (st1.2.2 < (y1.2.size : Int))) = true
   ·have h := ai_ hc2 h
    refine ae_ hS rfl (fun _ => ?_) (fun hf => ag_ hc2 hf)
    refine aq_ (sq_n (ab_ (ax_ (ab_ (aa_ ?_)))))
    refine qs 2 [(5, .str y1.2), (6, i4 st1.1), (7, .str st1.2.1), (8, i4 st1.2.2), (22, .str y1.2), (23, i4 st1.2.2)] hS ?_; intro s hS
    obtain ⟨y3, hy3, h⟩ := bind_some h
    refine fg_ rfl hS rfl rfl (by kernel_rfl) hy3 ?_; intro s hS
    refine qs 1 [(5, .str y1.2), (6, i4 st1.1), (7, .str st1.2.1), (8, i4 st1.2.2), (25, .bool (decide (y3 = 112)))] hS ?_; intro s hS
    refine ac_ (sq_n ?_)
    by_cases hc3 : (decide (y3 = 112)) = true
    ·have h := ai_ hc3 h
     refine ae_ hS rfl (fun _ => ?_) (fun hf => ag_ hc3 hf)
     refine aa_ ?_
     refine qs 3 [(5, .str y1.2), (6, i4 (w4 (st1.1 + 1))), (7, .str st1.2.1), (8, i4 st1.2.2)] hS ?_; intro s hS
     refine ac_ (bk_n (sq_n (aa_ ?_)))
     refine qs 3 [(5, .str y1.2), (6, i4 (w4 (st1.1 + 1))), (7, .str st1.2.1), (8, i4 (w4 (st1.2.2 + 1)))] hS ?_; intro s hS
     refine ac_ ?_
     injection h with h; subst h
     exact And.intro (aj_ hS (by kernel_rfl)) hH
    ·have h := ah_ hc3 h
     refine ae_ hS rfl (fun hf => af_ hc3 hf) (fun _ => ?_)
     refine aa_ ?_
     refine qs 5 [(5, .str y1.2), (6, i4 st1.1), (8, i4 st1.2.2), (28, .str st1.2.1), (29, .str y1.2), (30, i4 st1.2.2), (32, i4 (w4 (st1.2.2 + 1)))] hS ?_; intro s hS
     obtain ⟨y4, hy4, h⟩ := bind_some h
     refine nk_ (w := y1.2) (vlo := (some (i4 st1.2.2))) (vhi := (some (i4 (w4 (st1.2.2 + 1))))) (a := st1.2.2) (b := (w4 (st1.2.2 + 1))) rfl hS rfl rfl rfl rfl rfl (by kernel_rfl) hy4 ?_; intro s hS
     obtain ⟨y5, hy5, h⟩ := bind_some h
     refine jH_ rfl hS rfl rfl hy5 ?_; intro s hS
     refine qs 1 [(5, .str y1.2), (6, i4 st1.1), (7, .str y5), (8, i4 st1.2.2)] hS ?_; intro s hS
     refine ac_ (bk_n (sq_n (aa_ ?_)))
     refine qs 3 [(5, .str y1.2), (6, i4 st1.1), (7, .str y5), (8, i4 (w4 (st1.2.2 + 1)))] hS ?_; intro s hS
     refine ac_ ?_
     injection h with h; subst h
     exact And.intro (aj_ hS (by kernel_rfl)) hH
   ·have h := ah_ hc2 h
    refine ae_ hS rfl (fun hf => af_ hc2 hf) (fun _ => ?_)
    refine bl_ (sq_x ?_)
    injection h with h; subst h
    exact And.intro rfl (And.intro (aj_ hS (by kernel_rfl)) hH)
  ·clear hS hH; intro e fr HF; obtain ⟨s, σ⟩ := fr
   obtain ⟨rfl, hS, hH⟩ := HF
   refine bk_e (sq_n (ab_ (aa_ ?_)))
   refine qs 4 [(2, i4 y2.1), (3, .str y2.2)] hS ?_; intro s hS
   refine ac_ (sq_n (al_ ?_))
   injection h with h; subst h
   exact am_ hH (ak_ (v := i4 y2.1) hS rfl (ak_ (v := .str y2.2) hS rfl r_nil)) rfl (by kernel_rfl) (by simp [pureT, pureL, E_t2_i64_str])
noncomputable def a0_ (a0 : DPattern) (a1 : Int) : Option Int := (if (decide (60 < (w4 (a1 + 1)))) = true then (some 61) else ((cp_ a0.Kind a0.Num a0.Text).bind fun y1 => (if (!y1) = true then (some 61) else ((dH_ a0.Kind).bind fun y2 => (if (!decide ((a0.Kids.l.length : Int) = y2)) = true then (some 61) else ((aI_ (S := (Int × Int)) (R := Int) (fun st1 => (if (decide (st1.2 < (a0.Kids.l.length : Int))) = true then ((elt a0.Kids st1.2).bind fun y4 => ((az_ y4 st1.1).bind fun y5 => (if (decide (60 < y5)) = true then (some (.inr y5)) else (some (.inl (y5, (w4 (st1.2 + 1)))))))) else (some (.inr st1.1)))) ((w4 (a1 + 1)), 0)).bind fun y3 => (some y3)))))))
theorem c2_ (a0 : DPattern) (a1 : Int) (r : Int) (h : a0_ a0 a1 = some r) : az_ a0 a1 = some r := by
 unfold a0_ at h
 refine aF_ E_i64_inj rfl rfl ok_121 rfl (all_cons (by kernel_rfl) (all_cons (by kernel_rfl) all_nil)) ?_
 intro σ0 s hS hH
 have hS := aj_ (L' := [(0, .agg [i4 a0.Kind, i4 a0.Num, .str a0.Text, a0.Kids.t]), (1, i4 a1)]) hS (by kernel_rfl)
 refine ab_ (aa_ ?_)
 refine dy_ (v := .agg [i4 a0.Kind, i4 a0.Num, .str a0.Text, a0.Kids.t]) (cs := [i4 a0.Kind, i4 a0.Num, .str a0.Text, a0.Kids.t]) rfl hS hH rfl rfl (by kernel_rfl) ?_; intro b1 σ s hH hS
 refine qs 1 [(1, i4 a1), (2, .ptr b1 0 0 4)] hS ?_; intro s hS
 refine ac_ (sq_n (ab_ (aa_ ?_)))
 refine qs 3 [(1, i4 (w4 (a1 + 1))), (2, .ptr b1 0 0 4)] hS ?_; intro s hS
 refine ac_ (sq_n (ab_ (ab_ ?_)))
 refine hE_ (by kernel_rfl) hH ?_; intro mb σ hH
 refine qs 3 [(11, .bool (decide (60 < (w4 (a1 + 1))))), (1, i4 (w4 (a1 + 1))), (2, .ptr b1 0 0 4)] hS ?_; intro s hS
 by_cases hc1 : (decide (60 < (w4 (a1 + 1)))) = true
 ·have h := ai_ hc1 h
  have hS := ao_ hS hc1
  refine qs 18 [(1, i4 (w4 (a1 + 1))), (2, .ptr b1 0 0 4), (29, .bool true)] hS ?_; intro s hS
  refine ac_ (sq_n ?_)
  refine ae_ (t := true) hS rfl (fun _ => ?_) (fun hf => by cases hf)
  refine ab_ (aa_ ?_)
  refine qs 1 [(4, i4 61)] hS ?_; intro s hS
  refine ac_ (sq_n (al_ (sq_r ?_)))
  injection h with h; subst h
  exact am_ hH (ak_ (v := i4 61) hS rfl r_nil) rfl (by kernel_rfl) (by simp [pureT, pureL, E_i64])
 ·have h := ah_ hc1 h
  have hS := ao_ hS (aY_ hc1)
  refine qs 1 [(1, i4 (w4 (a1 + 1))), (2, .ptr b1 0 0 4), (11, .bool false), (12, .ptr b1 0 0 1)] hS ?_; intro s hS
  refine as_ (v := i4 a0.Kind) 0 trivial rfl hS hH rfl rfl (by kernel_rfl) ?_; intro s hS
  refine qs 1 [(1, i4 (w4 (a1 + 1))), (2, .ptr b1 0 0 4), (11, .bool false), (13, i4 a0.Kind), (14, .ptr b1 0 1 1)] hS ?_; intro s hS
  refine as_ (v := i4 a0.Num) 0 trivial rfl hS hH rfl rfl (by kernel_rfl) ?_; intro s hS
  refine qs 1 [(1, i4 (w4 (a1 + 1))), (2, .ptr b1 0 0 4), (11, .bool false), (13, i4 a0.Kind), (15, i4 a0.Num), (16, .ptr b1 0 2 1)] hS ?_; intro s hS
  refine as_ (v := .str a0.Text) 0 trivial rfl hS hH rfl rfl (by kernel_rfl) ?_; intro s hS
  obtain ⟨y1, hy1, h⟩ := bind_some h
  refine aw_ (a := []) (b := []) (xs := [i4 a0.Kind, i4 a0.Num, .str a0.Text]) rfl hS rfl rfl hy1 ?_; intro s hS
  refine qs 3 [(21, .bool (!y1)), (1, i4 (w4 (a1 + 1))), (2, .ptr b1 0 0 4)] hS ?_; intro s hS
  by_cases hc2 : (!y1) = true
  ·have h := ai_ hc2 h
   have hS := ao_ hS hc2
   refine qs 8 [(1, i4 (w4 (a1 + 1))), (2, .ptr b1 0 0 4), (29, .bool true)] hS ?_; intro s hS
   refine ac_ (sq_n ?_)
   refine ae_ (t := true) hS rfl (fun _ => ?_) (fun hf => by cases hf)
   refine ab_ (aa_ ?_)
   refine qs 1 [(4, i4 61)] hS ?_; intro s hS
   refine ac_ (sq_n (al_ (sq_r ?_)))
   injection h with h; subst h
   exact am_ hH (ak_ (v := i4 61) hS rfl r_nil) rfl (by kernel_rfl) (by simp [pureT, pureL, E_i64])
  ·have h := ah_ hc2 h
   have hS := ao_ hS (aY_ hc2)
   refine qs 1 [(1, i4 (w4 (a1 + 1))), (2, .ptr b1 0 0 4), (21, .bool false), (22, .ptr b1 0 3 1)] hS ?_; intro s hS
   refine as_ (v := a0.Kids.t) 0 trivial rfl hS hH rfl rfl (by kernel_rfl) ?_; intro s hS
   refine qs 2 [(1, i4 (w4 (a1 + 1))), (2, .ptr b1 0 0 4), (21, .bool false), (24, i4 (a0.Kids.l.length : Int)), (25, .ptr b1 0 0 1)] hS ?_; intro s hS
   refine as_ (v := i4 a0.Kind) 0 trivial rfl hS hH rfl rfl (by kernel_rfl) ?_; intro s hS
   obtain ⟨y2, hy2, h⟩ := bind_some h
   refine aw_ (a := []) (b := []) (xs := [i4 a0.Kind]) rfl hS rfl rfl hy2 ?_; intro s hS
   refine qs 2 [(1, i4 (w4 (a1 + 1))), (2, .ptr b1 0 0 4), (29, .bool (!decide ((a0.Kids.l.length : Int) = y2)))] hS ?_; intro s hS
   refine ac_ (sq_n ?_)
   by_cases hc3 : (!decide ((a0.Kids.l.length : Int) = y2)) = true
   ·have h := ai_ hc3 h
    refine ae_ hS rfl (fun _ => ?_) (fun hf => ag_ hc3 hf)
    refine ab_ (aa_ ?_)
    refine qs 1 [(4, i4 61)] hS ?_; intro s hS
    refine ac_ (sq_n (al_ (sq_r ?_)))
    injection h with h; subst h
    exact am_ hH (ak_ (v := i4 61) hS rfl r_nil) rfl (by kernel_rfl) (by simp [pureT, pureL, E_i64])
   ·have h := ah_ hc3 h
    refine ae_ hS rfl (fun hf => af_ hc3 hf) (fun _ => ?_)
    refine aq_ (sq_n (ab_ (ab_ (aa_ ?_))))
    refine qs 1 [(1, i4 (w4 (a1 + 1))), (30, .ptr b1 0 3 1)] hS ?_; intro s hS
    refine as_ (v := a0.Kids.t) 0 trivial rfl hS hH rfl rfl (by kernel_rfl) ?_; intro s hS
    refine qs 2 [(1, i4 (w4 (a1 + 1))), (31, a0.Kids.t), (32, i4 (a0.Kids.l.length : Int)), (33, i4 0)] hS ?_; intro s hS
    refine ac_ (sq_n (ax_ ?_))
    obtain ⟨y3, hy3, h⟩ := bind_some h
    refine bw_ (fun (st1 : (Int × Int)) (fr : Fr) => Sub [(1, i4 st1.1), (31, a0.Kids.t), (32, i4 (a0.Kids.l.length : Int)), (33, i4 st1.2)] fr.s ∧ Heap σ0 fr.σ []) (fun (y3 : Int) (e : aB_) (fr : Fr) => e = (.exit 0) ∧ Sub [(1, i4 y3)] fr.s ∧ Heap σ0 fr.σ []) hy3 (And.intro (aj_ hS (by kernel_rfl)) (Heap.sel hH [] rfl (by kernel_rfl))) ?_ ?_
    ·clear h hy3 hS hH; clear y3; intro st1 x fr h HI; obtain ⟨s, σ⟩ := fr; obtain ⟨hS, hH⟩ := HI
     refine ab_ (aa_ ?_)
     refine qs 1 [(1, i4 st1.1), (31, a0.Kids.t), (32, i4 (a0.Kids.l.length : Int)), (33, i4 st1.2), (34, .bool (decide (st1.2 < (a0.Kids.l.length : Int))))] hS ?_; intro s hS
     refine ac_ (sq_n (ab_ ?_))
     by_cases hc4 : (decide (st1.2 < (a0.Kids.l.length : Int))) = true
     ·have h := ai_ hc4 h
      refine ae_ hS rfl (fun _ => ?_) (fun hf => ag_ hc4 hf)
      refine aq_ (sq_n (ab_ (ax_ (ab_ (aa_ ?_)))))
      obtain ⟨y4, hy4, h⟩ := bind_some h
      refine co_ (sl := a0.Kids) (e := 26) [i4 y4.Kind, i4 y4.Num, .str y4.Text, y4.Kids.t] rfl hS rfl rfl (by kernel_rfl) (by kernel_rfl) hy4 (DPattern.cells_eq _) ?_; intro rest1 s hS
      refine qs 1 [(1, i4 st1.1), (31, a0.Kids.t), (32, i4 (a0.Kids.l.length : Int)), (33, i4 st1.2), (36, .agg [i4 y4.Kind, i4 y4.Num, .str y4.Text, y4.Kids.t])] hS ?_; intro s hS
      refine bo_ (z := [i4 0, i4 0, .str ⟨#[]⟩, (nt DPattern)]) rfl hS hH (by kernel_rfl) ?_; intro b2 σ s hH hS
      refine aV_ (cs := [i4 y4.Kind, i4 y4.Num, .str y4.Text, y4.Kids.t]) rfl hS hH rfl rfl (by kernel_rfl) ?_; intro σ s hH hS
      refine ac_ (sq_n (ab_ (aa_ ?_)))
      refine as_ (v := .agg [i4 y4.Kind, i4 y4.Num, .str y4.Text, y4.Kids.t]) 0 trivial rfl hS hH rfl rfl (by kernel_rfl) ?_; intro s hS
      refine qs 1 [(31, a0.Kids.t), (32, i4 (a0.Kids.l.length : Int)), (33, i4 st1.2), (37, .agg [i4 y4.Kind, i4 y4.Num, .str y4.Text, y4.Kids.t]), (38, i4 st1.1)] hS ?_; intro s hS
      obtain ⟨y5, hy5, h⟩ := bind_some h
      refine aw_ (a := []) (b := []) (xs := [.agg [i4 y4.Kind, i4 y4.Num, .str y4.Text, y4.Kids.t], i4 st1.1]) rfl hS rfl rfl hy5 ?_; intro s hS
      refine qs 1 [(1, i4 y5), (31, a0.Kids.t), (32, i4 (a0.Kids.l.length : Int)), (33, i4 st1.2)] hS ?_; intro s hS
      refine ac_ (sq_n (ab_ (aa_ ?_)))
      refine qs 2 [(1, i4 y5), (31, a0.Kids.t), (32, i4 (a0.Kids.l.length : Int)), (33, i4 st1.2), (41, .bool (decide (60 < y5)))] hS ?_; intro s hS
      refine ac_ (sq_n ?_)
      by_cases hc5 : (decide (60 < y5)) = true
      ·have h := ai_ hc5 h
       refine ae_ hS rfl (fun _ => ?_) (fun hf => ag_ hc5 hf)
       refine bl_ ?_
       refine bk_x rfl ?_
       refine sq_x ?_
       injection h with h; subst h
       exact And.intro rfl (And.intro (aj_ hS (by kernel_rfl)) (Heap.sel hH [] rfl (by kernel_rfl)))
      ·have h := ah_ hc5 h
       refine ae_ hS rfl (fun hf => af_ hc5 hf) (fun _ => ?_)
       refine aq_ (bk_n (sq_n (aa_ ?_)))
       refine qs 2 [(1, i4 y5), (31, a0.Kids.t), (32, i4 (a0.Kids.l.length : Int)), (33, i4 (w4 (st1.2 + 1)))] hS ?_; intro s hS
       refine ac_ ?_
       injection h with h; subst h
       exact And.intro (aj_ hS (by kernel_rfl)) (Heap.sel hH [] rfl (by kernel_rfl))
     ·have h := ah_ hc4 h
      refine ae_ hS rfl (fun hf => af_ hc4 hf) (fun _ => ?_)
      refine bl_ (sq_x ?_)
      injection h with h; subst h
      exact And.intro rfl (And.intro (aj_ hS (by kernel_rfl)) hH)
    ·clear hS hH; intro e fr HF; obtain ⟨s, σ⟩ := fr
     obtain ⟨rfl, hS, hH⟩ := HF
     refine bk_e (sq_n (ab_ (aa_ ?_)))
     refine qs 2 [(4, i4 y3)] hS ?_; intro s hS
     refine ac_ (sq_n (al_ ?_))
     injection h with h; subst h
     exact am_ hH (ak_ (v := i4 y3) hS rfl r_nil) rfl (by kernel_rfl) (by simp [pureT, pureL, E_i64])
end Go.Am
