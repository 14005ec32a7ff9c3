/- Functions of the program. -/
import Derived.Test.YtfnjieagnkmceaaAd0
set_option maxRecDepth 100000
set_option maxHeartbeats 4000000
set_option linter.unusedVariables false
set_option linter.unusedSimpArgs false
namespace Go.Am
open Go.Proofs
noncomputable def c6_ (a0 : (Sl aa_)) (a1 : Int) : Option Int := ((aM_ (S := (Int × Int)) (R := (Int ⊕ Int)) (fun st1 => (if (decide (st1.2 < (a0.l.length : Int))) = true then ((elt a0 st1.2).bind fun y2 => (if (!decide (y2.Id = st1.1)) = true then (some (.inr (.inr (-1)))) else ((elt a0 st1.2).bind fun y3 => (if (!decide (y3.Kind = (w4 (st1.1 + 1)))) = true then (some (.inr (.inr (-1)))) else ((elt a0 st1.2).bind fun y4 => ((aJ_ (w4 ((w4 (st1.1 + 1)) + 1))).bind fun y5 => (if (!decide (y4.Name = y5)) = true then (some (.inr (.inr (-1)))) else ((elt a0 st1.2).bind fun y6 => (if (!decide (y6.Low = (w4 ((w4 ((w4 (st1.1 + 1)) + 1)) + 1)))) = true then (some (.inr (.inr (-1)))) else ((elt a0 st1.2).bind fun y7 => ((a1_ y7.Keys (w4 ((w4 ((w4 ((w4 (st1.1 + 1)) + 1)) + 1)) + 1))).bind fun y8 => (if (decide (y8 < 0)) = true then (some (.inr (.inr (-1)))) else ((elt a0 st1.2).bind fun y9 => ((a1_ y9.Vals y8).bind fun y10 => (if (decide (y10 < 0)) = true then (some (.inr (.inr (-1)))) else ((elt a0 st1.2).bind fun y11 => (if (!decide (y11.Default.Kind = y10)) = true then (some (.inr (.inr (-1)))) else ((elt a0 st1.2).bind fun y12 => (if (!decide (y12.Default.Num = (w4 (y10 + 1)))) = true then (some (.inr (.inr (-1)))) else ((elt a0 st1.2).bind fun y13 => ((aJ_ (w4 ((w4 (y10 + 1)) + 1))).bind fun y14 => (if (!decide (y13.Default.Text = y14)) = true then (some (.inr (.inr (-1)))) else ((elt a0 st1.2).bind fun y15 => (if (!decide (y15.Default.Ref = (w4 ((w4 ((w4 (y10 + 1)) + 1)) + 1)))) = true then (some (.inr (.inr (-1)))) else (some (.inl ((w4 ((w4 ((w4 ((w4 (y10 + 1)) + 1)) + 1)) + 1)), (w4 (st1.2 + 1))))))))))))))))))))))))))))) else (some (.inr (.inl st1.1))))) (a1, 0)).bind fun y1 => (Sum.elim (fun y1 => (some y1)) (fun y1 => (some y1)) y1))
theorem g8_ (a0 : (Sl aa_)) (a1 : Int) (r : Int) (h : c6_ a0 a1 = some r) : dh_ a0 a1 = some r := by
 unfold c6_ at h
 refine ax_ E_i64_inj rfl rfl ok_75 rfl (all_cons (by kernel_rfl) (all_cons (by kernel_rfl) all_nil)) ?_
 intro σ0 s hS hH
 have hS := am_ (L' := [(0, a0.t), (1, i4 a1)]) hS (by kernel_rfl)
 refine ad_ (ab_ ?_)
 refine qs 1 [(0, a0.t), (1, i4 a1)] hS ?_; intro s hS
 refine ae_ (sq_n (ad_ (ad_ (ab_ ?_))))
 refine qs 1 [(0, a0.t), (1, i4 a1), (5, i4 0)] hS ?_; intro s hS
 refine ae_ (sq_n (aw_ ?_))
 obtain ⟨y1, hy1, h⟩ := bind_some h
 refine bd_ (fun (st1 : (Int × Int)) (fr : Fr) => Sub [(0, a0.t), (1, i4 st1.1), (5, i4 st1.2)] fr.s ∧ Heap σ0 fr.σ []) (fun (y1 : (Int ⊕ Int)) (e : aC_) (fr : Fr) => (Sum.elim (fun y => e = (.exit 0) ∧ Sub [(1, i4 y)] fr.s ∧ Heap σ0 fr.σ []) (fun y => e = .ret ∧ endW Try.prog (Try.f75.results.toList) σ0 (E_i64 y) .ret fr)) y1) hy1 (And.intro (am_ hS (by kernel_rfl)) hH) ?_ ?_
 ·clear h hy1 hS hH; clear y1; intro st1 x fr h HI; obtain ⟨s, σ⟩ := fr; obtain ⟨hS, hH⟩ := HI
  refine ad_ (ad_ (ab_ ?_))
  refine qs 4 [(0, a0.t), (1, i4 st1.1), (5, i4 st1.2), (9, .bool (decide (st1.2 < (a0.l.length : Int))))] hS ?_; intro s hS
  refine ae_ (sq_n ?_)
  by_cases hc1 : (decide (st1.2 < (a0.l.length : Int))) = true
  ·have h := ak_ hc1 h
   refine af_ hS rfl (fun _ => ?_) (fun hf => ah_ hc1 hf)
   refine as_ (sq_n (ad_ (aw_ (ad_ (ad_ (ab_ ?_))))))
   refine qs 2 [(0, a0.t), (1, i4 st1.1), (5, i4 st1.2), (12, a0.t), (13, i4 st1.2)] hS ?_; intro s hS
   obtain ⟨y2, hy2, h⟩ := bind_some h
   refine bh_ (sl := a0) (e := 30) [i4 y2.Id, i4 y2.Kind, .str y2.Name, i4 y2.Low, y2.Keys.t, y2.Vals.t, i4 y2.Default.Kind, i4 y2.Default.Num, .str y2.Default.Text, i4 y2.Default.Ref] rfl hS rfl rfl (by kernel_rfl) (by kernel_rfl) hy2 rfl ?_; intro rest1 s hS
   refine qs 4 [(0, a0.t), (1, i4 st1.1), (5, i4 st1.2), (18, .bool (!decide (y2.Id = st1.1)))] hS ?_; intro s hS
   refine ae_ (sq_n ?_)
   by_cases hc2 : (!decide (y2.Id = st1.1)) = true
   ·have h := ak_ hc2 h
    refine af_ hS rfl (fun _ => ?_) (fun hf => ah_ hc2 hf)
    refine ad_ (ab_ ?_)
    refine qs 1 [(4, i4 (-1))] hS ?_; intro s hS
    refine ae_ (sq_n (ao_ (sq_r (bk_r (sq_r ?_)))))
    injection h with h; subst h
    exact And.intro rfl (aq_ hH (an_ (v := i4 (-1)) hS rfl r_nil) rfl (by kernel_rfl) (by simp [pureT, pureL, E_i64]))
   ·have h := al_ hc2 h
    refine af_ hS rfl (fun hf => ag_ hc2 hf) (fun _ => ?_)
    refine as_ (sq_n (ad_ (ab_ ?_)))
    refine qs 3 [(0, a0.t), (1, i4 (w4 (st1.1 + 1))), (5, i4 st1.2)] hS ?_; intro s hS
    refine ae_ (sq_n (ad_ (ad_ (ab_ ?_))))
    refine qs 2 [(0, a0.t), (1, i4 (w4 (st1.1 + 1))), (5, i4 st1.2), (21, a0.t), (22, i4 st1.2)] hS ?_; intro s hS
    obtain ⟨y3, hy3, h⟩ := bind_some h
    refine bh_ (sl := a0) (e := 30) [i4 y3.Id, i4 y3.Kind, .str y3.Name, i4 y3.Low, y3.Keys.t, y3.Vals.t, i4 y3.Default.Kind, i4 y3.Default.Num, .str y3.Default.Text, i4 y3.Default.Ref] rfl hS rfl rfl (by kernel_rfl) (by kernel_rfl) hy3 rfl ?_; intro rest2 s hS
    refine qs 4 [(0, a0.t), (1, i4 (w4 (st1.1 + 1))), (5, i4 st1.2), (27, .bool (!decide (y3.Kind = (w4 (st1.1 + 1)))))] hS ?_; intro s hS
    refine ae_ (sq_n ?_)
    by_cases hc3 : (!decide (y3.Kind = (w4 (st1.1 + 1)))) = true
    ·have h := ak_ hc3 h
     refine af_ hS rfl (fun _ => ?_) (fun hf => ah_ hc3 hf)
     refine ad_ (ab_ ?_)
     refine qs 1 [(4, i4 (-1))] hS ?_; intro s hS
     refine ae_ (sq_n (ao_ (sq_r (bk_r (sq_r ?_)))))
     injection h with h; subst h
     exact And.intro rfl (aq_ hH (an_ (v := i4 (-1)) hS rfl r_nil) rfl (by kernel_rfl) (by simp [pureT, pureL, E_i64]))
    ·have h := al_ hc3 h
     refine af_ hS rfl (fun hf => ag_ hc3 hf) (fun _ => ?_)
     refine as_ (sq_n (ad_ (ab_ ?_)))
     refine qs 3 [(0, a0.t), (1, i4 (w4 ((w4 (st1.1 + 1)) + 1))), (5, i4 st1.2)] hS ?_; intro s hS
     refine ae_ (sq_n (ad_ (ad_ ?_)))
     refine dk_ (by kernel_rfl) hH ?_; intro mb σ hH
     refine qs 2 [(0, a0.t), (1, i4 (w4 ((w4 (st1.1 + 1)) + 1))), (5, i4 st1.2), (30, a0.t), (31, i4 st1.2)] hS ?_; intro s hS
     obtain ⟨y4, hy4, h⟩ := bind_some h
     refine bh_ (sl := a0) (e := 30) [i4 y4.Id, i4 y4.Kind, .str y4.Name, i4 y4.Low, y4.Keys.t, y4.Vals.t, i4 y4.Default.Kind, i4 y4.Default.Num, .str y4.Default.Text, i4 y4.Default.Ref] rfl hS rfl rfl (by kernel_rfl) (by kernel_rfl) hy4 rfl ?_; intro rest3 s hS
     refine qs 3 [(0, a0.t), (1, i4 (w4 ((w4 (st1.1 + 1)) + 1))), (5, i4 st1.2), (34, .str y4.Name), (35, i4 (w4 ((w4 (st1.1 + 1)) + 1)))] hS ?_; intro s hS
     obtain ⟨y5, hy5, h⟩ := bind_some h
     refine ar_ (a := []) (b := []) (xs := [i4 (w4 ((w4 (st1.1 + 1)) + 1))]) rfl hS rfl rfl hy5 ?_; intro s hS
     refine qs 1 [(0, a0.t), (1, i4 (w4 ((w4 (st1.1 + 1)) + 1))), (5, i4 st1.2), (37, .bool (!decide (y4.Name = y5)))] hS ?_; intro s hS
     refine ae_ (sq_n ?_)
     by_cases hc4 : (!decide (y4.Name = y5)) = true
     ·have h := ak_ hc4 h
      refine af_ hS rfl (fun _ => ?_) (fun hf => ah_ hc4 hf)
      refine ad_ (ab_ ?_)
      refine qs 1 [(4, i4 (-1))] hS ?_; intro s hS
      refine ae_ (sq_n (ao_ (sq_r (bk_r (sq_r ?_)))))
      injection h with h; subst h
      exact And.intro rfl (aq_ hH (an_ (v := i4 (-1)) hS rfl r_nil) rfl (by kernel_rfl) (by simp [pureT, pureL, E_i64]))
     ·have h := al_ hc4 h
      refine af_ hS rfl (fun hf => ag_ hc4 hf) (fun _ => ?_)
      refine as_ (sq_n (ad_ (ab_ ?_)))
      refine qs 3 [(0, a0.t), (1, i4 (w4 ((w4 ((w4 (st1.1 + 1)) + 1)) + 1))), (5, i4 st1.2)] hS ?_; intro s hS
      refine ae_ (sq_n (ad_ (ad_ (ab_ ?_))))
      refine qs 2 [(0, a0.t), (1, i4 (w4 ((w4 ((w4 (st1.1 + 1)) + 1)) + 1))), (5, i4 st1.2), (40, a0.t), (41, i4 st1.2)] hS ?_; intro s hS
      obtain ⟨y6, hy6, h⟩ := bind_some h
      refine bh_ (sl := a0) (e := 30) [i4 y6.Id, i4 y6.Kind, .str y6.Name, i4 y6.Low, y6.Keys.t, y6.Vals.t, i4 y6.Default.Kind, i4 y6.Default.Num, .str y6.Default.Text, i4 y6.Default.Ref] rfl hS rfl rfl (by kernel_rfl) (by kernel_rfl) hy6 rfl ?_; intro rest4 s hS
      refine qs 4 [(0, a0.t), (1, i4 (w4 ((w4 ((w4 (st1.1 + 1)) + 1)) + 1))), (5, i4 st1.2), (46, .bool (!decide (y6.Low = (w4 ((w4 ((w4 (st1.1 + 1)) + 1)) + 1)))))] hS ?_; intro s hS
      refine ae_ (sq_n ?_)
      by_cases hc5 : (!decide (y6.Low = (w4 ((w4 ((w4 (st1.1 + 1)) + 1)) + 1)))) = true
      ·have h := ak_ hc5 h
       refine af_ hS rfl (fun _ => ?_) (fun hf => ah_ hc5 hf)
       refine ad_ (ab_ ?_)
       refine qs 1 [(4, i4 (-1))] hS ?_; intro s hS
       refine ae_ (sq_n (ao_ (sq_r (bk_r (sq_r ?_)))))
       injection h with h; subst h
       exact And.intro rfl (aq_ hH (an_ (v := i4 (-1)) hS rfl r_nil) rfl (by kernel_rfl) (by simp [pureT, pureL, E_i64]))
      ·have h := al_ hc5 h
       refine af_ hS rfl (fun hf => ag_ hc5 hf) (fun _ => ?_)
       refine as_ (sq_n (ad_ (ab_ ?_)))
       refine qs 3 [(0, a0.t), (1, i4 (w4 ((w4 ((w4 ((w4 (st1.1 + 1)) + 1)) + 1)) + 1))), (5, i4 st1.2)] hS ?_; intro s hS
       refine ae_ (sq_n (ad_ (ab_ ?_)))
       refine qs 2 [(0, a0.t), (1, i4 (w4 ((w4 ((w4 ((w4 (st1.1 + 1)) + 1)) + 1)) + 1))), (5, i4 st1.2), (49, a0.t), (50, i4 st1.2)] hS ?_; intro s hS
       obtain ⟨y7, hy7, h⟩ := bind_some h
       refine bh_ (sl := a0) (e := 30) [i4 y7.Id, i4 y7.Kind, .str y7.Name, i4 y7.Low, y7.Keys.t, y7.Vals.t, i4 y7.Default.Kind, i4 y7.Default.Num, .str y7.Default.Text, i4 y7.Default.Ref] rfl hS rfl rfl (by kernel_rfl) (by kernel_rfl) hy7 rfl ?_; intro rest5 s hS
       refine qs 3 [(0, a0.t), (5, i4 st1.2), (53, y7.Keys.t), (54, i4 (w4 ((w4 ((w4 ((w4 (st1.1 + 1)) + 1)) + 1)) + 1)))] hS ?_; intro s hS
       obtain ⟨y8, hy8, h⟩ := bind_some h
       refine ar_ (a := []) (b := []) (xs := [y7.Keys.t, i4 (w4 ((w4 ((w4 ((w4 (st1.1 + 1)) + 1)) + 1)) + 1))]) rfl hS rfl rfl hy8 ?_; intro s hS
       refine qs 1 [(0, a0.t), (1, i4 y8), (5, i4 st1.2)] hS ?_; intro s hS
       refine ae_ (sq_n (ad_ (ad_ (ab_ ?_))))
       refine qs 2 [(0, a0.t), (1, i4 y8), (5, i4 st1.2), (57, .bool (decide (y8 < 0)))] hS ?_; intro s hS
       refine ae_ (sq_n ?_)
       by_cases hc6 : (decide (y8 < 0)) = true
       ·have h := ak_ hc6 h
        refine af_ hS rfl (fun _ => ?_) (fun hf => ah_ hc6 hf)
        refine ad_ (ab_ ?_)
        refine qs 1 [(4, i4 (-1))] hS ?_; intro s hS
        refine ae_ (sq_n (ao_ (sq_r (bk_r (sq_r ?_)))))
        injection h with h; subst h
        exact And.intro rfl (aq_ hH (an_ (v := i4 (-1)) hS rfl r_nil) rfl (by kernel_rfl) (by simp [pureT, pureL, E_i64]))
       ·have h := al_ hc6 h
        refine af_ hS rfl (fun hf => ag_ hc6 hf) (fun _ => ?_)
        refine as_ (sq_n (ad_ (ab_ ?_)))
        refine qs 2 [(0, a0.t), (1, i4 y8), (5, i4 st1.2), (58, a0.t), (59, i4 st1.2)] hS ?_; intro s hS
        obtain ⟨y9, hy9, h⟩ := bind_some h
        refine bh_ (sl := a0) (e := 30) [i4 y9.Id, i4 y9.Kind, .str y9.Name, i4 y9.Low, y9.Keys.t, y9.Vals.t, i4 y9.Default.Kind, i4 y9.Default.Num, .str y9.Default.Text, i4 y9.Default.Ref] rfl hS rfl rfl (by kernel_rfl) (by kernel_rfl) hy9 rfl ?_; intro rest6 s hS
        refine qs 3 [(0, a0.t), (5, i4 st1.2), (62, y9.Vals.t), (63, i4 y8)] hS ?_; intro s hS
        obtain ⟨y10, hy10, h⟩ := bind_some h
        refine ar_ (a := []) (b := []) (xs := [y9.Vals.t, i4 y8]) rfl hS rfl rfl hy10 ?_; intro s hS
        refine qs 1 [(0, a0.t), (1, i4 y10), (5, i4 st1.2)] hS ?_; intro s hS
        refine ae_ (sq_n (ad_ (ad_ (ab_ ?_))))
        refine qs 2 [(0, a0.t), (1, i4 y10), (5, i4 st1.2), (66, .bool (decide (y10 < 0)))] hS ?_; intro s hS
        refine ae_ (sq_n ?_)
        by_cases hc7 : (decide (y10 < 0)) = true
        ·have h := ak_ hc7 h
         refine af_ hS rfl (fun _ => ?_) (fun hf => ah_ hc7 hf)
         refine ad_ (ab_ ?_)
         refine qs 1 [(4, i4 (-1))] hS ?_; intro s hS
         refine ae_ (sq_n (ao_ (sq_r (bk_r (sq_r ?_)))))
         injection h with h; subst h
         exact And.intro rfl (aq_ hH (an_ (v := i4 (-1)) hS rfl r_nil) rfl (by kernel_rfl) (by simp [pureT, pureL, E_i64]))
        ·have h := al_ hc7 h
         refine af_ hS rfl (fun hf => ag_ hc7 hf) (fun _ => ?_)
         refine as_ (sq_n (ad_ (ad_ (ab_ ?_))))
         refine qs 2 [(0, a0.t), (1, i4 y10), (5, i4 st1.2), (67, a0.t), (68, i4 st1.2)] hS ?_; intro s hS
         obtain ⟨y11, hy11, h⟩ := bind_some h
         refine bh_ (sl := a0) (e := 30) [i4 y11.Id, i4 y11.Kind, .str y11.Name, i4 y11.Low, y11.Keys.t, y11.Vals.t, i4 y11.Default.Kind, i4 y11.Default.Num, .str y11.Default.Text, i4 y11.Default.Ref] rfl hS rfl rfl (by kernel_rfl) (by kernel_rfl) hy11 rfl ?_; intro rest7 s hS
         refine qs 5 [(0, a0.t), (1, i4 y10), (5, i4 st1.2), (74, .bool (!decide (y11.Default.Kind = y10)))] hS ?_; intro s hS
         refine ae_ (sq_n ?_)
         by_cases hc8 : (!decide (y11.Default.Kind = y10)) = true
         ·have h := ak_ hc8 h
          refine af_ hS rfl (fun _ => ?_) (fun hf => ah_ hc8 hf)
          refine ad_ (ab_ ?_)
          refine qs 1 [(4, i4 (-1))] hS ?_; intro s hS
          refine ae_ (sq_n (ao_ (sq_r (bk_r (sq_r ?_)))))
          injection h with h; subst h
          exact And.intro rfl (aq_ hH (an_ (v := i4 (-1)) hS rfl r_nil) rfl (by kernel_rfl) (by simp [pureT, pureL, E_i64]))
         ·have h := al_ hc8 h
          refine af_ hS rfl (fun hf => ag_ hc8 hf) (fun _ => ?_)
          refine as_ (sq_n (ad_ (ab_ ?_)))
          refine qs 3 [(0, a0.t), (1, i4 (w4 (y10 + 1))), (5, i4 st1.2)] hS ?_; intro s hS
          refine ae_ (sq_n (ad_ (ad_ (ab_ ?_))))
          refine qs 2 [(0, a0.t), (1, i4 (w4 (y10 + 1))), (5, i4 st1.2), (77, a0.t), (78, i4 st1.2)] hS ?_; intro s hS
          obtain ⟨y12, hy12, h⟩ := bind_some h
          refine bh_ (sl := a0) (e := 30) [i4 y12.Id, i4 y12.Kind, .str y12.Name, i4 y12.Low, y12.Keys.t, y12.Vals.t, i4 y12.Default.Kind, i4 y12.Default.Num, .str y12.Default.Text, i4 y12.Default.Ref] rfl hS rfl rfl (by kernel_rfl) (by kernel_rfl) hy12 rfl ?_; intro rest8 s hS
          refine qs 5 [(0, a0.t), (1, i4 (w4 (y10 + 1))), (5, i4 st1.2), (84, .bool (!decide (y12.Default.Num = (w4 (y10 + 1)))))] hS ?_; intro s hS
          refine ae_ (sq_n ?_)
          by_cases hc9 : (!decide (y12.Default.Num = (w4 (y10 + 1)))) = true
          ·have h := ak_ hc9 h
           refine af_ hS rfl (fun _ => ?_) (fun hf => ah_ hc9 hf)
           refine ad_ (ab_ ?_)
           refine qs 1 [(4, i4 (-1))] hS ?_; intro s hS
           refine ae_ (sq_n (ao_ (sq_r (bk_r (sq_r ?_)))))
           injection h with h; subst h
           exact And.intro rfl (aq_ hH (an_ (v := i4 (-1)) hS rfl r_nil) rfl (by kernel_rfl) (by simp [pureT, pureL, E_i64]))
          ·have h := al_ hc9 h
           refine af_ hS rfl (fun hf => ag_ hc9 hf) (fun _ => ?_)
           refine as_ (sq_n (ad_ (ab_ ?_)))
           refine qs 3 [(0, a0.t), (1, i4 (w4 ((w4 (y10 + 1)) + 1))), (5, i4 st1.2)] hS ?_; intro s hS
           refine ae_ (sq_n (ad_ (ad_ ?_)))
           refine dk_ (by kernel_rfl) hH ?_; intro mb σ hH
           refine qs 2 [(0, a0.t), (1, i4 (w4 ((w4 (y10 + 1)) + 1))), (5, i4 st1.2), (87, a0.t), (88, i4 st1.2)] hS ?_; intro s hS
           obtain ⟨y13, hy13, h⟩ := bind_some h
           refine bh_ (sl := a0) (e := 30) [i4 y13.Id, i4 y13.Kind, .str y13.Name, i4 y13.Low, y13.Keys.t, y13.Vals.t, i4 y13.Default.Kind, i4 y13.Default.Num, .str y13.Default.Text, i4 y13.Default.Ref] rfl hS rfl rfl (by kernel_rfl) (by kernel_rfl) hy13 rfl ?_; intro rest9 s hS
           refine qs 4 [(0, a0.t), (1, i4 (w4 ((w4 (y10 + 1)) + 1))), (5, i4 st1.2), (92, .str y13.Default.Text), (93, i4 (w4 ((w4 (y10 + 1)) + 1)))] hS ?_; intro s hS
           obtain ⟨y14, hy14, h⟩ := bind_some h
           refine ar_ (a := []) (b := []) (xs := [i4 (w4 ((w4 (y10 + 1)) + 1))]) rfl hS rfl rfl hy14 ?_; intro s hS
           refine qs 1 [(0, a0.t), (1, i4 (w4 ((w4 (y10 + 1)) + 1))), (5, i4 st1.2), (95, .bool (!decide (y13.Default.Text = y14)))] hS ?_; intro s hS
           refine ae_ (sq_n ?_)
           by_cases hc10 : (!decide (y13.Default.Text = y14)) = true
           ·have h := ak_ hc10 h
            refine af_ hS rfl (fun _ => ?_) (fun hf => ah_ hc10 hf)
            refine ad_ (ab_ ?_)
            refine qs 1 [(4, i4 (-1))] hS ?_; intro s hS
            refine ae_ (sq_n (ao_ (sq_r (bk_r (sq_r ?_)))))
            injection h with h; subst h
            exact And.intro rfl (aq_ hH (an_ (v := i4 (-1)) hS rfl r_nil) rfl (by kernel_rfl) (by simp [pureT, pureL, E_i64]))
           ·have h := al_ hc10 h
            refine af_ hS rfl (fun hf => ag_ hc10 hf) (fun _ => ?_)
            refine as_ (sq_n (ad_ (ab_ ?_)))
            refine qs 3 [(0, a0.t), (1, i4 (w4 ((w4 ((w4 (y10 + 1)) + 1)) + 1))), (5, i4 st1.2)] hS ?_; intro s hS
            refine ae_ (sq_n (ad_ (ad_ (ab_ ?_))))
            refine qs 2 [(0, a0.t), (1, i4 (w4 ((w4 ((w4 (y10 + 1)) + 1)) + 1))), (5, i4 st1.2), (98, a0.t), (99, i4 st1.2)] hS ?_; intro s hS
            obtain ⟨y15, hy15, h⟩ := bind_some h
            refine bh_ (sl := a0) (e := 30) [i4 y15.Id, i4 y15.Kind, .str y15.Name, i4 y15.Low, y15.Keys.t, y15.Vals.t, i4 y15.Default.Kind, i4 y15.Default.Num, .str y15.Default.Text, i4 y15.Default.Ref] rfl hS rfl rfl (by kernel_rfl) (by kernel_rfl) hy15 rfl ?_; intro rest10 s hS
            refine qs 5 [(0, a0.t), (1, i4 (w4 ((w4 ((w4 (y10 + 1)) + 1)) + 1))), (5, i4 st1.2), (105, .bool (!decide (y15.Default.Ref = (w4 ((w4 ((w4 (y10 + 1)) + 1)) + 1)))))] hS ?_; intro s hS
            refine ae_ (sq_n ?_)
            by_cases hc11 : (!decide (y15.Default.Ref = (w4 ((w4 ((w4 (y10 + 1)) + 1)) + 1)))) = true
            ·have h := ak_ hc11 h
             refine af_ hS rfl (fun _ => ?_) (fun hf => ah_ hc11 hf)
             refine ad_ (ab_ ?_)
             refine qs 1 [(4, i4 (-1))] hS ?_; intro s hS
             refine ae_ (sq_n (ao_ (sq_r (bk_r (sq_r ?_)))))
             injection h with h; subst h
             exact And.intro rfl (aq_ hH (an_ (v := i4 (-1)) hS rfl r_nil) rfl (by kernel_rfl) (by simp [pureT, pureL, E_i64]))
            ·have h := al_ hc11 h
             refine af_ hS rfl (fun hf => ag_ hc11 hf) (fun _ => ?_)
             refine as_ (sq_n (ab_ ?_))
             refine qs 3 [(0, a0.t), (1, i4 (w4 ((w4 ((w4 ((w4 (y10 + 1)) + 1)) + 1)) + 1))), (5, i4 st1.2)] hS ?_; intro s hS
             refine ae_ (bk_n (sq_n (ab_ ?_)))
             refine qs 3 [(0, a0.t), (1, i4 (w4 ((w4 ((w4 ((w4 (y10 + 1)) + 1)) + 1)) + 1))), (5, i4 (w4 (st1.2 + 1)))] hS ?_; intro s hS
             refine ae_ ?_
             injection h with h; subst h
             exact And.intro (am_ hS (by kernel_rfl)) hH
  ·have h := al_ hc1 h
   refine af_ hS rfl (fun hf => ag_ hc1 hf) (fun _ => ?_)
   refine ba_ (sq_x ?_)
   injection h with h; subst h
   exact And.intro rfl (And.intro (am_ hS (by kernel_rfl)) hH)
 ·clear hS hH; intro e fr HF; obtain ⟨s, σ⟩ := fr
  rcases y1 with y1 | y1
  ·obtain ⟨rfl, hS, hH⟩ := HF
   refine bk_e (sq_n (ad_ (ab_ ?_)))
   refine qs 2 [(4, i4 y1)] hS ?_; intro s hS
   refine ae_ (sq_n (ao_ ?_))
   injection h with h; subst h
   exact aq_ hH (an_ (v := i4 y1) hS rfl r_nil) rfl (by kernel_rfl) (by simp [pureT, pureL, E_i64])
  ·obtain ⟨rfl, HE⟩ := HF
   refine bk_r (sq_r ?_)
   injection h with h; subst h; exact HE
noncomputable def fD_ (a0 : aj_) (a1 : aa_) : Option (aj_ × Int × Int) := (if (decide (40 ≤ (a0.Objects.l.length : Int))) = true then (some ((⟨0, ⟨true, []⟩⟩ : aj_), 0, 6)) else (if (decide (1000000 ≤ a0.Next)) = true then (some ((⟨0, ⟨true, []⟩⟩ : aj_), 0, 6)) else ((d9_ a0).bind fun y1 => ((bX_ a1).bind fun y2 => ((appS 128 y1.Objects (⟨false, [(⟨(w4 (a0.Next + 1)), y2.Kind, y2.Name, y2.Low, y2.Keys, y2.Vals, y2.Default⟩ : aa_)]⟩ : Sl aa_)).bind fun y3 => (some ((⟨(w4 (a0.Next + 1)), y3⟩ : aj_), (w4 (a0.Next + 1)), 0)))))))
theorem kl_ (a0 : aj_) (a1 : aa_) (r : (aj_ × Int × Int)) (h : fD_ a0 a1 = some r) : fz_ a0 a1 = some r := by
 unfold fD_ at h
 refine kh_ rfl rfl ok_76 (fun bs hb => by obtain ⟨bp0, rfl⟩ := bl1 hb; exact rfl) (fun bs hb => by obtain ⟨bp0, rfl⟩ := bl1 hb; exact (all_cons rfl (all_cons (by kernel_rfl) all_nil))) ?_
 intro σ0 bs s hL hS hH
 obtain ⟨bp0, rfl, hL_bp0⟩ := kT_ hL
 clear hL
 have hS := am_ (L' := [(0, .ptr bp0 0 0 2), (1, .agg (aa_.cells a1))]) hS (by kernel_rfl)
 refine ad_ (ab_ ?_)
 refine aT_ (v := .agg (aa_.cells a1)) (cs := [i4 a1.Id, i4 a1.Kind, .str a1.Name, i4 a1.Low, a1.Keys.t, a1.Vals.t, i4 a1.Default.Kind, i4 a1.Default.Num, .str a1.Default.Text, i4 a1.Default.Ref]) rfl hS hH rfl rfl (by kernel_rfl) ?_; intro b1 σ s hH hS
 refine aO_ (z := [i4 0, (nt aa_)]) rfl hS hH (by kernel_rfl) ?_; intro b2 σ s hH hS
 refine qs 2 [(0, .ptr bp0 0 0 2), (3, .ptr b1 0 0 10), (4, .ptr b2 0 0 2)] hS ?_; intro s hS
 refine ae_ (sq_n (ad_ (ad_ (ab_ ?_))))
 refine qs 3 [(0, .ptr bp0 0 0 2), (3, .ptr b1 0 0 10), (4, .ptr b2 0 0 2), (10, .ptr bp0 0 1 1)] hS ?_; intro s hS
 refine ce_ (v := a0.Objects.t) trivial rfl hS hH hL_bp0 rfl (by kernel_rfl) ?_; intro s hS
 refine qs 3 [(14, .bool (decide (40 ≤ (a0.Objects.l.length : Int)))), (0, .ptr bp0 0 0 2), (3, .ptr b1 0 0 10), (4, .ptr b2 0 0 2)] hS ?_; intro s hS
 by_cases hc1 : (decide (40 ≤ (a0.Objects.l.length : Int))) = true
 ·have h := ak_ hc1 h
  have hS := ap_ hS hc1
  refine qs 6 [(0, .ptr bp0 0 0 2), (3, .ptr b1 0 0 10), (4, .ptr b2 0 0 2), (20, .bool true)] hS ?_; intro s hS
  refine ae_ (sq_n ?_)
  refine af_ (t := true) hS rfl (fun _ => ?_) (fun hf => by cases hf)
  refine ad_ (ab_ ?_)
  refine qs 1 [(4, .ptr b2 0 0 2), (21, .agg [i4 0, (nt aa_)])] hS ?_; intro s hS
  refine aF_ (cs := [i4 0, (nt aa_)]) rfl hS hH rfl rfl (by kernel_rfl) ?_; intro σ s hH hS
  refine qs 2 [(4, .ptr b2 0 0 2), (5, i4 0), (6, i4 6)] hS ?_; intro s hS
  refine ae_ (sq_n (ao_ (sq_r ?_)))
  injection h with h; subst h
  have hH := Heap.addNil hH true 10
  exact a8_ [(T.row true 0 [])] [.box b2 [i4 0, (nt aa_)], .box b1 (aa_.cells a1)] (bf_ (v := .agg [i4 0, (nt aa_)]) hS (hH.at 1 rfl) rfl (by kernel_rfl) (an_ (v := i4 0) hS rfl (an_ (v := i4 6) hS rfl r_nil))) (by kernel_rfl) rfl hH (by kernel_rfl)
 ·have h := al_ hc1 h
  have hS := ap_ hS (aB_ hc1)
  refine qs 3 [(0, .ptr bp0 0 0 2), (3, .ptr b1 0 0 10), (4, .ptr b2 0 0 2), (14, .bool false), (17, .ptr bp0 0 0 1)] hS ?_; intro s hS
  refine ce_ (v := i4 a0.Next) trivial rfl hS hH hL_bp0 rfl (by kernel_rfl) ?_; intro s hS
  refine qs 2 [(0, .ptr bp0 0 0 2), (3, .ptr b1 0 0 10), (4, .ptr b2 0 0 2), (20, .bool (decide (1000000 ≤ a0.Next)))] hS ?_; intro s hS
  refine ae_ (sq_n ?_)
  by_cases hc2 : (decide (1000000 ≤ a0.Next)) = true
  ·have h := ak_ hc2 h
   refine af_ hS rfl (fun _ => ?_) (fun hf => ah_ hc2 hf)
   refine ad_ (ab_ ?_)
   refine qs 1 [(4, .ptr b2 0 0 2), (21, .agg [i4 0, (nt aa_)])] hS ?_; intro s hS
   refine aF_ (cs := [i4 0, (nt aa_)]) rfl hS hH rfl rfl (by kernel_rfl) ?_; intro σ s hH hS
   refine qs 2 [(4, .ptr b2 0 0 2), (5, i4 0), (6, i4 6)] hS ?_; intro s hS
   refine ae_ (sq_n (ao_ (sq_r ?_)))
   injection h with h; subst h
   have hH := Heap.addNil hH true 10
   exact a8_ [(T.row true 0 [])] [.box b2 [i4 0, (nt aa_)], .box b1 (aa_.cells a1)] (bf_ (v := .agg [i4 0, (nt aa_)]) hS (hH.at 1 rfl) rfl (by kernel_rfl) (an_ (v := i4 0) hS rfl (an_ (v := i4 6) hS rfl r_nil))) (by kernel_rfl) rfl hH (by kernel_rfl)
  ·have h := al_ hc2 h
   refine af_ hS rfl (fun hf => ag_ hc2 hf) (fun _ => ?_)
   refine as_ (sq_n (ad_ (ab_ ?_)))
   refine qs 1 [(0, .ptr bp0 0 0 2), (3, .ptr b1 0 0 10), (4, .ptr b2 0 0 2), (22, .ptr bp0 0 0 2)] hS ?_; intro s hS
   obtain ⟨y1, hy1, h⟩ := bind_some h
   refine jF_ rfl (xs := [.ptr bp0 0 0 2]) (cs := [[i4 a0.Next, a0.Objects.t]]) [bp0] rfl hS rfl rfl rfl hH (And.intro (Lent.grow hL_bp0 hH.grow) trivial) hy1 ?_; intro hs σ s hl hH hS
   obtain ⟨t1, rfl⟩ := len1 hl
   have hH : Heap σ0 σ [.own true 10 t1 y1.Objects.t, .box b2 [i4 0, (nt aa_)], .box b1 (aa_.cells a1)] := hH
   have ht1 : aV_ t1 := Heap.one hH
   refine aO_ (z := [i4 0, (nt aa_)]) rfl hS hH (by kernel_rfl) ?_; intro b3 σ s hH hS
   refine aF_ (cs := [i4 y1.Next, t1]) rfl hS hH rfl rfl (by simp [ht1.1, ht1.2]) ?_; intro σ s hH hS
   refine ae_ (sq_n (ad_ (ab_ ?_)))
   refine qs 3 [(3, .ptr b1 0 0 10), (4, .ptr b2 0 0 2), (7, .ptr b3 0 0 2), (26, .ptr bp0 0 0 1)] hS ?_; intro s hS
   refine ce_ (v := i4 a0.Next) trivial rfl hS hH hL_bp0 rfl (by kernel_rfl) ?_; intro s hS
   refine qs 2 [(3, .ptr b1 0 0 10), (4, .ptr b2 0 0 2), (7, .ptr b3 0 0 2), (28, i4 (w4 (a0.Next + 1))), (29, .ptr b3 0 0 1)] hS ?_; intro s hS
   refine a0_ (v := i4 (w4 (a0.Next + 1))) (cs := [i4 (w4 (a0.Next + 1))]) (cells' := [i4 (w4 (a0.Next + 1)), t1]) rfl hS hH rfl rfl rfl (by kernel_rfl) (by kernel_rfl) ?_; intro σ s hH hS
   refine ae_ (sq_n (ad_ (ab_ ?_)))
   refine ai_ (v := .agg (aa_.cells a1)) 3 trivial rfl hS hH rfl rfl (by kernel_rfl) ?_; intro s hS
   obtain ⟨y2, hy2, h⟩ := bind_some h
   refine a2_ (ents := []) (z := false) (ts := [.agg (aa_.cells a1)]) (vs := [.agg (aa_.cells a1)]) rfl rfl hS rfl rfl rfl hH (HL.agg (es1 := []) (es2 := []) (HLi (HLi (HLs (HLi (HLp (HLp (HLi (HLi (HLs (HLi HL.nil)))))))))) HL.nil) hy2 ?_; intro hs σ s hl hH hS
   obtain ⟨t2, t3, rfl⟩ := len2 hl
   have hH : Heap σ0 σ [.own true 4 t2 y2.Keys.t, .own true 4 t3 y2.Vals.t, .box b3 [i4 (w4 (a0.Next + 1)), t1], .own true 10 t1 y1.Objects.t, .box b2 [i4 0, (nt aa_)], .box b1 (aa_.cells a1)] := hH
   have ht2 : aV_ t2 := Heap.one hH
   have ht3 : aV_ t3 := Heap.one (hH.at 1 rfl)
   have hH : Heap σ0 σ [.box b1 (aa_.cells a1), .own true 4 t2 y2.Keys.t, .own true 4 t3 y2.Vals.t, .box b3 [i4 (w4 (a0.Next + 1)), t1], .own true 10 t1 y1.Objects.t, .box b2 [i4 0, (nt aa_)]] := hH.sel [5, 0, 1, 2, 3, 4] rfl (by kernel_rfl)
   refine aF_ (cs := [i4 y2.Id, i4 y2.Kind, .str y2.Name, i4 y2.Low, t2, t3, i4 y2.Default.Kind, i4 y2.Default.Num, .str y2.Default.Text, i4 y2.Default.Ref]) rfl hS hH rfl rfl (by simp [ht2.1, ht2.2, ht3.1, ht3.2]) ?_; intro σ s hH hS
   refine ae_ (sq_n (ad_ (ab_ ?_)))
   refine qs 1 [(3, .ptr b1 0 0 10), (4, .ptr b2 0 0 2), (7, .ptr b3 0 0 2), (32, .ptr b3 0 0 1)] hS ?_; intro s hS
   refine ai_ (v := i4 (w4 (a0.Next + 1))) 3 trivial rfl hS hH rfl rfl (by kernel_rfl) ?_; intro s hS
   refine qs 1 [(3, .ptr b1 0 0 10), (4, .ptr b2 0 0 2), (7, .ptr b3 0 0 2), (33, i4 (w4 (a0.Next + 1))), (34, .ptr b1 0 0 1)] hS ?_; intro s hS
   refine a0_ (v := i4 (w4 (a0.Next + 1))) (cs := [i4 (w4 (a0.Next + 1))]) (cells' := [i4 (w4 (a0.Next + 1)), i4 y2.Kind, .str y2.Name, i4 y2.Low, t2, t3, i4 y2.Default.Kind, i4 y2.Default.Num, .str y2.Default.Text, i4 y2.Default.Ref]) rfl hS hH rfl rfl rfl (by kernel_rfl) (by kernel_rfl) ?_; intro σ s hH hS
   refine ae_ (sq_n (ad_ (ab_ ?_)))
   refine qs 1 [(3, .ptr b1 0 0 10), (4, .ptr b2 0 0 2), (7, .ptr b3 0 0 2), (35, .ptr b3 0 1 1)] hS ?_; intro s hS
   refine ai_ (v := t1) 3 trivial rfl hS hH rfl rfl (by kernel_rfl) ?_; intro s hS
   refine ai_ (v := .agg [i4 (w4 (a0.Next + 1)), i4 y2.Kind, .str y2.Name, i4 y2.Low, t2, t3, i4 y2.Default.Kind, i4 y2.Default.Num, .str y2.Default.Text, i4 y2.Default.Ref]) 0 trivial rfl hS hH rfl rfl (by kernel_rfl) ?_; intro s hS
   have hH : Heap σ0 σ [.own true 4 t2 y2.Keys.t, .own true 4 t3 y2.Vals.t, .box b1 [i4 (w4 (a0.Next + 1)), i4 y2.Kind, .str y2.Name, i4 y2.Low, t2, t3, i4 y2.Default.Kind, i4 y2.Default.Num, .str y2.Default.Text, i4 y2.Default.Ref], .box b3 [i4 (w4 (a0.Next + 1)), t1], .own true 10 t1 y1.Objects.t, .box b2 [i4 0, (nt aa_)]] := hH.sel [1, 2, 0, 3, 4, 5] rfl (by kernel_rfl)
   refine q_bs (ents := [.own true 4 t2 y2.Keys.t, .own true 4 t3 y2.Vals.t]) (e := 30) (sz := 10) (z := true) (vs := [.agg [i4 (w4 (a0.Next + 1)), i4 y2.Kind, .str y2.Name, i4 y2.Low, t2, t3, i4 y2.Default.Kind, i4 y2.Default.Num, .str y2.Default.Text, i4 y2.Default.Ref]]) (zc := [i4 0, i4 0, .str ⟨#[]⟩, i4 0, (nt ac_), (nt ac_), i4 0, i4 0, .str ⟨#[]⟩, i4 0]) (cs := [i4 (w4 (a0.Next + 1)), i4 y2.Kind, .str y2.Name, i4 y2.Low, t2, t3, i4 y2.Default.Kind, i4 y2.Default.Num, .str y2.Default.Text, i4 y2.Default.Ref]) (us := [i4 (w4 (a0.Next + 1)), i4 y2.Kind, .str y2.Name, i4 y2.Low, y2.Keys.t, y2.Vals.t, i4 y2.Default.Kind, i4 y2.Default.Num, .str y2.Default.Text, i4 y2.Default.Ref]) (v := Sl.t (⟨false, [(⟨(w4 (a0.Next + 1)), y2.Kind, y2.Name, y2.Low, y2.Keys, y2.Vals, y2.Default⟩ : aa_)]⟩ : Sl aa_)) rfl hS hH (by kernel_rfl) (by kernel_rfl) (by kernel_rfl) (by kernel_rfl) (by kernel_rfl) (And.intro (by kernel_rfl) (And.intro (by simp [ht2.1, ht2.2, ht3.1, ht3.2]) trivial)) (by kernel_rfl) (HLi (HLi (HLs (HLi (HL.own rfl (HL.own rfl (HLi (HLi (HLs (HLi HL.nil)))))))))) (by kernel_rfl) ?_; intro t4 σ s ht4 hH hS
   have hH : Heap σ0 σ [.own true 10 t1 y1.Objects.t, .own true 10 t4 (Sl.t (⟨false, [(⟨(w4 (a0.Next + 1)), y2.Kind, y2.Name, y2.Low, y2.Keys, y2.Vals, y2.Default⟩ : aa_)]⟩ : Sl aa_)), .box b1 [i4 (w4 (a0.Next + 1)), i4 y2.Kind, .str y2.Name, i4 y2.Low, t2, t3, i4 y2.Default.Kind, i4 y2.Default.Num, .str y2.Default.Text, i4 y2.Default.Ref], .box b3 [i4 (w4 (a0.Next + 1)), t1], .box b2 [i4 0, (nt aa_)]] := hH.sel [3, 0, 1, 2, 4] rfl (by kernel_rfl)
   obtain ⟨y3, hy3, h⟩ := bind_some h
   refine ps_ (z := true) (t1 := t1) (a := y1.Objects) (b := (⟨false, [(⟨(w4 (a0.Next + 1)), y2.Kind, y2.Name, y2.Low, y2.Keys, y2.Vals, y2.Default⟩ : aa_)]⟩ : Sl aa_)) (e := 30) (by_ := 128) (zc := [i4 0, i4 0, .str ⟨#[]⟩, i4 0, (nt ac_), (nt ac_), i4 0, i4 0, .str ⟨#[]⟩, i4 0]) rfl hS hH rfl rfl (by kernel_rfl) (by kernel_rfl) (by kernel_rfl) (by kernel_rfl) (by kernel_rfl) (by kernel_rfl) hy3 ?_; intro t5 σ s ht5 hH hS
   refine qs 1 [(3, .ptr b1 0 0 10), (4, .ptr b2 0 0 2), (7, .ptr b3 0 0 2), (39, t5), (40, .ptr b3 0 1 1)] hS ?_; intro s hS
   have hH : Heap σ0 σ [.box b3 [i4 (w4 (a0.Next + 1)), t1], .own true 10 t5 y3.t, .box b1 [i4 (w4 (a0.Next + 1)), i4 y2.Kind, .str y2.Name, i4 y2.Low, t2, t3, i4 y2.Default.Kind, i4 y2.Default.Num, .str y2.Default.Text, i4 y2.Default.Ref], .box b2 [i4 0, (nt aa_)]] := hH.sel [2, 0, 1, 3] rfl (by kernel_rfl)
   refine a0_ (v := t5) (cs := [t5]) (cells' := [i4 (w4 (a0.Next + 1)), t5]) rfl hS hH rfl rfl (by simp [ht5.1, ht5.2]) (by simp [ht5.1, ht5.2]) (by kernel_rfl) ?_; intro σ s hH hS
   refine ae_ (sq_n (ad_ ?_))
   refine b6_ (W2 (fun _ => False) (fun x => x ∉ ([b1] : List Nat))) (fun _ => rfl) (by kernel_rfl) (by kernel_rfl) hH ?_; intro mb σs σ hn0 hlt hlto hH
   have hlt_b1 : b1 < mb := hlt b1 _ (List.Mem.tail _ (List.Mem.tail _ (List.Mem.head _)))
   have hnwF_b1 : ¬ (fun x => x ∉ ([b1] : List Nat)) b1 := (fun h => h (by simp))
   refine ai_ (v := .agg [i4 (w4 (a0.Next + 1)), t5]) 0 (Or.inl (by kernel_rfl)) rfl hS hH rfl rfl (by kernel_rfl) ?_; intro s hS
   refine qs 1 [(4, .ptr b2 0 0 2), (41, .agg [i4 (w4 (a0.Next + 1)), t5]), (42, .ptr b1 0 0 1)] hS ?_; intro s hS
   refine ai_ (v := i4 (w4 (a0.Next + 1))) 2 (Or.inr ⟨hlt_b1, Or.inr (Or.inl ⟨true, by kernel_rfl, hnwF_b1⟩)⟩) rfl hS hH rfl rfl (by kernel_rfl) ?_; intro s hS
   have hH : Heap σ0 σ [.box b2 [i4 0, (nt aa_)], .box b3 [i4 (w4 (a0.Next + 1)), t5], .own true 10 t5 y3.t, .box b1 [i4 (w4 (a0.Next + 1)), i4 y2.Kind, .str y2.Name, i4 y2.Low, t2, t3, i4 y2.Default.Kind, i4 y2.Default.Num, .str y2.Default.Text, i4 y2.Default.Ref]] := hH.sel [3, 0, 1, 2] rfl (by kernel_rfl)
   refine bC_ rfl (v := .agg [i4 (w4 (a0.Next + 1)), t5]) (cs := [i4 (w4 (a0.Next + 1)), t5]) (cells' := [i4 (w4 (a0.Next + 1)), t5]) (by exact Or.inr ⟨false, by kernel_rfl, (by simp only [List.mem_cons, List.not_mem_nil, or_false, not_or, not_false_eq_true]; exact (Heap.ne hH 3 0 (by decide) rfl rfl).symm)⟩) rfl hS hH rfl rfl rfl (by simp [ht5.1, ht5.2]) (by kernel_rfl) ?_; intro σ s hH hS
   refine qs 2 [(4, .ptr b2 0 0 2), (5, i4 (w4 (a0.Next + 1))), (6, i4 0)] hS ?_; intro s hS
   refine ae_ (sq_n (ao_ ?_))
   injection h with h; subst h
   have hH : Heap σ0 σ [.own true 10 t5 y3.t, .box b2 [i4 (w4 (a0.Next + 1)), t5], .box b3 [i4 (w4 (a0.Next + 1)), t5], .box b1 [i4 (w4 (a0.Next + 1)), i4 y2.Kind, .str y2.Name, i4 y2.Low, t2, t3, i4 y2.Default.Kind, i4 y2.Default.Num, .str y2.Default.Text, i4 y2.Default.Ref]] := hH.sel [2, 0, 1, 3] rfl (by kernel_rfl)
   exact a8_ [t5] [.box b2 [i4 (w4 (a0.Next + 1)), t5], .box b3 [i4 (w4 (a0.Next + 1)), t5], .box b1 [i4 (w4 (a0.Next + 1)), i4 y2.Kind, .str y2.Name, i4 y2.Low, t2, t3, i4 y2.Default.Kind, i4 y2.Default.Num, .str y2.Default.Text, i4 y2.Default.Ref]] (bf_ (v := .agg [i4 (w4 (a0.Next + 1)), t5]) hS (hH.at 1 rfl) rfl (by kernel_rfl) (an_ (v := i4 (w4 (a0.Next + 1))) hS rfl (an_ (v := i4 0) hS rfl r_nil))) (by kernel_rfl) rfl hH (by kernel_rfl)
noncomputable def c7_ (a0 : aj_) (a1 : aa_) : Option (aj_ × Int × Int) := (if (decide ((a0.Objects.l.length : Int) = 40)) = true then (some ((⟨0, ⟨true, []⟩⟩ : aj_), 0, 6)) else (if (decide (a0.Next = 1000000)) = true then (some ((⟨0, ⟨true, []⟩⟩ : aj_), 0, 6)) else ((bw_ a0).bind fun y1 => ((aR_ a1).bind fun y2 => ((appS 128 y1.Objects (⟨false, [(⟨(w4 (y1.Next + 1)), y2.Kind, y2.Name, y2.Low, y2.Keys, y2.Vals, y2.Default⟩ : aa_)]⟩ : Sl aa_)).bind fun y3 => (some ((⟨(w4 (y1.Next + 1)), y3⟩ : aj_), (w4 (y1.Next + 1)), 0)))))))
theorem fX_ (a0 : aj_) (a1 : aa_) (r : (aj_ × Int × Int)) (h : c7_ a0 a1 = some r) : cW_ a0 a1 = some r := by
 unfold c7_ at h
 refine cx_ rfl rfl ok_77 rfl (all_cons (by kernel_rfl) (all_cons (by kernel_rfl) all_nil)) ?_
 intro σ0 s hS hH
 have hS := am_ (L' := [(0, .agg (aj_.cells a0)), (1, .agg (aa_.cells a1))]) hS (by kernel_rfl)
 refine ad_ (ab_ ?_)
 refine aT_ (v := .agg (aj_.cells a0)) (cs := [i4 a0.Next, a0.Objects.t]) rfl hS hH rfl rfl (by kernel_rfl) ?_; intro b1 σ s hH hS
 refine aT_ (v := .agg (aa_.cells a1)) (cs := [i4 a1.Id, i4 a1.Kind, .str a1.Name, i4 a1.Low, a1.Keys.t, a1.Vals.t, i4 a1.Default.Kind, i4 a1.Default.Num, .str a1.Default.Text, i4 a1.Default.Ref]) rfl hS hH rfl rfl (by kernel_rfl) ?_; intro b2 σ s hH hS
 refine aO_ (z := [i4 0, (nt aa_)]) rfl hS hH (by kernel_rfl) ?_; intro b3 σ s hH hS
 refine qs 2 [(2, .ptr b1 0 0 2), (3, .ptr b2 0 0 10), (4, .ptr b3 0 0 2)] hS ?_; intro s hS
 refine ae_ (sq_n (ad_ (ad_ (ab_ ?_))))
 refine qs 1 [(2, .ptr b1 0 0 2), (3, .ptr b2 0 0 10), (4, .ptr b3 0 0 2), (8, .ptr b1 0 1 1)] hS ?_; intro s hS
 refine ai_ (v := a0.Objects.t) 2 trivial rfl hS hH rfl rfl (by kernel_rfl) ?_; intro s hS
 refine qs 3 [(12, .bool (decide ((a0.Objects.l.length : Int) = 40))), (2, .ptr b1 0 0 2), (3, .ptr b2 0 0 10), (4, .ptr b3 0 0 2)] hS ?_; intro s hS
 by_cases hc1 : (decide ((a0.Objects.l.length : Int) = 40)) = true
 ·have h := ak_ hc1 h
  have hS := ap_ hS hc1
  refine qs 4 [(2, .ptr b1 0 0 2), (3, .ptr b2 0 0 10), (4, .ptr b3 0 0 2), (16, .bool true)] hS ?_; intro s hS
  refine ae_ (sq_n ?_)
  refine af_ (t := true) hS rfl (fun _ => ?_) (fun hf => by cases hf)
  refine ad_ (ab_ ?_)
  refine qs 1 [(4, .ptr b3 0 0 2), (17, .agg [i4 0, (nt aa_)])] hS ?_; intro s hS
  refine aF_ (cs := [i4 0, (nt aa_)]) rfl hS hH rfl rfl (by kernel_rfl) ?_; intro σ s hH hS
  refine qs 2 [(4, .ptr b3 0 0 2), (5, i4 0), (6, i4 6)] hS ?_; intro s hS
  refine ae_ (sq_n (ao_ (sq_r ?_)))
  injection h with h; subst h
  have hH := Heap.addNil hH true 10
  exact a8_ [(T.row true 0 [])] [.box b3 [i4 0, (nt aa_)], .box b2 (aa_.cells a1), .box b1 (aj_.cells a0)] (bf_ (v := .agg [i4 0, (nt aa_)]) hS (hH.at 1 rfl) rfl (by kernel_rfl) (an_ (v := i4 0) hS rfl (an_ (v := i4 6) hS rfl r_nil))) (by kernel_rfl) rfl hH (by kernel_rfl)
 ·have h := al_ hc1 h
  have hS := ap_ hS (aB_ hc1)
  refine qs 1 [(2, .ptr b1 0 0 2), (3, .ptr b2 0 0 10), (4, .ptr b3 0 0 2), (12, .bool false), (13, .ptr b1 0 0 1)] hS ?_; intro s hS
  refine ai_ (v := i4 a0.Next) 2 trivial rfl hS hH rfl rfl (by kernel_rfl) ?_; intro s hS
  refine qs 2 [(2, .ptr b1 0 0 2), (3, .ptr b2 0 0 10), (4, .ptr b3 0 0 2), (16, .bool (decide (a0.Next = 1000000)))] hS ?_; intro s hS
  refine ae_ (sq_n ?_)
  by_cases hc2 : (decide (a0.Next = 1000000)) = true
  ·have h := ak_ hc2 h
   refine af_ hS rfl (fun _ => ?_) (fun hf => ah_ hc2 hf)
   refine ad_ (ab_ ?_)
   refine qs 1 [(4, .ptr b3 0 0 2), (17, .agg [i4 0, (nt aa_)])] hS ?_; intro s hS
   refine aF_ (cs := [i4 0, (nt aa_)]) rfl hS hH rfl rfl (by kernel_rfl) ?_; intro σ s hH hS
   refine qs 2 [(4, .ptr b3 0 0 2), (5, i4 0), (6, i4 6)] hS ?_; intro s hS
   refine ae_ (sq_n (ao_ (sq_r ?_)))
   injection h with h; subst h
   have hH := Heap.addNil hH true 10
   exact a8_ [(T.row true 0 [])] [.box b3 [i4 0, (nt aa_)], .box b2 (aa_.cells a1), .box b1 (aj_.cells a0)] (bf_ (v := .agg [i4 0, (nt aa_)]) hS (hH.at 1 rfl) rfl (by kernel_rfl) (an_ (v := i4 0) hS rfl (an_ (v := i4 6) hS rfl r_nil))) (by kernel_rfl) rfl hH (by kernel_rfl)
  ·have h := al_ hc2 h
   refine af_ hS rfl (fun hf => ag_ hc2 hf) (fun _ => ?_)
   refine as_ (sq_n (ad_ (ab_ ?_)))
   refine ai_ (v := .agg (aj_.cells a0)) 2 trivial rfl hS hH rfl rfl (by kernel_rfl) ?_; intro s hS
   obtain ⟨y1, hy1, h⟩ := bind_some h
   refine a2_ (ents := []) (z := false) (ts := [.agg (aj_.cells a0)]) (vs := [.agg (aj_.cells a0)]) rfl rfl hS rfl rfl rfl hH (HL.agg (es1 := []) (es2 := []) (HLi (HLp HL.nil)) HL.nil) hy1 ?_; intro hs σ s hl hH hS
   obtain ⟨t1, rfl⟩ := len1 hl
   have hH : Heap σ0 σ [.own true 10 t1 y1.Objects.t, .box b3 [i4 0, (nt aa_)], .box b2 (aa_.cells a1), .box b1 (aj_.cells a0)] := hH
   have ht1 : aV_ t1 := Heap.one hH
   refine aO_ (z := [i4 0, (nt aa_)]) rfl hS hH (by kernel_rfl) ?_; intro b4 σ s hH hS
   refine aF_ (cs := [i4 y1.Next, t1]) rfl hS hH rfl rfl (by simp [ht1.1, ht1.2]) ?_; intro σ s hH hS
   refine ae_ (sq_n (ad_ (ab_ ?_)))
   refine qs 1 [(3, .ptr b2 0 0 10), (4, .ptr b3 0 0 2), (7, .ptr b4 0 0 2), (20, .ptr b4 0 0 1)] hS ?_; intro s hS
   refine ai_ (v := i4 y1.Next) 0 trivial rfl hS hH rfl rfl (by kernel_rfl) ?_; intro s hS
   refine qs 2 [(3, .ptr b2 0 0 10), (4, .ptr b3 0 0 2), (7, .ptr b4 0 0 2), (22, i4 (w4 (y1.Next + 1))), (23, .ptr b4 0 0 1)] hS ?_; intro s hS
   refine a0_ (v := i4 (w4 (y1.Next + 1))) (cs := [i4 (w4 (y1.Next + 1))]) (cells' := [i4 (w4 (y1.Next + 1)), t1]) rfl hS hH rfl rfl rfl (by kernel_rfl) (by kernel_rfl) ?_; intro σ s hH hS
   refine ae_ (sq_n (ad_ (ab_ ?_)))
   refine ai_ (v := .agg (aa_.cells a1)) 3 trivial rfl hS hH rfl rfl (by kernel_rfl) ?_; intro s hS
   obtain ⟨y2, hy2, h⟩ := bind_some h
   refine a2_ (ents := []) (z := false) (ts := [.agg (aa_.cells a1)]) (vs := [.agg (aa_.cells a1)]) rfl rfl hS rfl rfl rfl hH (HL.agg (es1 := []) (es2 := []) (HLi (HLi (HLs (HLi (HLp (HLp (HLi (HLi (HLs (HLi HL.nil)))))))))) HL.nil) hy2 ?_; intro hs σ s hl hH hS
   obtain ⟨t2, t3, rfl⟩ := len2 hl
   have hH : Heap σ0 σ [.own true 4 t2 y2.Keys.t, .own true 4 t3 y2.Vals.t, .box b4 [i4 (w4 (y1.Next + 1)), t1], .own true 10 t1 y1.Objects.t, .box b3 [i4 0, (nt aa_)], .box b2 (aa_.cells a1), .box b1 (aj_.cells a0)] := hH
   have ht2 : aV_ t2 := Heap.one hH
   have ht3 : aV_ t3 := Heap.one (hH.at 1 rfl)
   have hH : Heap σ0 σ [.box b2 (aa_.cells a1), .own true 4 t2 y2.Keys.t, .own true 4 t3 y2.Vals.t, .box b4 [i4 (w4 (y1.Next + 1)), t1], .own true 10 t1 y1.Objects.t, .box b3 [i4 0, (nt aa_)], .box b1 (aj_.cells a0)] := hH.sel [5, 0, 1, 2, 3, 4, 6] rfl (by kernel_rfl)
   refine aF_ (cs := [i4 y2.Id, i4 y2.Kind, .str y2.Name, i4 y2.Low, t2, t3, i4 y2.Default.Kind, i4 y2.Default.Num, .str y2.Default.Text, i4 y2.Default.Ref]) rfl hS hH rfl rfl (by simp [ht2.1, ht2.2, ht3.1, ht3.2]) ?_; intro σ s hH hS
   refine ae_ (sq_n (ad_ (ab_ ?_)))
   refine qs 1 [(3, .ptr b2 0 0 10), (4, .ptr b3 0 0 2), (7, .ptr b4 0 0 2), (26, .ptr b4 0 0 1)] hS ?_; intro s hS
   refine ai_ (v := i4 (w4 (y1.Next + 1))) 3 trivial rfl hS hH rfl rfl (by kernel_rfl) ?_; intro s hS
   refine qs 1 [(3, .ptr b2 0 0 10), (4, .ptr b3 0 0 2), (7, .ptr b4 0 0 2), (27, i4 (w4 (y1.Next + 1))), (28, .ptr b2 0 0 1)] hS ?_; intro s hS
   refine a0_ (v := i4 (w4 (y1.Next + 1))) (cs := [i4 (w4 (y1.Next + 1))]) (cells' := [i4 (w4 (y1.Next + 1)), i4 y2.Kind, .str y2.Name, i4 y2.Low, t2, t3, i4 y2.Default.Kind, i4 y2.Default.Num, .str y2.Default.Text, i4 y2.Default.Ref]) rfl hS hH rfl rfl rfl (by kernel_rfl) (by kernel_rfl) ?_; intro σ s hH hS
   refine ae_ (sq_n (ad_ (ab_ ?_)))
   refine qs 1 [(3, .ptr b2 0 0 10), (4, .ptr b3 0 0 2), (7, .ptr b4 0 0 2), (29, .ptr b4 0 1 1)] hS ?_; intro s hS
   refine ai_ (v := t1) 3 trivial rfl hS hH rfl rfl (by kernel_rfl) ?_; intro s hS
   refine ai_ (v := .agg [i4 (w4 (y1.Next + 1)), i4 y2.Kind, .str y2.Name, i4 y2.Low, t2, t3, i4 y2.Default.Kind, i4 y2.Default.Num, .str y2.Default.Text, i4 y2.Default.Ref]) 0 trivial rfl hS hH rfl rfl (by kernel_rfl) ?_; intro s hS
   have hH : Heap σ0 σ [.own true 4 t2 y2.Keys.t, .own true 4 t3 y2.Vals.t, .box b2 [i4 (w4 (y1.Next + 1)), i4 y2.Kind, .str y2.Name, i4 y2.Low, t2, t3, i4 y2.Default.Kind, i4 y2.Default.Num, .str y2.Default.Text, i4 y2.Default.Ref], .box b4 [i4 (w4 (y1.Next + 1)), t1], .own true 10 t1 y1.Objects.t, .box b3 [i4 0, (nt aa_)], .box b1 (aj_.cells a0)] := hH.sel [1, 2, 0, 3, 4, 5, 6] rfl (by kernel_rfl)
   refine q_bs (ents := [.own true 4 t2 y2.Keys.t, .own true 4 t3 y2.Vals.t]) (e := 30) (sz := 10) (z := true) (vs := [.agg [i4 (w4 (y1.Next + 1)), i4 y2.Kind, .str y2.Name, i4 y2.Low, t2, t3, i4 y2.Default.Kind, i4 y2.Default.Num, .str y2.Default.Text, i4 y2.Default.Ref]]) (zc := [i4 0, i4 0, .str ⟨#[]⟩, i4 0, (nt ac_), (nt ac_), i4 0, i4 0, .str ⟨#[]⟩, i4 0]) (cs := [i4 (w4 (y1.Next + 1)), i4 y2.Kind, .str y2.Name, i4 y2.Low, t2, t3, i4 y2.Default.Kind, i4 y2.Default.Num, .str y2.Default.Text, i4 y2.Default.Ref]) (us := [i4 (w4 (y1.Next + 1)), i4 y2.Kind, .str y2.Name, i4 y2.Low, y2.Keys.t, y2.Vals.t, i4 y2.Default.Kind, i4 y2.Default.Num, .str y2.Default.Text, i4 y2.Default.Ref]) (v := Sl.t (⟨false, [(⟨(w4 (y1.Next + 1)), y2.Kind, y2.Name, y2.Low, y2.Keys, y2.Vals, y2.Default⟩ : aa_)]⟩ : Sl aa_)) rfl hS hH (by kernel_rfl) (by kernel_rfl) (by kernel_rfl) (by kernel_rfl) (by kernel_rfl) (And.intro (by kernel_rfl) (And.intro (by simp [ht2.1, ht2.2, ht3.1, ht3.2]) trivial)) (by kernel_rfl) (HLi (HLi (HLs (HLi (HL.own rfl (HL.own rfl (HLi (HLi (HLs (HLi HL.nil)))))))))) (by kernel_rfl) ?_; intro t4 σ s ht4 hH hS
   have hH : Heap σ0 σ [.own true 10 t1 y1.Objects.t, .own true 10 t4 (Sl.t (⟨false, [(⟨(w4 (y1.Next + 1)), y2.Kind, y2.Name, y2.Low, y2.Keys, y2.Vals, y2.Default⟩ : aa_)]⟩ : Sl aa_)), .box b2 [i4 (w4 (y1.Next + 1)), i4 y2.Kind, .str y2.Name, i4 y2.Low, t2, t3, i4 y2.Default.Kind, i4 y2.Default.Num, .str y2.Default.Text, i4 y2.Default.Ref], .box b4 [i4 (w4 (y1.Next + 1)), t1], .box b3 [i4 0, (nt aa_)], .box b1 (aj_.cells a0)] := hH.sel [3, 0, 1, 2, 4, 5] rfl (by kernel_rfl)
   obtain ⟨y3, hy3, h⟩ := bind_some h
   refine ps_ (z := true) (t1 := t1) (a := y1.Objects) (b := (⟨false, [(⟨(w4 (y1.Next + 1)), y2.Kind, y2.Name, y2.Low, y2.Keys, y2.Vals, y2.Default⟩ : aa_)]⟩ : Sl aa_)) (e := 30) (by_ := 128) (zc := [i4 0, i4 0, .str ⟨#[]⟩, i4 0, (nt ac_), (nt ac_), i4 0, i4 0, .str ⟨#[]⟩, i4 0]) rfl hS hH rfl rfl (by kernel_rfl) (by kernel_rfl) (by kernel_rfl) (by kernel_rfl) (by kernel_rfl) (by kernel_rfl) hy3 ?_; intro t5 σ s ht5 hH hS
   refine qs 1 [(3, .ptr b2 0 0 10), (4, .ptr b3 0 0 2), (7, .ptr b4 0 0 2), (33, t5), (34, .ptr b4 0 1 1)] hS ?_; intro s hS
   have hH : Heap σ0 σ [.box b4 [i4 (w4 (y1.Next + 1)), t1], .own true 10 t5 y3.t, .box b2 [i4 (w4 (y1.Next + 1)), i4 y2.Kind, .str y2.Name, i4 y2.Low, t2, t3, i4 y2.Default.Kind, i4 y2.Default.Num, .str y2.Default.Text, i4 y2.Default.Ref], .box b3 [i4 0, (nt aa_)], .box b1 (aj_.cells a0)] := hH.sel [2, 0, 1, 3, 4] rfl (by kernel_rfl)
   refine a0_ (v := t5) (cs := [t5]) (cells' := [i4 (w4 (y1.Next + 1)), t5]) rfl hS hH rfl rfl (by simp [ht5.1, ht5.2]) (by simp [ht5.1, ht5.2]) (by kernel_rfl) ?_; intro σ s hH hS
   refine ae_ (sq_n (ad_ ?_))
   refine b6_ (W2 (fun _ => False) (fun x => x ∉ ([b2] : List Nat))) (fun _ => rfl) (by kernel_rfl) (by kernel_rfl) hH ?_; intro mb σs σ hn0 hlt hlto hH
   have hlt_b2 : b2 < mb := hlt b2 _ (List.Mem.tail _ (List.Mem.tail _ (List.Mem.head _)))
   have hnwF_b2 : ¬ (fun x => x ∉ ([b2] : List Nat)) b2 := (fun h => h (by simp))
   refine ai_ (v := .agg [i4 (w4 (y1.Next + 1)), t5]) 0 (Or.inl (by kernel_rfl)) rfl hS hH rfl rfl (by kernel_rfl) ?_; intro s hS
   refine qs 1 [(4, .ptr b3 0 0 2), (35, .agg [i4 (w4 (y1.Next + 1)), t5]), (36, .ptr b2 0 0 1)] hS ?_; intro s hS
   refine ai_ (v := i4 (w4 (y1.Next + 1))) 2 (Or.inr ⟨hlt_b2, Or.inr (Or.inl ⟨true, by kernel_rfl, hnwF_b2⟩)⟩) rfl hS hH rfl rfl (by kernel_rfl) ?_; intro s hS
   have hH : Heap σ0 σ [.box b3 [i4 0, (nt aa_)], .box b4 [i4 (w4 (y1.Next + 1)), t5], .own true 10 t5 y3.t, .box b2 [i4 (w4 (y1.Next + 1)), i4 y2.Kind, .str y2.Name, i4 y2.Low, t2, t3, i4 y2.Default.Kind, i4 y2.Default.Num, .str y2.Default.Text, i4 y2.Default.Ref], .box b1 (aj_.cells a0)] := hH.sel [3, 0, 1, 2, 4] rfl (by kernel_rfl)
   refine bC_ rfl (v := .agg [i4 (w4 (y1.Next + 1)), t5]) (cs := [i4 (w4 (y1.Next + 1)), t5]) (cells' := [i4 (w4 (y1.Next + 1)), t5]) (by exact Or.inr ⟨false, by kernel_rfl, (by simp only [List.mem_cons, List.not_mem_nil, or_false, not_or, not_false_eq_true]; exact (Heap.ne hH 3 0 (by decide) rfl rfl).symm)⟩) rfl hS hH rfl rfl rfl (by simp [ht5.1, ht5.2]) (by kernel_rfl) ?_; intro σ s hH hS
   refine qs 2 [(4, .ptr b3 0 0 2), (5, i4 (w4 (y1.Next + 1))), (6, i4 0)] hS ?_; intro s hS
   refine ae_ (sq_n (ao_ ?_))
   injection h with h; subst h
   have hH : Heap σ0 σ [.own true 10 t5 y3.t, .box b3 [i4 (w4 (y1.Next + 1)), t5], .box b4 [i4 (w4 (y1.Next + 1)), t5], .box b2 [i4 (w4 (y1.Next + 1)), i4 y2.Kind, .str y2.Name, i4 y2.Low, t2, t3, i4 y2.Default.Kind, i4 y2.Default.Num, .str y2.Default.Text, i4 y2.Default.Ref], .box b1 (aj_.cells a0)] := hH.sel [2, 0, 1, 3, 4] rfl (by kernel_rfl)
   exact a8_ [t5] [.box b3 [i4 (w4 (y1.Next + 1)), t5], .box b4 [i4 (w4 (y1.Next + 1)), t5], .box b2 [i4 (w4 (y1.Next + 1)), i4 y2.Kind, .str y2.Name, i4 y2.Low, t2, t3, i4 y2.Default.Kind, i4 y2.Default.Num, .str y2.Default.Text, i4 y2.Default.Ref], .box b1 (aj_.cells a0)] (bf_ (v := .agg [i4 (w4 (y1.Next + 1)), t5]) hS (hH.at 1 rfl) rfl (by kernel_rfl) (an_ (v := i4 (w4 (y1.Next + 1))) hS rfl (an_ (v := i4 0) hS rfl r_nil))) (by kernel_rfl) rfl hH (by kernel_rfl)
noncomputable def fb_ (a0 : aj_) (a1 : (Sl ac_)) : Option Bool := ((fR_ a0).bind fun y1 => (if y1 = true then ((aY_ a0 a1).bind fun y2 => (some y2)) else (some false)))
theorem jI_ (a0 : aj_) (a1 : (Sl ac_)) (r : Bool) (h : fb_ a0 a1 = some r) : fC_ a0 a1 = some r := by
 unfold fb_ at h
 refine iN_ E_bool_inj rfl rfl ok_78 (fun bs hb => by obtain ⟨bp0, rfl⟩ := bl1 hb; exact rfl) (fun bs hb => by obtain ⟨bp0, rfl⟩ := bl1 hb; exact (all_cons rfl (all_cons (by kernel_rfl) all_nil))) ?_
 intro σ0 bs s hL hS hH
 obtain ⟨bp0, rfl, hL_bp0⟩ := kT_ hL
 clear hL
 have hS := am_ (L' := [(0, .ptr bp0 0 0 2), (1, a1.t)]) hS (by kernel_rfl)
 refine ad_ (ab_ ?_)
 refine qs 1 [(0, .ptr bp0 0 0 2), (1, a1.t)] hS ?_; intro s hS
 refine ae_ (sq_n (ad_ (ab_ ?_)))
 refine qs 1 [(0, .ptr bp0 0 0 2), (1, a1.t), (5, .ptr bp0 0 0 2)] hS ?_; intro s hS
 obtain ⟨y1, hy1, h⟩ := bind_some h
 refine fI_ (xs := [.ptr bp0 0 0 2]) (cs := [[i4 a0.Next, a0.Objects.t]]) [bp0] rfl hS rfl rfl rfl (And.intro (Lent.grow hL_bp0 hH.grow) trivial) hy1 ?_; intro s hS
 refine qs 1 [(7, .bool y1), (0, .ptr bp0 0 0 2), (1, a1.t)] hS ?_; intro s hS
 by_cases hc1 : y1 = true
 ·have h := ak_ hc1 h
  have hS := ap_ hS hc1
  refine qs 2 [(7, .bool true), (8, .ptr bp0 0 0 2), (9, a1.t)] hS ?_; intro s hS
  obtain ⟨y2, hy2, h⟩ := bind_some h
  refine fI_ (xs := [.ptr bp0 0 0 2, a1.t]) (cs := [[i4 a0.Next, a0.Objects.t]]) [bp0] rfl hS rfl rfl rfl (And.intro (Lent.grow hL_bp0 hH.grow) trivial) hy2 ?_; intro s hS
  refine qs 2 [(4, .bool y2)] hS ?_; intro s hS
  refine ae_ (sq_n (ao_ ?_))
  injection h with h; subst h
  exact aq_ hH (an_ (v := .bool y2) hS rfl r_nil) rfl (by kernel_rfl) (by simp [pureT, pureL, E_bool])
 ·have h := al_ hc1 h
  have hS := ap_ hS (aB_ hc1)
  refine qs 5 [(4, .bool false)] hS ?_; intro s hS
  refine ae_ (sq_n (ao_ ?_))
  injection h with h; subst h
  exact aq_ hH (an_ (v := .bool false) hS rfl r_nil) rfl (by kernel_rfl) (by simp [pureT, pureL, E_bool])
noncomputable def co_ (a0 : aj_) (a1 : aa_) : Option (aj_ × ac_ × Int) := ((fz_ a0 a1).bind fun y1 => (if (!decide (y1.2.2 = 0)) = true then (some ((⟨0, ⟨true, []⟩⟩ : aj_), (⟨0, 0, ⟨#[]⟩, 0⟩ : ac_), y1.2.2)) else (some (y1.1, (⟨(w4 ((w4 (a1.Kind - 1)) + 4)), 0, ⟨#[]⟩, y1.2.1⟩ : ac_), 0))))
theorem hF_ (a0 : aj_) (a1 : aa_) (r : (aj_ × ac_ × Int)) (h : co_ a0 a1 = some r) : e4_ a0 a1 = some r := by
 unfold co_ at h
 refine kh_ rfl rfl ok_79 (fun bs hb => by obtain ⟨bp0, rfl⟩ := bl1 hb; exact rfl) (fun bs hb => by obtain ⟨bp0, rfl⟩ := bl1 hb; exact (all_cons rfl (all_cons (by kernel_rfl) all_nil))) ?_
 intro σ0 bs s hL hS hH
 obtain ⟨bp0, rfl, hL_bp0⟩ := kT_ hL
 clear hL
 have hS := am_ (L' := [(0, .ptr bp0 0 0 2), (1, .agg (aa_.cells a1))]) hS (by kernel_rfl)
 refine ad_ (ab_ ?_)
 refine aT_ (v := .agg (aa_.cells a1)) (cs := [i4 a1.Id, i4 a1.Kind, .str a1.Name, i4 a1.Low, a1.Keys.t, a1.Vals.t, i4 a1.Default.Kind, i4 a1.Default.Num, .str a1.Default.Text, i4 a1.Default.Ref]) rfl hS hH rfl rfl (by kernel_rfl) ?_; intro b1 σ s hH hS
 refine aO_ (z := [i4 0, (nt aa_)]) rfl hS hH (by kernel_rfl) ?_; intro b2 σ s hH hS
 refine aO_ (z := [i4 0, i4 0, .str ⟨#[]⟩, i4 0]) rfl hS hH (by kernel_rfl) ?_; intro b3 σ s hH hS
 refine qs 1 [(0, .ptr bp0 0 0 2), (3, .ptr b1 0 0 10), (4, .ptr b2 0 0 2), (5, .ptr b3 0 0 4)] hS ?_; intro s hS
 refine ae_ (sq_n (ad_ (ab_ ?_)))
 refine qs 1 [(3, .ptr b1 0 0 10), (4, .ptr b2 0 0 2), (5, .ptr b3 0 0 4), (11, .ptr bp0 0 0 2)] hS ?_; intro s hS
 refine ai_ (v := .agg (aa_.cells a1)) 2 trivial rfl hS hH rfl rfl (by kernel_rfl) ?_; intro s hS
 obtain ⟨y1, hy1, h⟩ := bind_some h
 refine jF_ rfl (xs := [.ptr bp0 0 0 2, .agg (aa_.cells a1)]) (cs := [[i4 a0.Next, a0.Objects.t]]) [bp0] rfl hS rfl rfl rfl hH (And.intro (Lent.grow hL_bp0 hH.grow) trivial) hy1 ?_; intro hs σ s hl hH hS
 obtain ⟨t1, rfl⟩ := len1 hl
 have hH : Heap σ0 σ [.own true 10 t1 y1.1.Objects.t, .box b3 [i4 0, i4 0, .str ⟨#[]⟩, i4 0], .box b2 [i4 0, (nt aa_)], .box b1 (aa_.cells a1)] := hH
 have ht1 : aV_ t1 := Heap.one hH
 refine qs 4 [(3, .ptr b1 0 0 10), (4, .ptr b2 0 0 2), (5, .ptr b3 0 0 4), (14, .agg [i4 y1.1.Next, t1]), (15, i4 y1.2.1), (16, i4 y1.2.2)] hS ?_; intro s hS
 refine aO_ (z := [i4 0, (nt aa_)]) rfl hS hH (by kernel_rfl) ?_; intro b4 σ s hH hS
 refine aF_ (cs := [i4 y1.1.Next, t1]) rfl hS hH rfl rfl (by simp [ht1.1, ht1.2]) ?_; intro σ s hH hS
 refine qs 2 [(3, .ptr b1 0 0 10), (4, .ptr b2 0 0 2), (5, .ptr b3 0 0 4), (7, .ptr b4 0 0 2), (8, i4 y1.2.1), (9, i4 y1.2.2)] hS ?_; intro s hS
 refine ae_ (sq_n (ad_ (ad_ (ab_ ?_))))
 refine qs 2 [(3, .ptr b1 0 0 10), (4, .ptr b2 0 0 2), (5, .ptr b3 0 0 4), (7, .ptr b4 0 0 2), (8, i4 y1.2.1), (9, i4 y1.2.2), (18, .bool (!decide (y1.2.2 = 0)))] hS ?_; intro s hS
 refine ae_ (sq_n ?_)
 by_cases hc1 : (!decide (y1.2.2 = 0)) = true
 ·have h := ak_ hc1 h
  refine af_ hS rfl (fun _ => ?_) (fun hf => ah_ hc1 hf)
  refine ad_ (ab_ ?_)
  refine qs 3 [(4, .ptr b2 0 0 2), (5, .ptr b3 0 0 4), (19, .agg [i4 0, (nt aa_)]), (20, .agg [i4 0, i4 0, .str ⟨#[]⟩, i4 0]), (21, i4 y1.2.2)] hS ?_; intro s hS
  have hH : Heap σ0 σ [.box b2 [i4 0, (nt aa_)], .box b4 [i4 y1.1.Next, t1], .own true 10 t1 y1.1.Objects.t, .box b3 [i4 0, i4 0, .str ⟨#[]⟩, i4 0], .box b1 (aa_.cells a1)] := hH.sel [3, 0, 1, 2, 4] rfl (by kernel_rfl)
  refine aF_ (cs := [i4 0, (nt aa_)]) rfl hS hH rfl rfl (by kernel_rfl) ?_; intro σ s hH hS
  have hH : Heap σ0 σ [.box b3 [i4 0, i4 0, .str ⟨#[]⟩, i4 0], .box b2 [i4 0, (nt aa_)], .box b4 [i4 y1.1.Next, t1], .own true 10 t1 y1.1.Objects.t, .box b1 (aa_.cells a1)] := hH.sel [3, 0, 1, 2, 4] rfl (by kernel_rfl)
  refine aF_ (cs := [i4 0, i4 0, .str ⟨#[]⟩, i4 0]) rfl hS hH rfl rfl (by kernel_rfl) ?_; intro σ s hH hS
  refine qs 1 [(4, .ptr b2 0 0 2), (5, .ptr b3 0 0 4), (6, i4 y1.2.2)] hS ?_; intro s hS
  refine ae_ (sq_n (ao_ (sq_r ?_)))
  injection h with h; subst h
  have hH := Heap.addNil hH true 10
  exact a8_ [(T.row true 0 [])] [.box b3 [i4 0, i4 0, .str ⟨#[]⟩, i4 0], .box b2 [i4 0, (nt aa_)], .box b4 [i4 y1.1.Next, t1], .own true 10 t1 y1.1.Objects.t, .box b1 (aa_.cells a1)] (bf_ (v := .agg [i4 0, (nt aa_)]) hS (hH.at 2 rfl) rfl (by kernel_rfl) (bf_ (v := .agg [i4 0, i4 0, .str ⟨#[]⟩, i4 0]) hS (hH.at 1 rfl) rfl (by kernel_rfl) (an_ (v := i4 y1.2.2) hS rfl r_nil))) (by kernel_rfl) rfl hH (by kernel_rfl)
 ·have h := al_ hc1 h
  refine af_ hS rfl (fun hf => ag_ hc1 hf) (fun _ => ?_)
  refine as_ (sq_n (ad_ ?_))
  refine b6_ (W2 (fun _ => False) (fun x => x ∉ ([b1] : List Nat))) (fun _ => rfl) (by kernel_rfl) (by kernel_rfl) hH ?_; intro mb σs σ hn0 hlt hlto hH
  have hlt_b1 : b1 < mb := hlt b1 _ (List.Mem.tail _ (List.Mem.tail _ (List.Mem.tail _ (List.Mem.tail _ (List.Mem.head _)))))
  have hnwF_b1 : ¬ (fun x => x ∉ ([b1] : List Nat)) b1 := (fun h => h (by simp))
  refine ai_ (v := .agg [i4 y1.1.Next, t1]) 0 (Or.inl (by kernel_rfl)) rfl hS hH rfl rfl (by kernel_rfl) ?_; intro s hS
  refine qs 1 [(4, .ptr b2 0 0 2), (5, .ptr b3 0 0 4), (8, i4 y1.2.1), (22, .agg [i4 y1.1.Next, t1]), (23, .ptr b1 0 1 1)] hS ?_; intro s hS
  refine ai_ (v := i4 a1.Kind) 4 (Or.inr ⟨hlt_b1, Or.inr (Or.inl ⟨true, by kernel_rfl, hnwF_b1⟩)⟩) rfl hS hH rfl rfl (by kernel_rfl) ?_; intro s hS
  refine qs 4 [(4, .ptr b2 0 0 2), (5, .ptr b3 0 0 4), (22, .agg [i4 y1.1.Next, t1]), (28, .agg [i4 (w4 ((w4 (a1.Kind - 1)) + 4)), i4 0, .str ⟨#[]⟩, i4 y1.2.1])] hS ?_; intro s hS
  have hH : Heap σ0 σ [.box b2 [i4 0, (nt aa_)], .box b4 [i4 y1.1.Next, t1], .own true 10 t1 y1.1.Objects.t, .box b3 [i4 0, i4 0, .str ⟨#[]⟩, i4 0], .box b1 (aa_.cells a1)] := hH.sel [3, 0, 1, 2, 4] rfl (by kernel_rfl)
  refine bC_ rfl (v := .agg [i4 y1.1.Next, t1]) (cs := [i4 y1.1.Next, t1]) (cells' := [i4 y1.1.Next, t1]) (by exact Or.inr ⟨false, by kernel_rfl, (by simp only [List.mem_cons, List.not_mem_nil, or_false, not_or, not_false_eq_true]; exact (Heap.ne hH 4 0 (by decide) rfl rfl).symm)⟩) rfl hS hH rfl rfl rfl (by simp [ht1.1, ht1.2]) (by kernel_rfl) ?_; intro σ s hH hS
  have hH : Heap σ0 σ [.box b3 [i4 0, i4 0, .str ⟨#[]⟩, i4 0], .box b2 [i4 y1.1.Next, t1], .box b4 [i4 y1.1.Next, t1], .own true 10 t1 y1.1.Objects.t, .box b1 (aa_.cells a1)] := hH.sel [3, 0, 1, 2, 4] rfl (by kernel_rfl)
  refine bC_ rfl (v := .agg [i4 (w4 ((w4 (a1.Kind - 1)) + 4)), i4 0, .str ⟨#[]⟩, i4 y1.2.1]) (cs := [i4 (w4 ((w4 (a1.Kind - 1)) + 4)), i4 0, .str ⟨#[]⟩, i4 y1.2.1]) (cells' := [i4 (w4 ((w4 (a1.Kind - 1)) + 4)), i4 0, .str ⟨#[]⟩, i4 y1.2.1]) (by exact Or.inr ⟨false, by kernel_rfl, (by simp only [List.mem_cons, List.not_mem_nil, or_false, not_or, not_false_eq_true]; exact (Heap.ne hH 4 0 (by decide) rfl rfl).symm)⟩) rfl hS hH rfl rfl rfl (by kernel_rfl) (by kernel_rfl) ?_; intro σ s hH hS
  refine qs 1 [(4, .ptr b2 0 0 2), (5, .ptr b3 0 0 4), (6, i4 0)] hS ?_; intro s hS
  refine ae_ (sq_n (ao_ ?_))
  injection h with h; subst h
  have hH : Heap σ0 σ [.own true 10 t1 y1.1.Objects.t, .box b3 [i4 (w4 ((w4 (a1.Kind - 1)) + 4)), i4 0, .str ⟨#[]⟩, i4 y1.2.1], .box b2 [i4 y1.1.Next, t1], .box b4 [i4 y1.1.Next, t1], .box b1 (aa_.cells a1)] := hH.sel [3, 0, 1, 2, 4] rfl (by kernel_rfl)
  exact a8_ [t1] [.box b3 [i4 (w4 ((w4 (a1.Kind - 1)) + 4)), i4 0, .str ⟨#[]⟩, i4 y1.2.1], .box b2 [i4 y1.1.Next, t1], .box b4 [i4 y1.1.Next, t1], .box b1 (aa_.cells a1)] (bf_ (v := .agg [i4 y1.1.Next, t1]) hS (hH.at 2 rfl) rfl (by kernel_rfl) (bf_ (v := .agg [i4 (w4 ((w4 (a1.Kind - 1)) + 4)), i4 0, .str ⟨#[]⟩, i4 y1.2.1]) hS (hH.at 1 rfl) rfl (by kernel_rfl) (an_ (v := i4 0) hS rfl r_nil))) (by kernel_rfl) rfl hH (by kernel_rfl)
noncomputable def fi_ (a0 : aj_) (a1 : (Sl ac_)) : Option Int := ((dm_ a0 a1).bind fun y1 => ((db_ y1 1).bind fun y2 => (some y2)))
theorem jJ_ (a0 : aj_) (a1 : (Sl ac_)) (r : Int) (h : fi_ a0 a1 = some r) : fa_ a0 a1 = some r := by
 unfold fi_ at h
 refine ax_ E_i64_inj rfl rfl ok_80 rfl (all_cons (by kernel_rfl) (all_cons (by kernel_rfl) all_nil)) ?_
 intro σ0 s hS hH
 have hS := am_ (L' := [(0, .agg (aj_.cells a0)), (1, a1.t)]) hS (by kernel_rfl)
 refine ad_ (ab_ ?_)
 refine aT_ (v := .agg (aj_.cells a0)) (cs := [i4 a0.Next, a0.Objects.t]) rfl hS hH rfl rfl (by kernel_rfl) ?_; intro b1 σ s hH hS
 refine qs 1 [(1, a1.t), (2, .ptr b1 0 0 2)] hS ?_; intro s hS
 refine ae_ (sq_n (ad_ (ab_ ?_)))
 refine ai_ (v := .agg (aj_.cells a0)) 0 trivial rfl hS hH rfl rfl (by kernel_rfl) ?_; intro s hS
 refine qs 1 [(5, .agg (aj_.cells a0)), (6, a1.t)] hS ?_; intro s hS
 obtain ⟨y1, hy1, h⟩ := bind_some h
 refine ar_ (a := []) (b := []) (xs := [.agg (aj_.cells a0), a1.t]) rfl hS rfl rfl hy1 ?_; intro s hS
 obtain ⟨y2, hy2, h⟩ := bind_some h
 refine ar_ (a := []) (b := []) (xs := [.bool y1, i4 1]) rfl hS rfl rfl hy2 ?_; intro s hS
 refine qs 1 [(4, i4 y2)] hS ?_; intro s hS
 refine ae_ (sq_n (ao_ ?_))
 injection h with h; subst h
 exact aq_ hH (an_ (v := i4 y2) hS rfl r_nil) rfl (by kernel_rfl) (by simp [pureT, pureL, E_i64])
noncomputable def b9_ (a0 : aj_) (a1 : aa_) : Option (aj_ × ac_ × Int) := ((cW_ a0 a1).bind fun y1 => (if (!decide (y1.2.2 = 0)) = true then (some ((⟨0, ⟨true, []⟩⟩ : aj_), (⟨0, 0, ⟨#[]⟩, 0⟩ : ac_), y1.2.2)) else ((bW_ (⟨y1.2.1, a1.Kind, a1.Name, a1.Low, a1.Keys, a1.Vals, a1.Default⟩ : aa_)).bind fun y2 => (some (y1.1, y2, 0)))))
theorem gF_ (a0 : aj_) (a1 : aa_) (r : (aj_ × ac_ × Int)) (h : b9_ a0 a1 = some r) : eO_ a0 a1 = some r := by
 unfold b9_ at h
 refine cx_ rfl rfl ok_81 rfl (all_cons (by kernel_rfl) (all_cons (by kernel_rfl) all_nil)) ?_
 intro σ0 s hS hH
 have hS := am_ (L' := [(0, .agg (aj_.cells a0)), (1, .agg (aa_.cells a1))]) hS (by kernel_rfl)
 refine ad_ (ab_ ?_)
 refine aT_ (v := .agg (aj_.cells a0)) (cs := [i4 a0.Next, a0.Objects.t]) rfl hS hH rfl rfl (by kernel_rfl) ?_; intro b1 σ s hH hS
 refine aT_ (v := .agg (aa_.cells a1)) (cs := [i4 a1.Id, i4 a1.Kind, .str a1.Name, i4 a1.Low, a1.Keys.t, a1.Vals.t, i4 a1.Default.Kind, i4 a1.Default.Num, .str a1.Default.Text, i4 a1.Default.Ref]) rfl hS hH rfl rfl (by kernel_rfl) ?_; intro b2 σ s hH hS
 refine aO_ (z := [i4 0, (nt aa_)]) rfl hS hH (by kernel_rfl) ?_; intro b3 σ s hH hS
 refine aO_ (z := [i4 0, i4 0, .str ⟨#[]⟩, i4 0]) rfl hS hH (by kernel_rfl) ?_; intro b4 σ s hH hS
 refine qs 1 [(2, .ptr b1 0 0 2), (3, .ptr b2 0 0 10), (4, .ptr b3 0 0 2), (5, .ptr b4 0 0 4)] hS ?_; intro s hS
 refine ae_ (sq_n (ad_ (ab_ ?_)))
 refine ai_ (v := .agg (aj_.cells a0)) 3 trivial rfl hS hH rfl rfl (by kernel_rfl) ?_; intro s hS
 refine ai_ (v := .agg (aa_.cells a1)) 2 trivial rfl hS hH rfl rfl (by kernel_rfl) ?_; intro s hS
 obtain ⟨y1, hy1, h⟩ := bind_some h
 refine a2_ (ents := []) (z := false) (ts := [.agg (aj_.cells a0), .agg (aa_.cells a1)]) (vs := [.agg (aj_.cells a0), .agg (aa_.cells a1)]) rfl rfl hS rfl rfl rfl hH (HL.agg (es1 := []) (es2 := []) (HLi (HLp HL.nil)) (HL.agg (es1 := []) (es2 := []) (HLi (HLi (HLs (HLi (HLp (HLp (HLi (HLi (HLs (HLi HL.nil)))))))))) HL.nil)) hy1 ?_; intro hs σ s hl hH hS
 obtain ⟨t1, rfl⟩ := len1 hl
 have hH : Heap σ0 σ [.own true 10 t1 y1.1.Objects.t, .box b4 [i4 0, i4 0, .str ⟨#[]⟩, i4 0], .box b3 [i4 0, (nt aa_)], .box b2 (aa_.cells a1), .box b1 (aj_.cells a0)] := hH
 have ht1 : aV_ t1 := Heap.one hH
 refine qs 4 [(3, .ptr b2 0 0 10), (4, .ptr b3 0 0 2), (5, .ptr b4 0 0 4), (14, .agg [i4 y1.1.Next, t1]), (15, i4 y1.2.1), (16, i4 y1.2.2)] hS ?_; intro s hS
 refine aO_ (z := [i4 0, (nt aa_)]) rfl hS hH (by kernel_rfl) ?_; intro b5 σ s hH hS
 refine aF_ (cs := [i4 y1.1.Next, t1]) rfl hS hH rfl rfl (by simp [ht1.1, ht1.2]) ?_; intro σ s hH hS
 refine qs 2 [(3, .ptr b2 0 0 10), (4, .ptr b3 0 0 2), (5, .ptr b4 0 0 4), (7, .ptr b5 0 0 2), (8, i4 y1.2.1), (9, i4 y1.2.2)] hS ?_; intro s hS
 refine ae_ (sq_n (ad_ (ad_ (ab_ ?_))))
 refine qs 2 [(3, .ptr b2 0 0 10), (4, .ptr b3 0 0 2), (5, .ptr b4 0 0 4), (7, .ptr b5 0 0 2), (8, i4 y1.2.1), (9, i4 y1.2.2), (18, .bool (!decide (y1.2.2 = 0)))] hS ?_; intro s hS
 refine ae_ (sq_n ?_)
 by_cases hc1 : (!decide (y1.2.2 = 0)) = true
 ·have h := ak_ hc1 h
  refine af_ hS rfl (fun _ => ?_) (fun hf => ah_ hc1 hf)
  refine ad_ (ab_ ?_)
  refine qs 3 [(4, .ptr b3 0 0 2), (5, .ptr b4 0 0 4), (19, .agg [i4 0, (nt aa_)]), (20, .agg [i4 0, i4 0, .str ⟨#[]⟩, i4 0]), (21, i4 y1.2.2)] hS ?_; intro s hS
  have hH : Heap σ0 σ [.box b3 [i4 0, (nt aa_)], .box b5 [i4 y1.1.Next, t1], .own true 10 t1 y1.1.Objects.t, .box b4 [i4 0, i4 0, .str ⟨#[]⟩, i4 0], .box b2 (aa_.cells a1), .box b1 (aj_.cells a0)] := hH.sel [3, 0, 1, 2, 4, 5] rfl (by kernel_rfl)
  refine aF_ (cs := [i4 0, (nt aa_)]) rfl hS hH rfl rfl (by kernel_rfl) ?_; intro σ s hH hS
  have hH : Heap σ0 σ [.box b4 [i4 0, i4 0, .str ⟨#[]⟩, i4 0], .box b3 [i4 0, (nt aa_)], .box b5 [i4 y1.1.Next, t1], .own true 10 t1 y1.1.Objects.t, .box b2 (aa_.cells a1), .box b1 (aj_.cells a0)] := hH.sel [3, 0, 1, 2, 4, 5] rfl (by kernel_rfl)
  refine aF_ (cs := [i4 0, i4 0, .str ⟨#[]⟩, i4 0]) rfl hS hH rfl rfl (by kernel_rfl) ?_; intro σ s hH hS
  refine qs 1 [(4, .ptr b3 0 0 2), (5, .ptr b4 0 0 4), (6, i4 y1.2.2)] hS ?_; intro s hS
  refine ae_ (sq_n (ao_ (sq_r ?_)))
  injection h with h; subst h
  have hH := Heap.addNil hH true 10
  exact a8_ [(T.row true 0 [])] [.box b4 [i4 0, i4 0, .str ⟨#[]⟩, i4 0], .box b3 [i4 0, (nt aa_)], .box b5 [i4 y1.1.Next, t1], .own true 10 t1 y1.1.Objects.t, .box b2 (aa_.cells a1), .box b1 (aj_.cells a0)] (bf_ (v := .agg [i4 0, (nt aa_)]) hS (hH.at 2 rfl) rfl (by kernel_rfl) (bf_ (v := .agg [i4 0, i4 0, .str ⟨#[]⟩, i4 0]) hS (hH.at 1 rfl) rfl (by kernel_rfl) (an_ (v := i4 y1.2.2) hS rfl r_nil))) (by kernel_rfl) rfl hH (by kernel_rfl)
 ·have h := al_ hc1 h
  refine af_ hS rfl (fun hf => ag_ hc1 hf) (fun _ => ?_)
  refine as_ (sq_n (ad_ (ab_ ?_)))
  refine qs 2 [(3, .ptr b2 0 0 10), (4, .ptr b3 0 0 2), (5, .ptr b4 0 0 4), (7, .ptr b5 0 0 2), (22, i4 y1.2.1), (23, .ptr b2 0 0 1)] hS ?_; intro s hS
  have hH : Heap σ0 σ [.box b2 (aa_.cells a1), .box b5 [i4 y1.1.Next, t1], .own true 10 t1 y1.1.Objects.t, .box b4 [i4 0, i4 0, .str ⟨#[]⟩, i4 0], .box b3 [i4 0, (nt aa_)], .box b1 (aj_.cells a0)] := hH.sel [4, 0, 1, 2, 3, 5] rfl (by kernel_rfl)
  refine a0_ (v := i4 y1.2.1) (cs := [i4 y1.2.1]) (cells' := [i4 y1.2.1, i4 a1.Kind, .str a1.Name, i4 a1.Low, a1.Keys.t, a1.Vals.t, i4 a1.Default.Kind, i4 a1.Default.Num, .str a1.Default.Text, i4 a1.Default.Ref]) rfl hS hH rfl rfl rfl (by kernel_rfl) (by kernel_rfl) ?_; intro σ s hH hS
  refine ae_ (sq_n (ad_ ?_))
  refine b6_ (W2 (fun _ => False) (fun _ => True)) (fun _ => rfl) (by kernel_rfl) (by kernel_rfl) hH ?_; intro mb σs σ hn0 hlt hlto hH
  have hlt_b5 : b5 < mb := hlt b5 _ (List.Mem.tail _ (List.Mem.head _))
  refine ai_ (v := .agg [i4 y1.1.Next, t1]) 1 (Or.inr ⟨hlt_b5, Or.inl (by kernel_rfl)⟩) rfl hS hH rfl rfl (by kernel_rfl) ?_; intro s hS
  refine ai_ (v := .agg [i4 y1.2.1, i4 a1.Kind, .str a1.Name, i4 a1.Low, a1.Keys.t, a1.Vals.t, i4 a1.Default.Kind, i4 a1.Default.Num, .str a1.Default.Text, i4 a1.Default.Ref]) 0 (Or.inl (by kernel_rfl)) rfl hS hH rfl rfl (by kernel_rfl) ?_; intro s hS
  obtain ⟨y2, hy2, h⟩ := bind_some h
  refine ar_ (a := []) (b := []) (xs := [.agg [i4 y1.2.1, i4 a1.Kind, .str a1.Name, i4 a1.Low, a1.Keys.t, a1.Vals.t, i4 a1.Default.Kind, i4 a1.Default.Num, .str a1.Default.Text, i4 a1.Default.Ref]]) rfl hS rfl rfl hy2 ?_; intro s hS
  have hH : Heap σ0 σ [.box b3 [i4 0, (nt aa_)], .box b2 [i4 y1.2.1, i4 a1.Kind, .str a1.Name, i4 a1.Low, a1.Keys.t, a1.Vals.t, i4 a1.Default.Kind, i4 a1.Default.Num, .str a1.Default.Text, i4 a1.Default.Ref], .box b5 [i4 y1.1.Next, t1], .own true 10 t1 y1.1.Objects.t, .box b4 [i4 0, i4 0, .str ⟨#[]⟩, i4 0], .box b1 (aj_.cells a0)] := hH.sel [4, 0, 1, 2, 3, 5] rfl (by kernel_rfl)
  refine bC_ rfl (v := .agg [i4 y1.1.Next, t1]) (cs := [i4 y1.1.Next, t1]) (cells' := [i4 y1.1.Next, t1]) (by exact Or.inr ⟨false, by kernel_rfl, trivial⟩) rfl hS hH rfl rfl rfl (by simp [ht1.1, ht1.2]) (by kernel_rfl) ?_; intro σ s hH hS
  have hH : Heap σ0 σ [.box b4 [i4 0, i4 0, .str ⟨#[]⟩, i4 0], .box b3 [i4 y1.1.Next, t1], .box b2 [i4 y1.2.1, i4 a1.Kind, .str a1.Name, i4 a1.Low, a1.Keys.t, a1.Vals.t, i4 a1.Default.Kind, i4 a1.Default.Num, .str a1.Default.Text, i4 a1.Default.Ref], .box b5 [i4 y1.1.Next, t1], .own true 10 t1 y1.1.Objects.t, .box b1 (aj_.cells a0)] := hH.sel [4, 0, 1, 2, 3, 5] rfl (by kernel_rfl)
  refine bC_ rfl (v := .agg (ac_.cells y2)) (cs := [i4 y2.Kind, i4 y2.Num, .str y2.Text, i4 y2.Ref]) (cells' := [i4 y2.Kind, i4 y2.Num, .str y2.Text, i4 y2.Ref]) (by exact Or.inr ⟨false, by kernel_rfl, trivial⟩) rfl hS hH rfl rfl rfl (by kernel_rfl) (by kernel_rfl) ?_; intro σ s hH hS
  refine qs 1 [(4, .ptr b3 0 0 2), (5, .ptr b4 0 0 4), (6, i4 0)] hS ?_; intro s hS
  refine ae_ (sq_n (ao_ ?_))
  injection h with h; subst h
  have hH : Heap σ0 σ [.own true 10 t1 y1.1.Objects.t, .box b4 (ac_.cells y2), .box b3 [i4 y1.1.Next, t1], .box b2 [i4 y1.2.1, i4 a1.Kind, .str a1.Name, i4 a1.Low, a1.Keys.t, a1.Vals.t, i4 a1.Default.Kind, i4 a1.Default.Num, .str a1.Default.Text, i4 a1.Default.Ref], .box b5 [i4 y1.1.Next, t1], .box b1 (aj_.cells a0)] := hH.sel [4, 0, 1, 2, 3, 5] rfl (by kernel_rfl)
  exact a8_ [t1] [.box b4 (ac_.cells y2), .box b3 [i4 y1.1.Next, t1], .box b2 [i4 y1.2.1, i4 a1.Kind, .str a1.Name, i4 a1.Low, a1.Keys.t, a1.Vals.t, i4 a1.Default.Kind, i4 a1.Default.Num, .str a1.Default.Text, i4 a1.Default.Ref], .box b5 [i4 y1.1.Next, t1], .box b1 (aj_.cells a0)] (bf_ (v := .agg [i4 y1.1.Next, t1]) hS (hH.at 2 rfl) rfl (by kernel_rfl) (bf_ (v := .agg (ac_.cells y2)) hS (hH.at 1 rfl) rfl (by kernel_rfl) (an_ (v := i4 0) hS rfl r_nil))) (by kernel_rfl) rfl hH (by kernel_rfl)
noncomputable def fE_ (a0 : aj_) (a1 : ac_) (a2 : ByteArray) : Option (Int × Int × Int) := (if (!decide (a1.Kind = 6)) = true then (some (0, 0, 4)) else ((b8_ a0 a1).bind fun y1 => ((elt a0.Objects y1).bind fun y2 => ((d7_ a2).bind fun y3 => ((a4_ y2.Keys y3).bind fun y4 => ((db_ (decide (0 ≤ y4)) 11).bind fun y5 => (some (y1, y4, y5))))))))
theorem mZ_ (a0 : aj_) (a1 : ac_) (a2 : ByteArray) (r : (Int × Int × Int)) (h : fE_ a0 a1 a2 = some r) : h0_ a0 a1 a2 = some r := by
 unfold fE_ at h
 refine ax_ E_t3_i64_i64_i64_inj rfl rfl ok_83 rfl (all_cons (by kernel_rfl) (all_cons (by kernel_rfl) (all_cons (by kernel_rfl) all_nil))) ?_
 intro σ0 s hS hH
 have hS := am_ (L' := [(0, .agg (aj_.cells a0)), (1, .agg (ac_.cells a1)), (2, .str a2)]) hS (by kernel_rfl)
 refine ad_ (ab_ ?_)
 refine aT_ (v := .agg (aj_.cells a0)) (cs := [i4 a0.Next, a0.Objects.t]) rfl hS hH rfl rfl (by kernel_rfl) ?_; intro b1 σ s hH hS
 refine aT_ (v := .agg (ac_.cells a1)) (cs := [i4 a1.Kind, i4 a1.Num, .str a1.Text, i4 a1.Ref]) rfl hS hH rfl rfl (by kernel_rfl) ?_; intro b2 σ s hH hS
 refine qs 3 [(2, .str a2), (3, .ptr b1 0 0 2), (4, .ptr b2 0 0 4)] hS ?_; intro s hS
 refine ae_ (sq_n (ad_ (ad_ (ab_ ?_))))
 refine qs 1 [(2, .str a2), (3, .ptr b1 0 0 2), (4, .ptr b2 0 0 4), (11, .ptr b2 0 0 1)] hS ?_; intro s hS
 refine ai_ (v := i4 a1.Kind) 0 trivial rfl hS hH rfl rfl (by kernel_rfl) ?_; intro s hS
 refine qs 1 [(2, .str a2), (3, .ptr b1 0 0 2), (4, .ptr b2 0 0 4), (13, .bool (!decide (a1.Kind = 6)))] hS ?_; intro s hS
 refine ae_ (sq_n ?_)
 by_cases hc1 : (!decide (a1.Kind = 6)) = true
 ·have h := ak_ hc1 h
  refine af_ hS rfl (fun _ => ?_) (fun hf => ah_ hc1 hf)
  refine ad_ (ab_ ?_)
  refine qs 3 [(6, i4 0), (7, i4 0), (8, i4 4)] hS ?_; intro s hS
  refine ae_ (sq_n (ao_ (sq_r ?_)))
  injection h with h; subst h
  exact aq_ hH (an_ (v := i4 0) hS rfl (an_ (v := i4 0) hS rfl (an_ (v := i4 4) hS rfl r_nil))) rfl (by kernel_rfl) (by simp [pureT, pureL, E_t3_i64_i64_i64])
 ·have h := al_ hc1 h
  refine af_ hS rfl (fun hf => ag_ hc1 hf) (fun _ => ?_)
  refine as_ (sq_n (ad_ (ab_ ?_)))
  refine ai_ (v := .agg (aj_.cells a0)) 1 trivial rfl hS hH rfl rfl (by kernel_rfl) ?_; intro s hS
  refine ai_ (v := .agg (ac_.cells a1)) 0 trivial rfl hS hH rfl rfl (by kernel_rfl) ?_; intro s hS
  obtain ⟨y1, hy1, h⟩ := bind_some h
  refine ar_ (a := []) (b := []) (xs := [.agg (aj_.cells a0), .agg (ac_.cells a1)]) rfl hS rfl rfl hy1 ?_; intro s hS
  refine qs 1 [(2, .str a2), (3, .ptr b1 0 0 2), (9, i4 y1)] hS ?_; intro s hS
  refine ae_ (sq_n (ad_ ?_))
  refine dk_ (by kernel_rfl) hH ?_; intro mb σ hH
  refine qs 1 [(2, .str a2), (9, i4 y1), (17, .ptr b1 0 1 1)] hS ?_; intro s hS
  refine ai_ (v := a0.Objects.t) 1 trivial rfl hS hH rfl rfl (by kernel_rfl) ?_; intro s hS
  refine qs 1 [(2, .str a2), (9, i4 y1), (18, a0.Objects.t), (19, i4 y1)] hS ?_; intro s hS
  obtain ⟨y2, hy2, h⟩ := bind_some h
  refine bh_ (sl := a0.Objects) (e := 30) [i4 y2.Id, i4 y2.Kind, .str y2.Name, i4 y2.Low, y2.Keys.t, y2.Vals.t, i4 y2.Default.Kind, i4 y2.Default.Num, .str y2.Default.Text, i4 y2.Default.Ref] rfl hS rfl rfl (by kernel_rfl) (by kernel_rfl) hy2 rfl ?_; intro rest1 s hS
  refine qs 3 [(9, i4 y1), (22, y2.Keys.t), (23, .str a2)] hS ?_; intro s hS
  obtain ⟨y3, hy3, h⟩ := bind_some h
  refine ar_ (a := []) (b := []) (xs := [.str a2]) rfl hS rfl rfl hy3 ?_; intro s hS
  obtain ⟨y4, hy4, h⟩ := bind_some h
  refine ar_ (a := []) (b := []) (xs := [y2.Keys.t, .agg (ac_.cells y3)]) rfl hS rfl rfl hy4 ?_; intro s hS
  refine qs 1 [(9, i4 y1), (10, i4 y4)] hS ?_; intro s hS
  refine ae_ (sq_n (ad_ (ab_ ?_)))
  refine qs 4 [(26, i4 y1), (27, i4 y4), (29, .bool (decide (0 ≤ y4)))] hS ?_; intro s hS
  obtain ⟨y5, hy5, h⟩ := bind_some h
  refine ar_ (a := []) (b := []) (xs := [.bool (decide (0 ≤ y4)), i4 11]) rfl hS rfl rfl hy5 ?_; intro s hS
  refine qs 3 [(6, i4 y1), (7, i4 y4), (8, i4 y5)] hS ?_; intro s hS
  refine ae_ (sq_n (ao_ ?_))
  injection h with h; subst h
  exact aq_ hH (an_ (v := i4 y1) hS rfl (an_ (v := i4 y4) hS rfl (an_ (v := i4 y5) hS rfl r_nil))) rfl (by kernel_rfl) (by simp [pureT, pureL, E_t3_i64_i64_i64])
noncomputable def ev_ (a0 : ac_) : Option Bool := ((a7_ a0.Kind 4 6).bind fun y1 => (some y1))
theorem iC_ (a0 : ac_) (r : Bool) (h : ev_ a0 = some r) : en_ a0 = some r := by
 unfold ev_ at h
 refine ax_ E_bool_inj rfl rfl ok_84 rfl (all_cons (by kernel_rfl) all_nil) ?_
 intro σ0 s hS hH
 have hS := am_ (L' := [(0, .agg (ac_.cells a0))]) hS (by kernel_rfl)
 refine ad_ (ab_ ?_)
 refine aT_ (v := .agg (ac_.cells a0)) (cs := [i4 a0.Kind, i4 a0.Num, .str a0.Text, i4 a0.Ref]) rfl hS hH rfl rfl (by kernel_rfl) ?_; intro b1 σ s hH hS
 refine qs 1 [(1, .ptr b1 0 0 4)] hS ?_; intro s hS
 refine ae_ (sq_n (ad_ (ab_ ?_)))
 refine qs 1 [(3, .ptr b1 0 0 1)] hS ?_; intro s hS
 refine ai_ (v := i4 a0.Kind) 0 trivial rfl hS hH rfl rfl (by kernel_rfl) ?_; intro s hS
 obtain ⟨y1, hy1, h⟩ := bind_some h
 refine ar_ (a := []) (b := []) (xs := [i4 a0.Kind, i4 4, i4 6]) rfl hS rfl rfl hy1 ?_; intro s hS
 refine qs 1 [(2, .bool y1)] hS ?_; intro s hS
 refine ae_ (sq_n (ao_ ?_))
 injection h with h; subst h
 exact aq_ hH (an_ (v := .bool y1) hS rfl r_nil) rfl (by kernel_rfl) (by simp [pureT, pureL, E_bool])
noncomputable def ga_ (a0 : (Sl (Iv .i64))) : Option Int := ((aM_ (S := Int) (R := (Unit ⊕ Int)) (fun st1 => (if (decide (st1 < (a0.l.length : Int))) = true then ((elt a0 st1).bind fun y2 => (if (!decide (y2.v = 0)) = true then (some (.inr (.inr y2.v))) else (some (.inl (w4 (st1 + 1)))))) else (some (.inr (.inl ()))))) 0).bind fun y1 => (Sum.elim (fun y1 => (some 0)) (fun y1 => (some y1)) y1))
theorem kH_ (a0 : (Sl (Iv .i64))) (r : Int) (h : ga_ a0 = some r) : fQ_ a0 = some r := by
 unfold ga_ at h
 refine ax_ E_i64_inj rfl rfl ok_85 rfl (all_cons (by kernel_rfl) all_nil) ?_
 intro σ0 s hS hH
 have hS := am_ (L' := [(0, a0.t)]) hS (by kernel_rfl)
 refine ad_ (ab_ ?_)
 refine qs 1 [(0, a0.t)] hS ?_; intro s hS
 refine ae_ (sq_n (ad_ (ad_ (ab_ ?_))))
 refine qs 3 [(5, a0.t), (6, i4 (a0.l.length : Int)), (7, i4 0)] hS ?_; intro s hS
 refine ae_ (sq_n (aw_ ?_))
 obtain ⟨y1, hy1, h⟩ := bind_some h
 refine bd_ (fun (st1 : Int) (fr : Fr) => Sub [(5, a0.t), (6, i4 (a0.l.length : Int)), (7, i4 st1)] fr.s ∧ Heap σ0 fr.σ []) (fun (y1 : (Unit ⊕ Int)) (e : aC_) (fr : Fr) => (Sum.elim (fun y => e = (.exit 0) ∧ Sub [] fr.s ∧ Heap σ0 fr.σ []) (fun y => e = .ret ∧ endW Try.prog (Try.f85.results.toList) σ0 (E_i64 y) .ret fr)) y1) hy1 (And.intro (am_ hS (by kernel_rfl)) hH) ?_ ?_
 ·clear h hy1 hS hH; clear y1; intro st1 x fr h HI; obtain ⟨s, σ⟩ := fr; obtain ⟨hS, hH⟩ := HI
  refine ad_ (ab_ ?_)
  refine qs 1 [(5, a0.t), (6, i4 (a0.l.length : Int)), (7, i4 st1), (8, .bool (decide (st1 < (a0.l.length : Int))))] hS ?_; intro s hS
  refine ae_ (sq_n (ad_ ?_))
  by_cases hc1 : (decide (st1 < (a0.l.length : Int))) = true
  ·have h := ak_ hc1 h
   refine af_ hS rfl (fun _ => ?_) (fun hf => ah_ hc1 hf)
   refine as_ (sq_n (ad_ (aw_ (ad_ (ab_ ?_)))))
   obtain ⟨y2, hy2, h⟩ := bind_some h
   refine bh_ (sl := a0) (e := 2) [i4 y2.v] rfl hS rfl rfl (by kernel_rfl) (by kernel_rfl) hy2 rfl ?_; intro rest1 s hS
   refine qs 2 [(4, i4 y2.v), (5, a0.t), (6, i4 (a0.l.length : Int)), (7, i4 st1)] hS ?_; intro s hS
   refine ae_ (sq_n (ad_ (ab_ ?_)))
   refine qs 2 [(4, i4 y2.v), (5, a0.t), (6, i4 (a0.l.length : Int)), (7, i4 st1), (12, .bool (!decide (y2.v = 0)))] hS ?_; intro s hS
   refine ae_ (sq_n ?_)
   by_cases hc2 : (!decide (y2.v = 0)) = true
   ·have h := ak_ hc2 h
    refine af_ hS rfl (fun _ => ?_) (fun hf => ah_ hc2 hf)
    refine ad_ (ab_ ?_)
    refine qs 2 [(2, i4 y2.v)] hS ?_; intro s hS
    refine ae_ (sq_n (ao_ (bk_r (sq_r ?_))))
    injection h with h; subst h
    exact And.intro rfl (aq_ hH (an_ (v := i4 y2.v) hS rfl r_nil) rfl (by kernel_rfl) (by simp [pureT, pureL, E_i64]))
   ·have h := al_ hc2 h
    refine af_ hS rfl (fun hf => ag_ hc2 hf) (fun _ => ?_)
    refine as_ (bk_n (sq_n (ab_ ?_)))
    refine qs 2 [(5, a0.t), (6, i4 (a0.l.length : Int)), (7, i4 (w4 (st1 + 1)))] hS ?_; intro s hS
    refine ae_ ?_
    injection h with h; subst h
    exact And.intro (am_ hS (by kernel_rfl)) hH
  ·have h := al_ hc1 h
   refine af_ hS rfl (fun hf => ag_ hc1 hf) (fun _ => ?_)
   refine ba_ (sq_x ?_)
   injection h with h; subst h
   exact And.intro rfl (And.intro (am_ hS (by kernel_rfl)) hH)
 ·clear hS hH; intro e fr HF; obtain ⟨s, σ⟩ := fr
  rcases y1 with y1 | y1
  ·obtain ⟨rfl, hS, hH⟩ := HF
   refine bk_e (sq_n (ad_ (ab_ ?_)))
   refine qs 1 [(2, i4 0)] hS ?_; intro s hS
   refine ae_ (sq_n (ao_ ?_))
   injection h with h; subst h
   exact aq_ hH (an_ (v := i4 0) hS rfl r_nil) rfl (by kernel_rfl) (by simp [pureT, pureL, E_i64])
  ·obtain ⟨rfl, HE⟩ := HF
   refine bk_r (sq_r ?_)
   injection h with h; subst h; exact HE
noncomputable def fv_ (a0 : Bool) (a1 : Int) : Option Int := (if a0 = true then (some 0) else (some a1))
theorem jZ_ (a0 : Bool) (a1 : Int) (r : Int) (h : fv_ a0 a1 = some r) : db_ a0 a1 = some r := by
 unfold fv_ at h
 refine ax_ E_i64_inj rfl rfl ok_86 rfl (all_cons (by kernel_rfl) (all_cons (by kernel_rfl) all_nil)) ?_
 intro σ0 s hS hH
 have hS := am_ (L' := [(0, .bool a0), (1, i4 a1)]) hS (by kernel_rfl)
 refine ad_ (ab_ ?_)
 refine qs 1 [(0, .bool a0), (1, i4 a1)] hS ?_; intro s hS
 refine ae_ (sq_n (ad_ (ad_ (ab_ ?_))))
 refine qs 1 [(1, i4 a1), (5, .bool a0)] hS ?_; intro s hS
 refine ae_ (sq_n ?_)
 by_cases hc1 : a0 = true
 ·have h := ak_ hc1 h
  refine af_ hS rfl (fun _ => ?_) (fun hf => ah_ hc1 hf)
  refine ad_ (ab_ ?_)
  refine qs 1 [(4, i4 0)] hS ?_; intro s hS
  refine ae_ (sq_n (ao_ (sq_r ?_)))
  injection h with h; subst h
  exact aq_ hH (an_ (v := i4 0) hS rfl r_nil) rfl (by kernel_rfl) (by simp [pureT, pureL, E_i64])
 ·have h := al_ hc1 h
  refine af_ hS rfl (fun hf => ag_ hc1 hf) (fun _ => ?_)
  refine as_ (sq_n (ad_ (ab_ ?_)))
  refine qs 2 [(4, i4 a1)] hS ?_; intro s hS
  refine ae_ (sq_n (ao_ ?_))
  injection h with h; subst h
  exact aq_ hH (an_ (v := i4 a1) hS rfl r_nil) rfl (by kernel_rfl) (by simp [pureT, pureL, E_i64])
noncomputable def fx_ (a0 : Int) : Option Bool := ((bR_ a0 4 6).bind fun y1 => (some y1))
theorem j6_ (a0 : Int) (r : Bool) (h : fx_ a0 = some r) : ec_ a0 = some r := by
 unfold fx_ at h
 refine ax_ E_bool_inj rfl rfl ok_87 rfl (all_cons (by kernel_rfl) all_nil) ?_
 intro σ0 s hS hH
 have hS := am_ (L' := [(0, i4 a0)]) hS (by kernel_rfl)
 refine ad_ (ab_ ?_)
 refine qs 1 [(0, i4 a0)] hS ?_; intro s hS
 refine ae_ (sq_n (ad_ (ab_ ?_)))
 refine qs 1 [(3, i4 a0)] hS ?_; intro s hS
 obtain ⟨y1, hy1, h⟩ := bind_some h
 refine ar_ (a := []) (b := []) (xs := [i4 a0, i4 4, i4 6]) rfl hS rfl rfl hy1 ?_; intro s hS
 refine qs 1 [(2, .bool y1)] hS ?_; intro s hS
 refine ae_ (sq_n (ao_ ?_))
 injection h with h; subst h
 exact aq_ hH (an_ (v := .bool y1) hS rfl r_nil) rfl (by kernel_rfl) (by simp [pureT, pureL, E_bool])
noncomputable def dg_ (a0 : aj_) (a1 : ac_) : Option Int := ((ec_ a1.Kind).bind fun y1 => (if (!y1) = true then (some (-1)) else ((bk_ a0 a1.Ref).bind fun y2 => (some y2))))
theorem g5_ (a0 : aj_) (a1 : ac_) (r : Int) (h : dg_ a0 a1 = some r) : b8_ a0 a1 = some r := by
 unfold dg_ at h
 refine ax_ E_i64_inj rfl rfl ok_88 rfl (all_cons (by kernel_rfl) (all_cons (by kernel_rfl) all_nil)) ?_
 intro σ0 s hS hH
 have hS := am_ (L' := [(0, .agg (aj_.cells a0)), (1, .agg (ac_.cells a1))]) hS (by kernel_rfl)
 refine ad_ (ab_ ?_)
 refine aT_ (v := .agg (aj_.cells a0)) (cs := [i4 a0.Next, a0.Objects.t]) rfl hS hH rfl rfl (by kernel_rfl) ?_; intro b1 σ s hH hS
 refine aT_ (v := .agg (ac_.cells a1)) (cs := [i4 a1.Kind, i4 a1.Num, .str a1.Text, i4 a1.Ref]) rfl hS hH rfl rfl (by kernel_rfl) ?_; intro b2 σ s hH hS
 refine qs 1 [(2, .ptr b1 0 0 2), (3, .ptr b2 0 0 4)] hS ?_; intro s hS
 refine ae_ (sq_n (ad_ (ad_ (ab_ ?_))))
 refine qs 1 [(2, .ptr b1 0 0 2), (3, .ptr b2 0 0 4), (5, .ptr b2 0 0 1)] hS ?_; intro s hS
 refine ai_ (v := i4 a1.Kind) 0 trivial rfl hS hH rfl rfl (by kernel_rfl) ?_; intro s hS
 obtain ⟨y1, hy1, h⟩ := bind_some h
 refine ar_ (a := []) (b := []) (xs := [i4 a1.Kind]) rfl hS rfl rfl hy1 ?_; intro s hS
 refine qs 1 [(2, .ptr b1 0 0 2), (3, .ptr b2 0 0 4), (8, .bool (!y1))] hS ?_; intro s hS
 refine ae_ (sq_n ?_)
 by_cases hc1 : (!y1) = true
 ·have h := ak_ hc1 h
  refine af_ hS rfl (fun _ => ?_) (fun hf => ah_ hc1 hf)
  refine ad_ (ab_ ?_)
  refine qs 1 [(4, i4 (-1))] hS ?_; intro s hS
  refine ae_ (sq_n (ao_ (sq_r ?_)))
  injection h with h; subst h
  exact aq_ hH (an_ (v := i4 (-1)) hS rfl r_nil) rfl (by kernel_rfl) (by simp [pureT, pureL, E_i64])
 ·have h := al_ hc1 h
  refine af_ hS rfl (fun hf => ag_ hc1 hf) (fun _ => ?_)
  refine as_ (sq_n (ad_ (ab_ ?_)))
  refine ai_ (v := .agg (aj_.cells a0)) 1 trivial rfl hS hH rfl rfl (by kernel_rfl) ?_; intro s hS
  refine qs 1 [(9, .agg (aj_.cells a0)), (10, .ptr b2 0 3 1)] hS ?_; intro s hS
  refine ai_ (v := i4 a1.Ref) 0 trivial rfl hS hH rfl rfl (by kernel_rfl) ?_; intro s hS
  obtain ⟨y2, hy2, h⟩ := bind_some h
  refine ar_ (a := []) (b := []) (xs := [.agg (aj_.cells a0), i4 a1.Ref]) rfl hS rfl rfl hy2 ?_; intro s hS
  refine qs 1 [(4, i4 y2)] hS ?_; intro s hS
  refine ae_ (sq_n (ao_ ?_))
  injection h with h; subst h
  exact aq_ hH (an_ (v := i4 y2) hS rfl r_nil) rfl (by kernel_rfl) (by simp [pureT, pureL, E_i64])
end Go.Am
