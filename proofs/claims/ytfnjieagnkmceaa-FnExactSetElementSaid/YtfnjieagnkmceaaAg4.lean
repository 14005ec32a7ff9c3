/- Functions of the program. -/
import Derived.Test.YtfnjieagnkmceaaAd0
set_option maxRecDepth 100000
set_option maxHeartbeats 4000000
set_option linter.unusedVariables false
set_option linter.unusedSimpArgs false
namespace Go.Am
open Go.Proofs
noncomputable def f7_ (a0 : aj_) : Option Bool := ((a7_ a0.Next 0 1000000).bind fun y1 => (if (!y1) = true then (some false) else (if (decide (40 < (a0.Objects.l.length : Int))) = true then (some false) else ((aM_ (S := Int) (R := (Unit ⊕ Bool)) (fun st1 => (if (decide (st1 < (a0.Objects.l.length : Int))) = true then ((elt a0.Objects st1).bind fun y3 => ((cD_ y3).bind fun y4 => (if (!y4) = true then (some (.inr (.inr false))) else (if (decide (a0.Next < y3.Id)) = true then (some (.inr (.inr false))) else (if (decide (0 < st1)) = true then ((elt a0.Objects (w4 (st1 - 1))).bind fun y5 => (if (decide (y3.Id ≤ y5.Id)) = true then (some (.inr (.inr false))) else (some (.inl (w4 (st1 + 1)))))) else (some (.inl (w4 (st1 + 1))))))))) else (some (.inr (.inl ()))))) 0).bind fun y2 => (Sum.elim (fun y2 => ((aM_ (S := Int) (R := (Unit ⊕ Bool)) (fun st2 => (if (decide (st2 < (a0.Objects.l.length : Int))) = true then ((elt a0.Objects st2).bind fun y7 => ((aY_ a0 y7.Keys).bind fun y8 => (if y8 = true then ((aY_ a0 y7.Vals).bind fun y9 => (if y9 = true then (if (!decide (y7.Kind = 2)) = true then (some (.inl (w4 (st2 + 1)))) else ((b4_ a0 y7.Default).bind fun y10 => (if (!y10) = true then (some (.inr (.inr false))) else (some (.inl (w4 (st2 + 1))))))) else (some (.inr (.inr false))))) else (some (.inr (.inr false)))))) else (some (.inr (.inl ()))))) 0).bind fun y6 => (Sum.elim (fun y6 => (some true)) (fun y6 => (some y6)) y6))) (fun y2 => (some y2)) y2)))))
theorem lh_ (a0 : aj_) (r : Bool) (h : f7_ a0 = some r) : fR_ a0 = some r := by
 unfold f7_ at h
 refine iN_ E_bool_inj rfl rfl ok_58 (fun bs hb => by obtain ⟨bp0, rfl⟩ := bl1 hb; exact rfl) (fun bs hb => by obtain ⟨bp0, rfl⟩ := bl1 hb; exact (all_cons rfl all_nil)) ?_
 intro σ0 bs s hL hS hH
 obtain ⟨bp0, rfl, hL_bp0⟩ := kT_ hL
 clear hL
 have hS := am_ (L' := [(0, .ptr bp0 0 0 2)]) hS (by kernel_rfl)
 refine ad_ (ab_ ?_)
 refine qs 1 [(0, .ptr bp0 0 0 2)] hS ?_; intro s hS
 refine ae_ (sq_n (ad_ (ad_ (ab_ ?_))))
 refine qs 3 [(0, .ptr bp0 0 0 2), (8, .ptr bp0 0 0 1)] hS ?_; intro s hS
 refine ce_ (v := i4 a0.Next) trivial rfl hS hH hL_bp0 rfl (by kernel_rfl) ?_; intro s hS
 obtain ⟨y1, hy1, h⟩ := bind_some h
 refine ar_ (a := []) (b := []) (xs := [i4 a0.Next, i4 0, i4 1000000]) rfl hS rfl rfl hy1 ?_; intro s hS
 refine qs 2 [(12, .bool (!y1)), (0, .ptr bp0 0 0 2)] hS ?_; intro s hS
 by_cases hc1 : (!y1) = true
 ·have h := ak_ hc1 h
  have hS := ap_ hS hc1
  refine qs 7 [(0, .ptr bp0 0 0 2), (19, .bool true)] hS ?_; intro s hS
  refine ae_ (sq_n ?_)
  refine af_ (t := true) hS rfl (fun _ => ?_) (fun hf => by cases hf)
  refine ad_ (ab_ ?_)
  refine qs 1 [(2, .bool false)] hS ?_; intro s hS
  refine ae_ (sq_n (ao_ (sq_r ?_)))
  injection h with h; subst h
  exact aq_ hH (an_ (v := .bool false) hS rfl r_nil) rfl (by kernel_rfl) (by simp [pureT, pureL, E_bool])
 ·have h := al_ hc1 h
  have hS := ap_ hS (aB_ hc1)
  refine qs 3 [(0, .ptr bp0 0 0 2), (12, .bool false), (15, .ptr bp0 0 1 1)] hS ?_; intro s hS
  refine ce_ (v := a0.Objects.t) trivial rfl hS hH hL_bp0 rfl (by kernel_rfl) ?_; intro s hS
  refine qs 3 [(0, .ptr bp0 0 0 2), (19, .bool (decide (40 < (a0.Objects.l.length : Int))))] hS ?_; intro s hS
  refine ae_ (sq_n ?_)
  by_cases hc2 : (decide (40 < (a0.Objects.l.length : Int))) = true
  ·have h := ak_ hc2 h
   refine af_ hS rfl (fun _ => ?_) (fun hf => ah_ hc2 hf)
   refine ad_ (ab_ ?_)
   refine qs 1 [(2, .bool false)] hS ?_; intro s hS
   refine ae_ (sq_n (ao_ (sq_r ?_)))
   injection h with h; subst h
   exact aq_ hH (an_ (v := .bool false) hS rfl r_nil) rfl (by kernel_rfl) (by simp [pureT, pureL, E_bool])
  ·have h := al_ hc2 h
   refine af_ hS rfl (fun hf => ag_ hc2 hf) (fun _ => ?_)
   refine as_ (sq_n (ad_ (ad_ (ab_ ?_))))
   refine qs 1 [(0, .ptr bp0 0 0 2), (3, i4 0)] hS ?_; intro s hS
   refine ae_ (sq_n (aw_ ?_))
   obtain ⟨y2, hy2, h⟩ := bind_some h
   refine bd_ (fun (st1 : Int) (fr : Fr) => Sub [(0, .ptr bp0 0 0 2), (3, i4 st1)] fr.s ∧ Heap σ0 fr.σ []) (fun (y2 : (Unit ⊕ Bool)) (e : aC_) (fr : Fr) => (Sum.elim (fun y => e = (.exit 0) ∧ Sub [(0, .ptr bp0 0 0 2)] fr.s ∧ Heap σ0 fr.σ []) (fun y => e = .ret ∧ endW Try.prog (Try.f58.results.toList) σ0 (E_bool y) .ret fr)) y2) hy2 (And.intro (am_ hS (by kernel_rfl)) hH) ?_ ?_
   ·clear h hy2 hS hH; clear y2; intro st1 x fr h HI; obtain ⟨s, σ⟩ := fr; obtain ⟨hS, hH⟩ := HI
    refine ad_ (ad_ (ab_ ?_))
    refine qs 4 [(0, .ptr bp0 0 0 2), (3, i4 st1), (20, i4 st1), (23, .ptr bp0 0 1 1)] hS ?_; intro s hS
    refine ce_ (v := a0.Objects.t) trivial rfl hS hH hL_bp0 rfl (by kernel_rfl) ?_; intro s hS
    refine qs 2 [(0, .ptr bp0 0 0 2), (3, i4 st1), (26, .bool (decide (st1 < (a0.Objects.l.length : Int))))] hS ?_; intro s hS
    refine ae_ (sq_n ?_)
    by_cases hc3 : (decide (st1 < (a0.Objects.l.length : Int))) = true
    ·have h := ak_ hc3 h
     refine af_ hS rfl (fun _ => ?_) (fun hf => ah_ hc3 hf)
     refine as_ (sq_n (ad_ (aw_ (ad_ (ab_ ?_)))))
     refine qs 3 [(0, .ptr bp0 0 0 2), (3, i4 st1), (31, .ptr bp0 0 1 1)] hS ?_; intro s hS
     refine ce_ (v := a0.Objects.t) trivial rfl hS hH hL_bp0 rfl (by kernel_rfl) ?_; intro s hS
     refine qs 1 [(0, .ptr bp0 0 0 2), (3, i4 st1), (32, a0.Objects.t), (33, i4 st1)] hS ?_; intro s hS
     obtain ⟨y3, hy3, h⟩ := bind_some h
     refine bh_ (sl := a0.Objects) (e := 30) [i4 y3.Id, i4 y3.Kind, .str y3.Name, i4 y3.Low, y3.Keys.t, y3.Vals.t, i4 y3.Default.Kind, i4 y3.Default.Num, .str y3.Default.Text, i4 y3.Default.Ref] rfl hS rfl rfl (by kernel_rfl) (by kernel_rfl) hy3 rfl ?_; intro rest1 s hS
     refine qs 1 [(0, .ptr bp0 0 0 2), (3, i4 st1), (35, .agg (aa_.cells y3))] hS ?_; intro s hS
     refine aO_ (z := [i4 0, i4 0, .str ⟨#[]⟩, i4 0, (nt ac_), (nt ac_), i4 0, i4 0, .str ⟨#[]⟩, i4 0]) rfl hS hH (by kernel_rfl) ?_; intro b1 σ s hH hS
     refine a0_ (v := .agg (aa_.cells y3)) (cs := [i4 y3.Id, i4 y3.Kind, .str y3.Name, i4 y3.Low, y3.Keys.t, y3.Vals.t, i4 y3.Default.Kind, i4 y3.Default.Num, .str y3.Default.Text, i4 y3.Default.Ref]) (cells' := [i4 y3.Id, i4 y3.Kind, .str y3.Name, i4 y3.Low, y3.Keys.t, y3.Vals.t, i4 y3.Default.Kind, i4 y3.Default.Num, .str y3.Default.Text, i4 y3.Default.Ref]) rfl hS hH rfl rfl rfl (by kernel_rfl) (by kernel_rfl) ?_; intro σ s hH hS
     refine ae_ (sq_n (ad_ ?_))
     refine dk_ (by kernel_rfl) hH ?_; intro mb σ hH
     refine ai_ (v := .agg (aa_.cells y3)) 0 trivial rfl hS hH rfl rfl (by kernel_rfl) ?_; intro s hS
     obtain ⟨y4, hy4, h⟩ := bind_some h
     refine ar_ (a := []) (b := []) (xs := [.agg (aa_.cells y3)]) rfl hS rfl rfl hy4 ?_; intro s hS
     refine qs 2 [(39, .bool (!y4)), (0, .ptr bp0 0 0 2), (3, i4 st1), (4, .ptr b1 0 0 10)] hS ?_; intro s hS
     by_cases hc4 : (!y4) = true
     ·have h := ak_ hc4 h
      have hS := ap_ hS hc4
      refine qs 26 [(0, .ptr bp0 0 0 2), (3, i4 st1), (65, .bool true)] hS ?_; intro s hS
      refine ae_ (sq_n ?_)
      refine af_ (t := true) hS rfl (fun _ => ?_) (fun hf => by cases hf)
      refine ad_ (ab_ ?_)
      refine qs 1 [(2, .bool false)] hS ?_; intro s hS
      refine ae_ (sq_n (ao_ (bk_r (sq_r ?_))))
      injection h with h; subst h
      exact And.intro rfl (aq_ hH (an_ (v := .bool false) hS rfl r_nil) rfl (by kernel_rfl) (by simp [pureT, pureL, E_bool]))
     ·have h := al_ hc4 h
      have hS := ap_ hS (aB_ hc4)
      refine qs 1 [(0, .ptr bp0 0 0 2), (3, i4 st1), (4, .ptr b1 0 0 10), (39, .bool false), (40, .ptr b1 0 0 1)] hS ?_; intro s hS
      refine ai_ (v := i4 y3.Id) 0 trivial rfl hS hH rfl rfl (by kernel_rfl) ?_; intro s hS
      refine qs 3 [(0, .ptr bp0 0 0 2), (3, i4 st1), (4, .ptr b1 0 0 10), (39, .bool false), (41, i4 y3.Id), (44, .ptr bp0 0 0 1)] hS ?_; intro s hS
      refine ce_ (v := i4 a0.Next) trivial rfl hS hH hL_bp0 rfl (by kernel_rfl) ?_; intro s hS
      refine qs 3 [(48, .bool (decide (a0.Next < y3.Id))), (0, .ptr bp0 0 0 2), (3, i4 st1), (4, .ptr b1 0 0 10)] hS ?_; intro s hS
      by_cases hc5 : (decide (a0.Next < y3.Id)) = true
      ·have h := ak_ hc5 h
       have hS := ap_ hS hc5
       refine qs 17 [(0, .ptr bp0 0 0 2), (3, i4 st1), (65, .bool true)] hS ?_; intro s hS
       refine ae_ (sq_n ?_)
       refine af_ (t := true) hS rfl (fun _ => ?_) (fun hf => by cases hf)
       refine ad_ (ab_ ?_)
       refine qs 1 [(2, .bool false)] hS ?_; intro s hS
       refine ae_ (sq_n (ao_ (bk_r (sq_r ?_))))
       injection h with h; subst h
       exact And.intro rfl (aq_ hH (an_ (v := .bool false) hS rfl r_nil) rfl (by kernel_rfl) (by simp [pureT, pureL, E_bool]))
      ·have h := al_ hc5 h
       have hS := ap_ hS (aB_ hc5)
       refine qs 3 [(51, .bool (decide (0 < st1))), (0, .ptr bp0 0 0 2), (3, i4 st1), (4, .ptr b1 0 0 10), (48, .bool false)] hS ?_; intro s hS
       by_cases hc6 : (decide (0 < st1)) = true
       ·have h := ak_ hc6 h
        have hS := ap_ hS hc6
        refine qs 3 [(0, .ptr bp0 0 0 2), (3, i4 st1), (4, .ptr b1 0 0 10), (48, .bool false), (51, .bool true), (54, .ptr bp0 0 1 1)] hS ?_; intro s hS
        refine ce_ (v := a0.Objects.t) trivial rfl hS hH hL_bp0 rfl (by kernel_rfl) ?_; intro s hS
        refine qs 2 [(0, .ptr bp0 0 0 2), (3, i4 st1), (4, .ptr b1 0 0 10), (48, .bool false), (51, .bool true), (55, a0.Objects.t), (57, i4 (w4 (st1 - 1)))] hS ?_; intro s hS
        obtain ⟨y5, hy5, h⟩ := bind_some h
        refine bh_ (sl := a0.Objects) (e := 30) [i4 y5.Id, i4 y5.Kind, .str y5.Name, i4 y5.Low, y5.Keys.t, y5.Vals.t, i4 y5.Default.Kind, i4 y5.Default.Num, .str y5.Default.Text, i4 y5.Default.Ref] rfl hS rfl rfl (by kernel_rfl) (by kernel_rfl) hy5 rfl ?_; intro rest2 s hS
        refine qs 3 [(0, .ptr bp0 0 0 2), (3, i4 st1), (48, .bool false), (51, .bool true), (60, i4 y5.Id), (61, .ptr b1 0 0 1)] hS ?_; intro s hS
        refine ai_ (v := i4 y3.Id) 0 trivial rfl hS hH rfl rfl (by kernel_rfl) ?_; intro s hS
        refine qs 3 [(0, .ptr bp0 0 0 2), (3, i4 st1), (65, .bool (decide (y3.Id ≤ y5.Id)))] hS ?_; intro s hS
        refine ae_ (sq_n ?_)
        by_cases hc7 : (decide (y3.Id ≤ y5.Id)) = true
        ·have h := ak_ hc7 h
         refine af_ hS rfl (fun _ => ?_) (fun hf => ah_ hc7 hf)
         refine ad_ (ab_ ?_)
         refine qs 1 [(2, .bool false)] hS ?_; intro s hS
         refine ae_ (sq_n (ao_ (bk_r (sq_r ?_))))
         injection h with h; subst h
         exact And.intro rfl (aq_ hH (an_ (v := .bool false) hS rfl r_nil) rfl (by kernel_rfl) (by simp [pureT, pureL, E_bool]))
        ·have h := al_ hc7 h
         refine af_ hS rfl (fun hf => ag_ hc7 hf) (fun _ => ?_)
         refine as_ (bk_n (sq_n (ab_ ?_)))
         refine qs 3 [(0, .ptr bp0 0 0 2), (3, i4 (w4 (st1 + 1)))] hS ?_; intro s hS
         refine ae_ ?_
         injection h with h; subst h
         exact And.intro (am_ hS (by kernel_rfl)) (Heap.sel hH [] rfl (by kernel_rfl))
       ·have h := al_ hc6 h
        have hS := ap_ hS (aB_ hc6)
        refine qs 14 [(0, .ptr bp0 0 0 2), (3, i4 st1), (65, .bool false)] hS ?_; intro s hS
        refine ae_ (sq_n ?_)
        refine af_ (t := false) hS rfl (fun hf => by cases hf) (fun _ => ?_)
        refine as_ (bk_n (sq_n (ab_ ?_)))
        refine qs 3 [(0, .ptr bp0 0 0 2), (3, i4 (w4 (st1 + 1)))] hS ?_; intro s hS
        refine ae_ ?_
        injection h with h; subst h
        exact And.intro (am_ hS (by kernel_rfl)) (Heap.sel hH [] rfl (by kernel_rfl))
    ·have h := al_ hc3 h
     refine af_ hS rfl (fun hf => ag_ hc3 hf) (fun _ => ?_)
     refine ba_ (sq_x ?_)
     injection h with h; subst h
     exact And.intro rfl (And.intro (am_ hS (by kernel_rfl)) hH)
   ·clear hS hH; intro e fr HF; obtain ⟨s, σ⟩ := fr
    rcases y2 with y2 | y2
    ·obtain ⟨rfl, hS, hH⟩ := HF
     refine bk_e (sq_n (ad_ (ad_ (ab_ ?_))))
     refine qs 1 [(0, .ptr bp0 0 0 2), (5, i4 0)] hS ?_; intro s hS
     refine ae_ (sq_n (aw_ ?_))
     obtain ⟨y6, hy6, h⟩ := bind_some h
     refine bd_ (fun (st2 : Int) (fr : Fr) => Sub [(0, .ptr bp0 0 0 2), (5, i4 st2)] fr.s ∧ Heap σ0 fr.σ []) (fun (y6 : (Unit ⊕ Bool)) (e : aC_) (fr : Fr) => (Sum.elim (fun y => e = (.exit 2) ∧ Sub [] fr.s ∧ Heap σ0 fr.σ []) (fun y => e = .ret ∧ endW Try.prog (Try.f58.results.toList) σ0 (E_bool y) .ret fr)) y6) hy6 (And.intro (am_ hS (by kernel_rfl)) hH) ?_ ?_
     ·clear h hy6 hS hH; clear y6; intro st2 x fr h HI; obtain ⟨s, σ⟩ := fr; obtain ⟨hS, hH⟩ := HI
      refine ad_ (ad_ (ab_ ?_))
      refine qs 4 [(0, .ptr bp0 0 0 2), (5, i4 st2), (66, i4 st2), (69, .ptr bp0 0 1 1)] hS ?_; intro s hS
      refine ce_ (v := a0.Objects.t) trivial rfl hS hH hL_bp0 rfl (by kernel_rfl) ?_; intro s hS
      refine qs 2 [(0, .ptr bp0 0 0 2), (5, i4 st2), (72, .bool (decide (st2 < (a0.Objects.l.length : Int))))] hS ?_; intro s hS
      refine ae_ (sq_n ?_)
      by_cases hc8 : (decide (st2 < (a0.Objects.l.length : Int))) = true
      ·have h := ak_ hc8 h
       refine af_ hS rfl (fun _ => ?_) (fun hf => ah_ hc8 hf)
       refine as_ (sq_n (ad_ (aw_ (ad_ (ab_ ?_)))))
       refine qs 4 [(0, .ptr bp0 0 0 2), (5, i4 st2), (75, .ptr bp0 0 0 2), (78, .ptr bp0 0 1 1)] hS ?_; intro s hS
       refine ce_ (v := a0.Objects.t) trivial rfl hS hH hL_bp0 rfl (by kernel_rfl) ?_; intro s hS
       refine qs 1 [(0, .ptr bp0 0 0 2), (5, i4 st2), (75, .ptr bp0 0 0 2), (79, a0.Objects.t), (80, i4 st2)] hS ?_; intro s hS
       obtain ⟨y7, hy7, h⟩ := bind_some h
       refine bh_ (sl := a0.Objects) (e := 30) [i4 y7.Id, i4 y7.Kind, .str y7.Name, i4 y7.Low, y7.Keys.t, y7.Vals.t, i4 y7.Default.Kind, i4 y7.Default.Num, .str y7.Default.Text, i4 y7.Default.Ref] rfl hS rfl rfl (by kernel_rfl) (by kernel_rfl) hy7 rfl ?_; intro rest3 s hS
       refine nP_ [.ptr bp0 0 0 2, .vw ([i4 y7.Id, i4 y7.Kind, .str y7.Name, i4 y7.Low, y7.Keys.t, y7.Vals.t, i4 y7.Default.Kind, i4 y7.Default.Num, .str y7.Default.Text, i4 y7.Default.Ref] ++ rest3)] rfl hS rfl rfl rfl rfl rfl ok_68 rfl ?_; intro s hS
       have hS := am_ (L' := [(0, .ptr bp0 0 0 2), (1, .vw ([i4 y7.Id, i4 y7.Kind, .str y7.Name, i4 y7.Low, y7.Keys.t, y7.Vals.t, i4 y7.Default.Kind, i4 y7.Default.Num, .str y7.Default.Text, i4 y7.Default.Ref] ++ rest3))]) hS (by kernel_rfl)
       refine ad_ (ab_ ?_)
       refine qs 1 [(0, .ptr bp0 0 0 2), (1, .vw ([i4 y7.Id, i4 y7.Kind, .str y7.Name, i4 y7.Low, y7.Keys.t, y7.Vals.t, i4 y7.Default.Kind, i4 y7.Default.Num, .str y7.Default.Text, i4 y7.Default.Ref] ++ rest3))] hS ?_; intro s hS
       refine ae_ (sq_n (ad_ (ab_ ?_)))
       refine qs 5 [(0, .ptr bp0 0 0 2), (1, .vw ([i4 y7.Id, i4 y7.Kind, .str y7.Name, i4 y7.Low, y7.Keys.t, y7.Vals.t, i4 y7.Default.Kind, i4 y7.Default.Num, .str y7.Default.Text, i4 y7.Default.Ref] ++ rest3)), (5, .ptr bp0 0 0 2), (9, y7.Keys.t)] hS ?_; intro s hS
       obtain ⟨y8, hy8, h⟩ := bind_some h
       refine fI_ (xs := [.ptr bp0 0 0 2, y7.Keys.t]) (cs := [[i4 a0.Next, a0.Objects.t]]) [bp0] rfl hS rfl rfl rfl (And.intro (Lent.grow hL_bp0 hH.grow) trivial) hy8 ?_; intro s hS
       refine qs 1 [(11, .bool y8), (0, .ptr bp0 0 0 2), (1, .vw ([i4 y7.Id, i4 y7.Kind, .str y7.Name, i4 y7.Low, y7.Keys.t, y7.Vals.t, i4 y7.Default.Kind, i4 y7.Default.Num, .str y7.Default.Text, i4 y7.Default.Ref] ++ rest3))] hS ?_; intro s hS
       by_cases hc9 : y8 = true
       ·have h := ak_ hc9 h
        have hS := ap_ hS hc9
        refine qs 5 [(0, .ptr bp0 0 0 2), (1, .vw ([i4 y7.Id, i4 y7.Kind, .str y7.Name, i4 y7.Low, y7.Keys.t, y7.Vals.t, i4 y7.Default.Kind, i4 y7.Default.Num, .str y7.Default.Text, i4 y7.Default.Ref] ++ rest3)), (11, .bool true), (12, .ptr bp0 0 0 2), (16, y7.Vals.t)] hS ?_; intro s hS
        obtain ⟨y9, hy9, h⟩ := bind_some h
        refine fI_ (xs := [.ptr bp0 0 0 2, y7.Vals.t]) (cs := [[i4 a0.Next, a0.Objects.t]]) [bp0] rfl hS rfl rfl rfl (And.intro (Lent.grow hL_bp0 hH.grow) trivial) hy9 ?_; intro s hS
        refine qs 2 [(19, .bool y9), (0, .ptr bp0 0 0 2), (1, .vw ([i4 y7.Id, i4 y7.Kind, .str y7.Name, i4 y7.Low, y7.Keys.t, y7.Vals.t, i4 y7.Default.Kind, i4 y7.Default.Num, .str y7.Default.Text, i4 y7.Default.Ref] ++ rest3))] hS ?_; intro s hS
        by_cases hc10 : y9 = true
        ·have h := ak_ hc10 h
         have hS := ap_ hS hc10
         refine qs 6 [(25, .bool (!decide (y7.Kind = 2))), (0, .ptr bp0 0 0 2), (1, .vw ([i4 y7.Id, i4 y7.Kind, .str y7.Name, i4 y7.Low, y7.Keys.t, y7.Vals.t, i4 y7.Default.Kind, i4 y7.Default.Num, .str y7.Default.Text, i4 y7.Default.Ref] ++ rest3)), (19, .bool true)] hS ?_; intro s hS
         by_cases hc11 : (!decide (y7.Kind = 2)) = true
         ·have h := ak_ hc11 h
          have hS := ap_ hS hc11
          refine qs 9 [(4, .bool true)] hS ?_; intro s hS
          refine ae_ (sq_n (ao_ ?_))
          refine fS_ (v := .bool true) (an_ (v := .bool true) hS rfl r_nil) rfl ?_; intro s hS
          refine qs 1 [(0, .ptr bp0 0 0 2), (5, i4 st2), (83, .bool false)] hS ?_; intro s hS
          refine ae_ (sq_n ?_)
          refine af_ (t := false) hS rfl (fun hf => by cases hf) (fun _ => ?_)
          refine as_ (bk_n (sq_n (ab_ ?_)))
          refine qs 3 [(0, .ptr bp0 0 0 2), (5, i4 (w4 (st2 + 1)))] hS ?_; intro s hS
          refine ae_ ?_
          injection h with h; subst h
          exact And.intro (am_ hS (by kernel_rfl)) hH
         ·have h := al_ hc11 h
          have hS := ap_ hS (aB_ hc11)
          refine qs 5 [(19, .bool true), (25, .bool false), (26, .ptr bp0 0 0 2), (30, .agg (ac_.cells y7.Default))] hS ?_; intro s hS
          obtain ⟨y10, hy10, h⟩ := bind_some h
          refine fI_ (xs := [.ptr bp0 0 0 2, .agg (ac_.cells y7.Default)]) (cs := [[i4 a0.Next, a0.Objects.t]]) [bp0] rfl hS rfl rfl rfl (And.intro (Lent.grow hL_bp0 hH.grow) trivial) hy10 ?_; intro s hS
          refine qs 3 [(4, .bool y10)] hS ?_; intro s hS
          refine ae_ (sq_n (ao_ ?_))
          refine fS_ (v := .bool y10) (an_ (v := .bool y10) hS rfl r_nil) rfl ?_; intro s hS
          refine qs 1 [(0, .ptr bp0 0 0 2), (5, i4 st2), (83, .bool (!y10))] hS ?_; intro s hS
          refine ae_ (sq_n ?_)
          by_cases hc12 : (!y10) = true
          ·have h := ak_ hc12 h
           refine af_ hS rfl (fun _ => ?_) (fun hf => ah_ hc12 hf)
           refine ad_ (ab_ ?_)
           refine qs 1 [(2, .bool false)] hS ?_; intro s hS
           refine ae_ (sq_n (ao_ (bk_r (sq_r ?_))))
           injection h with h; subst h
           exact And.intro rfl (aq_ hH (an_ (v := .bool false) hS rfl r_nil) rfl (by kernel_rfl) (by simp [pureT, pureL, E_bool]))
          ·have h := al_ hc12 h
           refine af_ hS rfl (fun hf => ag_ hc12 hf) (fun _ => ?_)
           refine as_ (bk_n (sq_n (ab_ ?_)))
           refine qs 3 [(0, .ptr bp0 0 0 2), (5, i4 (w4 (st2 + 1)))] hS ?_; intro s hS
           refine ae_ ?_
           injection h with h; subst h
           exact And.intro (am_ hS (by kernel_rfl)) hH
        ·have h := al_ hc10 h
         have hS := ap_ hS (aB_ hc10)
         refine qs 15 [(4, .bool false)] hS ?_; intro s hS
         refine ae_ (sq_n (ao_ ?_))
         refine fS_ (v := .bool false) (an_ (v := .bool false) hS rfl r_nil) rfl ?_; intro s hS
         refine qs 1 [(0, .ptr bp0 0 0 2), (5, i4 st2), (83, .bool true)] hS ?_; intro s hS
         refine ae_ (sq_n ?_)
         refine af_ (t := true) hS rfl (fun _ => ?_) (fun hf => by cases hf)
         refine ad_ (ab_ ?_)
         refine qs 1 [(2, .bool false)] hS ?_; intro s hS
         refine ae_ (sq_n (ao_ (bk_r (sq_r ?_))))
         injection h with h; subst h
         exact And.intro rfl (aq_ hH (an_ (v := .bool false) hS rfl r_nil) rfl (by kernel_rfl) (by simp [pureT, pureL, E_bool]))
       ·have h := al_ hc9 h
        have hS := ap_ hS (aB_ hc9)
        refine qs 23 [(4, .bool false)] hS ?_; intro s hS
        refine ae_ (sq_n (ao_ ?_))
        refine fS_ (v := .bool false) (an_ (v := .bool false) hS rfl r_nil) rfl ?_; intro s hS
        refine qs 1 [(0, .ptr bp0 0 0 2), (5, i4 st2), (83, .bool true)] hS ?_; intro s hS
        refine ae_ (sq_n ?_)
        refine af_ (t := true) hS rfl (fun _ => ?_) (fun hf => by cases hf)
        refine ad_ (ab_ ?_)
        refine qs 1 [(2, .bool false)] hS ?_; intro s hS
        refine ae_ (sq_n (ao_ (bk_r (sq_r ?_))))
        injection h with h; subst h
        exact And.intro rfl (aq_ hH (an_ (v := .bool false) hS rfl r_nil) rfl (by kernel_rfl) (by simp [pureT, pureL, E_bool]))
      ·have h := al_ hc8 h
       refine af_ hS rfl (fun hf => ag_ hc8 hf) (fun _ => ?_)
       refine ba_ (sq_x ?_)
       injection h with h; subst h
       exact And.intro rfl (And.intro (am_ hS (by kernel_rfl)) hH)
     ·clear hS hH; intro e fr HF; obtain ⟨s, σ⟩ := fr
      rcases y6 with y6 | y6
      ·obtain ⟨rfl, hS, hH⟩ := HF
       refine bk_e (sq_n (ad_ (ab_ ?_)))
       refine qs 1 [(2, .bool true)] hS ?_; intro s hS
       refine ae_ (sq_n (ao_ ?_))
       injection h with h; subst h
       exact aq_ hH (an_ (v := .bool true) hS rfl r_nil) rfl (by kernel_rfl) (by simp [pureT, pureL, E_bool])
      ·obtain ⟨rfl, HE⟩ := HF
       refine bk_r (sq_r ?_)
       injection h with h; subst h; exact HE
    ·obtain ⟨rfl, HE⟩ := HF
     refine bk_r (sq_r ?_)
     injection h with h; subst h; exact HE
noncomputable def dC_ (a0 : aj_) (a1 : Int) : Option Int := ((aM_ (S := Int) (R := (Unit ⊕ Int)) (fun st1 => (if (decide (st1 < (a0.Objects.l.length : Int))) = true then ((elt a0.Objects st1).bind fun y2 => (if (decide (y2.Id = a1)) = true then (some (.inr (.inr st1))) else (some (.inl (w4 (st1 + 1)))))) else (some (.inr (.inl ()))))) 0).bind fun y1 => (Sum.elim (fun y1 => (some (-1))) (fun y1 => (some y1)) y1))
theorem gm_ (a0 : aj_) (a1 : Int) (r : Int) (h : dC_ a0 a1 = some r) : b5_ a0 a1 = some r := by
 unfold dC_ at h
 refine iN_ E_i64_inj rfl rfl ok_59 (fun bs hb => by obtain ⟨bp0, rfl⟩ := bl1 hb; exact rfl) (fun bs hb => by obtain ⟨bp0, rfl⟩ := bl1 hb; exact (all_cons rfl (all_cons (by kernel_rfl) all_nil))) ?_
 intro σ0 bs s hL hS hH
 obtain ⟨bp0, rfl, hL_bp0⟩ := kT_ hL
 clear hL
 have hS := am_ (L' := [(0, .ptr bp0 0 0 2), (1, i4 a1)]) hS (by kernel_rfl)
 refine ad_ (ab_ ?_)
 refine qs 1 [(0, .ptr bp0 0 0 2), (1, i4 a1)] hS ?_; intro s hS
 refine ae_ (sq_n (ad_ (ad_ (ab_ ?_))))
 refine qs 1 [(0, .ptr bp0 0 0 2), (1, i4 a1), (5, i4 0)] hS ?_; intro s hS
 refine ae_ (sq_n (aw_ ?_))
 obtain ⟨y1, hy1, h⟩ := bind_some h
 refine bd_ (fun (st1 : Int) (fr : Fr) => Sub [(0, .ptr bp0 0 0 2), (1, i4 a1), (5, i4 st1)] fr.s ∧ Heap σ0 fr.σ []) (fun (y1 : (Unit ⊕ Int)) (e : aC_) (fr : Fr) => (Sum.elim (fun y => e = (.exit 0) ∧ Sub [] fr.s ∧ Heap σ0 fr.σ []) (fun y => e = .ret ∧ endW Try.prog (Try.f59.results.toList) σ0 (E_i64 y) .ret fr)) y1) hy1 (And.intro (am_ hS (by kernel_rfl)) hH) ?_ ?_
 ·clear h hy1 hS hH; clear y1; intro st1 x fr h HI; obtain ⟨s, σ⟩ := fr; obtain ⟨hS, hH⟩ := HI
  refine ad_ (ad_ (ab_ ?_))
  refine qs 4 [(0, .ptr bp0 0 0 2), (1, i4 a1), (5, i4 st1), (6, i4 st1), (9, .ptr bp0 0 1 1)] hS ?_; intro s hS
  refine ce_ (v := a0.Objects.t) trivial rfl hS hH hL_bp0 rfl (by kernel_rfl) ?_; intro s hS
  refine qs 2 [(0, .ptr bp0 0 0 2), (1, i4 a1), (5, i4 st1), (12, .bool (decide (st1 < (a0.Objects.l.length : Int))))] hS ?_; intro s hS
  refine ae_ (sq_n ?_)
  by_cases hc1 : (decide (st1 < (a0.Objects.l.length : Int))) = true
  ·have h := ak_ hc1 h
   refine af_ hS rfl (fun _ => ?_) (fun hf => ah_ hc1 hf)
   refine as_ (sq_n (ad_ (aw_ (ad_ (ab_ ?_)))))
   refine qs 3 [(0, .ptr bp0 0 0 2), (1, i4 a1), (5, i4 st1), (17, .ptr bp0 0 1 1)] hS ?_; intro s hS
   refine ce_ (v := a0.Objects.t) trivial rfl hS hH hL_bp0 rfl (by kernel_rfl) ?_; intro s hS
   refine qs 1 [(0, .ptr bp0 0 0 2), (1, i4 a1), (5, i4 st1), (18, a0.Objects.t), (19, i4 st1)] hS ?_; intro s hS
   obtain ⟨y2, hy2, h⟩ := bind_some h
   refine bh_ (sl := a0.Objects) (e := 30) [i4 y2.Id, i4 y2.Kind, .str y2.Name, i4 y2.Low, y2.Keys.t, y2.Vals.t, i4 y2.Default.Kind, i4 y2.Default.Num, .str y2.Default.Text, i4 y2.Default.Ref] rfl hS rfl rfl (by kernel_rfl) (by kernel_rfl) hy2 rfl ?_; intro rest1 s hS
   refine qs 4 [(0, .ptr bp0 0 0 2), (1, i4 a1), (5, i4 st1), (24, .bool (decide (y2.Id = a1)))] hS ?_; intro s hS
   refine ae_ (sq_n ?_)
   by_cases hc2 : (decide (y2.Id = a1)) = true
   ·have h := ak_ hc2 h
    refine af_ hS rfl (fun _ => ?_) (fun hf => ah_ hc2 hf)
    refine ad_ (ab_ ?_)
    refine qs 2 [(4, i4 st1)] hS ?_; intro s hS
    refine ae_ (sq_n (ao_ (bk_r (sq_r ?_))))
    injection h with h; subst h
    exact And.intro rfl (aq_ hH (an_ (v := i4 st1) hS rfl r_nil) rfl (by kernel_rfl) (by simp [pureT, pureL, E_i64]))
   ·have h := al_ hc2 h
    refine af_ hS rfl (fun hf => ag_ hc2 hf) (fun _ => ?_)
    refine as_ (bk_n (sq_n (ab_ ?_)))
    refine qs 3 [(0, .ptr bp0 0 0 2), (1, i4 a1), (5, i4 (w4 (st1 + 1)))] hS ?_; intro s hS
    refine ae_ ?_
    injection h with h; subst h
    exact And.intro (am_ hS (by kernel_rfl)) hH
  ·have h := al_ hc1 h
   refine af_ hS rfl (fun hf => ag_ hc1 hf) (fun _ => ?_)
   refine ba_ (sq_x ?_)
   injection h with h; subst h
   exact And.intro rfl (And.intro (am_ hS (by kernel_rfl)) hH)
 ·clear hS hH; intro e fr HF; obtain ⟨s, σ⟩ := fr
  rcases y1 with y1 | y1
  ·obtain ⟨rfl, hS, hH⟩ := HF
   refine bk_e (sq_n (ad_ (ab_ ?_)))
   refine qs 1 [(4, i4 (-1))] hS ?_; intro s hS
   refine ae_ (sq_n (ao_ ?_))
   injection h with h; subst h
   exact aq_ hH (an_ (v := i4 (-1)) hS rfl r_nil) rfl (by kernel_rfl) (by simp [pureT, pureL, E_i64])
  ·obtain ⟨rfl, HE⟩ := HF
   refine bk_r (sq_r ?_)
   injection h with h; subst h; exact HE
noncomputable def cH_ (a0 : aa_) : Option aa_ := ((bO_ a0.Keys).bind fun y1 => ((bO_ a0.Vals).bind fun y2 => (some (⟨a0.Id, a0.Kind, a0.Name, a0.Low, y1, y2, a0.Default⟩ : aa_))))
theorem gt_ (a0 : aa_) (r : aa_) (h : cH_ a0 = some r) : bX_ a0 = some r := by
 unfold cH_ at h
 refine cx_ rfl rfl ok_60 rfl (all_cons (by kernel_rfl) all_nil) ?_
 intro σ0 s hS hH
 have hS := am_ (L' := [(0, .agg (aa_.cells a0))]) hS (by kernel_rfl)
 refine ad_ (ab_ ?_)
 refine aT_ (v := .agg (aa_.cells a0)) (cs := [i4 a0.Id, i4 a0.Kind, .str a0.Name, i4 a0.Low, a0.Keys.t, a0.Vals.t, i4 a0.Default.Kind, i4 a0.Default.Num, .str a0.Default.Text, i4 a0.Default.Ref]) rfl hS hH rfl rfl (by kernel_rfl) ?_; intro b1 σ s hH hS
 refine aO_ (z := [i4 0, i4 0, .str ⟨#[]⟩, i4 0, (nt ac_), (nt ac_), i4 0, i4 0, .str ⟨#[]⟩, i4 0]) rfl hS hH (by kernel_rfl) ?_; intro b2 σ s hH hS
 refine ae_ (sq_n (ad_ (ab_ ?_)))
 refine qs 1 [(1, .ptr b1 0 0 10), (2, .ptr b2 0 0 10), (3, .ptr b1 0 4 1)] hS ?_; intro s hS
 refine ai_ (v := a0.Keys.t) 1 trivial rfl hS hH rfl rfl (by kernel_rfl) ?_; intro s hS
 obtain ⟨y1, hy1, h⟩ := bind_some h
 refine a2_ (ents := []) (z := false) (ts := [a0.Keys.t]) (vs := [a0.Keys.t]) rfl rfl hS rfl rfl rfl hH (HLp HL.nil) hy1 ?_; intro hs σ s hl hH hS
 obtain ⟨t1, rfl⟩ := len1 hl
 have hH : Heap σ0 σ [.own true 4 t1 y1.t, .box b2 [i4 0, i4 0, .str ⟨#[]⟩, i4 0, (nt ac_), (nt ac_), i4 0, i4 0, .str ⟨#[]⟩, i4 0], .box b1 (aa_.cells a0)] := hH
 have ht1 : aV_ t1 := Heap.one hH
 refine qs 1 [(1, .ptr b1 0 0 10), (2, .ptr b2 0 0 10), (5, t1), (6, .ptr b1 0 4 1)] hS ?_; intro s hS
 have hH : Heap σ0 σ [.box b1 (aa_.cells a0), .own true 4 t1 y1.t, .box b2 [i4 0, i4 0, .str ⟨#[]⟩, i4 0, (nt ac_), (nt ac_), i4 0, i4 0, .str ⟨#[]⟩, i4 0]] := hH.sel [2, 0, 1] rfl (by kernel_rfl)
 refine a0_ (v := t1) (cs := [t1]) (cells' := [i4 a0.Id, i4 a0.Kind, .str a0.Name, i4 a0.Low, t1, a0.Vals.t, i4 a0.Default.Kind, i4 a0.Default.Num, .str a0.Default.Text, i4 a0.Default.Ref]) rfl hS hH rfl rfl (by simp [ht1.1, ht1.2]) (by simp [ht1.1, ht1.2]) (by kernel_rfl) ?_; intro σ s hH hS
 refine ae_ (sq_n (ad_ (ab_ ?_)))
 refine qs 1 [(1, .ptr b1 0 0 10), (2, .ptr b2 0 0 10), (7, .ptr b1 0 5 1)] hS ?_; intro s hS
 refine ai_ (v := a0.Vals.t) 0 trivial rfl hS hH rfl rfl (by kernel_rfl) ?_; intro s hS
 obtain ⟨y2, hy2, h⟩ := bind_some h
 refine a2_ (ents := []) (z := false) (ts := [a0.Vals.t]) (vs := [a0.Vals.t]) rfl rfl hS rfl rfl rfl hH (HLp HL.nil) hy2 ?_; intro hs σ s hl hH hS
 obtain ⟨t2, rfl⟩ := len1 hl
 have hH : Heap σ0 σ [.own true 4 t2 y2.t, .box b1 [i4 a0.Id, i4 a0.Kind, .str a0.Name, i4 a0.Low, t1, a0.Vals.t, i4 a0.Default.Kind, i4 a0.Default.Num, .str a0.Default.Text, i4 a0.Default.Ref], .own true 4 t1 y1.t, .box b2 [i4 0, i4 0, .str ⟨#[]⟩, i4 0, (nt ac_), (nt ac_), i4 0, i4 0, .str ⟨#[]⟩, i4 0]] := hH
 have ht2 : aV_ t2 := Heap.one hH
 refine qs 1 [(1, .ptr b1 0 0 10), (2, .ptr b2 0 0 10), (9, t2), (10, .ptr b1 0 5 1)] hS ?_; intro s hS
 have hH : Heap σ0 σ [.box b1 [i4 a0.Id, i4 a0.Kind, .str a0.Name, i4 a0.Low, t1, a0.Vals.t, i4 a0.Default.Kind, i4 a0.Default.Num, .str a0.Default.Text, i4 a0.Default.Ref], .own true 4 t2 y2.t, .own true 4 t1 y1.t, .box b2 [i4 0, i4 0, .str ⟨#[]⟩, i4 0, (nt ac_), (nt ac_), i4 0, i4 0, .str ⟨#[]⟩, i4 0]] := hH.sel [1, 0, 2, 3] rfl (by kernel_rfl)
 refine a0_ (v := t2) (cs := [t2]) (cells' := [i4 a0.Id, i4 a0.Kind, .str a0.Name, i4 a0.Low, t1, t2, i4 a0.Default.Kind, i4 a0.Default.Num, .str a0.Default.Text, i4 a0.Default.Ref]) rfl hS hH rfl rfl (by simp [ht2.1, ht2.2]) (by simp [ht2.1, ht2.2]) (by kernel_rfl) ?_; intro σ s hH hS
 refine ae_ (sq_n (ad_ (ab_ ?_)))
 refine ai_ (v := .agg [i4 a0.Id, i4 a0.Kind, .str a0.Name, i4 a0.Low, t1, t2, i4 a0.Default.Kind, i4 a0.Default.Num, .str a0.Default.Text, i4 a0.Default.Ref]) 0 trivial rfl hS hH rfl rfl (by kernel_rfl) ?_; intro s hS
 have hH : Heap σ0 σ [.box b2 [i4 0, i4 0, .str ⟨#[]⟩, i4 0, (nt ac_), (nt ac_), i4 0, i4 0, .str ⟨#[]⟩, i4 0], .box b1 [i4 a0.Id, i4 a0.Kind, .str a0.Name, i4 a0.Low, t1, t2, i4 a0.Default.Kind, i4 a0.Default.Num, .str a0.Default.Text, i4 a0.Default.Ref], .own true 4 t2 y2.t, .own true 4 t1 y1.t] := hH.sel [3, 0, 1, 2] rfl (by kernel_rfl)
 refine aF_ (cs := [i4 a0.Id, i4 a0.Kind, .str a0.Name, i4 a0.Low, t1, t2, i4 a0.Default.Kind, i4 a0.Default.Num, .str a0.Default.Text, i4 a0.Default.Ref]) rfl hS hH rfl rfl (by simp [ht1.1, ht1.2, ht2.1, ht2.2]) ?_; intro σ s hH hS
 refine ae_ (sq_n (ao_ ?_))
 injection h with h; subst h
 have hH : Heap σ0 σ [.own true 4 t1 y1.t, .own true 4 t2 y2.t, .box b2 [i4 a0.Id, i4 a0.Kind, .str a0.Name, i4 a0.Low, t1, t2, i4 a0.Default.Kind, i4 a0.Default.Num, .str a0.Default.Text, i4 a0.Default.Ref], .box b1 [i4 a0.Id, i4 a0.Kind, .str a0.Name, i4 a0.Low, t1, t2, i4 a0.Default.Kind, i4 a0.Default.Num, .str a0.Default.Text, i4 a0.Default.Ref]] := hH.sel [3, 2, 0, 1] rfl (by kernel_rfl)
 exact a8_ [t1, t2] [.box b2 [i4 a0.Id, i4 a0.Kind, .str a0.Name, i4 a0.Low, t1, t2, i4 a0.Default.Kind, i4 a0.Default.Num, .str a0.Default.Text, i4 a0.Default.Ref], .box b1 [i4 a0.Id, i4 a0.Kind, .str a0.Name, i4 a0.Low, t1, t2, i4 a0.Default.Kind, i4 a0.Default.Num, .str a0.Default.Text, i4 a0.Default.Ref]] (bf_ (v := .agg [i4 a0.Id, i4 a0.Kind, .str a0.Name, i4 a0.Low, t1, t2, i4 a0.Default.Kind, i4 a0.Default.Num, .str a0.Default.Text, i4 a0.Default.Ref]) hS (hH.at 2 rfl) rfl (by kernel_rfl) r_nil) (by kernel_rfl) rfl hH (by kernel_rfl)
noncomputable def dZ_ (a0 : (Sl aa_)) : Option (Sl aa_) := ((mkS 128 ((⟨0, 0, ⟨#[]⟩, 0, ⟨true, []⟩, ⟨true, []⟩, (⟨0, 0, ⟨#[]⟩, 0⟩ : ac_)⟩ : aa_) : aa_) (a0.l.length : Int) (a0.l.length : Int)).bind fun y1 => ((aM_ (S := (Int × (Sl aa_))) (R := (Sl aa_)) (fun st1 => (if (decide (st1.1 < (a0.l.length : Int))) = true then ((elt a0 st1.1).bind fun y3 => ((eh_ y3).bind fun y4 => ((elt st1.2 st1.1).bind fun y5 => (some (.inl ((w4 (st1.1 + 1)), (setS st1.2 st1.1 (y4 : aa_)))))))) else (some (.inr st1.2)))) (0, y1)).bind fun y2 => (some y2)))
theorem hY_ (a0 : (Sl aa_)) (r : (Sl aa_)) (h : dZ_ a0 = some r) : dU_ a0 = some r := by
 unfold dZ_ at h
 refine cx_ rfl rfl ok_61 rfl (all_cons (by kernel_rfl) all_nil) ?_
 intro σ0 s hS hH
 have hS := am_ (L' := [(0, a0.t)]) hS (by kernel_rfl)
 refine ad_ (ab_ ?_)
 refine qs 1 [(0, a0.t)] hS ?_; intro s hS
 refine ae_ (sq_n (ad_ (ab_ ?_)))
 refine qs 2 [(0, a0.t), (6, i4 (a0.l.length : Int))] hS ?_; intro s hS
 obtain ⟨y1, hy1, h⟩ := bind_some h
 refine oZ_ (z := true) (e := 30) (by_ := 128) (x0 := ((⟨0, 0, ⟨#[]⟩, 0, ⟨true, []⟩, ⟨true, []⟩, (⟨0, 0, ⟨#[]⟩, 0⟩ : ac_)⟩ : aa_) : aa_)) (fun σ d => by simp [Enc.cells, aa_.cells, Iv]) rfl hS hH rfl rfl (by kernel_rfl) (by kernel_rfl) (by kernel_rfl) (by kernel_rfl) rfl hy1 ?_; intro t1 σ s ht1 hH hS
 refine qs 1 [(0, a0.t), (3, t1)] hS ?_; intro s hS
 refine ae_ (sq_n (ad_ (ad_ (ab_ ?_))))
 refine qs 1 [(0, a0.t), (3, t1), (4, i4 0)] hS ?_; intro s hS
 refine ae_ (sq_n (aw_ ?_))
 obtain ⟨y2, hy2, h⟩ := bind_some h
 refine bd_ (fun (st1 : (Int × (Sl aa_))) (fr : Fr) => Sub [(0, a0.t), (3, t1), (4, i4 st1.1)] fr.s ∧ Heap σ0 fr.σ [.own true 10 t1 st1.2.t]) (fun (y2 : (Sl aa_)) (e : aC_) (fr : Fr) => e = (.exit 0) ∧ Sub [(3, t1)] fr.s ∧ Heap σ0 fr.σ [.own true 10 t1 y2.t]) hy2 (And.intro (am_ hS (by kernel_rfl)) hH) ?_ ?_
 ·clear h hy2 hS hH; clear y2; intro st1 x fr h HI; obtain ⟨s, σ⟩ := fr; obtain ⟨hS, hH⟩ := HI
  refine ad_ (ad_ (ab_ ?_))
  refine qs 4 [(0, a0.t), (3, t1), (4, i4 st1.1), (11, .bool (decide (st1.1 < (a0.l.length : Int))))] hS ?_; intro s hS
  refine ae_ (sq_n ?_)
  by_cases hc1 : (decide (st1.1 < (a0.l.length : Int))) = true
  ·have h := ak_ hc1 h
   refine af_ hS rfl (fun _ => ?_) (fun hf => ah_ hc1 hf)
   refine as_ (sq_n (ad_ (aw_ (ab_ ?_))))
   refine qs 4 [(0, a0.t), (3, t1), (4, i4 st1.1), (14, t1), (15, i4 st1.1), (16, a0.t), (17, i4 st1.1)] hS ?_; intro s hS
   obtain ⟨y3, hy3, h⟩ := bind_some h
   refine bh_ (sl := a0) (e := 45) [i4 y3.Id, i4 y3.Kind, .str y3.Name, i4 y3.Low, y3.Keys.t, y3.Vals.t, i4 y3.Default.Kind, i4 y3.Default.Num, .str y3.Default.Text, i4 y3.Default.Ref] rfl hS rfl rfl (by kernel_rfl) (by kernel_rfl) hy3 rfl ?_; intro rest1 s hS
   refine qs 1 [(0, a0.t), (3, t1), (4, i4 st1.1), (14, t1), (15, i4 st1.1), (19, .agg (aa_.cells y3))] hS ?_; intro s hS
   obtain ⟨y4, hy4, h⟩ := bind_some h
   refine a2_ (ents := []) (z := false) (ts := [.agg (aa_.cells y3)]) (vs := [.agg (aa_.cells y3)]) rfl rfl hS rfl rfl rfl hH (HL.agg (es1 := []) (es2 := []) (HLi (HLi (HLs (HLi (HLp (HLp (HLi (HLi (HLs (HLi HL.nil)))))))))) HL.nil) hy4 ?_; intro hs σ s hl hH hS
   obtain ⟨t2, t3, rfl⟩ := len2 hl
   have hH : Heap σ0 σ [.own true 4 t2 y4.Keys.t, .own true 4 t3 y4.Vals.t, .own true 10 t1 st1.2.t] := hH
   have ht2 : aV_ t2 := Heap.one hH
   have ht3 : aV_ t3 := Heap.one (hH.at 1 rfl)
   have hH : Heap σ0 σ [.own true 10 t1 st1.2.t, .own true 4 t2 y4.Keys.t, .own true 4 t3 y4.Vals.t] := hH.sel [2, 0, 1] rfl (by kernel_rfl)
   obtain ⟨y5, hy5, h⟩ := bind_some h
   refine cP_ (a := st1.2) (e := 30) (fun _ _ _ _ _ => trivial) rfl hS hH rfl rfl (by kernel_rfl) (by kernel_rfl) hy5 ?_; intro hb1 hb1e s hl_hb1 hS
   refine bQ_ (ents := [.own true 4 t2 y4.Keys.t, .own true 4 t3 y4.Vals.t]) (a := st1.2) (j := st1.1) (y := y5) (y' := (y4 : aa_)) (off := 0) (c := [i4 y5.Id, i4 y5.Kind, .str y5.Name, i4 y5.Low, y5.Keys.t, y5.Vals.t, i4 y5.Default.Kind, i4 y5.Default.Num, .str y5.Default.Text, i4 y5.Default.Ref]) (us := [i4 y4.Id, i4 y4.Kind, .str y4.Name, i4 y4.Low, t2, t3, i4 y4.Default.Kind, i4 y4.Default.Num, .str y4.Default.Text, i4 y4.Default.Ref]) (vs := [i4 y4.Id, i4 y4.Kind, .str y4.Name, i4 y4.Low, y4.Keys.t, y4.Vals.t, i4 y4.Default.Kind, i4 y4.Default.Num, .str y4.Default.Text, i4 y4.Default.Ref]) (v := .agg [i4 y4.Id, i4 y4.Kind, .str y4.Name, i4 y4.Low, t2, t3, i4 y4.Default.Kind, i4 y4.Default.Num, .str y4.Default.Text, i4 y4.Default.Ref]) rfl hS hH hl_hb1 rfl rfl rfl (by simp [ht2.1, ht2.2, ht3.1, ht3.2]) (by kernel_rfl) rfl hy5 rfl (HLi (HLi (HLs (HLi (HL.own rfl (HL.own rfl (HLi (HLi (HLs (HLi HL.nil)))))))))) rfl (by kernel_rfl) ?_; intro σ s hH hS
   refine ae_ (bk_n (sq_n (ab_ ?_)))
   refine qs 3 [(0, a0.t), (3, t1), (4, i4 (w4 (st1.1 + 1)))] hS ?_; intro s hS
   refine ae_ ?_
   injection h with h; subst h
   exact And.intro (am_ hS (by kernel_rfl)) hH
  ·have h := al_ hc1 h
   refine af_ hS rfl (fun hf => ag_ hc1 hf) (fun _ => ?_)
   refine ba_ (sq_x ?_)
   injection h with h; subst h
   exact And.intro rfl (And.intro (am_ hS (by kernel_rfl)) hH)
 ·clear hS hH; intro e fr HF; obtain ⟨s, σ⟩ := fr
  obtain ⟨rfl, hS, hH⟩ := HF
  refine bk_e (sq_n (ad_ (ab_ ?_)))
  refine qs 2 [(2, t1)] hS ?_; intro s hS
  refine ae_ (sq_n (ao_ ?_))
  injection h with h; subst h
  exact a8_ [t1] [] (an_ (v := t1) hS rfl r_nil) (by kernel_rfl) rfl hH (by kernel_rfl)
noncomputable def d1_ (a0 : aj_) : Option Bool := ((bR_ a0.Next 0 1000000).bind fun y1 => (if (!y1) = true then (some false) else (if (decide (40 < (a0.Objects.l.length : Int))) = true then (some false) else ((((aM_ (S := Int) (R := (Unit ⊕ Unit)) (fun st1 => (if (decide (st1 < (a0.Objects.l.length : Int))) = true then ((elt a0.Objects st1).bind fun y4 => ((ca_ y4).bind fun y5 => (if (!y5) = true then (some (.inr (.inr ()))) else (some (.inl (w4 (st1 + 1))))))) else (some (.inr (.inl ()))))) 0).bind fun y3 => (Sum.elim (fun y3 => (some true)) (fun y3 => (some false)) y3)) : Option Bool).bind fun y2 => (if (!y2) = true then (some false) else ((aM_ (S := (Int × Int)) (R := (Unit ⊕ Bool)) (fun st2 => (if (decide (st2.2 < (a0.Objects.l.length : Int))) = true then ((elt a0.Objects st2.2).bind fun y7 => (if (decide (y7.Id ≤ st2.1)) = true then (some (.inr (.inr false))) else (if (decide (a0.Next < y7.Id)) = true then (some (.inr (.inr false))) else (some (.inl (y7.Id, (w4 (st2.2 + 1)))))))) else (some (.inr (.inl ()))))) (0, 0)).bind fun y6 => (Sum.elim (fun y6 => ((((aM_ (S := Int) (R := (Unit ⊕ Unit)) (fun st3 => (if (decide (st3 < (a0.Objects.l.length : Int))) = true then ((elt a0.Objects st3).bind fun y10 => ((bm_ y10).bind fun y11 => ((aD_ y11 (T.fn 73 [.agg (aj_.cells a0)] [])).bind fun y12 => (if (!y12) = true then (some (.inr (.inr ()))) else (some (.inl (w4 (st3 + 1)))))))) else (some (.inr (.inl ()))))) 0).bind fun y9 => (Sum.elim (fun y9 => (some true)) (fun y9 => (some false)) y9)) : Option Bool).bind fun y8 => (some y8))) (fun y6 => (some y6)) y6)))))))
theorem hW_ (a0 : aj_) (r : Bool) (h : d1_ a0 = some r) : dX_ a0 = some r := by
 unfold d1_ at h
 refine ax_ E_bool_inj rfl rfl ok_62 rfl (all_cons (by kernel_rfl) all_nil) ?_
 intro σ0 s hS hH
 have hS := am_ (L' := [(0, .agg (aj_.cells a0))]) hS (by kernel_rfl)
 refine ad_ (ab_ ?_)
 refine aT_ (v := .agg (aj_.cells a0)) (cs := [i4 a0.Next, a0.Objects.t]) rfl hS hH rfl rfl (by kernel_rfl) ?_; intro b1 σ s hH hS
 refine qs 1 [(1, .ptr b1 0 0 2)] hS ?_; intro s hS
 refine ae_ (sq_n (ad_ (ad_ (ab_ ?_))))
 refine qs 1 [(1, .ptr b1 0 0 2), (6, .ptr b1 0 0 1)] hS ?_; intro s hS
 refine ai_ (v := i4 a0.Next) 0 trivial rfl hS hH rfl rfl (by kernel_rfl) ?_; intro s hS
 obtain ⟨y1, hy1, h⟩ := bind_some h
 refine ar_ (a := []) (b := []) (xs := [i4 a0.Next, i4 0, i4 1000000]) rfl hS rfl rfl hy1 ?_; intro s hS
 refine qs 2 [(10, .bool (!y1)), (1, .ptr b1 0 0 2)] hS ?_; intro s hS
 by_cases hc1 : (!y1) = true
 ·have h := ak_ hc1 h
  have hS := ap_ hS hc1
  refine qs 11 [(1, .ptr b1 0 0 2), (21, .bool true)] hS ?_; intro s hS
  refine ae_ (sq_n ?_)
  refine af_ (t := true) hS rfl (fun _ => ?_) (fun hf => by cases hf)
  refine ad_ (ab_ ?_)
  refine qs 1 [(2, .bool false)] hS ?_; intro s hS
  refine ae_ (sq_n (ao_ (sq_r ?_)))
  injection h with h; subst h
  exact aq_ hH (an_ (v := .bool false) hS rfl r_nil) rfl (by kernel_rfl) (by simp [pureT, pureL, E_bool])
 ·have h := al_ hc1 h
  have hS := ap_ hS (aB_ hc1)
  refine qs 1 [(1, .ptr b1 0 0 2), (10, .bool false), (11, .ptr b1 0 1 1)] hS ?_; intro s hS
  refine ai_ (v := a0.Objects.t) 0 trivial rfl hS hH rfl rfl (by kernel_rfl) ?_; intro s hS
  refine qs 4 [(16, .bool (decide (40 < (a0.Objects.l.length : Int)))), (1, .ptr b1 0 0 2)] hS ?_; intro s hS
  by_cases hc2 : (decide (40 < (a0.Objects.l.length : Int))) = true
  ·have h := ak_ hc2 h
   have hS := ap_ hS hc2
   refine qs 5 [(1, .ptr b1 0 0 2), (21, .bool true)] hS ?_; intro s hS
   refine ae_ (sq_n ?_)
   refine af_ (t := true) hS rfl (fun _ => ?_) (fun hf => by cases hf)
   refine ad_ (ab_ ?_)
   refine qs 1 [(2, .bool false)] hS ?_; intro s hS
   refine ae_ (sq_n (ao_ (sq_r ?_)))
   injection h with h; subst h
   exact aq_ hH (an_ (v := .bool false) hS rfl r_nil) rfl (by kernel_rfl) (by simp [pureT, pureL, E_bool])
  ·have h := al_ hc2 h
   have hS := ap_ hS (aB_ hc2)
   refine qs 1 [(1, .ptr b1 0 0 2), (16, .bool false), (17, .ptr b1 0 1 1)] hS ?_; intro s hS
   refine ai_ (v := a0.Objects.t) 0 trivial rfl hS hH rfl rfl (by kernel_rfl) ?_; intro s hS
   obtain ⟨y2, hy2, h⟩ := bind_some h
   refine m9_ (HF := fun s σ => Sub [(1, .ptr b1 0 0 2), (16, .bool false), (19, .bool y2)] s ∧ Heap σ0 σ [.box b1 (aj_.cells a0)]) [a0.Objects.t, T.fn 70 [] []] rfl hS rfl rfl rfl rfl rfl ok_110 rfl ?_ ?_
   ·clear h; have h := hy2; intro s hS
    have hS := am_ (L' := [(0, a0.Objects.t), (1, T.fn 70 [] [])]) hS (by kernel_rfl)
    refine ad_ (ab_ ?_)
    refine qs 1 [(0, a0.Objects.t), (1, T.fn 70 [] [])] hS ?_; intro s hS
    refine ae_ (sq_n (ad_ (ad_ (ab_ ?_))))
    refine qs 3 [(1, T.fn 70 [] []), (7, a0.Objects.t), (8, i4 (a0.Objects.l.length : Int)), (9, i4 0)] hS ?_; intro s hS
    refine ae_ (sq_n (aw_ ?_))
    obtain ⟨y3, hy3, h⟩ := bind_some h
    refine bd_ (fun (st1 : Int) (fr : Fr) => Sub [(1, T.fn 70 [] []), (7, a0.Objects.t), (8, i4 (a0.Objects.l.length : Int)), (9, i4 st1)] fr.s ∧ Heap σ0 fr.σ [.box b1 (aj_.cells a0)]) (fun (y3 : (Unit ⊕ Unit)) (e : aC_) (fr : Fr) => (Sum.elim (fun y => e = (.exit 0) ∧ Sub [] fr.s ∧ Heap σ0 fr.σ [.box b1 (aj_.cells a0)]) (fun y => e = .ret ∧ Sub [(4, .bool false)] fr.s ∧ Heap σ0 fr.σ [.box b1 (aj_.cells a0)])) y3) hy3 (And.intro (am_ hS (by kernel_rfl)) hH) ?_ ?_
    ·clear h hy3 hS hH; clear y3; intro st1 x fr h HI; obtain ⟨s, σ⟩ := fr; obtain ⟨hS, hH⟩ := HI
     refine ad_ (ab_ ?_)
     refine qs 1 [(1, T.fn 70 [] []), (7, a0.Objects.t), (8, i4 (a0.Objects.l.length : Int)), (9, i4 st1), (10, .bool (decide (st1 < (a0.Objects.l.length : Int))))] hS ?_; intro s hS
     refine ae_ (sq_n (ad_ ?_))
     by_cases hc3 : (decide (st1 < (a0.Objects.l.length : Int))) = true
     ·have h := ak_ hc3 h
      refine af_ hS rfl (fun _ => ?_) (fun hf => ah_ hc3 hf)
      refine as_ (sq_n (ad_ (aw_ (ad_ (ab_ ?_)))))
      obtain ⟨y4, hy4, h⟩ := bind_some h
      refine bh_ (sl := a0.Objects) (e := 30) [i4 y4.Id, i4 y4.Kind, .str y4.Name, i4 y4.Low, y4.Keys.t, y4.Vals.t, i4 y4.Default.Kind, i4 y4.Default.Num, .str y4.Default.Text, i4 y4.Default.Ref] rfl hS rfl rfl (by kernel_rfl) (by kernel_rfl) hy4 rfl ?_; intro rest1 s hS
      refine qs 1 [(1, T.fn 70 [] []), (7, a0.Objects.t), (8, i4 (a0.Objects.l.length : Int)), (9, i4 st1), (12, .agg (aa_.cells y4))] hS ?_; intro s hS
      refine aO_ (z := [i4 0, i4 0, .str ⟨#[]⟩, i4 0, (nt ac_), (nt ac_), i4 0, i4 0, .str ⟨#[]⟩, i4 0]) rfl hS hH (by kernel_rfl) ?_; intro b2 σ s hH hS
      refine a0_ (v := .agg (aa_.cells y4)) (cs := [i4 y4.Id, i4 y4.Kind, .str y4.Name, i4 y4.Low, y4.Keys.t, y4.Vals.t, i4 y4.Default.Kind, i4 y4.Default.Num, .str y4.Default.Text, i4 y4.Default.Ref]) (cells' := [i4 y4.Id, i4 y4.Kind, .str y4.Name, i4 y4.Low, y4.Keys.t, y4.Vals.t, i4 y4.Default.Kind, i4 y4.Default.Num, .str y4.Default.Text, i4 y4.Default.Ref]) rfl hS hH rfl rfl rfl (by kernel_rfl) (by kernel_rfl) ?_; intro σ s hH hS
      refine ae_ (sq_n (ad_ (ab_ ?_)))
      refine qs 1 [(1, T.fn 70 [] []), (6, .ptr b2 0 0 10), (7, a0.Objects.t), (8, i4 (a0.Objects.l.length : Int)), (9, i4 st1), (13, T.fn 70 [] [])] hS ?_; intro s hS
      refine ai_ (v := .agg (aa_.cells y4)) 0 trivial rfl hS hH rfl rfl (by kernel_rfl) ?_; intro s hS
      obtain ⟨y5, hy5, h⟩ := bind_some h
      refine ar_ (a := []) (b := []) (xs := [.agg (aa_.cells y4)]) rfl hS rfl rfl hy5 ?_; intro s hS
      refine qs 1 [(1, T.fn 70 [] []), (7, a0.Objects.t), (8, i4 (a0.Objects.l.length : Int)), (9, i4 st1), (16, .bool (!y5))] hS ?_; intro s hS
      refine ae_ (sq_n ?_)
      by_cases hc4 : (!y5) = true
      ·have h := ak_ hc4 h
       refine af_ hS rfl (fun _ => ?_) (fun hf => ah_ hc4 hf)
       refine ad_ (ab_ ?_)
       refine qs 1 [(4, .bool false)] hS ?_; intro s hS
       refine ae_ (sq_n (ao_ (bk_r (sq_r ?_))))
       injection h with h; subst h
       exact And.intro rfl (And.intro (am_ hS (by kernel_rfl)) (Heap.sel hH [1] rfl (by kernel_rfl)))
      ·have h := al_ hc4 h
       refine af_ hS rfl (fun hf => ag_ hc4 hf) (fun _ => ?_)
       refine as_ (bk_n (sq_n (ab_ ?_)))
       refine qs 2 [(1, T.fn 70 [] []), (7, a0.Objects.t), (8, i4 (a0.Objects.l.length : Int)), (9, i4 (w4 (st1 + 1)))] hS ?_; intro s hS
       refine ae_ ?_
       injection h with h; subst h
       exact And.intro (am_ hS (by kernel_rfl)) (Heap.sel hH [1] rfl (by kernel_rfl))
     ·have h := al_ hc3 h
      refine af_ hS rfl (fun hf => ag_ hc3 hf) (fun _ => ?_)
      refine ba_ (sq_x ?_)
      injection h with h; subst h
      exact And.intro rfl (And.intro (am_ hS (by kernel_rfl)) hH)
    ·clear hS hH; intro e fr HF; obtain ⟨s, σ⟩ := fr
     rcases y3 with y3 | y3
     ·obtain ⟨rfl, hS, hH⟩ := HF
      refine bk_e (sq_n (ad_ (ab_ ?_)))
      refine qs 1 [(4, .bool true)] hS ?_; intro s hS
      refine ae_ (sq_n (ao_ ?_))
      refine fS_ (v := .bool true) (an_ (v := .bool true) hS rfl r_nil) rfl ?_; intro s hS
      injection h with h; subst h
      exact And.intro (am_ hS (by kernel_rfl)) hH
     ·obtain ⟨rfl, hS, hH⟩ := HF
      refine bk_r (sq_r ?_)
      refine fS_ (v := .bool false) (an_ (v := .bool false) hS rfl r_nil) rfl ?_; intro s hS
      injection h with h; subst h
      exact And.intro (am_ hS (by kernel_rfl)) hH
   ·intro s σ HF; obtain ⟨hS, hH⟩ := HF
    refine qs 2 [(1, .ptr b1 0 0 2), (21, .bool (!y2))] hS ?_; intro s hS
    refine ae_ (sq_n ?_)
    by_cases hc5 : (!y2) = true
    ·have h := ak_ hc5 h
     refine af_ hS rfl (fun _ => ?_) (fun hf => ah_ hc5 hf)
     refine ad_ (ab_ ?_)
     refine qs 1 [(2, .bool false)] hS ?_; intro s hS
     refine ae_ (sq_n (ao_ (sq_r ?_)))
     injection h with h; subst h
     exact aq_ hH (an_ (v := .bool false) hS rfl r_nil) rfl (by kernel_rfl) (by simp [pureT, pureL, E_bool])
    ·have h := al_ hc5 h
     refine af_ hS rfl (fun hf => ag_ hc5 hf) (fun _ => ?_)
     refine as_ (sq_n (ad_ (ab_ ?_)))
     refine qs 1 [(1, .ptr b1 0 0 2), (3, i4 0)] hS ?_; intro s hS
     refine ae_ (sq_n (ad_ (ad_ (ab_ ?_))))
     refine qs 1 [(1, .ptr b1 0 0 2), (3, i4 0), (22, .ptr b1 0 1 1)] hS ?_; intro s hS
     refine ai_ (v := a0.Objects.t) 0 trivial rfl hS hH rfl rfl (by kernel_rfl) ?_; intro s hS
     refine qs 2 [(1, .ptr b1 0 0 2), (3, i4 0), (23, a0.Objects.t), (24, i4 (a0.Objects.l.length : Int)), (25, i4 0)] hS ?_; intro s hS
     refine ae_ (sq_n (aw_ ?_))
     obtain ⟨y6, hy6, h⟩ := bind_some h
     refine bd_ (fun (st2 : (Int × Int)) (fr : Fr) => Sub [(1, .ptr b1 0 0 2), (3, i4 st2.1), (23, a0.Objects.t), (24, i4 (a0.Objects.l.length : Int)), (25, i4 st2.2)] fr.s ∧ Heap σ0 fr.σ [.box b1 (aj_.cells a0)]) (fun (y6 : (Unit ⊕ Bool)) (e : aC_) (fr : Fr) => (Sum.elim (fun y => e = (.exit 0) ∧ Sub [(1, .ptr b1 0 0 2)] fr.s ∧ Heap σ0 fr.σ [.box b1 (aj_.cells a0)]) (fun y => e = .ret ∧ endW Try.prog (Try.f62.results.toList) σ0 (E_bool y) .ret fr)) y6) hy6 (And.intro (am_ hS (by kernel_rfl)) hH) ?_ ?_
     ·clear h hy6 hS hH; clear y6; intro st2 x fr h HI; obtain ⟨s, σ⟩ := fr; obtain ⟨hS, hH⟩ := HI
      refine ad_ (ab_ ?_)
      refine qs 1 [(1, .ptr b1 0 0 2), (3, i4 st2.1), (23, a0.Objects.t), (24, i4 (a0.Objects.l.length : Int)), (25, i4 st2.2), (26, .bool (decide (st2.2 < (a0.Objects.l.length : Int))))] hS ?_; intro s hS
      refine ae_ (sq_n (ad_ ?_))
      by_cases hc6 : (decide (st2.2 < (a0.Objects.l.length : Int))) = true
      ·have h := ak_ hc6 h
       refine af_ hS rfl (fun _ => ?_) (fun hf => ah_ hc6 hf)
       refine as_ (sq_n (ad_ (aw_ (ad_ (ab_ ?_)))))
       obtain ⟨y7, hy7, h⟩ := bind_some h
       refine bh_ (sl := a0.Objects) (e := 30) [i4 y7.Id, i4 y7.Kind, .str y7.Name, i4 y7.Low, y7.Keys.t, y7.Vals.t, i4 y7.Default.Kind, i4 y7.Default.Num, .str y7.Default.Text, i4 y7.Default.Ref] rfl hS rfl rfl (by kernel_rfl) (by kernel_rfl) hy7 rfl ?_; intro rest2 s hS
       refine qs 1 [(1, .ptr b1 0 0 2), (3, i4 st2.1), (23, a0.Objects.t), (24, i4 (a0.Objects.l.length : Int)), (25, i4 st2.2), (28, .agg (aa_.cells y7))] hS ?_; intro s hS
       refine aO_ (z := [i4 0, i4 0, .str ⟨#[]⟩, i4 0, (nt ac_), (nt ac_), i4 0, i4 0, .str ⟨#[]⟩, i4 0]) rfl hS hH (by kernel_rfl) ?_; intro b3 σ s hH hS
       refine a0_ (v := .agg (aa_.cells y7)) (cs := [i4 y7.Id, i4 y7.Kind, .str y7.Name, i4 y7.Low, y7.Keys.t, y7.Vals.t, i4 y7.Default.Kind, i4 y7.Default.Num, .str y7.Default.Text, i4 y7.Default.Ref]) (cells' := [i4 y7.Id, i4 y7.Kind, .str y7.Name, i4 y7.Low, y7.Keys.t, y7.Vals.t, i4 y7.Default.Kind, i4 y7.Default.Num, .str y7.Default.Text, i4 y7.Default.Ref]) rfl hS hH rfl rfl rfl (by kernel_rfl) (by kernel_rfl) ?_; intro σ s hH hS
       refine ae_ (sq_n (ad_ (ad_ (ab_ ?_))))
       refine qs 1 [(1, .ptr b1 0 0 2), (3, i4 st2.1), (5, .ptr b3 0 0 10), (23, a0.Objects.t), (24, i4 (a0.Objects.l.length : Int)), (25, i4 st2.2), (29, .ptr b3 0 0 1)] hS ?_; intro s hS
       refine ai_ (v := i4 y7.Id) 0 trivial rfl hS hH rfl rfl (by kernel_rfl) ?_; intro s hS
       refine qs 3 [(33, .bool (decide (y7.Id ≤ st2.1))), (1, .ptr b1 0 0 2), (5, .ptr b3 0 0 10), (23, a0.Objects.t), (24, i4 (a0.Objects.l.length : Int)), (25, i4 st2.2)] hS ?_; intro s hS
       by_cases hc7 : (decide (y7.Id ≤ st2.1)) = true
       ·have h := ak_ hc7 h
        have hS := ap_ hS hc7
        refine qs 6 [(1, .ptr b1 0 0 2), (5, .ptr b3 0 0 10), (23, a0.Objects.t), (24, i4 (a0.Objects.l.length : Int)), (25, i4 st2.2), (39, .bool true)] hS ?_; intro s hS
        refine ae_ (sq_n ?_)
        refine af_ (t := true) hS rfl (fun _ => ?_) (fun hf => by cases hf)
        refine ad_ (ab_ ?_)
        refine qs 1 [(2, .bool false)] hS ?_; intro s hS
        refine ae_ (sq_n (ao_ (sq_r (bk_r (sq_r ?_)))))
        injection h with h; subst h
        exact And.intro rfl (aq_ hH (an_ (v := .bool false) hS rfl r_nil) rfl (by kernel_rfl) (by simp [pureT, pureL, E_bool]))
       ·have h := al_ hc7 h
        have hS := ap_ hS (aB_ hc7)
        refine qs 1 [(1, .ptr b1 0 0 2), (5, .ptr b3 0 0 10), (23, a0.Objects.t), (24, i4 (a0.Objects.l.length : Int)), (25, i4 st2.2), (33, .bool false), (34, .ptr b3 0 0 1)] hS ?_; intro s hS
        refine ai_ (v := i4 y7.Id) 0 trivial rfl hS hH rfl rfl (by kernel_rfl) ?_; intro s hS
        refine qs 1 [(1, .ptr b1 0 0 2), (5, .ptr b3 0 0 10), (23, a0.Objects.t), (24, i4 (a0.Objects.l.length : Int)), (25, i4 st2.2), (33, .bool false), (35, i4 y7.Id), (36, .ptr b1 0 0 1)] hS ?_; intro s hS
        refine ai_ (v := i4 a0.Next) 1 trivial rfl hS hH rfl rfl (by kernel_rfl) ?_; intro s hS
        refine qs 2 [(1, .ptr b1 0 0 2), (5, .ptr b3 0 0 10), (23, a0.Objects.t), (24, i4 (a0.Objects.l.length : Int)), (25, i4 st2.2), (39, .bool (decide (a0.Next < y7.Id)))] hS ?_; intro s hS
        refine ae_ (sq_n ?_)
        by_cases hc8 : (decide (a0.Next < y7.Id)) = true
        ·have h := ak_ hc8 h
         refine af_ hS rfl (fun _ => ?_) (fun hf => ah_ hc8 hf)
         refine ad_ (ab_ ?_)
         refine qs 1 [(2, .bool false)] hS ?_; intro s hS
         refine ae_ (sq_n (ao_ (sq_r (bk_r (sq_r ?_)))))
         injection h with h; subst h
         exact And.intro rfl (aq_ hH (an_ (v := .bool false) hS rfl r_nil) rfl (by kernel_rfl) (by simp [pureT, pureL, E_bool]))
        ·have h := al_ hc8 h
         refine af_ hS rfl (fun hf => ag_ hc8 hf) (fun _ => ?_)
         refine as_ (sq_n (ab_ ?_))
         refine qs 1 [(1, .ptr b1 0 0 2), (23, a0.Objects.t), (24, i4 (a0.Objects.l.length : Int)), (25, i4 st2.2), (40, .ptr b3 0 0 1)] hS ?_; intro s hS
         refine ai_ (v := i4 y7.Id) 0 trivial rfl hS hH rfl rfl (by kernel_rfl) ?_; intro s hS
         refine qs 1 [(1, .ptr b1 0 0 2), (3, i4 y7.Id), (23, a0.Objects.t), (24, i4 (a0.Objects.l.length : Int)), (25, i4 st2.2)] hS ?_; intro s hS
         refine ae_ (bk_n (sq_n (ab_ ?_)))
         refine qs 2 [(1, .ptr b1 0 0 2), (3, i4 y7.Id), (23, a0.Objects.t), (24, i4 (a0.Objects.l.length : Int)), (25, i4 (w4 (st2.2 + 1)))] hS ?_; intro s hS
         refine ae_ ?_
         injection h with h; subst h
         exact And.intro (am_ hS (by kernel_rfl)) (Heap.sel hH [1] rfl (by kernel_rfl))
      ·have h := al_ hc6 h
       refine af_ hS rfl (fun hf => ag_ hc6 hf) (fun _ => ?_)
       refine ba_ (sq_x ?_)
       injection h with h; subst h
       exact And.intro rfl (And.intro (am_ hS (by kernel_rfl)) hH)
     ·clear hS hH; intro e fr HF; obtain ⟨s, σ⟩ := fr
      rcases y6 with y6 | y6
      ·obtain ⟨rfl, hS, hH⟩ := HF
       refine bk_e (sq_n (ad_ (ab_ ?_)))
       refine qs 1 [(1, .ptr b1 0 0 2), (43, .ptr b1 0 1 1)] hS ?_; intro s hS
       refine ai_ (v := a0.Objects.t) 0 trivial rfl hS hH rfl rfl (by kernel_rfl) ?_; intro s hS
       refine qs 1 [(44, a0.Objects.t), (45, T.fn 111 [] [.ptr b1 0 0 2])] hS ?_; intro s hS
       obtain ⟨y8, hy8, h⟩ := bind_some h
       refine m9_ (HF := fun s σ => Sub [(46, .bool y8)] s ∧ Heap σ0 σ []) [a0.Objects.t, T.fn 111 [] [.ptr b1 0 0 2]] rfl hS rfl rfl rfl rfl rfl ok_110 rfl ?_ ?_
       ·clear h; have h := hy8; intro s hS
        have hS := am_ (L' := [(0, a0.Objects.t), (1, T.fn 111 [] [.ptr b1 0 0 2])]) hS (by kernel_rfl)
        refine ad_ (ab_ ?_)
        refine qs 1 [(0, a0.Objects.t), (1, T.fn 111 [] [.ptr b1 0 0 2])] hS ?_; intro s hS
        refine ae_ (sq_n (ad_ (ad_ (ab_ ?_))))
        refine qs 3 [(1, T.fn 111 [] [.ptr b1 0 0 2]), (7, a0.Objects.t), (8, i4 (a0.Objects.l.length : Int)), (9, i4 0)] hS ?_; intro s hS
        refine ae_ (sq_n (aw_ ?_))
        obtain ⟨y9, hy9, h⟩ := bind_some h
        refine bd_ (fun (st3 : Int) (fr : Fr) => Sub [(1, T.fn 111 [] [.ptr b1 0 0 2]), (7, a0.Objects.t), (8, i4 (a0.Objects.l.length : Int)), (9, i4 st3)] fr.s ∧ Heap σ0 fr.σ [.box b1 (aj_.cells a0)]) (fun (y9 : (Unit ⊕ Unit)) (e : aC_) (fr : Fr) => (Sum.elim (fun y => e = (.exit 0) ∧ Sub [] fr.s ∧ Heap σ0 fr.σ []) (fun y => e = .ret ∧ Sub [(4, .bool false)] fr.s ∧ Heap σ0 fr.σ [])) y9) hy9 (And.intro (am_ hS (by kernel_rfl)) hH) ?_ ?_
        ·clear h hy9 hS hH; clear y9; intro st3 x fr h HI; obtain ⟨s, σ⟩ := fr; obtain ⟨hS, hH⟩ := HI
         refine ad_ (ab_ ?_)
         refine qs 1 [(1, T.fn 111 [] [.ptr b1 0 0 2]), (7, a0.Objects.t), (8, i4 (a0.Objects.l.length : Int)), (9, i4 st3), (10, .bool (decide (st3 < (a0.Objects.l.length : Int))))] hS ?_; intro s hS
         refine ae_ (sq_n (ad_ ?_))
         by_cases hc9 : (decide (st3 < (a0.Objects.l.length : Int))) = true
         ·have h := ak_ hc9 h
          refine af_ hS rfl (fun _ => ?_) (fun hf => ah_ hc9 hf)
          refine as_ (sq_n (ad_ (aw_ (ad_ (ab_ ?_)))))
          obtain ⟨y10, hy10, h⟩ := bind_some h
          refine bh_ (sl := a0.Objects) (e := 30) [i4 y10.Id, i4 y10.Kind, .str y10.Name, i4 y10.Low, y10.Keys.t, y10.Vals.t, i4 y10.Default.Kind, i4 y10.Default.Num, .str y10.Default.Text, i4 y10.Default.Ref] rfl hS rfl rfl (by kernel_rfl) (by kernel_rfl) hy10 rfl ?_; intro rest3 s hS
          refine qs 1 [(1, T.fn 111 [] [.ptr b1 0 0 2]), (7, a0.Objects.t), (8, i4 (a0.Objects.l.length : Int)), (9, i4 st3), (12, .agg (aa_.cells y10))] hS ?_; intro s hS
          refine aO_ (z := [i4 0, i4 0, .str ⟨#[]⟩, i4 0, (nt ac_), (nt ac_), i4 0, i4 0, .str ⟨#[]⟩, i4 0]) rfl hS hH (by kernel_rfl) ?_; intro b4 σ s hH hS
          refine a0_ (v := .agg (aa_.cells y10)) (cs := [i4 y10.Id, i4 y10.Kind, .str y10.Name, i4 y10.Low, y10.Keys.t, y10.Vals.t, i4 y10.Default.Kind, i4 y10.Default.Num, .str y10.Default.Text, i4 y10.Default.Ref]) (cells' := [i4 y10.Id, i4 y10.Kind, .str y10.Name, i4 y10.Low, y10.Keys.t, y10.Vals.t, i4 y10.Default.Kind, i4 y10.Default.Num, .str y10.Default.Text, i4 y10.Default.Ref]) rfl hS hH rfl rfl rfl (by kernel_rfl) (by kernel_rfl) ?_; intro σ s hH hS
          refine ae_ (sq_n (ad_ (ab_ ?_)))
          refine qs 1 [(1, T.fn 111 [] [.ptr b1 0 0 2]), (6, .ptr b4 0 0 10), (7, a0.Objects.t), (8, i4 (a0.Objects.l.length : Int)), (9, i4 st3), (13, T.fn 111 [] [.ptr b1 0 0 2])] hS ?_; intro s hS
          refine ai_ (v := .agg (aa_.cells y10)) 0 trivial rfl hS hH rfl rfl (by kernel_rfl) ?_; intro s hS
          refine nP_ [.agg (aa_.cells y10), .ptr b1 0 0 2] rfl hS rfl rfl rfl rfl rfl ok_111 rfl ?_; intro s hS
          have hS := am_ (L' := [(0, .agg (aa_.cells y10)), (1, .ptr b1 0 0 2)]) hS (by kernel_rfl)
          refine ad_ (ab_ ?_)
          refine aT_ (v := .agg (aa_.cells y10)) (cs := [i4 y10.Id, i4 y10.Kind, .str y10.Name, i4 y10.Low, y10.Keys.t, y10.Vals.t, i4 y10.Default.Kind, i4 y10.Default.Num, .str y10.Default.Text, i4 y10.Default.Ref]) rfl hS hH rfl rfl (by kernel_rfl) ?_; intro b5 σ s hH hS
          refine qs 1 [(1, .ptr b1 0 0 2), (2, .ptr b5 0 0 10)] hS ?_; intro s hS
          refine ae_ (sq_n (ad_ ?_))
          refine b6_ (W2 (fun _ => False) (fun _ => False)) (fun _ => rfl) (by kernel_rfl) (by kernel_rfl) hH ?_; intro mb σs σ hn0 hlt hlto hH
          have hlt_b1 : b1 < mb := hlt b1 _ (List.Mem.tail _ (List.Mem.tail _ (List.Mem.head _)))
          refine ai_ (v := .agg (aa_.cells y10)) 0 (Or.inl (by kernel_rfl)) rfl hS hH rfl rfl (by kernel_rfl) ?_; intro s hS
          obtain ⟨y11, hy11, h⟩ := bind_some h
          refine a2_ (ents := []) (z := false) (ts := [.agg (aa_.cells y10)]) (vs := [.agg (aa_.cells y10)]) rfl rfl hS rfl rfl rfl hH (HL.agg (es1 := []) (es2 := []) (HLi (HLi (HLs (HLi (HLp (HLp (HLi (HLi (HLs (HLi HL.nil)))))))))) HL.nil) hy11 ?_; intro hs σ s hl hH hS
          obtain ⟨t1, rfl⟩ := len1 hl
          have hH : Heap σ0 σ [.own true 4 t1 y11.t, .box b5 (aa_.cells y10), .box b4 (aa_.cells y10), .box b1 (aj_.cells a0)] := hH
          have ht1 : aV_ t1 := Heap.one hH
          refine ai_ (v := .agg (aj_.cells a0)) 3 (Or.inr ⟨hlt_b1, Or.inl (by kernel_rfl)⟩) rfl hS hH rfl rfl (by kernel_rfl) ?_; intro s hS
          refine qs 1 [(5, t1), (7, T.fn 73 [.agg (aj_.cells a0)] [])] hS ?_; intro s hS
          obtain ⟨y12, hy12, h⟩ := bind_some h
          refine dV_ (ents := [.own true 4 t1 y11.t]) (z := false) (ts := [t1, T.fn 73 [.agg (aj_.cells a0)] []]) (vs := [y11.t, T.fn 73 [.agg (aj_.cells a0)] []]) rfl hS rfl rfl rfl hH (HL.own rfl (HL.leaf (fun σ d => jj_ (by first | assumption | rfl)) HL.nil)) hy12 (by kernel_rfl) ?_; intro s hS
          refine qs 1 [(3, .bool y12)] hS ?_; intro s hS
          refine ae_ (sq_n (ao_ ?_))
          refine fS_ (v := .bool y12) (an_ (v := .bool y12) hS rfl r_nil) rfl ?_; intro s hS
          refine qs 1 [(1, T.fn 111 [] [.ptr b1 0 0 2]), (7, a0.Objects.t), (8, i4 (a0.Objects.l.length : Int)), (9, i4 st3), (16, .bool (!y12))] hS ?_; intro s hS
          refine ae_ (sq_n ?_)
          by_cases hc10 : (!y12) = true
          ·have h := ak_ hc10 h
           refine af_ hS rfl (fun _ => ?_) (fun hf => ah_ hc10 hf)
           refine ad_ (ab_ ?_)
           refine qs 1 [(4, .bool false)] hS ?_; intro s hS
           refine ae_ (sq_n (ao_ (bk_r (sq_r ?_))))
           injection h with h; subst h
           exact And.intro rfl (And.intro (am_ hS (by kernel_rfl)) (Heap.sel hH [] rfl (by kernel_rfl)))
          ·have h := al_ hc10 h
           refine af_ hS rfl (fun hf => ag_ hc10 hf) (fun _ => ?_)
           refine as_ (bk_n (sq_n (ab_ ?_)))
           refine qs 2 [(1, T.fn 111 [] [.ptr b1 0 0 2]), (7, a0.Objects.t), (8, i4 (a0.Objects.l.length : Int)), (9, i4 (w4 (st3 + 1)))] hS ?_; intro s hS
           refine ae_ ?_
           injection h with h; subst h
           exact And.intro (am_ hS (by kernel_rfl)) (Heap.sel hH [3] rfl (by kernel_rfl))
         ·have h := al_ hc9 h
          refine af_ hS rfl (fun hf => ag_ hc9 hf) (fun _ => ?_)
          refine ba_ (sq_x ?_)
          injection h with h; subst h
          exact And.intro rfl (And.intro (am_ hS (by kernel_rfl)) (Heap.sel hH [] rfl (by kernel_rfl)))
        ·clear hS hH; intro e fr HF; obtain ⟨s, σ⟩ := fr
         rcases y9 with y9 | y9
         ·obtain ⟨rfl, hS, hH⟩ := HF
          refine bk_e (sq_n (ad_ (ab_ ?_)))
          refine qs 1 [(4, .bool true)] hS ?_; intro s hS
          refine ae_ (sq_n (ao_ ?_))
          refine fS_ (v := .bool true) (an_ (v := .bool true) hS rfl r_nil) rfl ?_; intro s hS
          injection h with h; subst h
          exact And.intro (am_ hS (by kernel_rfl)) hH
         ·obtain ⟨rfl, hS, hH⟩ := HF
          refine bk_r (sq_r ?_)
          refine fS_ (v := .bool false) (an_ (v := .bool false) hS rfl r_nil) rfl ?_; intro s hS
          injection h with h; subst h
          exact And.intro (am_ hS (by kernel_rfl)) hH
       ·intro s σ HF; obtain ⟨hS, hH⟩ := HF
        refine qs 1 [(2, .bool y8)] hS ?_; intro s hS
        refine ae_ (sq_n (ao_ ?_))
        injection h with h; subst h
        exact aq_ hH (an_ (v := .bool y8) hS rfl r_nil) rfl (by kernel_rfl) (by simp [pureT, pureL, E_bool])
      ·obtain ⟨rfl, HE⟩ := HF
       refine bk_r (sq_r ?_)
       injection h with h; subst h; exact HE
noncomputable def cC_ (a0 : aj_) (a1 : Int) : Option Int := ((aM_ (S := (Int × Int)) (R := Int) (fun st1 => (if (decide (st1.1 < st1.2)) = true then ((elt a0.Objects ((w4 (((IntKind.u64.wrap (w4 (st1.1 + st1.2))).fdiv (2 ^ 1)))))).bind fun y2 => ((bi_ y2 a1).bind fun y3 => (if (decide (y3 < 0)) = true then (some (.inl ((w4 ((w4 (((IntKind.u64.wrap (w4 (st1.1 + st1.2))).fdiv (2 ^ 1)))) + 1)), st1.2))) else (some (.inl (st1.1, (w4 (((IntKind.u64.wrap (w4 (st1.1 + st1.2))).fdiv (2 ^ 1)))))))))) else (some (.inr st1.1)))) (0, (a0.Objects.l.length : Int))).bind fun y1 => (if (decide (y1 < (a0.Objects.l.length : Int))) = true then ((elt a0.Objects y1).bind fun y4 => ((bi_ y4 a1).bind fun y5 => (if (!(decide (y5 = 0))) = true then (some (-1)) else (some y1)))) else (some (-1))))
theorem hV_ (a0 : aj_) (a1 : Int) (r : Int) (h : cC_ a0 a1 = some r) : bk_ a0 a1 = some r := by
 unfold cC_ at h
 refine ax_ E_i64_inj rfl rfl ok_63 rfl (all_cons (by kernel_rfl) (all_cons (by kernel_rfl) all_nil)) ?_
 intro σ0 s hS hH
 have hS := am_ (L' := [(0, .agg (aj_.cells a0)), (1, i4 a1)]) hS (by kernel_rfl)
 refine ad_ (ab_ ?_)
 refine aT_ (v := .agg (aj_.cells a0)) (cs := [i4 a0.Next, a0.Objects.t]) rfl hS hH rfl rfl (by kernel_rfl) ?_; intro b1 σ s hH hS
 refine qs 1 [(1, i4 a1), (2, .ptr b1 0 0 2)] hS ?_; intro s hS
 refine ae_ (sq_n (ad_ (ab_ ?_)))
 refine qs 1 [(1, i4 a1), (8, .ptr b1 0 1 1)] hS ?_; intro s hS
 refine ai_ (v := a0.Objects.t) 0 trivial rfl hS hH rfl rfl (by kernel_rfl) ?_; intro s hS
 refine qs 1 [(9, a0.Objects.t), (10, i4 a1)] hS ?_; intro s hS
 refine nP_ [a0.Objects.t, i4 a1, T.fn 113 [] []] rfl hS rfl rfl rfl rfl rfl ok_112 rfl ?_; intro s hS
 have hS := am_ (L' := [(0, a0.Objects.t), (1, i4 a1), (2, T.fn 113 [] [])]) hS (by kernel_rfl)
 refine ad_ (ab_ ?_)
 refine qs 2 [(0, a0.Objects.t), (1, i4 a1), (2, T.fn 113 [] [])] hS ?_; intro s hS
 refine ae_ (sq_n (ad_ (ab_ ?_)))
 refine qs 3 [(0, a0.Objects.t), (1, i4 a1), (2, T.fn 113 [] []), (8, i4 (a0.Objects.l.length : Int))] hS ?_; intro s hS
 refine ae_ (sq_n (ad_ (ab_ ?_)))
 refine qs 3 [(0, a0.Objects.t), (1, i4 a1), (2, T.fn 113 [] []), (8, i4 (a0.Objects.l.length : Int)), (9, i4 0), (10, i4 (a0.Objects.l.length : Int))] hS ?_; intro s hS
 refine ae_ (sq_n (ad_ (aw_ ?_)))
 obtain ⟨y1, hy1, h⟩ := bind_some h
 refine bd_ (fun (st1 : (Int × Int)) (fr : Fr) => Sub [(0, a0.Objects.t), (1, i4 a1), (2, T.fn 113 [] []), (8, i4 (a0.Objects.l.length : Int)), (9, i4 st1.1), (10, i4 st1.2)] fr.s ∧ Heap σ0 fr.σ []) (fun (y1 : Int) (e : aC_) (fr : Fr) => e = (.exit 0) ∧ Sub [(0, a0.Objects.t), (1, i4 a1), (2, T.fn 113 [] []), (8, i4 (a0.Objects.l.length : Int)), (9, i4 y1)] fr.s ∧ Heap σ0 fr.σ []) hy1 (And.intro (am_ hS (by kernel_rfl)) (Heap.sel hH [] rfl (by kernel_rfl))) ?_ ?_
 ·clear h hy1 hS hH; clear y1; intro st1 x fr h HI; obtain ⟨s, σ⟩ := fr; obtain ⟨hS, hH⟩ := HI
  refine ad_ (ad_ (ab_ ?_))
  refine qs 3 [(0, a0.Objects.t), (1, i4 a1), (2, T.fn 113 [] []), (8, i4 (a0.Objects.l.length : Int)), (9, i4 st1.1), (10, i4 st1.2), (17, .bool (decide (st1.1 < st1.2)))] hS ?_; intro s hS
  refine ae_ (sq_n ?_)
  by_cases hc1 : (decide (st1.1 < st1.2)) = true
  ·have h := ak_ hc1 h
   refine af_ hS rfl (fun _ => ?_) (fun hf => ah_ hc1 hf)
   refine as_ (sq_n (aw_ (ad_ (ab_ ?_))))
   refine qs 7 [(0, a0.Objects.t), (1, i4 a1), (2, T.fn 113 [] []), (8, i4 (a0.Objects.l.length : Int)), (9, i4 st1.1), (10, i4 st1.2), (11, i4 ((w4 (((IntKind.u64.wrap (w4 (st1.1 + st1.2))).fdiv (2 ^ 1))))))] hS ?_; intro s hS
   refine ae_ (sq_n (ad_ (ab_ ?_)))
   refine qs 3 [(0, a0.Objects.t), (1, i4 a1), (2, T.fn 113 [] []), (8, i4 (a0.Objects.l.length : Int)), (9, i4 st1.1), (10, i4 st1.2), (11, i4 ((w4 (((IntKind.u64.wrap (w4 (st1.1 + st1.2))).fdiv (2 ^ 1)))))), (24, T.fn 113 [] []), (25, a0.Objects.t), (26, i4 ((w4 (((IntKind.u64.wrap (w4 (st1.1 + st1.2))).fdiv (2 ^ 1))))))] hS ?_; intro s hS
   obtain ⟨y2, hy2, h⟩ := bind_some h
   refine bh_ (sl := a0.Objects) (e := 30) [i4 y2.Id, i4 y2.Kind, .str y2.Name, i4 y2.Low, y2.Keys.t, y2.Vals.t, i4 y2.Default.Kind, i4 y2.Default.Num, .str y2.Default.Text, i4 y2.Default.Ref] rfl hS rfl rfl (by kernel_rfl) (by kernel_rfl) hy2 rfl ?_; intro rest1 s hS
   refine qs 2 [(0, a0.Objects.t), (1, i4 a1), (2, T.fn 113 [] []), (8, i4 (a0.Objects.l.length : Int)), (9, i4 st1.1), (10, i4 st1.2), (11, i4 ((w4 (((IntKind.u64.wrap (w4 (st1.1 + st1.2))).fdiv (2 ^ 1)))))), (24, T.fn 113 [] []), (28, .agg (aa_.cells y2)), (29, i4 a1)] hS ?_; intro s hS
   obtain ⟨y3, hy3, h⟩ := bind_some h
   refine ar_ (a := []) (b := []) (xs := [.agg (aa_.cells y2), i4 a1]) rfl hS rfl rfl hy3 ?_; intro s hS
   refine qs 1 [(0, a0.Objects.t), (1, i4 a1), (2, T.fn 113 [] []), (8, i4 (a0.Objects.l.length : Int)), (9, i4 st1.1), (10, i4 st1.2), (11, i4 ((w4 (((IntKind.u64.wrap (w4 (st1.1 + st1.2))).fdiv (2 ^ 1)))))), (31, .bool (decide (y3 < 0)))] hS ?_; intro s hS
   refine ae_ (sq_n ?_)
   by_cases hc2 : (decide (y3 < 0)) = true
   ·have h := ak_ hc2 h
    refine af_ hS rfl (fun _ => ?_) (fun hf => ah_ hc2 hf)
    refine ab_ ?_
    refine qs 3 [(0, a0.Objects.t), (1, i4 a1), (2, T.fn 113 [] []), (8, i4 (a0.Objects.l.length : Int)), (9, i4 ((w4 ((w4 (((IntKind.u64.wrap (w4 (st1.1 + st1.2))).fdiv (2 ^ 1)))) + 1)))), (10, i4 st1.2)] hS ?_; intro s hS
    refine ae_ (bk_n ?_)
    injection h with h; subst h
    exact And.intro (am_ hS (by kernel_rfl)) hH
   ·have h := al_ hc2 h
    refine af_ hS rfl (fun hf => ag_ hc2 hf) (fun _ => ?_)
    refine ab_ ?_
    refine qs 2 [(0, a0.Objects.t), (1, i4 a1), (2, T.fn 113 [] []), (8, i4 (a0.Objects.l.length : Int)), (9, i4 st1.1), (10, i4 ((w4 (((IntKind.u64.wrap (w4 (st1.1 + st1.2))).fdiv (2 ^ 1))))))] hS ?_; intro s hS
    refine ae_ (bk_n ?_)
    injection h with h; subst h
    exact And.intro (am_ hS (by kernel_rfl)) hH
  ·have h := al_ hc1 h
   refine af_ hS rfl (fun hf => ag_ hc1 hf) (fun _ => ?_)
   refine ba_ (sq_x ?_)
   injection h with h; subst h
   exact And.intro rfl (And.intro (am_ hS (by kernel_rfl)) hH)
 ·clear hS hH; intro e fr HF; obtain ⟨s, σ⟩ := fr
  obtain ⟨rfl, hS, hH⟩ := HF
  refine bk_e (sq_n (ad_ (ab_ ?_)))
  refine qs 5 [(39, .bool (decide (y1 < (a0.Objects.l.length : Int)))), (0, a0.Objects.t), (1, i4 a1), (2, T.fn 113 [] []), (9, i4 y1), (35, i4 y1)] hS ?_; intro s hS
  by_cases hc3 : (decide (y1 < (a0.Objects.l.length : Int))) = true
  ·have h := ak_ hc3 h
   have hS := ap_ hS hc3
   refine qs 3 [(1, i4 a1), (35, i4 y1), (39, .bool true), (40, T.fn 113 [] []), (41, a0.Objects.t), (42, i4 y1)] hS ?_; intro s hS
   obtain ⟨y4, hy4, h⟩ := bind_some h
   refine bh_ (sl := a0.Objects) (e := 30) [i4 y4.Id, i4 y4.Kind, .str y4.Name, i4 y4.Low, y4.Keys.t, y4.Vals.t, i4 y4.Default.Kind, i4 y4.Default.Num, .str y4.Default.Text, i4 y4.Default.Ref] rfl hS rfl rfl (by kernel_rfl) (by kernel_rfl) hy4 rfl ?_; intro rest2 s hS
   refine qs 2 [(35, i4 y1), (39, .bool true), (40, T.fn 113 [] []), (44, .agg (aa_.cells y4)), (45, i4 a1)] hS ?_; intro s hS
   obtain ⟨y5, hy5, h⟩ := bind_some h
   refine ar_ (a := []) (b := []) (xs := [.agg (aa_.cells y4), i4 a1]) rfl hS rfl rfl hy5 ?_; intro s hS
   refine qs 4 [(6, i4 y1), (7, .bool (decide (y5 = 0)))] hS ?_; intro s hS
   refine ae_ (sq_n (ao_ ?_))
   refine fS_ (v := .tup [i4 y1, .bool (decide (y5 = 0))]) (an_ (v := i4 y1) hS rfl (an_ (v := .bool (decide (y5 = 0))) hS rfl r_nil)) rfl ?_; intro s hS
   refine qs 5 [(5, i4 y1), (6, .bool (decide (y5 = 0)))] hS ?_; intro s hS
   refine ae_ (sq_n (ad_ (ad_ (ab_ ?_))))
   refine qs 2 [(5, i4 y1), (15, .bool (!(decide (y5 = 0))))] hS ?_; intro s hS
   refine ae_ (sq_n ?_)
   by_cases hc4 : (!(decide (y5 = 0))) = true
   ·have h := ak_ hc4 h
    refine af_ hS rfl (fun _ => ?_) (fun hf => ah_ hc4 hf)
    refine ad_ (ab_ ?_)
    refine qs 1 [(4, i4 (-1))] hS ?_; intro s hS
    refine ae_ (sq_n (ao_ (sq_r ?_)))
    injection h with h; subst h
    exact aq_ hH (an_ (v := i4 (-1)) hS rfl r_nil) rfl (by kernel_rfl) (by simp [pureT, pureL, E_i64])
   ·have h := al_ hc4 h
    refine af_ hS rfl (fun hf => ag_ hc4 hf) (fun _ => ?_)
    refine as_ (sq_n (ad_ (ab_ ?_)))
    refine qs 2 [(4, i4 y1)] hS ?_; intro s hS
    refine ae_ (sq_n (ao_ ?_))
    injection h with h; subst h
    exact aq_ hH (an_ (v := i4 y1) hS rfl r_nil) rfl (by kernel_rfl) (by simp [pureT, pureL, E_i64])
  ·have h := al_ hc3 h
   have hS := ap_ hS (aB_ hc3)
   refine qs 11 [(6, i4 y1), (7, .bool false)] hS ?_; intro s hS
   refine ae_ (sq_n (ao_ ?_))
   refine fS_ (v := .tup [i4 y1, .bool false]) (an_ (v := i4 y1) hS rfl (an_ (v := .bool false) hS rfl r_nil)) rfl ?_; intro s hS
   refine qs 5 [(5, i4 y1), (6, .bool false)] hS ?_; intro s hS
   refine ae_ (sq_n (ad_ (ad_ (ab_ ?_))))
   refine qs 2 [(5, i4 y1), (15, .bool true)] hS ?_; intro s hS
   refine ae_ (sq_n ?_)
   refine af_ (t := true) hS rfl (fun _ => ?_) (fun hf => by cases hf)
   refine ad_ (ab_ ?_)
   refine qs 1 [(4, i4 (-1))] hS ?_; intro s hS
   refine ae_ (sq_n (ao_ (sq_r ?_)))
   injection h with h; subst h
   exact aq_ hH (an_ (v := i4 (-1)) hS rfl r_nil) rfl (by kernel_rfl) (by simp [pureT, pureL, E_i64])
noncomputable def bG_ (a0 : aa_) : Option aa_ := ((bn_ a0.Keys).bind fun y1 => ((bn_ a0.Vals).bind fun y2 => (some (⟨a0.Id, a0.Kind, a0.Name, a0.Low, y1, y2, a0.Default⟩ : aa_))))
theorem d2_ (a0 : aa_) (r : aa_) (h : bG_ a0 = some r) : aR_ a0 = some r := by
 unfold bG_ at h
 refine cx_ rfl rfl ok_64 rfl (all_cons (by kernel_rfl) all_nil) ?_
 intro σ0 s hS hH
 have hS := am_ (L' := [(0, .agg (aa_.cells a0))]) hS (by kernel_rfl)
 refine ad_ (ab_ ?_)
 refine aT_ (v := .agg (aa_.cells a0)) (cs := [i4 a0.Id, i4 a0.Kind, .str a0.Name, i4 a0.Low, a0.Keys.t, a0.Vals.t, i4 a0.Default.Kind, i4 a0.Default.Num, .str a0.Default.Text, i4 a0.Default.Ref]) rfl hS hH rfl rfl (by kernel_rfl) ?_; intro b1 σ s hH hS
 refine aO_ (z := [i4 0, i4 0, .str ⟨#[]⟩, i4 0, (nt ac_), (nt ac_), i4 0, i4 0, .str ⟨#[]⟩, i4 0]) rfl hS hH (by kernel_rfl) ?_; intro b2 σ s hH hS
 refine ae_ (sq_n (ad_ ?_))
 refine b6_ (W2 (fun _ => False) (fun _ => True)) (fun _ => rfl) (by kernel_rfl) (by kernel_rfl) hH ?_; intro mb σs σ hn0 hlt hlto hH
 have hlt_b1 : b1 < mb := hlt b1 _ (List.Mem.tail _ (List.Mem.head _))
 refine qs 1 [(1, .ptr b1 0 0 10), (2, .ptr b2 0 0 10), (3, .ptr b1 0 4 1)] hS ?_; intro s hS
 refine ai_ (v := a0.Keys.t) 1 (Or.inl (by kernel_rfl)) rfl hS hH rfl rfl (by kernel_rfl) ?_; intro s hS
 obtain ⟨y1, hy1, h⟩ := bind_some h
 refine a2_ (ents := []) (z := false) (ts := [a0.Keys.t]) (vs := [a0.Keys.t]) rfl rfl hS rfl rfl rfl hH (HLp HL.nil) hy1 ?_; intro hs σ s hl hH hS
 obtain ⟨t1, rfl⟩ := len1 hl
 have hH : Heap σ0 σ [.own true 4 t1 y1.t, .box b2 [i4 0, i4 0, .str ⟨#[]⟩, i4 0, (nt ac_), (nt ac_), i4 0, i4 0, .str ⟨#[]⟩, i4 0], .box b1 (aa_.cells a0)] := hH
 have ht1 : aV_ t1 := Heap.one hH
 refine qs 1 [(1, .ptr b1 0 0 10), (2, .ptr b2 0 0 10), (5, t1), (6, .ptr b1 0 5 1)] hS ?_; intro s hS
 refine ai_ (v := a0.Vals.t) 2 (Or.inr ⟨hlt_b1, Or.inl (by kernel_rfl)⟩) rfl hS hH rfl rfl (by kernel_rfl) ?_; intro s hS
 obtain ⟨y2, hy2, h⟩ := bind_some h
 refine a2_ (ents := []) (z := false) (ts := [a0.Vals.t]) (vs := [a0.Vals.t]) rfl rfl hS rfl rfl rfl hH (HLp HL.nil) hy2 ?_; intro hs σ s hl hH hS
 obtain ⟨t2, rfl⟩ := len1 hl
 have hH : Heap σ0 σ [.own true 4 t2 y2.t, .own true 4 t1 y1.t, .box b2 [i4 0, i4 0, .str ⟨#[]⟩, i4 0, (nt ac_), (nt ac_), i4 0, i4 0, .str ⟨#[]⟩, i4 0], .box b1 (aa_.cells a0)] := hH
 have ht2 : aV_ t2 := Heap.one hH
 refine qs 1 [(1, .ptr b1 0 0 10), (2, .ptr b2 0 0 10), (5, t1), (8, t2), (9, .ptr b1 0 4 1)] hS ?_; intro s hS
 have hH : Heap σ0 σ [.box b1 (aa_.cells a0), .own true 4 t2 y2.t, .own true 4 t1 y1.t, .box b2 [i4 0, i4 0, .str ⟨#[]⟩, i4 0, (nt ac_), (nt ac_), i4 0, i4 0, .str ⟨#[]⟩, i4 0]] := hH.sel [3, 0, 1, 2] rfl (by kernel_rfl)
 refine bC_ rfl (v := t1) (cs := [t1]) (cells' := [i4 a0.Id, i4 a0.Kind, .str a0.Name, i4 a0.Low, t1, a0.Vals.t, i4 a0.Default.Kind, i4 a0.Default.Num, .str a0.Default.Text, i4 a0.Default.Ref]) (by exact Or.inr ⟨false, by kernel_rfl, trivial⟩) rfl hS hH rfl rfl (by simp [ht1.1, ht1.2]) (by simp [ht1.1, ht1.2]) (by kernel_rfl) ?_; intro σ s hH hS
 refine qs 1 [(1, .ptr b1 0 0 10), (2, .ptr b2 0 0 10), (8, t2), (10, .ptr b1 0 5 1)] hS ?_; intro s hS
 refine bC_ rfl (v := t2) (cs := [t2]) (cells' := [i4 a0.Id, i4 a0.Kind, .str a0.Name, i4 a0.Low, t1, t2, i4 a0.Default.Kind, i4 a0.Default.Num, .str a0.Default.Text, i4 a0.Default.Ref]) (by exact Or.inr ⟨false, by kernel_rfl, trivial⟩) rfl hS hH rfl rfl (by simp [ht2.1, ht2.2]) (by simp [ht2.1, ht2.2]) (by kernel_rfl) ?_; intro σ s hH hS
 refine ae_ (sq_n (ad_ (ab_ ?_)))
 refine ai_ (v := .agg [i4 a0.Id, i4 a0.Kind, .str a0.Name, i4 a0.Low, t1, t2, i4 a0.Default.Kind, i4 a0.Default.Num, .str a0.Default.Text, i4 a0.Default.Ref]) 0 trivial rfl hS hH rfl rfl (by kernel_rfl) ?_; intro s hS
 have hH : Heap σ0 σ [.box b2 [i4 0, i4 0, .str ⟨#[]⟩, i4 0, (nt ac_), (nt ac_), i4 0, i4 0, .str ⟨#[]⟩, i4 0], .box b1 [i4 a0.Id, i4 a0.Kind, .str a0.Name, i4 a0.Low, t1, t2, i4 a0.Default.Kind, i4 a0.Default.Num, .str a0.Default.Text, i4 a0.Default.Ref], .own true 4 t2 y2.t, .own true 4 t1 y1.t] := hH.sel [3, 0, 1, 2] rfl (by kernel_rfl)
 refine aF_ (cs := [i4 a0.Id, i4 a0.Kind, .str a0.Name, i4 a0.Low, t1, t2, i4 a0.Default.Kind, i4 a0.Default.Num, .str a0.Default.Text, i4 a0.Default.Ref]) rfl hS hH rfl rfl (by simp [ht1.1, ht1.2, ht2.1, ht2.2]) ?_; intro σ s hH hS
 refine ae_ (sq_n (ao_ ?_))
 injection h with h; subst h
 have hH : Heap σ0 σ [.own true 4 t1 y1.t, .own true 4 t2 y2.t, .box b2 [i4 a0.Id, i4 a0.Kind, .str a0.Name, i4 a0.Low, t1, t2, i4 a0.Default.Kind, i4 a0.Default.Num, .str a0.Default.Text, i4 a0.Default.Ref], .box b1 [i4 a0.Id, i4 a0.Kind, .str a0.Name, i4 a0.Low, t1, t2, i4 a0.Default.Kind, i4 a0.Default.Num, .str a0.Default.Text, i4 a0.Default.Ref]] := hH.sel [3, 2, 0, 1] rfl (by kernel_rfl)
 exact a8_ [t1, t2] [.box b2 [i4 a0.Id, i4 a0.Kind, .str a0.Name, i4 a0.Low, t1, t2, i4 a0.Default.Kind, i4 a0.Default.Num, .str a0.Default.Text, i4 a0.Default.Ref], .box b1 [i4 a0.Id, i4 a0.Kind, .str a0.Name, i4 a0.Low, t1, t2, i4 a0.Default.Kind, i4 a0.Default.Num, .str a0.Default.Text, i4 a0.Default.Ref]] (bf_ (v := .agg [i4 a0.Id, i4 a0.Kind, .str a0.Name, i4 a0.Low, t1, t2, i4 a0.Default.Kind, i4 a0.Default.Num, .str a0.Default.Text, i4 a0.Default.Ref]) hS (hH.at 2 rfl) rfl (by kernel_rfl) r_nil) (by kernel_rfl) rfl hH (by kernel_rfl)
noncomputable def dK_ (a0 : (Sl aa_)) (a1 : (Sl aa_)) : Option Bool := (if ((!decide ((a0.l.length : Int) = (a1.l.length : Int)))) = true then (some false) else ((aM_ (S := Int) (R := (Unit ⊕ Bool)) (fun st1 => (if (decide (st1 < (a0.l.length : Int))) = true then ((elt a0 st1).bind fun y2 => ((elt a1 st1).bind fun y3 => ((cZ_ y2 y3).bind fun y4 => (if (!y4) = true then (some (.inr (.inr false))) else (some (.inl (w4 (st1 + 1)))))))) else (some (.inr (.inl ()))))) 0).bind fun y1 => (Sum.elim (fun y1 => (some true)) (fun y1 => (some y1)) y1)))
theorem h2_ (a0 : (Sl aa_)) (a1 : (Sl aa_)) (r : Bool) (h : dK_ a0 a1 = some r) : dY_ a0 a1 = some r := by
 unfold dK_ at h
 refine ax_ E_bool_inj rfl rfl ok_65 rfl (all_cons (by kernel_rfl) (all_cons (by kernel_rfl) all_nil)) ?_
 intro σ0 s hS hH
 have hS := am_ (L' := [(0, a0.t), (1, a1.t)]) hS (by kernel_rfl)
 refine ad_ (ab_ ?_)
 refine qs 1 [(0, a0.t), (1, a1.t)] hS ?_; intro s hS
 refine ae_ (sq_n (ad_ (ad_ (ab_ ?_))))
 refine qs 5 [(0, a0.t), (1, a1.t), (10, .bool ((!decide ((a0.l.length : Int) = (a1.l.length : Int)))))] hS ?_; intro s hS
 refine ae_ (sq_n ?_)
 by_cases hc1 : ((!decide ((a0.l.length : Int) = (a1.l.length : Int)))) = true
 ·have h := ak_ hc1 h
  refine af_ hS rfl (fun _ => ?_) (fun hf => ah_ hc1 hf)
  refine ad_ (ab_ ?_)
  refine qs 1 [(4, .bool false)] hS ?_; intro s hS
  refine ae_ (sq_n (ao_ (sq_r ?_)))
  injection h with h; subst h
  exact aq_ hH (an_ (v := .bool false) hS rfl r_nil) rfl (by kernel_rfl) (by simp [pureT, pureL, E_bool])
 ·have h := al_ hc1 h
  refine af_ hS rfl (fun hf => ag_ hc1 hf) (fun _ => ?_)
  refine as_ (sq_n (ad_ (ad_ (ab_ ?_))))
  refine qs 1 [(0, a0.t), (1, a1.t), (5, i4 0)] hS ?_; intro s hS
  refine ae_ (sq_n (aw_ ?_))
  obtain ⟨y1, hy1, h⟩ := bind_some h
  refine bd_ (fun (st1 : Int) (fr : Fr) => Sub [(0, a0.t), (1, a1.t), (5, i4 st1)] fr.s ∧ Heap σ0 fr.σ []) (fun (y1 : (Unit ⊕ Bool)) (e : aC_) (fr : Fr) => (Sum.elim (fun y => e = (.exit 0) ∧ Sub [] fr.s ∧ Heap σ0 fr.σ []) (fun y => e = .ret ∧ endW Try.prog (Try.f65.results.toList) σ0 (E_bool y) .ret fr)) y1) hy1 (And.intro (am_ hS (by kernel_rfl)) hH) ?_ ?_
  ·clear h hy1 hS hH; clear y1; intro st1 x fr h HI; obtain ⟨s, σ⟩ := fr; obtain ⟨hS, hH⟩ := HI
   refine ad_ (ad_ (ab_ ?_))
   refine qs 4 [(0, a0.t), (1, a1.t), (5, i4 st1), (14, .bool (decide (st1 < (a0.l.length : Int))))] hS ?_; intro s hS
   refine ae_ (sq_n ?_)
   by_cases hc2 : (decide (st1 < (a0.l.length : Int))) = true
   ·have h := ak_ hc2 h
    refine af_ hS rfl (fun _ => ?_) (fun hf => ah_ hc2 hf)
    refine as_ (sq_n (ad_ (aw_ (ad_ ?_))))
    refine dk_ (by kernel_rfl) hH ?_; intro mb σ hH
    refine qs 2 [(0, a0.t), (1, a1.t), (5, i4 st1), (17, a0.t), (18, i4 st1)] hS ?_; intro s hS
    obtain ⟨y2, hy2, h⟩ := bind_some h
    refine bh_ (sl := a0) (e := 30) [i4 y2.Id, i4 y2.Kind, .str y2.Name, i4 y2.Low, y2.Keys.t, y2.Vals.t, i4 y2.Default.Kind, i4 y2.Default.Num, .str y2.Default.Text, i4 y2.Default.Ref] rfl hS rfl rfl (by kernel_rfl) (by kernel_rfl) hy2 rfl ?_; intro rest1 s hS
    refine qs 3 [(0, a0.t), (1, a1.t), (5, i4 st1), (20, .agg (aa_.cells y2)), (21, a1.t), (22, i4 st1)] hS ?_; intro s hS
    obtain ⟨y3, hy3, h⟩ := bind_some h
    refine bh_ (sl := a1) (e := 30) [i4 y3.Id, i4 y3.Kind, .str y3.Name, i4 y3.Low, y3.Keys.t, y3.Vals.t, i4 y3.Default.Kind, i4 y3.Default.Num, .str y3.Default.Text, i4 y3.Default.Ref] rfl hS rfl rfl (by kernel_rfl) (by kernel_rfl) hy3 rfl ?_; intro rest2 s hS
    refine qs 1 [(0, a0.t), (1, a1.t), (5, i4 st1), (20, .agg (aa_.cells y2)), (24, .agg (aa_.cells y3))] hS ?_; intro s hS
    obtain ⟨y4, hy4, h⟩ := bind_some h
    refine ar_ (a := []) (b := []) (xs := [.agg (aa_.cells y2), .agg (aa_.cells y3)]) rfl hS rfl rfl hy4 ?_; intro s hS
    refine qs 1 [(0, a0.t), (1, a1.t), (5, i4 st1), (26, .bool (!y4))] hS ?_; intro s hS
    refine ae_ (sq_n ?_)
    by_cases hc3 : (!y4) = true
    ·have h := ak_ hc3 h
     refine af_ hS rfl (fun _ => ?_) (fun hf => ah_ hc3 hf)
     refine ad_ (ab_ ?_)
     refine qs 1 [(4, .bool false)] hS ?_; intro s hS
     refine ae_ (sq_n (ao_ (bk_r (sq_r ?_))))
     injection h with h; subst h
     exact And.intro rfl (aq_ hH (an_ (v := .bool false) hS rfl r_nil) rfl (by kernel_rfl) (by simp [pureT, pureL, E_bool]))
    ·have h := al_ hc3 h
     refine af_ hS rfl (fun hf => ag_ hc3 hf) (fun _ => ?_)
     refine as_ (bk_n (sq_n (ab_ ?_)))
     refine qs 3 [(0, a0.t), (1, a1.t), (5, i4 (w4 (st1 + 1)))] hS ?_; intro s hS
     refine ae_ ?_
     injection h with h; subst h
     exact And.intro (am_ hS (by kernel_rfl)) hH
   ·have h := al_ hc2 h
    refine af_ hS rfl (fun hf => ag_ hc2 hf) (fun _ => ?_)
    refine ba_ (sq_x ?_)
    injection h with h; subst h
    exact And.intro rfl (And.intro (am_ hS (by kernel_rfl)) hH)
  ·clear hS hH; intro e fr HF; obtain ⟨s, σ⟩ := fr
   rcases y1 with y1 | y1
   ·obtain ⟨rfl, hS, hH⟩ := HF
    refine bk_e (sq_n (ad_ (ab_ ?_)))
    refine qs 1 [(4, .bool true)] hS ?_; intro s hS
    refine ae_ (sq_n (ao_ ?_))
    injection h with h; subst h
    exact aq_ hH (an_ (v := .bool true) hS rfl r_nil) rfl (by kernel_rfl) (by simp [pureT, pureL, E_bool])
   ·obtain ⟨rfl, HE⟩ := HF
    refine bk_r (sq_r ?_)
    injection h with h; subst h; exact HE
end Go.Am
