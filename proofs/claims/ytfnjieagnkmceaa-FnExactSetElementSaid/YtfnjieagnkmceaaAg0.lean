/- Functions of the program. -/
import Derived.Test.YtfnjieagnkmceaaAd0
set_option maxRecDepth 100000
set_option maxHeartbeats 4000000
set_option linter.unusedVariables false
set_option linter.unusedSimpArgs false
namespace Go.Am
open Go.Proofs
noncomputable def aP_ (a0 : (Sl ac_)) (a1 : Int) : Option (Int × (Sl ac_)) := ((aM_ (S := (Int × Int × (Sl ac_))) (R := (Int × (Sl ac_))) (fun st1 => (if (decide (st1.2.1 < (st1.2.2.l.length : Int))) = true then ((elt st1.2.2 st1.2.1).bind fun y2 => ((elt (setS st1.2.2 st1.2.1 ((⟨st1.1, y2.Num, y2.Text, y2.Ref⟩ : ac_) : ac_)) st1.2.1).bind fun y3 => ((aJ_ (w4 ((w4 (st1.1 + 1)) + 1))).bind fun y4 => ((elt ((setS (setS st1.2.2 st1.2.1 ((⟨st1.1, y2.Num, y2.Text, y2.Ref⟩ : ac_) : ac_)) st1.2.1 ((⟨y3.Kind, (w4 (st1.1 + 1)), y3.Text, y3.Ref⟩ : ac_) : ac_))) st1.2.1).bind fun y5 => ((elt ((setS ((setS (setS st1.2.2 st1.2.1 ((⟨st1.1, y2.Num, y2.Text, y2.Ref⟩ : ac_) : ac_)) st1.2.1 ((⟨y3.Kind, (w4 (st1.1 + 1)), y3.Text, y3.Ref⟩ : ac_) : ac_))) st1.2.1 ((⟨y5.Kind, y5.Num, y4, y5.Ref⟩ : ac_) : ac_))) st1.2.1).bind fun y6 => (some (.inl ((w4 ((w4 ((w4 ((w4 (st1.1 + 1)) + 1)) + 1)) + 1)), (w4 (st1.2.1 + 1)), (setS ((setS ((setS (setS st1.2.2 st1.2.1 ((⟨st1.1, y2.Num, y2.Text, y2.Ref⟩ : ac_) : ac_)) st1.2.1 ((⟨y3.Kind, (w4 (st1.1 + 1)), y3.Text, y3.Ref⟩ : ac_) : ac_))) st1.2.1 ((⟨y5.Kind, y5.Num, y4, y5.Ref⟩ : ac_) : ac_))) st1.2.1 ((⟨y6.Kind, y6.Num, y6.Text, (w4 ((w4 ((w4 (st1.1 + 1)) + 1)) + 1))⟩ : ac_) : ac_)))))))))) else (some (.inr (st1.1, st1.2.2))))) (a1, 0, a0)).bind fun y1 => (some (y1.1, y1.2)))
theorem ci_ (a0 : (Sl ac_)) (a1 : Int) (r : (Int × (Sl ac_))) (h : aP_ a0 a1 = some r) (wp0_1 : Nat) (p0_1 : T) : RawS Try.prog md ext 48 [p0_1, i4 a1] 0 (fun hs => E_i64 r.1) [.own true wp0_1 p0_1 a0.t] (fun hs => [.own true wp0_1 p0_1 r.2.t]) := by
 unfold aP_ at h
 refine j3_ rfl rfl ok_48 rfl ?_
 intro σ0 σ F σk s hS hH
 have hp0_1 : aV_ p0_1 := Heap.one hH
 have hS := am_ (L' := [(0, p0_1), (1, i4 a1)]) hS (by kernel_rfl)
 refine ad_ (ab_ ?_)
 refine qs 1 [(0, p0_1), (1, i4 a1)] hS ?_; intro s hS
 refine ae_ (sq_n (ad_ (ad_ (ab_ ?_))))
 refine qs 1 [(0, p0_1), (1, i4 a1), (5, i4 0)] hS ?_; intro s hS
 refine ae_ (sq_n (aw_ ?_))
 obtain ⟨y1, hy1, h⟩ := bind_some h
 refine bd_ (fun (st1 : (Int × Int × (Sl ac_))) (fr : Fr) => Sub [(0, p0_1), (1, i4 st1.1), (5, i4 st1.2.1)] fr.s ∧ Heap σ0 fr.σ [.own true wp0_1 p0_1 st1.2.2.t, .keep F σk]) (fun (y1 : (Int × (Sl ac_))) (e : aC_) (fr : Fr) => e = (.exit 0) ∧ Sub [(1, i4 y1.1)] fr.s ∧ Heap σ0 fr.σ [.own true wp0_1 p0_1 y1.2.t, .keep F σk]) hy1 (And.intro (am_ hS (by kernel_rfl)) hH) ?_ ?_
 ·clear h hy1 hS hH; clear y1; intro st1 x fr h HI; obtain ⟨s, σ⟩ := fr; obtain ⟨hS, hH⟩ := HI
  refine ad_ (ad_ (ab_ ?_))
  refine qs 2 [(0, p0_1), (1, i4 st1.1), (5, i4 st1.2.1), (6, i4 st1.2.1), (7, p0_1)] hS ?_; intro s hS
  refine la_ (a := st1.2.2) rfl hS hH rfl (by kernel_rfl) ?_; intro s hS
  refine qs 1 [(0, p0_1), (1, i4 st1.1), (5, i4 st1.2.1), (9, .bool (decide (st1.2.1 < (st1.2.2.l.length : Int))))] hS ?_; intro s hS
  refine ae_ (sq_n ?_)
  by_cases hc1 : (decide (st1.2.1 < (st1.2.2.l.length : Int))) = true
  ·have h := ak_ hc1 h
   refine af_ hS rfl (fun _ => ?_) (fun hf => ah_ hc1 hf)
   refine as_ (sq_n (ad_ (aw_ (ad_ (ab_ ?_)))))
   refine qs 3 [(0, p0_1), (1, i4 st1.1), (5, i4 st1.2.1), (12, p0_1), (13, i4 st1.2.1), (14, i4 st1.1)] hS ?_; intro s hS
   obtain ⟨y2, hy2, h⟩ := bind_some h
   refine cP_ (a := st1.2.2) (e := 28) (fun _ _ _ _ _ => trivial) rfl hS hH rfl rfl (by kernel_rfl) (by kernel_rfl) hy2 ?_; intro hb1 hb1e s hl_hb1 hS
   refine qs 1 [(0, p0_1), (1, i4 st1.1), (5, i4 st1.2.1), (14, i4 st1.1), (16, .ptr hb1 hb1e (st1.2.1.toNat * Enc.w ac_ + 0) 1)] hS ?_; intro s hS
   refine bQ_ (ents := []) (a := st1.2.2) (j := st1.2.1) (y := y2) (y' := ((⟨st1.1, y2.Num, y2.Text, y2.Ref⟩ : ac_) : ac_)) (off := 0) (c := [i4 y2.Kind, i4 y2.Num, .str y2.Text, i4 y2.Ref]) (us := [i4 st1.1]) (vs := [i4 st1.1]) (v := i4 st1.1) rfl hS hH hl_hb1 rfl rfl rfl (by kernel_rfl) (by kernel_rfl) rfl hy2 rfl (HLi HL.nil) rfl (by kernel_rfl) ?_; intro σ s hH hS
   refine ae_ (sq_n (ad_ (ab_ ?_)))
   refine qs 3 [(0, p0_1), (1, i4 (w4 (st1.1 + 1))), (5, i4 st1.2.1)] hS ?_; intro s hS
   refine ae_ (sq_n (ad_ (ab_ ?_)))
   refine qs 3 [(0, p0_1), (1, i4 (w4 (st1.1 + 1))), (5, i4 st1.2.1), (19, p0_1), (20, i4 st1.2.1), (21, i4 (w4 (st1.1 + 1)))] hS ?_; intro s hS
   obtain ⟨y3, hy3, h⟩ := bind_some h
   refine cP_ (a := (setS st1.2.2 st1.2.1 ((⟨st1.1, y2.Num, y2.Text, y2.Ref⟩ : ac_) : ac_))) (e := 28) (fun _ _ _ _ _ => trivial) rfl hS hH rfl rfl (by kernel_rfl) (by kernel_rfl) hy3 ?_; intro hb2 hb2e s hl_hb2 hS
   refine qs 1 [(0, p0_1), (1, i4 (w4 (st1.1 + 1))), (5, i4 st1.2.1), (21, i4 (w4 (st1.1 + 1))), (23, .ptr hb2 hb2e (st1.2.1.toNat * Enc.w ac_ + 1) 1)] hS ?_; intro s hS
   refine bQ_ (ents := []) (a := (setS st1.2.2 st1.2.1 ((⟨st1.1, y2.Num, y2.Text, y2.Ref⟩ : ac_) : ac_))) (j := st1.2.1) (y := y3) (y' := ((⟨y3.Kind, (w4 (st1.1 + 1)), y3.Text, y3.Ref⟩ : ac_) : ac_)) (off := 1) (c := [i4 y3.Kind, i4 y3.Num, .str y3.Text, i4 y3.Ref]) (us := [i4 (w4 (st1.1 + 1))]) (vs := [i4 (w4 (st1.1 + 1))]) (v := i4 (w4 (st1.1 + 1))) rfl hS hH hl_hb2 rfl rfl rfl (by kernel_rfl) (by kernel_rfl) rfl hy3 rfl (HLi HL.nil) rfl (by kernel_rfl) ?_; intro σ s hH hS
   refine ae_ (sq_n (ad_ (ab_ ?_)))
   refine qs 3 [(0, p0_1), (1, i4 (w4 ((w4 (st1.1 + 1)) + 1))), (5, i4 st1.2.1)] hS ?_; intro s hS
   refine ae_ (sq_n (ad_ (ab_ ?_)))
   refine qs 3 [(0, p0_1), (1, i4 (w4 ((w4 (st1.1 + 1)) + 1))), (5, i4 st1.2.1), (26, p0_1), (27, i4 st1.2.1), (28, i4 (w4 ((w4 (st1.1 + 1)) + 1)))] hS ?_; intro s hS
   obtain ⟨y4, hy4, h⟩ := bind_some h
   refine ar_ (a := []) (b := []) (xs := [i4 (w4 ((w4 (st1.1 + 1)) + 1))]) rfl hS rfl rfl hy4 ?_; intro s hS
   obtain ⟨y5, hy5, h⟩ := bind_some h
   refine cP_ (a := (setS (setS st1.2.2 st1.2.1 ((⟨st1.1, y2.Num, y2.Text, y2.Ref⟩ : ac_) : ac_)) st1.2.1 ((⟨y3.Kind, (w4 (st1.1 + 1)), y3.Text, y3.Ref⟩ : ac_) : ac_))) (e := 28) (fun _ _ _ _ _ => trivial) rfl hS hH rfl rfl (by kernel_rfl) (by kernel_rfl) hy5 ?_; intro hb3 hb3e s hl_hb3 hS
   refine qs 1 [(0, p0_1), (1, i4 (w4 ((w4 (st1.1 + 1)) + 1))), (5, i4 st1.2.1), (29, .str y4), (31, .ptr hb3 hb3e (st1.2.1.toNat * Enc.w ac_ + 2) 1)] hS ?_; intro s hS
   refine bQ_ (ents := []) (a := (setS (setS st1.2.2 st1.2.1 ((⟨st1.1, y2.Num, y2.Text, y2.Ref⟩ : ac_) : ac_)) st1.2.1 ((⟨y3.Kind, (w4 (st1.1 + 1)), y3.Text, y3.Ref⟩ : ac_) : ac_))) (j := st1.2.1) (y := y5) (y' := ((⟨y5.Kind, y5.Num, y4, y5.Ref⟩ : ac_) : ac_)) (off := 2) (c := [i4 y5.Kind, i4 y5.Num, .str y5.Text, i4 y5.Ref]) (us := [.str y4]) (vs := [.str y4]) (v := .str y4) rfl hS hH hl_hb3 rfl rfl rfl (by kernel_rfl) (by kernel_rfl) rfl hy5 rfl (HLs HL.nil) rfl (by kernel_rfl) ?_; intro σ s hH hS
   refine ae_ (sq_n (ad_ (ab_ ?_)))
   refine qs 3 [(0, p0_1), (1, i4 (w4 ((w4 ((w4 (st1.1 + 1)) + 1)) + 1))), (5, i4 st1.2.1)] hS ?_; intro s hS
   refine ae_ (sq_n (ad_ (ab_ ?_)))
   refine qs 3 [(0, p0_1), (1, i4 (w4 ((w4 ((w4 (st1.1 + 1)) + 1)) + 1))), (5, i4 st1.2.1), (34, p0_1), (35, i4 st1.2.1), (36, i4 (w4 ((w4 ((w4 (st1.1 + 1)) + 1)) + 1)))] hS ?_; intro s hS
   obtain ⟨y6, hy6, h⟩ := bind_some h
   refine cP_ (a := (setS ((setS (setS st1.2.2 st1.2.1 ((⟨st1.1, y2.Num, y2.Text, y2.Ref⟩ : ac_) : ac_)) st1.2.1 ((⟨y3.Kind, (w4 (st1.1 + 1)), y3.Text, y3.Ref⟩ : ac_) : ac_))) st1.2.1 ((⟨y5.Kind, y5.Num, y4, y5.Ref⟩ : ac_) : ac_))) (e := 28) (fun _ _ _ _ _ => trivial) rfl hS hH rfl rfl (by kernel_rfl) (by kernel_rfl) hy6 ?_; intro hb4 hb4e s hl_hb4 hS
   refine qs 1 [(0, p0_1), (1, i4 (w4 ((w4 ((w4 (st1.1 + 1)) + 1)) + 1))), (5, i4 st1.2.1), (36, i4 (w4 ((w4 ((w4 (st1.1 + 1)) + 1)) + 1))), (38, .ptr hb4 hb4e (st1.2.1.toNat * Enc.w ac_ + 3) 1)] hS ?_; intro s hS
   refine bQ_ (ents := []) (a := (setS ((setS (setS st1.2.2 st1.2.1 ((⟨st1.1, y2.Num, y2.Text, y2.Ref⟩ : ac_) : ac_)) st1.2.1 ((⟨y3.Kind, (w4 (st1.1 + 1)), y3.Text, y3.Ref⟩ : ac_) : ac_))) st1.2.1 ((⟨y5.Kind, y5.Num, y4, y5.Ref⟩ : ac_) : ac_))) (j := st1.2.1) (y := y6) (y' := ((⟨y6.Kind, y6.Num, y6.Text, (w4 ((w4 ((w4 (st1.1 + 1)) + 1)) + 1))⟩ : ac_) : ac_)) (off := 3) (c := [i4 y6.Kind, i4 y6.Num, .str y6.Text, i4 y6.Ref]) (us := [i4 (w4 ((w4 ((w4 (st1.1 + 1)) + 1)) + 1))]) (vs := [i4 (w4 ((w4 ((w4 (st1.1 + 1)) + 1)) + 1))]) (v := i4 (w4 ((w4 ((w4 (st1.1 + 1)) + 1)) + 1))) rfl hS hH hl_hb4 rfl rfl rfl (by kernel_rfl) (by kernel_rfl) rfl hy6 rfl (HLi HL.nil) rfl (by kernel_rfl) ?_; intro σ s hH hS
   refine ae_ (sq_n (ab_ ?_))
   refine qs 3 [(0, p0_1), (1, i4 (w4 ((w4 ((w4 ((w4 (st1.1 + 1)) + 1)) + 1)) + 1))), (5, i4 st1.2.1)] hS ?_; intro s hS
   refine ae_ (bk_n (sq_n (ab_ ?_)))
   refine qs 3 [(0, p0_1), (1, i4 (w4 ((w4 ((w4 ((w4 (st1.1 + 1)) + 1)) + 1)) + 1))), (5, i4 (w4 (st1.2.1 + 1)))] hS ?_; intro s hS
   refine ae_ ?_
   injection h with h; subst h
   exact And.intro (am_ hS (by kernel_rfl)) hH
  ·have h := al_ hc1 h
   refine af_ hS rfl (fun hf => ag_ hc1 hf) (fun _ => ?_)
   refine ba_ (sq_x ?_)
   injection h with h; subst h
   exact And.intro rfl (And.intro (am_ hS (by kernel_rfl)) hH)
 ·clear hS hH; intro e fr HF; obtain ⟨s, σ⟩ := fr
  obtain ⟨rfl, hS, hH⟩ := HF
  refine bk_e (sq_n (ad_ (ab_ ?_)))
  refine qs 2 [(4, i4 y1.1)] hS ?_; intro s hS
  refine ae_ (sq_n (ao_ ?_))
  injection h with h; subst h
  exact oL_ [] (an_ (v := i4 y1.1) hS rfl r_nil) rfl rfl hH
noncomputable def bv_ (a0 : (Sl aa_)) (a1 : Int) : Option (Int × (Sl aa_)) := ((aM_ (S := (Int × Int × (Sl aa_))) (R := (Int × (Sl aa_))) (fun st1 => (if (decide (st1.2.1 < (st1.2.2.l.length : Int))) = true then ((elt st1.2.2 st1.2.1).bind fun y2 => ((elt (setS st1.2.2 st1.2.1 ((⟨st1.1, y2.Kind, y2.Name, y2.Low, y2.Keys, y2.Vals, y2.Default⟩ : aa_) : aa_)) st1.2.1).bind fun y3 => ((aJ_ (w4 ((w4 (st1.1 + 1)) + 1))).bind fun y4 => ((elt ((setS (setS st1.2.2 st1.2.1 ((⟨st1.1, y2.Kind, y2.Name, y2.Low, y2.Keys, y2.Vals, y2.Default⟩ : aa_) : aa_)) st1.2.1 ((⟨y3.Id, (w4 (st1.1 + 1)), y3.Name, y3.Low, y3.Keys, y3.Vals, y3.Default⟩ : aa_) : aa_))) st1.2.1).bind fun y5 => ((elt ((setS ((setS (setS st1.2.2 st1.2.1 ((⟨st1.1, y2.Kind, y2.Name, y2.Low, y2.Keys, y2.Vals, y2.Default⟩ : aa_) : aa_)) st1.2.1 ((⟨y3.Id, (w4 (st1.1 + 1)), y3.Name, y3.Low, y3.Keys, y3.Vals, y3.Default⟩ : aa_) : aa_))) st1.2.1 ((⟨y5.Id, y5.Kind, y4, y5.Low, y5.Keys, y5.Vals, y5.Default⟩ : aa_) : aa_))) st1.2.1).bind fun y6 => ((elt ((setS ((setS ((setS (setS st1.2.2 st1.2.1 ((⟨st1.1, y2.Kind, y2.Name, y2.Low, y2.Keys, y2.Vals, y2.Default⟩ : aa_) : aa_)) st1.2.1 ((⟨y3.Id, (w4 (st1.1 + 1)), y3.Name, y3.Low, y3.Keys, y3.Vals, y3.Default⟩ : aa_) : aa_))) st1.2.1 ((⟨y5.Id, y5.Kind, y4, y5.Low, y5.Keys, y5.Vals, y5.Default⟩ : aa_) : aa_))) st1.2.1 ((⟨y6.Id, y6.Kind, y6.Name, (w4 ((w4 ((w4 (st1.1 + 1)) + 1)) + 1)), y6.Keys, y6.Vals, y6.Default⟩ : aa_) : aa_))) st1.2.1).bind fun y7 => ((aP_ y7.Keys (w4 ((w4 ((w4 ((w4 (st1.1 + 1)) + 1)) + 1)) + 1))).bind fun y8 => ((elt ((setS ((setS ((setS ((setS (setS st1.2.2 st1.2.1 ((⟨st1.1, y2.Kind, y2.Name, y2.Low, y2.Keys, y2.Vals, y2.Default⟩ : aa_) : aa_)) st1.2.1 ((⟨y3.Id, (w4 (st1.1 + 1)), y3.Name, y3.Low, y3.Keys, y3.Vals, y3.Default⟩ : aa_) : aa_))) st1.2.1 ((⟨y5.Id, y5.Kind, y4, y5.Low, y5.Keys, y5.Vals, y5.Default⟩ : aa_) : aa_))) st1.2.1 ((⟨y6.Id, y6.Kind, y6.Name, (w4 ((w4 ((w4 (st1.1 + 1)) + 1)) + 1)), y6.Keys, y6.Vals, y6.Default⟩ : aa_) : aa_))) st1.2.1 ((⟨y7.Id, y7.Kind, y7.Name, y7.Low, y8.2, y7.Vals, y7.Default⟩ : aa_) : aa_))) st1.2.1).bind fun y9 => ((aP_ y9.Vals y8.1).bind fun y10 => ((elt ((setS ((setS ((setS ((setS ((setS (setS st1.2.2 st1.2.1 ((⟨st1.1, y2.Kind, y2.Name, y2.Low, y2.Keys, y2.Vals, y2.Default⟩ : aa_) : aa_)) st1.2.1 ((⟨y3.Id, (w4 (st1.1 + 1)), y3.Name, y3.Low, y3.Keys, y3.Vals, y3.Default⟩ : aa_) : aa_))) st1.2.1 ((⟨y5.Id, y5.Kind, y4, y5.Low, y5.Keys, y5.Vals, y5.Default⟩ : aa_) : aa_))) st1.2.1 ((⟨y6.Id, y6.Kind, y6.Name, (w4 ((w4 ((w4 (st1.1 + 1)) + 1)) + 1)), y6.Keys, y6.Vals, y6.Default⟩ : aa_) : aa_))) st1.2.1 ((⟨y7.Id, y7.Kind, y7.Name, y7.Low, y8.2, y7.Vals, y7.Default⟩ : aa_) : aa_))) st1.2.1 ((⟨y9.Id, y9.Kind, y9.Name, y9.Low, y9.Keys, y10.2, y9.Default⟩ : aa_) : aa_))) st1.2.1).bind fun y11 => ((elt ((setS ((setS ((setS ((setS ((setS ((setS (setS st1.2.2 st1.2.1 ((⟨st1.1, y2.Kind, y2.Name, y2.Low, y2.Keys, y2.Vals, y2.Default⟩ : aa_) : aa_)) st1.2.1 ((⟨y3.Id, (w4 (st1.1 + 1)), y3.Name, y3.Low, y3.Keys, y3.Vals, y3.Default⟩ : aa_) : aa_))) st1.2.1 ((⟨y5.Id, y5.Kind, y4, y5.Low, y5.Keys, y5.Vals, y5.Default⟩ : aa_) : aa_))) st1.2.1 ((⟨y6.Id, y6.Kind, y6.Name, (w4 ((w4 ((w4 (st1.1 + 1)) + 1)) + 1)), y6.Keys, y6.Vals, y6.Default⟩ : aa_) : aa_))) st1.2.1 ((⟨y7.Id, y7.Kind, y7.Name, y7.Low, y8.2, y7.Vals, y7.Default⟩ : aa_) : aa_))) st1.2.1 ((⟨y9.Id, y9.Kind, y9.Name, y9.Low, y9.Keys, y10.2, y9.Default⟩ : aa_) : aa_))) st1.2.1 ((⟨y11.Id, y11.Kind, y11.Name, y11.Low, y11.Keys, y11.Vals, (⟨y10.1, y11.Default.Num, y11.Default.Text, y11.Default.Ref⟩ : ac_)⟩ : aa_) : aa_))) st1.2.1).bind fun y12 => ((aJ_ (w4 ((w4 (y10.1 + 1)) + 1))).bind fun y13 => ((elt ((setS ((setS ((setS ((setS ((setS ((setS ((setS (setS st1.2.2 st1.2.1 ((⟨st1.1, y2.Kind, y2.Name, y2.Low, y2.Keys, y2.Vals, y2.Default⟩ : aa_) : aa_)) st1.2.1 ((⟨y3.Id, (w4 (st1.1 + 1)), y3.Name, y3.Low, y3.Keys, y3.Vals, y3.Default⟩ : aa_) : aa_))) st1.2.1 ((⟨y5.Id, y5.Kind, y4, y5.Low, y5.Keys, y5.Vals, y5.Default⟩ : aa_) : aa_))) st1.2.1 ((⟨y6.Id, y6.Kind, y6.Name, (w4 ((w4 ((w4 (st1.1 + 1)) + 1)) + 1)), y6.Keys, y6.Vals, y6.Default⟩ : aa_) : aa_))) st1.2.1 ((⟨y7.Id, y7.Kind, y7.Name, y7.Low, y8.2, y7.Vals, y7.Default⟩ : aa_) : aa_))) st1.2.1 ((⟨y9.Id, y9.Kind, y9.Name, y9.Low, y9.Keys, y10.2, y9.Default⟩ : aa_) : aa_))) st1.2.1 ((⟨y11.Id, y11.Kind, y11.Name, y11.Low, y11.Keys, y11.Vals, (⟨y10.1, y11.Default.Num, y11.Default.Text, y11.Default.Ref⟩ : ac_)⟩ : aa_) : aa_))) st1.2.1 ((⟨y12.Id, y12.Kind, y12.Name, y12.Low, y12.Keys, y12.Vals, (⟨y12.Default.Kind, (w4 (y10.1 + 1)), y12.Default.Text, y12.Default.Ref⟩ : ac_)⟩ : aa_) : aa_))) st1.2.1).bind fun y14 => ((elt ((setS ((setS ((setS ((setS ((setS ((setS ((setS ((setS (setS st1.2.2 st1.2.1 ((⟨st1.1, y2.Kind, y2.Name, y2.Low, y2.Keys, y2.Vals, y2.Default⟩ : aa_) : aa_)) st1.2.1 ((⟨y3.Id, (w4 (st1.1 + 1)), y3.Name, y3.Low, y3.Keys, y3.Vals, y3.Default⟩ : aa_) : aa_))) st1.2.1 ((⟨y5.Id, y5.Kind, y4, y5.Low, y5.Keys, y5.Vals, y5.Default⟩ : aa_) : aa_))) st1.2.1 ((⟨y6.Id, y6.Kind, y6.Name, (w4 ((w4 ((w4 (st1.1 + 1)) + 1)) + 1)), y6.Keys, y6.Vals, y6.Default⟩ : aa_) : aa_))) st1.2.1 ((⟨y7.Id, y7.Kind, y7.Name, y7.Low, y8.2, y7.Vals, y7.Default⟩ : aa_) : aa_))) st1.2.1 ((⟨y9.Id, y9.Kind, y9.Name, y9.Low, y9.Keys, y10.2, y9.Default⟩ : aa_) : aa_))) st1.2.1 ((⟨y11.Id, y11.Kind, y11.Name, y11.Low, y11.Keys, y11.Vals, (⟨y10.1, y11.Default.Num, y11.Default.Text, y11.Default.Ref⟩ : ac_)⟩ : aa_) : aa_))) st1.2.1 ((⟨y12.Id, y12.Kind, y12.Name, y12.Low, y12.Keys, y12.Vals, (⟨y12.Default.Kind, (w4 (y10.1 + 1)), y12.Default.Text, y12.Default.Ref⟩ : ac_)⟩ : aa_) : aa_))) st1.2.1 ((⟨y14.Id, y14.Kind, y14.Name, y14.Low, y14.Keys, y14.Vals, (⟨y14.Default.Kind, y14.Default.Num, y13, y14.Default.Ref⟩ : ac_)⟩ : aa_) : aa_))) st1.2.1).bind fun y15 => (some (.inl ((w4 ((w4 ((w4 ((w4 (y10.1 + 1)) + 1)) + 1)) + 1)), (w4 (st1.2.1 + 1)), (setS ((setS ((setS ((setS ((setS ((setS ((setS ((setS ((setS (setS st1.2.2 st1.2.1 ((⟨st1.1, y2.Kind, y2.Name, y2.Low, y2.Keys, y2.Vals, y2.Default⟩ : aa_) : aa_)) st1.2.1 ((⟨y3.Id, (w4 (st1.1 + 1)), y3.Name, y3.Low, y3.Keys, y3.Vals, y3.Default⟩ : aa_) : aa_))) st1.2.1 ((⟨y5.Id, y5.Kind, y4, y5.Low, y5.Keys, y5.Vals, y5.Default⟩ : aa_) : aa_))) st1.2.1 ((⟨y6.Id, y6.Kind, y6.Name, (w4 ((w4 ((w4 (st1.1 + 1)) + 1)) + 1)), y6.Keys, y6.Vals, y6.Default⟩ : aa_) : aa_))) st1.2.1 ((⟨y7.Id, y7.Kind, y7.Name, y7.Low, y8.2, y7.Vals, y7.Default⟩ : aa_) : aa_))) st1.2.1 ((⟨y9.Id, y9.Kind, y9.Name, y9.Low, y9.Keys, y10.2, y9.Default⟩ : aa_) : aa_))) st1.2.1 ((⟨y11.Id, y11.Kind, y11.Name, y11.Low, y11.Keys, y11.Vals, (⟨y10.1, y11.Default.Num, y11.Default.Text, y11.Default.Ref⟩ : ac_)⟩ : aa_) : aa_))) st1.2.1 ((⟨y12.Id, y12.Kind, y12.Name, y12.Low, y12.Keys, y12.Vals, (⟨y12.Default.Kind, (w4 (y10.1 + 1)), y12.Default.Text, y12.Default.Ref⟩ : ac_)⟩ : aa_) : aa_))) st1.2.1 ((⟨y14.Id, y14.Kind, y14.Name, y14.Low, y14.Keys, y14.Vals, (⟨y14.Default.Kind, y14.Default.Num, y13, y14.Default.Ref⟩ : ac_)⟩ : aa_) : aa_))) st1.2.1 ((⟨y15.Id, y15.Kind, y15.Name, y15.Low, y15.Keys, y15.Vals, (⟨y15.Default.Kind, y15.Default.Num, y15.Default.Text, (w4 ((w4 ((w4 (y10.1 + 1)) + 1)) + 1))⟩ : ac_)⟩ : aa_) : aa_))))))))))))))))))) else (some (.inr (st1.1, st1.2.2))))) (a1, 0, a0)).bind fun y1 => (some (y1.1, y1.2)))
theorem gE_ (a0 : (Sl aa_)) (a1 : Int) (r : (Int × (Sl aa_))) (h : bv_ a0 a1 = some r) (wp0_1 : Nat) (p0_1 : T) : RawS Try.prog md ext 66 [p0_1, i4 a1] 0 (fun hs => E_i64 r.1) [.own true wp0_1 p0_1 a0.t] (fun hs => [.own true wp0_1 p0_1 r.2.t]) := by
 unfold bv_ at h
 refine j3_ rfl rfl ok_66 rfl ?_
 intro σ0 σ F σk s hS hH
 have hp0_1 : aV_ p0_1 := Heap.one hH
 have hS := am_ (L' := [(0, p0_1), (1, i4 a1)]) hS (by kernel_rfl)
 refine ad_ (ab_ ?_)
 refine qs 1 [(0, p0_1), (1, i4 a1)] hS ?_; intro s hS
 refine ae_ (sq_n (ad_ (ad_ (ab_ ?_))))
 refine qs 1 [(0, p0_1), (1, i4 a1), (5, i4 0)] hS ?_; intro s hS
 refine ae_ (sq_n (aw_ ?_))
 obtain ⟨y1, hy1, h⟩ := bind_some h
 refine bd_ (fun (st1 : (Int × Int × (Sl aa_))) (fr : Fr) => Sub [(0, p0_1), (1, i4 st1.1), (5, i4 st1.2.1)] fr.s ∧ Heap σ0 fr.σ [.own true wp0_1 p0_1 st1.2.2.t, .keep F σk]) (fun (y1 : (Int × (Sl aa_))) (e : aC_) (fr : Fr) => e = (.exit 0) ∧ Sub [(1, i4 y1.1)] fr.s ∧ Heap σ0 fr.σ [.own true wp0_1 p0_1 y1.2.t, .keep F σk]) hy1 (And.intro (am_ hS (by kernel_rfl)) hH) ?_ ?_
 ·clear h hy1 hS hH; clear y1; intro st1 x fr h HI; obtain ⟨s, σ⟩ := fr; obtain ⟨hS, hH⟩ := HI
  refine ad_ (ad_ (ab_ ?_))
  refine qs 2 [(0, p0_1), (1, i4 st1.1), (5, i4 st1.2.1), (6, i4 st1.2.1), (7, p0_1)] hS ?_; intro s hS
  refine la_ (a := st1.2.2) rfl hS hH rfl (by kernel_rfl) ?_; intro s hS
  refine qs 1 [(0, p0_1), (1, i4 st1.1), (5, i4 st1.2.1), (9, .bool (decide (st1.2.1 < (st1.2.2.l.length : Int))))] hS ?_; intro s hS
  refine ae_ (sq_n ?_)
  by_cases hc1 : (decide (st1.2.1 < (st1.2.2.l.length : Int))) = true
  ·have h := ak_ hc1 h
   refine af_ hS rfl (fun _ => ?_) (fun hf => ah_ hc1 hf)
   refine as_ (sq_n (ad_ (aw_ (ad_ (ab_ ?_)))))
   refine qs 3 [(0, p0_1), (1, i4 st1.1), (5, i4 st1.2.1), (12, p0_1), (13, i4 st1.2.1), (14, i4 st1.1)] hS ?_; intro s hS
   obtain ⟨y2, hy2, h⟩ := bind_some h
   refine cP_ (a := st1.2.2) (e := 30) (fun _ _ _ _ _ => trivial) rfl hS hH rfl rfl (by kernel_rfl) (by kernel_rfl) hy2 ?_; intro hb1 hb1e s hl_hb1 hS
   refine qs 1 [(0, p0_1), (1, i4 st1.1), (5, i4 st1.2.1), (14, i4 st1.1), (16, .ptr hb1 hb1e (st1.2.1.toNat * Enc.w aa_ + 0) 1)] hS ?_; intro s hS
   refine bQ_ (ents := []) (a := st1.2.2) (j := st1.2.1) (y := y2) (y' := ((⟨st1.1, y2.Kind, y2.Name, y2.Low, y2.Keys, y2.Vals, y2.Default⟩ : aa_) : aa_)) (off := 0) (c := [i4 y2.Id, i4 y2.Kind, .str y2.Name, i4 y2.Low, y2.Keys.t, y2.Vals.t, i4 y2.Default.Kind, i4 y2.Default.Num, .str y2.Default.Text, i4 y2.Default.Ref]) (us := [i4 st1.1]) (vs := [i4 st1.1]) (v := i4 st1.1) rfl hS hH hl_hb1 rfl rfl rfl (by kernel_rfl) (by kernel_rfl) rfl hy2 rfl (HLi HL.nil) rfl (by kernel_rfl) ?_; intro σ s hH hS
   refine ae_ (sq_n (ad_ (ab_ ?_)))
   refine qs 3 [(0, p0_1), (1, i4 (w4 (st1.1 + 1))), (5, i4 st1.2.1)] hS ?_; intro s hS
   refine ae_ (sq_n (ad_ (ab_ ?_)))
   refine qs 3 [(0, p0_1), (1, i4 (w4 (st1.1 + 1))), (5, i4 st1.2.1), (19, p0_1), (20, i4 st1.2.1), (21, i4 (w4 (st1.1 + 1)))] hS ?_; intro s hS
   obtain ⟨y3, hy3, h⟩ := bind_some h
   refine cP_ (a := (setS st1.2.2 st1.2.1 ((⟨st1.1, y2.Kind, y2.Name, y2.Low, y2.Keys, y2.Vals, y2.Default⟩ : aa_) : aa_))) (e := 30) (fun _ _ _ _ _ => trivial) rfl hS hH rfl rfl (by kernel_rfl) (by kernel_rfl) hy3 ?_; intro hb2 hb2e s hl_hb2 hS
   refine qs 1 [(0, p0_1), (1, i4 (w4 (st1.1 + 1))), (5, i4 st1.2.1), (21, i4 (w4 (st1.1 + 1))), (23, .ptr hb2 hb2e (st1.2.1.toNat * Enc.w aa_ + 1) 1)] hS ?_; intro s hS
   refine bQ_ (ents := []) (a := (setS st1.2.2 st1.2.1 ((⟨st1.1, y2.Kind, y2.Name, y2.Low, y2.Keys, y2.Vals, y2.Default⟩ : aa_) : aa_))) (j := st1.2.1) (y := y3) (y' := ((⟨y3.Id, (w4 (st1.1 + 1)), y3.Name, y3.Low, y3.Keys, y3.Vals, y3.Default⟩ : aa_) : aa_)) (off := 1) (c := [i4 y3.Id, i4 y3.Kind, .str y3.Name, i4 y3.Low, y3.Keys.t, y3.Vals.t, i4 y3.Default.Kind, i4 y3.Default.Num, .str y3.Default.Text, i4 y3.Default.Ref]) (us := [i4 (w4 (st1.1 + 1))]) (vs := [i4 (w4 (st1.1 + 1))]) (v := i4 (w4 (st1.1 + 1))) rfl hS hH hl_hb2 rfl rfl rfl (by kernel_rfl) (by kernel_rfl) rfl hy3 rfl (HLi HL.nil) rfl (by kernel_rfl) ?_; intro σ s hH hS
   refine ae_ (sq_n (ad_ (ab_ ?_)))
   refine qs 3 [(0, p0_1), (1, i4 (w4 ((w4 (st1.1 + 1)) + 1))), (5, i4 st1.2.1)] hS ?_; intro s hS
   refine ae_ (sq_n (ad_ (ab_ ?_)))
   refine qs 3 [(0, p0_1), (1, i4 (w4 ((w4 (st1.1 + 1)) + 1))), (5, i4 st1.2.1), (26, p0_1), (27, i4 st1.2.1), (28, i4 (w4 ((w4 (st1.1 + 1)) + 1)))] hS ?_; intro s hS
   obtain ⟨y4, hy4, h⟩ := bind_some h
   refine ar_ (a := []) (b := []) (xs := [i4 (w4 ((w4 (st1.1 + 1)) + 1))]) rfl hS rfl rfl hy4 ?_; intro s hS
   obtain ⟨y5, hy5, h⟩ := bind_some h
   refine cP_ (a := (setS (setS st1.2.2 st1.2.1 ((⟨st1.1, y2.Kind, y2.Name, y2.Low, y2.Keys, y2.Vals, y2.Default⟩ : aa_) : aa_)) st1.2.1 ((⟨y3.Id, (w4 (st1.1 + 1)), y3.Name, y3.Low, y3.Keys, y3.Vals, y3.Default⟩ : aa_) : aa_))) (e := 30) (fun _ _ _ _ _ => trivial) rfl hS hH rfl rfl (by kernel_rfl) (by kernel_rfl) hy5 ?_; intro hb3 hb3e s hl_hb3 hS
   refine qs 1 [(0, p0_1), (1, i4 (w4 ((w4 (st1.1 + 1)) + 1))), (5, i4 st1.2.1), (29, .str y4), (31, .ptr hb3 hb3e (st1.2.1.toNat * Enc.w aa_ + 2) 1)] hS ?_; intro s hS
   refine bQ_ (ents := []) (a := (setS (setS st1.2.2 st1.2.1 ((⟨st1.1, y2.Kind, y2.Name, y2.Low, y2.Keys, y2.Vals, y2.Default⟩ : aa_) : aa_)) st1.2.1 ((⟨y3.Id, (w4 (st1.1 + 1)), y3.Name, y3.Low, y3.Keys, y3.Vals, y3.Default⟩ : aa_) : aa_))) (j := st1.2.1) (y := y5) (y' := ((⟨y5.Id, y5.Kind, y4, y5.Low, y5.Keys, y5.Vals, y5.Default⟩ : aa_) : aa_)) (off := 2) (c := [i4 y5.Id, i4 y5.Kind, .str y5.Name, i4 y5.Low, y5.Keys.t, y5.Vals.t, i4 y5.Default.Kind, i4 y5.Default.Num, .str y5.Default.Text, i4 y5.Default.Ref]) (us := [.str y4]) (vs := [.str y4]) (v := .str y4) rfl hS hH hl_hb3 rfl rfl rfl (by kernel_rfl) (by kernel_rfl) rfl hy5 rfl (HLs HL.nil) rfl (by kernel_rfl) ?_; intro σ s hH hS
   refine ae_ (sq_n (ad_ (ab_ ?_)))
   refine qs 3 [(0, p0_1), (1, i4 (w4 ((w4 ((w4 (st1.1 + 1)) + 1)) + 1))), (5, i4 st1.2.1)] hS ?_; intro s hS
   refine ae_ (sq_n (ad_ (ab_ ?_)))
   refine qs 3 [(0, p0_1), (1, i4 (w4 ((w4 ((w4 (st1.1 + 1)) + 1)) + 1))), (5, i4 st1.2.1), (34, p0_1), (35, i4 st1.2.1), (36, i4 (w4 ((w4 ((w4 (st1.1 + 1)) + 1)) + 1)))] hS ?_; intro s hS
   obtain ⟨y6, hy6, h⟩ := bind_some h
   refine cP_ (a := (setS ((setS (setS st1.2.2 st1.2.1 ((⟨st1.1, y2.Kind, y2.Name, y2.Low, y2.Keys, y2.Vals, y2.Default⟩ : aa_) : aa_)) st1.2.1 ((⟨y3.Id, (w4 (st1.1 + 1)), y3.Name, y3.Low, y3.Keys, y3.Vals, y3.Default⟩ : aa_) : aa_))) st1.2.1 ((⟨y5.Id, y5.Kind, y4, y5.Low, y5.Keys, y5.Vals, y5.Default⟩ : aa_) : aa_))) (e := 30) (fun _ _ _ _ _ => trivial) rfl hS hH rfl rfl (by kernel_rfl) (by kernel_rfl) hy6 ?_; intro hb4 hb4e s hl_hb4 hS
   refine qs 1 [(0, p0_1), (1, i4 (w4 ((w4 ((w4 (st1.1 + 1)) + 1)) + 1))), (5, i4 st1.2.1), (36, i4 (w4 ((w4 ((w4 (st1.1 + 1)) + 1)) + 1))), (38, .ptr hb4 hb4e (st1.2.1.toNat * Enc.w aa_ + 3) 1)] hS ?_; intro s hS
   refine bQ_ (ents := []) (a := (setS ((setS (setS st1.2.2 st1.2.1 ((⟨st1.1, y2.Kind, y2.Name, y2.Low, y2.Keys, y2.Vals, y2.Default⟩ : aa_) : aa_)) st1.2.1 ((⟨y3.Id, (w4 (st1.1 + 1)), y3.Name, y3.Low, y3.Keys, y3.Vals, y3.Default⟩ : aa_) : aa_))) st1.2.1 ((⟨y5.Id, y5.Kind, y4, y5.Low, y5.Keys, y5.Vals, y5.Default⟩ : aa_) : aa_))) (j := st1.2.1) (y := y6) (y' := ((⟨y6.Id, y6.Kind, y6.Name, (w4 ((w4 ((w4 (st1.1 + 1)) + 1)) + 1)), y6.Keys, y6.Vals, y6.Default⟩ : aa_) : aa_)) (off := 3) (c := [i4 y6.Id, i4 y6.Kind, .str y6.Name, i4 y6.Low, y6.Keys.t, y6.Vals.t, i4 y6.Default.Kind, i4 y6.Default.Num, .str y6.Default.Text, i4 y6.Default.Ref]) (us := [i4 (w4 ((w4 ((w4 (st1.1 + 1)) + 1)) + 1))]) (vs := [i4 (w4 ((w4 ((w4 (st1.1 + 1)) + 1)) + 1))]) (v := i4 (w4 ((w4 ((w4 (st1.1 + 1)) + 1)) + 1))) rfl hS hH hl_hb4 rfl rfl rfl (by kernel_rfl) (by kernel_rfl) rfl hy6 rfl (HLi HL.nil) rfl (by kernel_rfl) ?_; intro σ s hH hS
   refine ae_ (sq_n (ad_ (ab_ ?_)))
   refine qs 3 [(0, p0_1), (1, i4 (w4 ((w4 ((w4 ((w4 (st1.1 + 1)) + 1)) + 1)) + 1))), (5, i4 st1.2.1)] hS ?_; intro s hS
   refine ae_ (sq_n (ad_ (ab_ ?_)))
   refine qs 2 [(0, p0_1), (1, i4 (w4 ((w4 ((w4 ((w4 (st1.1 + 1)) + 1)) + 1)) + 1))), (5, i4 st1.2.1), (41, p0_1), (42, i4 st1.2.1)] hS ?_; intro s hS
   obtain ⟨y7, hy7, h⟩ := bind_some h
   refine cP_ (a := (setS ((setS ((setS (setS st1.2.2 st1.2.1 ((⟨st1.1, y2.Kind, y2.Name, y2.Low, y2.Keys, y2.Vals, y2.Default⟩ : aa_) : aa_)) st1.2.1 ((⟨y3.Id, (w4 (st1.1 + 1)), y3.Name, y3.Low, y3.Keys, y3.Vals, y3.Default⟩ : aa_) : aa_))) st1.2.1 ((⟨y5.Id, y5.Kind, y4, y5.Low, y5.Keys, y5.Vals, y5.Default⟩ : aa_) : aa_))) st1.2.1 ((⟨y6.Id, y6.Kind, y6.Name, (w4 ((w4 ((w4 (st1.1 + 1)) + 1)) + 1)), y6.Keys, y6.Vals, y6.Default⟩ : aa_) : aa_))) (e := 30) (fun _ _ _ _ _ => trivial) rfl hS hH rfl rfl (by kernel_rfl) (by kernel_rfl) hy7 ?_; intro hb5 hb5e s hl_hb5 hS
   refine qs 1 [(0, p0_1), (1, i4 (w4 ((w4 ((w4 ((w4 (st1.1 + 1)) + 1)) + 1)) + 1))), (5, i4 st1.2.1), (44, .ptr hb5 hb5e (st1.2.1.toNat * Enc.w aa_ + 4) 1)] hS ?_; intro s hS
   refine gb_ (a := (setS ((setS ((setS (setS st1.2.2 st1.2.1 ((⟨st1.1, y2.Kind, y2.Name, y2.Low, y2.Keys, y2.Vals, y2.Default⟩ : aa_) : aa_)) st1.2.1 ((⟨y3.Id, (w4 (st1.1 + 1)), y3.Name, y3.Low, y3.Keys, y3.Vals, y3.Default⟩ : aa_) : aa_))) st1.2.1 ((⟨y5.Id, y5.Kind, y4, y5.Low, y5.Keys, y5.Vals, y5.Default⟩ : aa_) : aa_))) st1.2.1 ((⟨y6.Id, y6.Kind, y6.Name, (w4 ((w4 ((w4 (st1.1 + 1)) + 1)) + 1)), y6.Keys, y6.Vals, y6.Default⟩ : aa_) : aa_))) (j := st1.2.1) (y := y7) (off := 4) (c := [i4 y7.Id, i4 y7.Kind, .str y7.Name, i4 y7.Low, y7.Keys.t, y7.Vals.t, i4 y7.Default.Kind, i4 y7.Default.Num, .str y7.Default.Text, i4 y7.Default.Ref]) (q := (y7.Keys : Sl ac_)) (fun _ _ _ _ _ => trivial) rfl hS hH hl_hb5 rfl hy7 rfl (by kernel_rfl) rfl rfl ?_; intro F1 σk1 t1 s ht1 hH hcl1 hcl1s hcl1p hcl1k hcl1f hS
   refine qs 1 [(0, p0_1), (5, i4 st1.2.1), (45, t1), (46, i4 (w4 ((w4 ((w4 ((w4 (st1.1 + 1)) + 1)) + 1)) + 1)))] hS ?_; intro s hS
   obtain ⟨y8, hy8, h⟩ := bind_some h
   refine go_ (a := []) (b := []) (xs := [t1, i4 (w4 ((w4 ((w4 ((w4 (st1.1 + 1)) + 1)) + 1)) + 1))]) (ents := [.own true 0 t1 y7.Keys.t]) rfl hS rfl rfl hH (ci_ y7.Keys (w4 ((w4 ((w4 ((w4 (st1.1 + 1)) + 1)) + 1)) + 1)) y8 hy8 0 t1) ?_; intro hs σ s hl hH hS
   have hH : Heap σ0 σ [.own true 0 t1 y8.2.t, .keep F1 σk1, .keep F σk] := hH
   refine qs 1 [(0, p0_1), (1, i4 y8.1), (5, i4 st1.2.1)] hS ?_; intro s hS
   have hH := hcl1 _ _ _ ((⟨y7.Id, y7.Kind, y7.Name, y7.Low, y8.2, y7.Vals, y7.Default⟩ : aa_) : aa_) rfl hH
   have hH : Heap σ0 σ [.own true wp0_1 p0_1 (setS ((setS ((setS ((setS (setS st1.2.2 st1.2.1 ((⟨st1.1, y2.Kind, y2.Name, y2.Low, y2.Keys, y2.Vals, y2.Default⟩ : aa_) : aa_)) st1.2.1 ((⟨y3.Id, (w4 (st1.1 + 1)), y3.Name, y3.Low, y3.Keys, y3.Vals, y3.Default⟩ : aa_) : aa_))) st1.2.1 ((⟨y5.Id, y5.Kind, y4, y5.Low, y5.Keys, y5.Vals, y5.Default⟩ : aa_) : aa_))) st1.2.1 ((⟨y6.Id, y6.Kind, y6.Name, (w4 ((w4 ((w4 (st1.1 + 1)) + 1)) + 1)), y6.Keys, y6.Vals, y6.Default⟩ : aa_) : aa_))) st1.2.1 ((⟨y7.Id, y7.Kind, y7.Name, y7.Low, y8.2, y7.Vals, y7.Default⟩ : aa_) : aa_)).t, .keep F σk] := hH
   refine ae_ (sq_n (ad_ (ab_ ?_)))
   refine qs 2 [(0, p0_1), (1, i4 y8.1), (5, i4 st1.2.1), (48, p0_1), (49, i4 st1.2.1)] hS ?_; intro s hS
   obtain ⟨y9, hy9, h⟩ := bind_some h
   refine cP_ (a := (setS ((setS ((setS ((setS (setS st1.2.2 st1.2.1 ((⟨st1.1, y2.Kind, y2.Name, y2.Low, y2.Keys, y2.Vals, y2.Default⟩ : aa_) : aa_)) st1.2.1 ((⟨y3.Id, (w4 (st1.1 + 1)), y3.Name, y3.Low, y3.Keys, y3.Vals, y3.Default⟩ : aa_) : aa_))) st1.2.1 ((⟨y5.Id, y5.Kind, y4, y5.Low, y5.Keys, y5.Vals, y5.Default⟩ : aa_) : aa_))) st1.2.1 ((⟨y6.Id, y6.Kind, y6.Name, (w4 ((w4 ((w4 (st1.1 + 1)) + 1)) + 1)), y6.Keys, y6.Vals, y6.Default⟩ : aa_) : aa_))) st1.2.1 ((⟨y7.Id, y7.Kind, y7.Name, y7.Low, y8.2, y7.Vals, y7.Default⟩ : aa_) : aa_))) (e := 30) (fun _ _ _ _ _ => trivial) rfl hS hH rfl rfl (by kernel_rfl) (by kernel_rfl) hy9 ?_; intro hb6 hb6e s hl_hb6 hS
   refine qs 1 [(0, p0_1), (1, i4 y8.1), (5, i4 st1.2.1), (51, .ptr hb6 hb6e (st1.2.1.toNat * Enc.w aa_ + 5) 1)] hS ?_; intro s hS
   refine gb_ (a := (setS ((setS ((setS ((setS (setS st1.2.2 st1.2.1 ((⟨st1.1, y2.Kind, y2.Name, y2.Low, y2.Keys, y2.Vals, y2.Default⟩ : aa_) : aa_)) st1.2.1 ((⟨y3.Id, (w4 (st1.1 + 1)), y3.Name, y3.Low, y3.Keys, y3.Vals, y3.Default⟩ : aa_) : aa_))) st1.2.1 ((⟨y5.Id, y5.Kind, y4, y5.Low, y5.Keys, y5.Vals, y5.Default⟩ : aa_) : aa_))) st1.2.1 ((⟨y6.Id, y6.Kind, y6.Name, (w4 ((w4 ((w4 (st1.1 + 1)) + 1)) + 1)), y6.Keys, y6.Vals, y6.Default⟩ : aa_) : aa_))) st1.2.1 ((⟨y7.Id, y7.Kind, y7.Name, y7.Low, y8.2, y7.Vals, y7.Default⟩ : aa_) : aa_))) (j := st1.2.1) (y := y9) (off := 5) (c := [i4 y9.Id, i4 y9.Kind, .str y9.Name, i4 y9.Low, y9.Keys.t, y9.Vals.t, i4 y9.Default.Kind, i4 y9.Default.Num, .str y9.Default.Text, i4 y9.Default.Ref]) (q := (y9.Vals : Sl ac_)) (fun _ _ _ _ _ => trivial) rfl hS hH hl_hb6 rfl hy9 rfl (by kernel_rfl) rfl rfl ?_; intro F2 σk2 t2 s ht2 hH hcl2 hcl2s hcl2p hcl2k hcl2f hS
   refine qs 1 [(0, p0_1), (5, i4 st1.2.1), (52, t2), (53, i4 y8.1)] hS ?_; intro s hS
   obtain ⟨y10, hy10, h⟩ := bind_some h
   refine go_ (a := []) (b := []) (xs := [t2, i4 y8.1]) (ents := [.own true 0 t2 y9.Vals.t]) rfl hS rfl rfl hH (ci_ y9.Vals y8.1 y10 hy10 0 t2) ?_; intro hs σ s hl hH hS
   have hH : Heap σ0 σ [.own true 0 t2 y10.2.t, .keep F2 σk2, .keep F σk] := hH
   refine qs 1 [(0, p0_1), (1, i4 y10.1), (5, i4 st1.2.1)] hS ?_; intro s hS
   have hH := hcl2 _ _ _ ((⟨y9.Id, y9.Kind, y9.Name, y9.Low, y9.Keys, y10.2, y9.Default⟩ : aa_) : aa_) rfl hH
   have hH : Heap σ0 σ [.own true wp0_1 p0_1 (setS ((setS ((setS ((setS ((setS (setS st1.2.2 st1.2.1 ((⟨st1.1, y2.Kind, y2.Name, y2.Low, y2.Keys, y2.Vals, y2.Default⟩ : aa_) : aa_)) st1.2.1 ((⟨y3.Id, (w4 (st1.1 + 1)), y3.Name, y3.Low, y3.Keys, y3.Vals, y3.Default⟩ : aa_) : aa_))) st1.2.1 ((⟨y5.Id, y5.Kind, y4, y5.Low, y5.Keys, y5.Vals, y5.Default⟩ : aa_) : aa_))) st1.2.1 ((⟨y6.Id, y6.Kind, y6.Name, (w4 ((w4 ((w4 (st1.1 + 1)) + 1)) + 1)), y6.Keys, y6.Vals, y6.Default⟩ : aa_) : aa_))) st1.2.1 ((⟨y7.Id, y7.Kind, y7.Name, y7.Low, y8.2, y7.Vals, y7.Default⟩ : aa_) : aa_))) st1.2.1 ((⟨y9.Id, y9.Kind, y9.Name, y9.Low, y9.Keys, y10.2, y9.Default⟩ : aa_) : aa_)).t, .keep F σk] := hH
   refine ae_ (sq_n (ad_ (ab_ ?_)))
   refine qs 3 [(0, p0_1), (1, i4 y10.1), (5, i4 st1.2.1), (55, p0_1), (56, i4 st1.2.1), (57, i4 y10.1)] hS ?_; intro s hS
   obtain ⟨y11, hy11, h⟩ := bind_some h
   refine cP_ (a := (setS ((setS ((setS ((setS ((setS (setS st1.2.2 st1.2.1 ((⟨st1.1, y2.Kind, y2.Name, y2.Low, y2.Keys, y2.Vals, y2.Default⟩ : aa_) : aa_)) st1.2.1 ((⟨y3.Id, (w4 (st1.1 + 1)), y3.Name, y3.Low, y3.Keys, y3.Vals, y3.Default⟩ : aa_) : aa_))) st1.2.1 ((⟨y5.Id, y5.Kind, y4, y5.Low, y5.Keys, y5.Vals, y5.Default⟩ : aa_) : aa_))) st1.2.1 ((⟨y6.Id, y6.Kind, y6.Name, (w4 ((w4 ((w4 (st1.1 + 1)) + 1)) + 1)), y6.Keys, y6.Vals, y6.Default⟩ : aa_) : aa_))) st1.2.1 ((⟨y7.Id, y7.Kind, y7.Name, y7.Low, y8.2, y7.Vals, y7.Default⟩ : aa_) : aa_))) st1.2.1 ((⟨y9.Id, y9.Kind, y9.Name, y9.Low, y9.Keys, y10.2, y9.Default⟩ : aa_) : aa_))) (e := 30) (fun _ _ _ _ _ => trivial) rfl hS hH rfl rfl (by kernel_rfl) (by kernel_rfl) hy11 ?_; intro hb7 hb7e s hl_hb7 hS
   refine qs 2 [(0, p0_1), (1, i4 y10.1), (5, i4 st1.2.1), (57, i4 y10.1), (60, .ptr hb7 hb7e (st1.2.1.toNat * Enc.w aa_ + 6) 1)] hS ?_; intro s hS
   refine bQ_ (ents := []) (a := (setS ((setS ((setS ((setS ((setS (setS st1.2.2 st1.2.1 ((⟨st1.1, y2.Kind, y2.Name, y2.Low, y2.Keys, y2.Vals, y2.Default⟩ : aa_) : aa_)) st1.2.1 ((⟨y3.Id, (w4 (st1.1 + 1)), y3.Name, y3.Low, y3.Keys, y3.Vals, y3.Default⟩ : aa_) : aa_))) st1.2.1 ((⟨y5.Id, y5.Kind, y4, y5.Low, y5.Keys, y5.Vals, y5.Default⟩ : aa_) : aa_))) st1.2.1 ((⟨y6.Id, y6.Kind, y6.Name, (w4 ((w4 ((w4 (st1.1 + 1)) + 1)) + 1)), y6.Keys, y6.Vals, y6.Default⟩ : aa_) : aa_))) st1.2.1 ((⟨y7.Id, y7.Kind, y7.Name, y7.Low, y8.2, y7.Vals, y7.Default⟩ : aa_) : aa_))) st1.2.1 ((⟨y9.Id, y9.Kind, y9.Name, y9.Low, y9.Keys, y10.2, y9.Default⟩ : aa_) : aa_))) (j := st1.2.1) (y := y11) (y' := ((⟨y11.Id, y11.Kind, y11.Name, y11.Low, y11.Keys, y11.Vals, (⟨y10.1, y11.Default.Num, y11.Default.Text, y11.Default.Ref⟩ : ac_)⟩ : aa_) : aa_)) (off := 6) (c := [i4 y11.Id, i4 y11.Kind, .str y11.Name, i4 y11.Low, y11.Keys.t, y11.Vals.t, i4 y11.Default.Kind, i4 y11.Default.Num, .str y11.Default.Text, i4 y11.Default.Ref]) (us := [i4 y10.1]) (vs := [i4 y10.1]) (v := i4 y10.1) rfl hS hH hl_hb7 rfl rfl rfl (by kernel_rfl) (by kernel_rfl) rfl hy11 rfl (HLi HL.nil) rfl (by kernel_rfl) ?_; intro σ s hH hS
   refine ae_ (sq_n (ad_ (ab_ ?_)))
   refine qs 3 [(0, p0_1), (1, i4 (w4 (y10.1 + 1))), (5, i4 st1.2.1)] hS ?_; intro s hS
   refine ae_ (sq_n (ad_ (ab_ ?_)))
   refine qs 3 [(0, p0_1), (1, i4 (w4 (y10.1 + 1))), (5, i4 st1.2.1), (63, p0_1), (64, i4 st1.2.1), (65, i4 (w4 (y10.1 + 1)))] hS ?_; intro s hS
   obtain ⟨y12, hy12, h⟩ := bind_some h
   refine cP_ (a := (setS ((setS ((setS ((setS ((setS ((setS (setS st1.2.2 st1.2.1 ((⟨st1.1, y2.Kind, y2.Name, y2.Low, y2.Keys, y2.Vals, y2.Default⟩ : aa_) : aa_)) st1.2.1 ((⟨y3.Id, (w4 (st1.1 + 1)), y3.Name, y3.Low, y3.Keys, y3.Vals, y3.Default⟩ : aa_) : aa_))) st1.2.1 ((⟨y5.Id, y5.Kind, y4, y5.Low, y5.Keys, y5.Vals, y5.Default⟩ : aa_) : aa_))) st1.2.1 ((⟨y6.Id, y6.Kind, y6.Name, (w4 ((w4 ((w4 (st1.1 + 1)) + 1)) + 1)), y6.Keys, y6.Vals, y6.Default⟩ : aa_) : aa_))) st1.2.1 ((⟨y7.Id, y7.Kind, y7.Name, y7.Low, y8.2, y7.Vals, y7.Default⟩ : aa_) : aa_))) st1.2.1 ((⟨y9.Id, y9.Kind, y9.Name, y9.Low, y9.Keys, y10.2, y9.Default⟩ : aa_) : aa_))) st1.2.1 ((⟨y11.Id, y11.Kind, y11.Name, y11.Low, y11.Keys, y11.Vals, (⟨y10.1, y11.Default.Num, y11.Default.Text, y11.Default.Ref⟩ : ac_)⟩ : aa_) : aa_))) (e := 30) (fun _ _ _ _ _ => trivial) rfl hS hH rfl rfl (by kernel_rfl) (by kernel_rfl) hy12 ?_; intro hb8 hb8e s hl_hb8 hS
   refine qs 2 [(0, p0_1), (1, i4 (w4 (y10.1 + 1))), (5, i4 st1.2.1), (65, i4 (w4 (y10.1 + 1))), (68, .ptr hb8 hb8e (st1.2.1.toNat * Enc.w aa_ + 7) 1)] hS ?_; intro s hS
   refine bQ_ (ents := []) (a := (setS ((setS ((setS ((setS ((setS ((setS (setS st1.2.2 st1.2.1 ((⟨st1.1, y2.Kind, y2.Name, y2.Low, y2.Keys, y2.Vals, y2.Default⟩ : aa_) : aa_)) st1.2.1 ((⟨y3.Id, (w4 (st1.1 + 1)), y3.Name, y3.Low, y3.Keys, y3.Vals, y3.Default⟩ : aa_) : aa_))) st1.2.1 ((⟨y5.Id, y5.Kind, y4, y5.Low, y5.Keys, y5.Vals, y5.Default⟩ : aa_) : aa_))) st1.2.1 ((⟨y6.Id, y6.Kind, y6.Name, (w4 ((w4 ((w4 (st1.1 + 1)) + 1)) + 1)), y6.Keys, y6.Vals, y6.Default⟩ : aa_) : aa_))) st1.2.1 ((⟨y7.Id, y7.Kind, y7.Name, y7.Low, y8.2, y7.Vals, y7.Default⟩ : aa_) : aa_))) st1.2.1 ((⟨y9.Id, y9.Kind, y9.Name, y9.Low, y9.Keys, y10.2, y9.Default⟩ : aa_) : aa_))) st1.2.1 ((⟨y11.Id, y11.Kind, y11.Name, y11.Low, y11.Keys, y11.Vals, (⟨y10.1, y11.Default.Num, y11.Default.Text, y11.Default.Ref⟩ : ac_)⟩ : aa_) : aa_))) (j := st1.2.1) (y := y12) (y' := ((⟨y12.Id, y12.Kind, y12.Name, y12.Low, y12.Keys, y12.Vals, (⟨y12.Default.Kind, (w4 (y10.1 + 1)), y12.Default.Text, y12.Default.Ref⟩ : ac_)⟩ : aa_) : aa_)) (off := 7) (c := [i4 y12.Id, i4 y12.Kind, .str y12.Name, i4 y12.Low, y12.Keys.t, y12.Vals.t, i4 y12.Default.Kind, i4 y12.Default.Num, .str y12.Default.Text, i4 y12.Default.Ref]) (us := [i4 (w4 (y10.1 + 1))]) (vs := [i4 (w4 (y10.1 + 1))]) (v := i4 (w4 (y10.1 + 1))) rfl hS hH hl_hb8 rfl rfl rfl (by kernel_rfl) (by kernel_rfl) rfl hy12 rfl (HLi HL.nil) rfl (by kernel_rfl) ?_; intro σ s hH hS
   refine ae_ (sq_n (ad_ (ab_ ?_)))
   refine qs 3 [(0, p0_1), (1, i4 (w4 ((w4 (y10.1 + 1)) + 1))), (5, i4 st1.2.1)] hS ?_; intro s hS
   refine ae_ (sq_n (ad_ (ab_ ?_)))
   refine qs 3 [(0, p0_1), (1, i4 (w4 ((w4 (y10.1 + 1)) + 1))), (5, i4 st1.2.1), (71, p0_1), (72, i4 st1.2.1), (73, i4 (w4 ((w4 (y10.1 + 1)) + 1)))] hS ?_; intro s hS
   obtain ⟨y13, hy13, h⟩ := bind_some h
   refine ar_ (a := []) (b := []) (xs := [i4 (w4 ((w4 (y10.1 + 1)) + 1))]) rfl hS rfl rfl hy13 ?_; intro s hS
   obtain ⟨y14, hy14, h⟩ := bind_some h
   refine cP_ (a := (setS ((setS ((setS ((setS ((setS ((setS ((setS (setS st1.2.2 st1.2.1 ((⟨st1.1, y2.Kind, y2.Name, y2.Low, y2.Keys, y2.Vals, y2.Default⟩ : aa_) : aa_)) st1.2.1 ((⟨y3.Id, (w4 (st1.1 + 1)), y3.Name, y3.Low, y3.Keys, y3.Vals, y3.Default⟩ : aa_) : aa_))) st1.2.1 ((⟨y5.Id, y5.Kind, y4, y5.Low, y5.Keys, y5.Vals, y5.Default⟩ : aa_) : aa_))) st1.2.1 ((⟨y6.Id, y6.Kind, y6.Name, (w4 ((w4 ((w4 (st1.1 + 1)) + 1)) + 1)), y6.Keys, y6.Vals, y6.Default⟩ : aa_) : aa_))) st1.2.1 ((⟨y7.Id, y7.Kind, y7.Name, y7.Low, y8.2, y7.Vals, y7.Default⟩ : aa_) : aa_))) st1.2.1 ((⟨y9.Id, y9.Kind, y9.Name, y9.Low, y9.Keys, y10.2, y9.Default⟩ : aa_) : aa_))) st1.2.1 ((⟨y11.Id, y11.Kind, y11.Name, y11.Low, y11.Keys, y11.Vals, (⟨y10.1, y11.Default.Num, y11.Default.Text, y11.Default.Ref⟩ : ac_)⟩ : aa_) : aa_))) st1.2.1 ((⟨y12.Id, y12.Kind, y12.Name, y12.Low, y12.Keys, y12.Vals, (⟨y12.Default.Kind, (w4 (y10.1 + 1)), y12.Default.Text, y12.Default.Ref⟩ : ac_)⟩ : aa_) : aa_))) (e := 30) (fun _ _ _ _ _ => trivial) rfl hS hH rfl rfl (by kernel_rfl) (by kernel_rfl) hy14 ?_; intro hb9 hb9e s hl_hb9 hS
   refine qs 2 [(0, p0_1), (1, i4 (w4 ((w4 (y10.1 + 1)) + 1))), (5, i4 st1.2.1), (74, .str y13), (77, .ptr hb9 hb9e (st1.2.1.toNat * Enc.w aa_ + 8) 1)] hS ?_; intro s hS
   refine bQ_ (ents := []) (a := (setS ((setS ((setS ((setS ((setS ((setS ((setS (setS st1.2.2 st1.2.1 ((⟨st1.1, y2.Kind, y2.Name, y2.Low, y2.Keys, y2.Vals, y2.Default⟩ : aa_) : aa_)) st1.2.1 ((⟨y3.Id, (w4 (st1.1 + 1)), y3.Name, y3.Low, y3.Keys, y3.Vals, y3.Default⟩ : aa_) : aa_))) st1.2.1 ((⟨y5.Id, y5.Kind, y4, y5.Low, y5.Keys, y5.Vals, y5.Default⟩ : aa_) : aa_))) st1.2.1 ((⟨y6.Id, y6.Kind, y6.Name, (w4 ((w4 ((w4 (st1.1 + 1)) + 1)) + 1)), y6.Keys, y6.Vals, y6.Default⟩ : aa_) : aa_))) st1.2.1 ((⟨y7.Id, y7.Kind, y7.Name, y7.Low, y8.2, y7.Vals, y7.Default⟩ : aa_) : aa_))) st1.2.1 ((⟨y9.Id, y9.Kind, y9.Name, y9.Low, y9.Keys, y10.2, y9.Default⟩ : aa_) : aa_))) st1.2.1 ((⟨y11.Id, y11.Kind, y11.Name, y11.Low, y11.Keys, y11.Vals, (⟨y10.1, y11.Default.Num, y11.Default.Text, y11.Default.Ref⟩ : ac_)⟩ : aa_) : aa_))) st1.2.1 ((⟨y12.Id, y12.Kind, y12.Name, y12.Low, y12.Keys, y12.Vals, (⟨y12.Default.Kind, (w4 (y10.1 + 1)), y12.Default.Text, y12.Default.Ref⟩ : ac_)⟩ : aa_) : aa_))) (j := st1.2.1) (y := y14) (y' := ((⟨y14.Id, y14.Kind, y14.Name, y14.Low, y14.Keys, y14.Vals, (⟨y14.Default.Kind, y14.Default.Num, y13, y14.Default.Ref⟩ : ac_)⟩ : aa_) : aa_)) (off := 8) (c := [i4 y14.Id, i4 y14.Kind, .str y14.Name, i4 y14.Low, y14.Keys.t, y14.Vals.t, i4 y14.Default.Kind, i4 y14.Default.Num, .str y14.Default.Text, i4 y14.Default.Ref]) (us := [.str y13]) (vs := [.str y13]) (v := .str y13) rfl hS hH hl_hb9 rfl rfl rfl (by kernel_rfl) (by kernel_rfl) rfl hy14 rfl (HLs HL.nil) rfl (by kernel_rfl) ?_; intro σ s hH hS
   refine ae_ (sq_n (ad_ (ab_ ?_)))
   refine qs 3 [(0, p0_1), (1, i4 (w4 ((w4 ((w4 (y10.1 + 1)) + 1)) + 1))), (5, i4 st1.2.1)] hS ?_; intro s hS
   refine ae_ (sq_n (ad_ (ab_ ?_)))
   refine qs 3 [(0, p0_1), (1, i4 (w4 ((w4 ((w4 (y10.1 + 1)) + 1)) + 1))), (5, i4 st1.2.1), (80, p0_1), (81, i4 st1.2.1), (82, i4 (w4 ((w4 ((w4 (y10.1 + 1)) + 1)) + 1)))] hS ?_; intro s hS
   obtain ⟨y15, hy15, h⟩ := bind_some h
   refine cP_ (a := (setS ((setS ((setS ((setS ((setS ((setS ((setS ((setS (setS st1.2.2 st1.2.1 ((⟨st1.1, y2.Kind, y2.Name, y2.Low, y2.Keys, y2.Vals, y2.Default⟩ : aa_) : aa_)) st1.2.1 ((⟨y3.Id, (w4 (st1.1 + 1)), y3.Name, y3.Low, y3.Keys, y3.Vals, y3.Default⟩ : aa_) : aa_))) st1.2.1 ((⟨y5.Id, y5.Kind, y4, y5.Low, y5.Keys, y5.Vals, y5.Default⟩ : aa_) : aa_))) st1.2.1 ((⟨y6.Id, y6.Kind, y6.Name, (w4 ((w4 ((w4 (st1.1 + 1)) + 1)) + 1)), y6.Keys, y6.Vals, y6.Default⟩ : aa_) : aa_))) st1.2.1 ((⟨y7.Id, y7.Kind, y7.Name, y7.Low, y8.2, y7.Vals, y7.Default⟩ : aa_) : aa_))) st1.2.1 ((⟨y9.Id, y9.Kind, y9.Name, y9.Low, y9.Keys, y10.2, y9.Default⟩ : aa_) : aa_))) st1.2.1 ((⟨y11.Id, y11.Kind, y11.Name, y11.Low, y11.Keys, y11.Vals, (⟨y10.1, y11.Default.Num, y11.Default.Text, y11.Default.Ref⟩ : ac_)⟩ : aa_) : aa_))) st1.2.1 ((⟨y12.Id, y12.Kind, y12.Name, y12.Low, y12.Keys, y12.Vals, (⟨y12.Default.Kind, (w4 (y10.1 + 1)), y12.Default.Text, y12.Default.Ref⟩ : ac_)⟩ : aa_) : aa_))) st1.2.1 ((⟨y14.Id, y14.Kind, y14.Name, y14.Low, y14.Keys, y14.Vals, (⟨y14.Default.Kind, y14.Default.Num, y13, y14.Default.Ref⟩ : ac_)⟩ : aa_) : aa_))) (e := 30) (fun _ _ _ _ _ => trivial) rfl hS hH rfl rfl (by kernel_rfl) (by kernel_rfl) hy15 ?_; intro hb10 hb10e s hl_hb10 hS
   refine qs 2 [(0, p0_1), (1, i4 (w4 ((w4 ((w4 (y10.1 + 1)) + 1)) + 1))), (5, i4 st1.2.1), (82, i4 (w4 ((w4 ((w4 (y10.1 + 1)) + 1)) + 1))), (85, .ptr hb10 hb10e (st1.2.1.toNat * Enc.w aa_ + 9) 1)] hS ?_; intro s hS
   refine bQ_ (ents := []) (a := (setS ((setS ((setS ((setS ((setS ((setS ((setS ((setS (setS st1.2.2 st1.2.1 ((⟨st1.1, y2.Kind, y2.Name, y2.Low, y2.Keys, y2.Vals, y2.Default⟩ : aa_) : aa_)) st1.2.1 ((⟨y3.Id, (w4 (st1.1 + 1)), y3.Name, y3.Low, y3.Keys, y3.Vals, y3.Default⟩ : aa_) : aa_))) st1.2.1 ((⟨y5.Id, y5.Kind, y4, y5.Low, y5.Keys, y5.Vals, y5.Default⟩ : aa_) : aa_))) st1.2.1 ((⟨y6.Id, y6.Kind, y6.Name, (w4 ((w4 ((w4 (st1.1 + 1)) + 1)) + 1)), y6.Keys, y6.Vals, y6.Default⟩ : aa_) : aa_))) st1.2.1 ((⟨y7.Id, y7.Kind, y7.Name, y7.Low, y8.2, y7.Vals, y7.Default⟩ : aa_) : aa_))) st1.2.1 ((⟨y9.Id, y9.Kind, y9.Name, y9.Low, y9.Keys, y10.2, y9.Default⟩ : aa_) : aa_))) st1.2.1 ((⟨y11.Id, y11.Kind, y11.Name, y11.Low, y11.Keys, y11.Vals, (⟨y10.1, y11.Default.Num, y11.Default.Text, y11.Default.Ref⟩ : ac_)⟩ : aa_) : aa_))) st1.2.1 ((⟨y12.Id, y12.Kind, y12.Name, y12.Low, y12.Keys, y12.Vals, (⟨y12.Default.Kind, (w4 (y10.1 + 1)), y12.Default.Text, y12.Default.Ref⟩ : ac_)⟩ : aa_) : aa_))) st1.2.1 ((⟨y14.Id, y14.Kind, y14.Name, y14.Low, y14.Keys, y14.Vals, (⟨y14.Default.Kind, y14.Default.Num, y13, y14.Default.Ref⟩ : ac_)⟩ : aa_) : aa_))) (j := st1.2.1) (y := y15) (y' := ((⟨y15.Id, y15.Kind, y15.Name, y15.Low, y15.Keys, y15.Vals, (⟨y15.Default.Kind, y15.Default.Num, y15.Default.Text, (w4 ((w4 ((w4 (y10.1 + 1)) + 1)) + 1))⟩ : ac_)⟩ : aa_) : aa_)) (off := 9) (c := [i4 y15.Id, i4 y15.Kind, .str y15.Name, i4 y15.Low, y15.Keys.t, y15.Vals.t, i4 y15.Default.Kind, i4 y15.Default.Num, .str y15.Default.Text, i4 y15.Default.Ref]) (us := [i4 (w4 ((w4 ((w4 (y10.1 + 1)) + 1)) + 1))]) (vs := [i4 (w4 ((w4 ((w4 (y10.1 + 1)) + 1)) + 1))]) (v := i4 (w4 ((w4 ((w4 (y10.1 + 1)) + 1)) + 1))) rfl hS hH hl_hb10 rfl rfl rfl (by kernel_rfl) (by kernel_rfl) rfl hy15 rfl (HLi HL.nil) rfl (by kernel_rfl) ?_; intro σ s hH hS
   refine ae_ (sq_n (ab_ ?_))
   refine qs 3 [(0, p0_1), (1, i4 (w4 ((w4 ((w4 ((w4 (y10.1 + 1)) + 1)) + 1)) + 1))), (5, i4 st1.2.1)] hS ?_; intro s hS
   refine ae_ (bk_n (sq_n (ab_ ?_)))
   refine qs 3 [(0, p0_1), (1, i4 (w4 ((w4 ((w4 ((w4 (y10.1 + 1)) + 1)) + 1)) + 1))), (5, i4 (w4 (st1.2.1 + 1)))] hS ?_; intro s hS
   refine ae_ ?_
   injection h with h; subst h
   exact And.intro (am_ hS (by kernel_rfl)) hH
  ·have h := al_ hc1 h
   refine af_ hS rfl (fun hf => ag_ hc1 hf) (fun _ => ?_)
   refine ba_ (sq_x ?_)
   injection h with h; subst h
   exact And.intro rfl (And.intro (am_ hS (by kernel_rfl)) hH)
 ·clear hS hH; intro e fr HF; obtain ⟨s, σ⟩ := fr
  obtain ⟨rfl, hS, hH⟩ := HF
  refine bk_e (sq_n (ad_ (ab_ ?_)))
  refine qs 2 [(4, i4 y1.1)] hS ?_; intro s hS
  refine ae_ (sq_n (ao_ ?_))
  injection h with h; subst h
  exact oL_ [] (an_ (v := i4 y1.1) hS rfl r_nil) rfl rfl hH
noncomputable def bJ_ (a0 : aj_) (a1 : Int) : Option (Int × aj_) := ((bv_ a0.Objects a1).bind fun y1 => (some (y1.1, (⟨a0.Next, y1.2⟩ : aj_))))
theorem gc_ (a0 : aj_) (a1 : Int) (r : (Int × aj_)) (h : bJ_ a0 a1 = some r) (wp0_1 : Nat) (p0_1 : T) : RawS Try.prog md ext 20 [.agg [i4 a0.Next, p0_1], i4 a1] 0 (fun hs => E_i64 r.1) [.own true wp0_1 p0_1 a0.Objects.t] (fun hs => [.own true wp0_1 p0_1 r.2.Objects.t]) := by
 unfold bJ_ at h
 refine j3_ rfl rfl ok_20 rfl ?_
 intro σ0 σ F σk s hS hH
 have hp0_1 : aV_ p0_1 := Heap.one hH
 have hS := am_ (L' := [(0, .agg [i4 a0.Next, p0_1]), (1, i4 a1)]) hS (by kernel_rfl)
 refine ad_ (ab_ ?_)
 refine aT_ (v := .agg [i4 a0.Next, p0_1]) (cs := [i4 a0.Next, p0_1]) rfl hS hH rfl rfl (by simp [hp0_1.1, hp0_1.2]) ?_; intro b1 σ s hH hS
 refine qs 1 [(1, i4 a1), (2, .ptr b1 0 0 2)] hS ?_; intro s hS
 refine ae_ (sq_n (ad_ (ab_ ?_)))
 refine qs 1 [(1, i4 a1), (5, .ptr b1 0 1 1)] hS ?_; intro s hS
 refine ai_ (v := p0_1) 0 trivial rfl hS hH rfl rfl (by kernel_rfl) ?_; intro s hS
 refine qs 1 [(6, p0_1), (7, i4 a1)] hS ?_; intro s hS
 have hH : Heap σ0 σ [.own true wp0_1 p0_1 a0.Objects.t, .box b1 [i4 a0.Next, p0_1], .keep F σk] := hH.sel [1, 0, 2] rfl (by kernel_rfl)
 obtain ⟨y1, hy1, h⟩ := bind_some h
 refine go_ (a := []) (b := []) (xs := [p0_1, i4 a1]) (ents := [.own true wp0_1 p0_1 a0.Objects.t]) rfl hS rfl rfl hH (gE_ a0.Objects a1 y1 hy1 wp0_1 p0_1) ?_; intro hs σ s hl hH hS
 have hH : Heap σ0 σ [.own true wp0_1 p0_1 y1.2.t, .box b1 [i4 a0.Next, p0_1], .keep F σk] := hH
 refine qs 1 [(1, i4 y1.1)] hS ?_; intro s hS
 refine ae_ (sq_n (ad_ (ab_ ?_)))
 refine qs 2 [(4, i4 y1.1)] hS ?_; intro s hS
 refine ae_ (sq_n (ao_ ?_))
 injection h with h; subst h
 exact oL_ [] (an_ (v := i4 y1.1) hS rfl r_nil) rfl rfl (Heap.sel hH [0, 2] rfl (by kernel_rfl))
end Go.Am
