/- Functions of the program. -/
import Derived.Test.YthpmndnnpnojjaaAd0
set_option maxRecDepth 100000
set_option maxHeartbeats 4000000
set_option linter.unusedVariables false
set_option linter.unusedSimpArgs false
namespace Go.Am
open Go.Proofs
def bC_ (R : (Sl DPattern) → Int → Option (Int × (Sl DPattern))) : Prop := ∀ (a0 : (Sl DPattern)) (a1 : Int) (r : (Int × (Sl DPattern))), R a0 a1 = some r → ∀ (wp0_1 : Nat) (p0_1 : T), RawS Try.prog md ext 21 [p0_1, i4 a1] 0 (fun hs => E_i64 r.1) [.own true wp0_1 p0_1 a0.t] (fun hs => [.own true wp0_1 p0_1 r.2.t])
noncomputable def aU_ (R_21 : (Sl DPattern) → Int → Option (Int × (Sl DPattern))) (a0 : (Sl DPattern)) (a1 : Int) : Option (Int × (Sl DPattern)) := ((aI_ (S := (Int × Int × (Sl DPattern))) (R := (Int × (Sl DPattern))) (fun st1 => (if (decide (st1.2.1 < (st1.2.2.l.length : Int))) = true then ((elt st1.2.2 st1.2.1).bind fun y2 => ((elt (setS st1.2.2 st1.2.1 ((⟨st1.1, y2.Num, y2.Text, y2.Kids⟩ : DPattern) : DPattern)) st1.2.1).bind fun y3 => ((aE_ (w4 ((w4 (st1.1 + 1)) + 1))).bind fun y4 => ((elt ((setS (setS st1.2.2 st1.2.1 ((⟨st1.1, y2.Num, y2.Text, y2.Kids⟩ : DPattern) : DPattern)) st1.2.1 ((⟨y3.Kind, (w4 (st1.1 + 1)), y3.Text, y3.Kids⟩ : DPattern) : DPattern))) st1.2.1).bind fun y5 => ((elt ((setS ((setS (setS st1.2.2 st1.2.1 ((⟨st1.1, y2.Num, y2.Text, y2.Kids⟩ : DPattern) : DPattern)) st1.2.1 ((⟨y3.Kind, (w4 (st1.1 + 1)), y3.Text, y3.Kids⟩ : DPattern) : DPattern))) st1.2.1 ((⟨y5.Kind, y5.Num, y4, y5.Kids⟩ : DPattern) : DPattern))) st1.2.1).bind fun y6 => ((R_21 y6.Kids (w4 ((w4 ((w4 (st1.1 + 1)) + 1)) + 1))).bind fun y7 => (some (.inl (y7.1, (w4 (st1.2.1 + 1)), (setS ((setS ((setS (setS st1.2.2 st1.2.1 ((⟨st1.1, y2.Num, y2.Text, y2.Kids⟩ : DPattern) : DPattern)) st1.2.1 ((⟨y3.Kind, (w4 (st1.1 + 1)), y3.Text, y3.Kids⟩ : DPattern) : DPattern))) st1.2.1 ((⟨y5.Kind, y5.Num, y4, y5.Kids⟩ : DPattern) : DPattern))) st1.2.1 ((⟨y6.Kind, y6.Num, y6.Text, y7.2⟩ : DPattern) : DPattern))))))))))) else (some (.inr (st1.1, st1.2.2))))) (a1, 0, a0)).bind fun y1 => (some (y1.1, y1.2)))
theorem eo_ (R_21 : (Sl DPattern) → Int → Option (Int × (Sl DPattern))) (hR_21 : bC_ R_21) : bC_ (aU_ R_21) := by
 intro a0 a1 r h wp0_1 p0_1
 unfold aU_ at h
 refine h0_ rfl rfl ok_21 rfl ?_
 intro σ0 σ F σk s hS hH
 have hp0_1 : bu_ p0_1 := Heap.one hH
 have hS := aj_ (L' := [(0, p0_1), (1, i4 a1)]) hS (by kernel_rfl)
 refine ab_ (aa_ ?_)
 refine qs 1 [(0, p0_1), (1, i4 a1)] hS ?_; intro s hS
 refine ac_ (sq_n (ab_ (ab_ (aa_ ?_))))
 refine qs 1 [(0, p0_1), (1, i4 a1), (5, i4 0)] hS ?_; intro s hS
 refine ac_ (sq_n (ax_ ?_))
 obtain ⟨y1, hy1, h⟩ := bind_some h
 refine bw_ (fun (st1 : (Int × Int × (Sl DPattern))) (fr : Fr) => Sub [(0, p0_1), (1, i4 st1.1), (5, i4 st1.2.1)] fr.s ∧ Heap σ0 fr.σ [.own true wp0_1 p0_1 st1.2.2.t, .keep F σk]) (fun (y1 : (Int × (Sl DPattern))) (e : aB_) (fr : Fr) => e = (.exit 0) ∧ Sub [(1, i4 y1.1)] fr.s ∧ Heap σ0 fr.σ [.own true wp0_1 p0_1 y1.2.t, .keep F σk]) hy1 (And.intro (aj_ hS (by kernel_rfl)) hH) ?_ ?_
 ·clear h hy1 hS hH; clear y1; intro st1 x fr h HI; obtain ⟨s, σ⟩ := fr; obtain ⟨hS, hH⟩ := HI
  refine ab_ (ab_ (aa_ ?_))
  refine qs 2 [(0, p0_1), (1, i4 st1.1), (5, i4 st1.2.1), (6, i4 st1.2.1), (7, p0_1)] hS ?_; intro s hS
  refine lm_ (a := st1.2.2) rfl hS hH rfl (by kernel_rfl) ?_; intro s hS
  refine qs 1 [(0, p0_1), (1, i4 st1.1), (5, i4 st1.2.1), (9, .bool (decide (st1.2.1 < (st1.2.2.l.length : Int))))] hS ?_; intro s hS
  refine ac_ (sq_n ?_)
  by_cases hc1 : (decide (st1.2.1 < (st1.2.2.l.length : Int))) = true
  ·have h := ai_ hc1 h
   refine ae_ hS rfl (fun _ => ?_) (fun hf => ag_ hc1 hf)
   refine aq_ (sq_n (ab_ (ax_ (ab_ (aa_ ?_)))))
   refine qs 3 [(0, p0_1), (1, i4 st1.1), (5, i4 st1.2.1), (12, p0_1), (13, i4 st1.2.1), (14, i4 st1.1)] hS ?_; intro s hS
   obtain ⟨y2, hy2, h⟩ := bind_some h
   refine ee_ (a := st1.2.2) (e := 26) (fun _ _ _ _ _ => trivial) rfl hS hH rfl rfl (by kernel_rfl) (by kernel_rfl) hy2 ?_; intro hb1 hb1e s hl_hb1 hS
   refine qs 1 [(0, p0_1), (1, i4 st1.1), (5, i4 st1.2.1), (14, i4 st1.1), (16, .ptr hb1 hb1e (st1.2.1.toNat * Enc.w DPattern + 0) 1)] hS ?_; intro s hS
   refine cL_ (ents := []) (a := st1.2.2) (j := st1.2.1) (y := y2) (y' := ((⟨st1.1, y2.Num, y2.Text, y2.Kids⟩ : DPattern) : DPattern)) (off := 0) (c := [i4 y2.Kind, i4 y2.Num, .str y2.Text, y2.Kids.t]) (us := [i4 st1.1]) (vs := [i4 st1.1]) (v := i4 st1.1) rfl hS hH hl_hb1 rfl rfl rfl (by kernel_rfl) (by kernel_rfl) rfl hy2 (DPattern.cells_eq _) (HLi HL.nil) rfl (by rw [DPattern.enc_eq]; rfl) ?_; intro σ s hH hS
   refine ac_ (sq_n (ab_ (aa_ ?_)))
   refine qs 3 [(0, p0_1), (1, i4 (w4 (st1.1 + 1))), (5, i4 st1.2.1)] hS ?_; intro s hS
   refine ac_ (sq_n (ab_ (aa_ ?_)))
   refine qs 3 [(0, p0_1), (1, i4 (w4 (st1.1 + 1))), (5, i4 st1.2.1), (19, p0_1), (20, i4 st1.2.1), (21, i4 (w4 (st1.1 + 1)))] hS ?_; intro s hS
   obtain ⟨y3, hy3, h⟩ := bind_some h
   refine ee_ (a := (setS st1.2.2 st1.2.1 ((⟨st1.1, y2.Num, y2.Text, y2.Kids⟩ : DPattern) : DPattern))) (e := 26) (fun _ _ _ _ _ => trivial) rfl hS hH rfl rfl (by kernel_rfl) (by kernel_rfl) hy3 ?_; intro hb2 hb2e s hl_hb2 hS
   refine qs 1 [(0, p0_1), (1, i4 (w4 (st1.1 + 1))), (5, i4 st1.2.1), (21, i4 (w4 (st1.1 + 1))), (23, .ptr hb2 hb2e (st1.2.1.toNat * Enc.w DPattern + 1) 1)] hS ?_; intro s hS
   refine cL_ (ents := []) (a := (setS st1.2.2 st1.2.1 ((⟨st1.1, y2.Num, y2.Text, y2.Kids⟩ : DPattern) : DPattern))) (j := st1.2.1) (y := y3) (y' := ((⟨y3.Kind, (w4 (st1.1 + 1)), y3.Text, y3.Kids⟩ : DPattern) : DPattern)) (off := 1) (c := [i4 y3.Kind, i4 y3.Num, .str y3.Text, y3.Kids.t]) (us := [i4 (w4 (st1.1 + 1))]) (vs := [i4 (w4 (st1.1 + 1))]) (v := i4 (w4 (st1.1 + 1))) rfl hS hH hl_hb2 rfl rfl rfl (by kernel_rfl) (by kernel_rfl) rfl hy3 (DPattern.cells_eq _) (HLi HL.nil) rfl (by rw [DPattern.enc_eq]; rfl) ?_; intro σ s hH hS
   refine ac_ (sq_n (ab_ (aa_ ?_)))
   refine qs 3 [(0, p0_1), (1, i4 (w4 ((w4 (st1.1 + 1)) + 1))), (5, i4 st1.2.1)] hS ?_; intro s hS
   refine ac_ (sq_n (ab_ (aa_ ?_)))
   refine qs 3 [(0, p0_1), (1, i4 (w4 ((w4 (st1.1 + 1)) + 1))), (5, i4 st1.2.1), (26, p0_1), (27, i4 st1.2.1), (28, i4 (w4 ((w4 (st1.1 + 1)) + 1)))] hS ?_; intro s hS
   obtain ⟨y4, hy4, h⟩ := bind_some h
   refine aw_ (a := []) (b := []) (xs := [i4 (w4 ((w4 (st1.1 + 1)) + 1))]) rfl hS rfl rfl hy4 ?_; intro s hS
   obtain ⟨y5, hy5, h⟩ := bind_some h
   refine ee_ (a := (setS (setS st1.2.2 st1.2.1 ((⟨st1.1, y2.Num, y2.Text, y2.Kids⟩ : DPattern) : DPattern)) st1.2.1 ((⟨y3.Kind, (w4 (st1.1 + 1)), y3.Text, y3.Kids⟩ : DPattern) : DPattern))) (e := 26) (fun _ _ _ _ _ => trivial) rfl hS hH rfl rfl (by kernel_rfl) (by kernel_rfl) hy5 ?_; intro hb3 hb3e s hl_hb3 hS
   refine qs 1 [(0, p0_1), (1, i4 (w4 ((w4 (st1.1 + 1)) + 1))), (5, i4 st1.2.1), (29, .str y4), (31, .ptr hb3 hb3e (st1.2.1.toNat * Enc.w DPattern + 2) 1)] hS ?_; intro s hS
   refine cL_ (ents := []) (a := (setS (setS st1.2.2 st1.2.1 ((⟨st1.1, y2.Num, y2.Text, y2.Kids⟩ : DPattern) : DPattern)) st1.2.1 ((⟨y3.Kind, (w4 (st1.1 + 1)), y3.Text, y3.Kids⟩ : DPattern) : DPattern))) (j := st1.2.1) (y := y5) (y' := ((⟨y5.Kind, y5.Num, y4, y5.Kids⟩ : DPattern) : DPattern)) (off := 2) (c := [i4 y5.Kind, i4 y5.Num, .str y5.Text, y5.Kids.t]) (us := [.str y4]) (vs := [.str y4]) (v := .str y4) rfl hS hH hl_hb3 rfl rfl rfl (by kernel_rfl) (by kernel_rfl) rfl hy5 (DPattern.cells_eq _) (HLs HL.nil) rfl (by rw [DPattern.enc_eq]; rfl) ?_; intro σ s hH hS
   refine ac_ (sq_n (ab_ (aa_ ?_)))
   refine qs 3 [(0, p0_1), (1, i4 (w4 ((w4 ((w4 (st1.1 + 1)) + 1)) + 1))), (5, i4 st1.2.1)] hS ?_; intro s hS
   refine ac_ (sq_n (aa_ ?_))
   refine qs 2 [(0, p0_1), (1, i4 (w4 ((w4 ((w4 (st1.1 + 1)) + 1)) + 1))), (5, i4 st1.2.1), (34, p0_1), (35, i4 st1.2.1)] hS ?_; intro s hS
   obtain ⟨y6, hy6, h⟩ := bind_some h
   refine ee_ (a := (setS ((setS (setS st1.2.2 st1.2.1 ((⟨st1.1, y2.Num, y2.Text, y2.Kids⟩ : DPattern) : DPattern)) st1.2.1 ((⟨y3.Kind, (w4 (st1.1 + 1)), y3.Text, y3.Kids⟩ : DPattern) : DPattern))) st1.2.1 ((⟨y5.Kind, y5.Num, y4, y5.Kids⟩ : DPattern) : DPattern))) (e := 26) (fun _ _ _ _ _ => trivial) rfl hS hH rfl rfl (by kernel_rfl) (by kernel_rfl) hy6 ?_; intro hb4 hb4e s hl_hb4 hS
   refine qs 1 [(0, p0_1), (1, i4 (w4 ((w4 ((w4 (st1.1 + 1)) + 1)) + 1))), (5, i4 st1.2.1), (37, .ptr hb4 hb4e (st1.2.1.toNat * Enc.w DPattern + 3) 1)] hS ?_; intro s hS
   refine kn_ (a := (setS ((setS (setS st1.2.2 st1.2.1 ((⟨st1.1, y2.Num, y2.Text, y2.Kids⟩ : DPattern) : DPattern)) st1.2.1 ((⟨y3.Kind, (w4 (st1.1 + 1)), y3.Text, y3.Kids⟩ : DPattern) : DPattern))) st1.2.1 ((⟨y5.Kind, y5.Num, y4, y5.Kids⟩ : DPattern) : DPattern))) (j := st1.2.1) (y := y6) (off := 3) (c := [i4 y6.Kind, i4 y6.Num, .str y6.Text, y6.Kids.t]) (q := (y6.Kids : Sl DPattern)) (fun _ _ _ _ _ => trivial) rfl hS hH hl_hb4 rfl hy6 (DPattern.cells_eq _) (by kernel_rfl) rfl rfl ?_; intro F1 σk1 t1 s ht1 hH hcl1 hcl1s hcl1p hcl1k hcl1f hS
   refine qs 1 [(0, p0_1), (5, i4 st1.2.1), (38, t1), (39, i4 (w4 ((w4 ((w4 (st1.1 + 1)) + 1)) + 1)))] hS ?_; intro s hS
   obtain ⟨y7, hy7, h⟩ := bind_some h
   refine fW_ (a := []) (b := []) (xs := [t1, i4 (w4 ((w4 ((w4 (st1.1 + 1)) + 1)) + 1))]) (ents := [.own true 0 t1 y6.Kids.t]) rfl hS rfl rfl hH (hR_21 y6.Kids (w4 ((w4 ((w4 (st1.1 + 1)) + 1)) + 1)) y7 hy7 0 t1) ?_; intro hs σ s hl hH hS
   have hH : Heap σ0 σ [.own true 0 t1 y7.2.t, .keep F1 σk1, .keep F σk] := hH
   refine qs 1 [(0, p0_1), (1, i4 y7.1), (5, i4 st1.2.1)] hS ?_; intro s hS
   have hH := hcl1 _ _ _ ((⟨y6.Kind, y6.Num, y6.Text, y7.2⟩ : DPattern) : DPattern) (by rw [DPattern.enc_eq]; rfl) hH
   have hH : Heap σ0 σ [.own true wp0_1 p0_1 (setS ((setS ((setS (setS st1.2.2 st1.2.1 ((⟨st1.1, y2.Num, y2.Text, y2.Kids⟩ : DPattern) : DPattern)) st1.2.1 ((⟨y3.Kind, (w4 (st1.1 + 1)), y3.Text, y3.Kids⟩ : DPattern) : DPattern))) st1.2.1 ((⟨y5.Kind, y5.Num, y4, y5.Kids⟩ : DPattern) : DPattern))) st1.2.1 ((⟨y6.Kind, y6.Num, y6.Text, y7.2⟩ : DPattern) : DPattern)).t, .keep F σk] := hH
   refine ac_ (bk_n (sq_n (aa_ ?_)))
   refine qs 3 [(0, p0_1), (1, i4 y7.1), (5, i4 (w4 (st1.2.1 + 1)))] hS ?_; intro s hS
   refine ac_ ?_
   injection h with h; subst h
   exact And.intro (aj_ hS (by kernel_rfl)) hH
  ·have h := ah_ hc1 h
   refine ae_ hS rfl (fun hf => af_ hc1 hf) (fun _ => ?_)
   refine bl_ (sq_x ?_)
   injection h with h; subst h
   exact And.intro rfl (And.intro (aj_ hS (by kernel_rfl)) hH)
 ·clear hS hH; intro e fr HF; obtain ⟨s, σ⟩ := fr
  obtain ⟨rfl, hS, hH⟩ := HF
  refine bk_e (sq_n (ab_ (aa_ ?_)))
  refine qs 2 [(4, i4 y1.1)] hS ?_; intro s hS
  refine ac_ (sq_n (al_ ?_))
  injection h with h; subst h
  exact lC_ [] (ak_ (v := i4 y1.1) hS rfl r_nil) rfl rfl hH
noncomputable def BG_laws_markPatternS : Nat → ((Sl DPattern) → Int → Option (Int × (Sl DPattern)))
 | 0 => (fun _ _ => none)
 | n + 1 => aU_ (BG_laws_markPatternS n)
theorem uBG_laws_markPatternS : ∀ n, bC_ ((BG_laws_markPatternS n))
 | 0 => (by intro _ _ r h; have h : none = some r := h; cases h)
 | n + 1 => eo_ (BG_laws_markPatternS n) (uBG_laws_markPatternS n)
noncomputable def aM_ (a0 : (Sl DPattern)) (a1 : Int) : Option (Int × (Sl DPattern)) := (BG_laws_markPatternS bigN) a0 a1
theorem cW_ (a0 : (Sl DPattern)) (a1 : Int) (r : (Int × (Sl DPattern))) (h : aM_ a0 a1 = some r) (wp0_1 : Nat) (p0_1 : T) : RawS Try.prog md ext 21 [p0_1, i4 a1] 0 (fun hs => E_i64 r.1) [.own true wp0_1 p0_1 a0.t] (fun hs => [.own true wp0_1 p0_1 r.2.t]) := (uBG_laws_markPatternS bigN) a0 a1 r h wp0_1 p0_1
noncomputable def a6_ (a0 : DPattern) (a1 : Int) : Option (Int × DPattern) := ((aM_ a0.Kids a1).bind fun y1 => (some (y1.1, (⟨a0.Kind, a0.Num, a0.Text, y1.2⟩ : DPattern))))
theorem eI_ (a0 : DPattern) (a1 : Int) (r : (Int × DPattern)) (h : a6_ a0 a1 = some r) (wp0_1 : Nat) (p0_1 : T) : RawS Try.prog md ext 22 [.agg [i4 a0.Kind, i4 a0.Num, .str a0.Text, p0_1], i4 a1] 0 (fun hs => E_i64 r.1) [.own true wp0_1 p0_1 a0.Kids.t] (fun hs => [.own true wp0_1 p0_1 r.2.Kids.t]) := by
 unfold a6_ at h
 refine h0_ rfl rfl ok_22 rfl ?_
 intro σ0 σ F σk s hS hH
 have hp0_1 : bu_ p0_1 := Heap.one hH
 have hS := aj_ (L' := [(0, .agg [i4 a0.Kind, i4 a0.Num, .str a0.Text, p0_1]), (1, i4 a1)]) hS (by kernel_rfl)
 refine ab_ (aa_ ?_)
 refine dy_ (v := .agg [i4 a0.Kind, i4 a0.Num, .str a0.Text, p0_1]) (cs := [i4 a0.Kind, i4 a0.Num, .str a0.Text, p0_1]) rfl hS hH rfl rfl (by simp [hp0_1.1, hp0_1.2]) ?_; intro b1 σ s hH hS
 refine qs 1 [(1, i4 a1), (2, .ptr b1 0 0 4)] hS ?_; intro s hS
 refine ac_ (sq_n (ab_ (aa_ ?_)))
 refine qs 1 [(1, i4 a1), (5, .ptr b1 0 3 1)] hS ?_; intro s hS
 refine as_ (v := p0_1) 0 trivial rfl hS hH rfl rfl (by kernel_rfl) ?_; intro s hS
 refine qs 1 [(6, p0_1), (7, i4 a1)] hS ?_; intro s hS
 have hH : Heap σ0 σ [.own true wp0_1 p0_1 a0.Kids.t, .box b1 [i4 a0.Kind, i4 a0.Num, .str a0.Text, p0_1], .keep F σk] := hH.sel [1, 0, 2] rfl (by kernel_rfl)
 obtain ⟨y1, hy1, h⟩ := bind_some h
 refine fW_ (a := []) (b := []) (xs := [p0_1, i4 a1]) (ents := [.own true wp0_1 p0_1 a0.Kids.t]) rfl hS rfl rfl hH (cW_ a0.Kids a1 y1 hy1 wp0_1 p0_1) ?_; intro hs σ s hl hH hS
 have hH : Heap σ0 σ [.own true wp0_1 p0_1 y1.2.t, .box b1 [i4 a0.Kind, i4 a0.Num, .str a0.Text, p0_1], .keep F σk] := hH
 refine qs 1 [(1, i4 y1.1)] hS ?_; intro s hS
 refine ac_ (sq_n (ab_ (aa_ ?_)))
 refine qs 2 [(4, i4 y1.1)] hS ?_; intro s hS
 refine ac_ (sq_n (al_ ?_))
 injection h with h; subst h
 exact lC_ [] (ak_ (v := i4 y1.1) hS rfl r_nil) rfl rfl (Heap.sel hH [0, 2] rfl (by kernel_rfl))
noncomputable def bc_ (a0 : (Sl ad_)) (a1 : Int) : Option (Int × (Sl ad_)) := ((aI_ (S := (Int × Int × (Sl ad_))) (R := (Int × (Sl ad_))) (fun st1 => (if (decide (st1.2.1 < (st1.2.2.l.length : Int))) = true then ((aE_ st1.1).bind fun y2 => ((elt st1.2.2 st1.2.1).bind fun y3 => ((elt (setS st1.2.2 st1.2.1 ((⟨y2, y3.Pattern⟩ : ad_) : ad_)) st1.2.1).bind fun y4 => ((elt ((setS (setS st1.2.2 st1.2.1 ((⟨y2, y3.Pattern⟩ : ad_) : ad_)) st1.2.1 ((⟨y4.Name, (⟨(w4 (st1.1 + 1)), y4.Pattern.Num, y4.Pattern.Text, y4.Pattern.Kids⟩ : DPattern)⟩ : ad_) : ad_))) st1.2.1).bind fun y5 => ((aE_ (w4 ((w4 ((w4 (st1.1 + 1)) + 1)) + 1))).bind fun y6 => ((elt ((setS ((setS (setS st1.2.2 st1.2.1 ((⟨y2, y3.Pattern⟩ : ad_) : ad_)) st1.2.1 ((⟨y4.Name, (⟨(w4 (st1.1 + 1)), y4.Pattern.Num, y4.Pattern.Text, y4.Pattern.Kids⟩ : DPattern)⟩ : ad_) : ad_))) st1.2.1 ((⟨y5.Name, (⟨y5.Pattern.Kind, (w4 ((w4 (st1.1 + 1)) + 1)), y5.Pattern.Text, y5.Pattern.Kids⟩ : DPattern)⟩ : ad_) : ad_))) st1.2.1).bind fun y7 => ((elt ((setS ((setS ((setS (setS st1.2.2 st1.2.1 ((⟨y2, y3.Pattern⟩ : ad_) : ad_)) st1.2.1 ((⟨y4.Name, (⟨(w4 (st1.1 + 1)), y4.Pattern.Num, y4.Pattern.Text, y4.Pattern.Kids⟩ : DPattern)⟩ : ad_) : ad_))) st1.2.1 ((⟨y5.Name, (⟨y5.Pattern.Kind, (w4 ((w4 (st1.1 + 1)) + 1)), y5.Pattern.Text, y5.Pattern.Kids⟩ : DPattern)⟩ : ad_) : ad_))) st1.2.1 ((⟨y7.Name, (⟨y7.Pattern.Kind, y7.Pattern.Num, y6, y7.Pattern.Kids⟩ : DPattern)⟩ : ad_) : ad_))) st1.2.1).bind fun y8 => ((aM_ y8.Pattern.Kids (w4 ((w4 ((w4 ((w4 (st1.1 + 1)) + 1)) + 1)) + 1))).bind fun y9 => (some (.inl (y9.1, (w4 (st1.2.1 + 1)), (setS ((setS ((setS ((setS (setS st1.2.2 st1.2.1 ((⟨y2, y3.Pattern⟩ : ad_) : ad_)) st1.2.1 ((⟨y4.Name, (⟨(w4 (st1.1 + 1)), y4.Pattern.Num, y4.Pattern.Text, y4.Pattern.Kids⟩ : DPattern)⟩ : ad_) : ad_))) st1.2.1 ((⟨y5.Name, (⟨y5.Pattern.Kind, (w4 ((w4 (st1.1 + 1)) + 1)), y5.Pattern.Text, y5.Pattern.Kids⟩ : DPattern)⟩ : ad_) : ad_))) st1.2.1 ((⟨y7.Name, (⟨y7.Pattern.Kind, y7.Pattern.Num, y6, y7.Pattern.Kids⟩ : DPattern)⟩ : ad_) : ad_))) st1.2.1 ((⟨y8.Name, (⟨y8.Pattern.Kind, y8.Pattern.Num, y8.Pattern.Text, y9.2⟩ : DPattern)⟩ : ad_) : ad_))))))))))))) else (some (.inr (st1.1, st1.2.2))))) (a1, 0, a0)).bind fun y1 => (some (y1.1, y1.2)))
theorem fh_ (a0 : (Sl ad_)) (a1 : Int) (r : (Int × (Sl ad_))) (h : bc_ a0 a1 = some r) (wp0_1 : Nat) (p0_1 : T) : RawS Try.prog md ext 31 [p0_1, i4 a1] 0 (fun hs => E_i64 r.1) [.own true wp0_1 p0_1 a0.t] (fun hs => [.own true wp0_1 p0_1 r.2.t]) := by
 unfold bc_ at h
 refine h0_ rfl rfl ok_31 rfl ?_
 intro σ0 σ F σk s hS hH
 have hp0_1 : bu_ p0_1 := Heap.one hH
 have hS := aj_ (L' := [(0, p0_1), (1, i4 a1)]) hS (by kernel_rfl)
 refine ab_ (aa_ ?_)
 refine qs 1 [(0, p0_1), (1, i4 a1)] hS ?_; intro s hS
 refine ac_ (sq_n (ab_ (ab_ (aa_ ?_))))
 refine qs 1 [(0, p0_1), (1, i4 a1), (5, i4 0)] hS ?_; intro s hS
 refine ac_ (sq_n (ax_ ?_))
 obtain ⟨y1, hy1, h⟩ := bind_some h
 refine bw_ (fun (st1 : (Int × Int × (Sl ad_))) (fr : Fr) => Sub [(0, p0_1), (1, i4 st1.1), (5, i4 st1.2.1)] fr.s ∧ Heap σ0 fr.σ [.own true wp0_1 p0_1 st1.2.2.t, .keep F σk]) (fun (y1 : (Int × (Sl ad_))) (e : aB_) (fr : Fr) => e = (.exit 0) ∧ Sub [(1, i4 y1.1)] fr.s ∧ Heap σ0 fr.σ [.own true wp0_1 p0_1 y1.2.t, .keep F σk]) hy1 (And.intro (aj_ hS (by kernel_rfl)) hH) ?_ ?_
 ·clear h hy1 hS hH; clear y1; intro st1 x fr h HI; obtain ⟨s, σ⟩ := fr; obtain ⟨hS, hH⟩ := HI
  refine ab_ (ab_ (aa_ ?_))
  refine qs 2 [(0, p0_1), (1, i4 st1.1), (5, i4 st1.2.1), (6, i4 st1.2.1), (7, p0_1)] hS ?_; intro s hS
  refine lm_ (a := st1.2.2) rfl hS hH rfl (by kernel_rfl) ?_; intro s hS
  refine qs 1 [(0, p0_1), (1, i4 st1.1), (5, i4 st1.2.1), (9, .bool (decide (st1.2.1 < (st1.2.2.l.length : Int))))] hS ?_; intro s hS
  refine ac_ (sq_n ?_)
  by_cases hc1 : (decide (st1.2.1 < (st1.2.2.l.length : Int))) = true
  ·have h := ai_ hc1 h
   refine ae_ hS rfl (fun _ => ?_) (fun hf => ag_ hc1 hf)
   refine aq_ (sq_n (ab_ (ax_ (ab_ (aa_ ?_)))))
   refine qs 3 [(0, p0_1), (1, i4 st1.1), (5, i4 st1.2.1), (12, p0_1), (13, i4 st1.2.1), (14, i4 st1.1)] hS ?_; intro s hS
   obtain ⟨y2, hy2, h⟩ := bind_some h
   refine aw_ (a := []) (b := []) (xs := [i4 st1.1]) rfl hS rfl rfl hy2 ?_; intro s hS
   obtain ⟨y3, hy3, h⟩ := bind_some h
   refine ee_ (a := st1.2.2) (e := 82) (fun _ _ _ _ _ => trivial) rfl hS hH rfl rfl (by kernel_rfl) (by kernel_rfl) hy3 ?_; intro hb1 hb1e s hl_hb1 hS
   refine qs 1 [(0, p0_1), (1, i4 st1.1), (5, i4 st1.2.1), (15, .str y2), (17, .ptr hb1 hb1e (st1.2.1.toNat * Enc.w ad_ + 0) 1)] hS ?_; intro s hS
   refine cL_ (ents := []) (a := st1.2.2) (j := st1.2.1) (y := y3) (y' := ((⟨y2, y3.Pattern⟩ : ad_) : ad_)) (off := 0) (c := [.str y3.Name, i4 y3.Pattern.Kind, i4 y3.Pattern.Num, .str y3.Pattern.Text, y3.Pattern.Kids.t]) (us := [.str y2]) (vs := [.str y2]) (v := .str y2) rfl hS hH hl_hb1 rfl rfl rfl (by kernel_rfl) (by kernel_rfl) rfl hy3 rfl (HLs HL.nil) rfl (by kernel_rfl) ?_; intro σ s hH hS
   refine ac_ (sq_n (ab_ (aa_ ?_)))
   refine qs 3 [(0, p0_1), (1, i4 (w4 (st1.1 + 1))), (5, i4 st1.2.1)] hS ?_; intro s hS
   refine ac_ (sq_n (ab_ (aa_ ?_)))
   refine qs 3 [(0, p0_1), (1, i4 (w4 (st1.1 + 1))), (5, i4 st1.2.1), (20, p0_1), (21, i4 st1.2.1), (22, i4 (w4 (st1.1 + 1)))] hS ?_; intro s hS
   obtain ⟨y4, hy4, h⟩ := bind_some h
   refine ee_ (a := (setS st1.2.2 st1.2.1 ((⟨y2, y3.Pattern⟩ : ad_) : ad_))) (e := 82) (fun _ _ _ _ _ => trivial) rfl hS hH rfl rfl (by kernel_rfl) (by kernel_rfl) hy4 ?_; intro hb2 hb2e s hl_hb2 hS
   refine qs 2 [(0, p0_1), (1, i4 (w4 (st1.1 + 1))), (5, i4 st1.2.1), (22, i4 (w4 (st1.1 + 1))), (25, .ptr hb2 hb2e (st1.2.1.toNat * Enc.w ad_ + 1) 1)] hS ?_; intro s hS
   refine cL_ (ents := []) (a := (setS st1.2.2 st1.2.1 ((⟨y2, y3.Pattern⟩ : ad_) : ad_))) (j := st1.2.1) (y := y4) (y' := ((⟨y4.Name, (⟨(w4 (st1.1 + 1)), y4.Pattern.Num, y4.Pattern.Text, y4.Pattern.Kids⟩ : DPattern)⟩ : ad_) : ad_)) (off := 1) (c := [.str y4.Name, i4 y4.Pattern.Kind, i4 y4.Pattern.Num, .str y4.Pattern.Text, y4.Pattern.Kids.t]) (us := [i4 (w4 (st1.1 + 1))]) (vs := [i4 (w4 (st1.1 + 1))]) (v := i4 (w4 (st1.1 + 1))) rfl hS hH hl_hb2 rfl rfl rfl (by kernel_rfl) (by kernel_rfl) rfl hy4 rfl (HLi HL.nil) rfl (by kernel_rfl) ?_; intro σ s hH hS
   refine ac_ (sq_n (ab_ (aa_ ?_)))
   refine qs 3 [(0, p0_1), (1, i4 (w4 ((w4 (st1.1 + 1)) + 1))), (5, i4 st1.2.1)] hS ?_; intro s hS
   refine ac_ (sq_n (ab_ (aa_ ?_)))
   refine qs 3 [(0, p0_1), (1, i4 (w4 ((w4 (st1.1 + 1)) + 1))), (5, i4 st1.2.1), (28, p0_1), (29, i4 st1.2.1), (30, i4 (w4 ((w4 (st1.1 + 1)) + 1)))] hS ?_; intro s hS
   obtain ⟨y5, hy5, h⟩ := bind_some h
   refine ee_ (a := (setS (setS st1.2.2 st1.2.1 ((⟨y2, y3.Pattern⟩ : ad_) : ad_)) st1.2.1 ((⟨y4.Name, (⟨(w4 (st1.1 + 1)), y4.Pattern.Num, y4.Pattern.Text, y4.Pattern.Kids⟩ : DPattern)⟩ : ad_) : ad_))) (e := 82) (fun _ _ _ _ _ => trivial) rfl hS hH rfl rfl (by kernel_rfl) (by kernel_rfl) hy5 ?_; intro hb3 hb3e s hl_hb3 hS
   refine qs 2 [(0, p0_1), (1, i4 (w4 ((w4 (st1.1 + 1)) + 1))), (5, i4 st1.2.1), (30, i4 (w4 ((w4 (st1.1 + 1)) + 1))), (33, .ptr hb3 hb3e (st1.2.1.toNat * Enc.w ad_ + 2) 1)] hS ?_; intro s hS
   refine cL_ (ents := []) (a := (setS (setS st1.2.2 st1.2.1 ((⟨y2, y3.Pattern⟩ : ad_) : ad_)) st1.2.1 ((⟨y4.Name, (⟨(w4 (st1.1 + 1)), y4.Pattern.Num, y4.Pattern.Text, y4.Pattern.Kids⟩ : DPattern)⟩ : ad_) : ad_))) (j := st1.2.1) (y := y5) (y' := ((⟨y5.Name, (⟨y5.Pattern.Kind, (w4 ((w4 (st1.1 + 1)) + 1)), y5.Pattern.Text, y5.Pattern.Kids⟩ : DPattern)⟩ : ad_) : ad_)) (off := 2) (c := [.str y5.Name, i4 y5.Pattern.Kind, i4 y5.Pattern.Num, .str y5.Pattern.Text, y5.Pattern.Kids.t]) (us := [i4 (w4 ((w4 (st1.1 + 1)) + 1))]) (vs := [i4 (w4 ((w4 (st1.1 + 1)) + 1))]) (v := i4 (w4 ((w4 (st1.1 + 1)) + 1))) rfl hS hH hl_hb3 rfl rfl rfl (by kernel_rfl) (by kernel_rfl) rfl hy5 rfl (HLi HL.nil) rfl (by kernel_rfl) ?_; intro σ s hH hS
   refine ac_ (sq_n (ab_ (aa_ ?_)))
   refine qs 3 [(0, p0_1), (1, i4 (w4 ((w4 ((w4 (st1.1 + 1)) + 1)) + 1))), (5, i4 st1.2.1)] hS ?_; intro s hS
   refine ac_ (sq_n (ab_ (aa_ ?_)))
   refine qs 3 [(0, p0_1), (1, i4 (w4 ((w4 ((w4 (st1.1 + 1)) + 1)) + 1))), (5, i4 st1.2.1), (36, p0_1), (37, i4 st1.2.1), (38, i4 (w4 ((w4 ((w4 (st1.1 + 1)) + 1)) + 1)))] hS ?_; intro s hS
   obtain ⟨y6, hy6, h⟩ := bind_some h
   refine aw_ (a := []) (b := []) (xs := [i4 (w4 ((w4 ((w4 (st1.1 + 1)) + 1)) + 1))]) rfl hS rfl rfl hy6 ?_; intro s hS
   obtain ⟨y7, hy7, h⟩ := bind_some h
   refine ee_ (a := (setS ((setS (setS st1.2.2 st1.2.1 ((⟨y2, y3.Pattern⟩ : ad_) : ad_)) st1.2.1 ((⟨y4.Name, (⟨(w4 (st1.1 + 1)), y4.Pattern.Num, y4.Pattern.Text, y4.Pattern.Kids⟩ : DPattern)⟩ : ad_) : ad_))) st1.2.1 ((⟨y5.Name, (⟨y5.Pattern.Kind, (w4 ((w4 (st1.1 + 1)) + 1)), y5.Pattern.Text, y5.Pattern.Kids⟩ : DPattern)⟩ : ad_) : ad_))) (e := 82) (fun _ _ _ _ _ => trivial) rfl hS hH rfl rfl (by kernel_rfl) (by kernel_rfl) hy7 ?_; intro hb4 hb4e s hl_hb4 hS
   refine qs 2 [(0, p0_1), (1, i4 (w4 ((w4 ((w4 (st1.1 + 1)) + 1)) + 1))), (5, i4 st1.2.1), (39, .str y6), (42, .ptr hb4 hb4e (st1.2.1.toNat * Enc.w ad_ + 3) 1)] hS ?_; intro s hS
   refine cL_ (ents := []) (a := (setS ((setS (setS st1.2.2 st1.2.1 ((⟨y2, y3.Pattern⟩ : ad_) : ad_)) st1.2.1 ((⟨y4.Name, (⟨(w4 (st1.1 + 1)), y4.Pattern.Num, y4.Pattern.Text, y4.Pattern.Kids⟩ : DPattern)⟩ : ad_) : ad_))) st1.2.1 ((⟨y5.Name, (⟨y5.Pattern.Kind, (w4 ((w4 (st1.1 + 1)) + 1)), y5.Pattern.Text, y5.Pattern.Kids⟩ : DPattern)⟩ : ad_) : ad_))) (j := st1.2.1) (y := y7) (y' := ((⟨y7.Name, (⟨y7.Pattern.Kind, y7.Pattern.Num, y6, y7.Pattern.Kids⟩ : DPattern)⟩ : ad_) : ad_)) (off := 3) (c := [.str y7.Name, i4 y7.Pattern.Kind, i4 y7.Pattern.Num, .str y7.Pattern.Text, y7.Pattern.Kids.t]) (us := [.str y6]) (vs := [.str y6]) (v := .str y6) rfl hS hH hl_hb4 rfl rfl rfl (by kernel_rfl) (by kernel_rfl) rfl hy7 rfl (HLs HL.nil) rfl (by kernel_rfl) ?_; intro σ s hH hS
   refine ac_ (sq_n (ab_ (aa_ ?_)))
   refine qs 3 [(0, p0_1), (1, i4 (w4 ((w4 ((w4 ((w4 (st1.1 + 1)) + 1)) + 1)) + 1))), (5, i4 st1.2.1)] hS ?_; intro s hS
   refine ac_ (sq_n (aa_ ?_))
   refine qs 2 [(0, p0_1), (1, i4 (w4 ((w4 ((w4 ((w4 (st1.1 + 1)) + 1)) + 1)) + 1))), (5, i4 st1.2.1), (45, p0_1), (46, i4 st1.2.1)] hS ?_; intro s hS
   obtain ⟨y8, hy8, h⟩ := bind_some h
   refine ee_ (a := (setS ((setS ((setS (setS st1.2.2 st1.2.1 ((⟨y2, y3.Pattern⟩ : ad_) : ad_)) st1.2.1 ((⟨y4.Name, (⟨(w4 (st1.1 + 1)), y4.Pattern.Num, y4.Pattern.Text, y4.Pattern.Kids⟩ : DPattern)⟩ : ad_) : ad_))) st1.2.1 ((⟨y5.Name, (⟨y5.Pattern.Kind, (w4 ((w4 (st1.1 + 1)) + 1)), y5.Pattern.Text, y5.Pattern.Kids⟩ : DPattern)⟩ : ad_) : ad_))) st1.2.1 ((⟨y7.Name, (⟨y7.Pattern.Kind, y7.Pattern.Num, y6, y7.Pattern.Kids⟩ : DPattern)⟩ : ad_) : ad_))) (e := 82) (fun _ _ _ _ _ => trivial) rfl hS hH rfl rfl (by kernel_rfl) (by kernel_rfl) hy8 ?_; intro hb5 hb5e s hl_hb5 hS
   refine qs 2 [(0, p0_1), (1, i4 (w4 ((w4 ((w4 ((w4 (st1.1 + 1)) + 1)) + 1)) + 1))), (5, i4 st1.2.1), (49, .ptr hb5 hb5e (st1.2.1.toNat * Enc.w ad_ + 4) 1)] hS ?_; intro s hS
   refine kn_ (a := (setS ((setS ((setS (setS st1.2.2 st1.2.1 ((⟨y2, y3.Pattern⟩ : ad_) : ad_)) st1.2.1 ((⟨y4.Name, (⟨(w4 (st1.1 + 1)), y4.Pattern.Num, y4.Pattern.Text, y4.Pattern.Kids⟩ : DPattern)⟩ : ad_) : ad_))) st1.2.1 ((⟨y5.Name, (⟨y5.Pattern.Kind, (w4 ((w4 (st1.1 + 1)) + 1)), y5.Pattern.Text, y5.Pattern.Kids⟩ : DPattern)⟩ : ad_) : ad_))) st1.2.1 ((⟨y7.Name, (⟨y7.Pattern.Kind, y7.Pattern.Num, y6, y7.Pattern.Kids⟩ : DPattern)⟩ : ad_) : ad_))) (j := st1.2.1) (y := y8) (off := 4) (c := [.str y8.Name, i4 y8.Pattern.Kind, i4 y8.Pattern.Num, .str y8.Pattern.Text, y8.Pattern.Kids.t]) (q := (y8.Pattern.Kids : Sl DPattern)) (fun _ _ _ _ _ => trivial) rfl hS hH hl_hb5 rfl hy8 rfl (by kernel_rfl) rfl rfl ?_; intro F1 σk1 t1 s ht1 hH hcl1 hcl1s hcl1p hcl1k hcl1f hS
   refine qs 1 [(0, p0_1), (5, i4 st1.2.1), (50, t1), (51, i4 (w4 ((w4 ((w4 ((w4 (st1.1 + 1)) + 1)) + 1)) + 1)))] hS ?_; intro s hS
   obtain ⟨y9, hy9, h⟩ := bind_some h
   refine fW_ (a := []) (b := []) (xs := [t1, i4 (w4 ((w4 ((w4 ((w4 (st1.1 + 1)) + 1)) + 1)) + 1))]) (ents := [.own true 0 t1 y8.Pattern.Kids.t]) rfl hS rfl rfl hH (cW_ y8.Pattern.Kids (w4 ((w4 ((w4 ((w4 (st1.1 + 1)) + 1)) + 1)) + 1)) y9 hy9 0 t1) ?_; intro hs σ s hl hH hS
   have hH : Heap σ0 σ [.own true 0 t1 y9.2.t, .keep F1 σk1, .keep F σk] := hH
   refine qs 1 [(0, p0_1), (1, i4 y9.1), (5, i4 st1.2.1)] hS ?_; intro s hS
   have hH := hcl1 _ _ _ ((⟨y8.Name, (⟨y8.Pattern.Kind, y8.Pattern.Num, y8.Pattern.Text, y9.2⟩ : DPattern)⟩ : ad_) : ad_) rfl hH
   have hH : Heap σ0 σ [.own true wp0_1 p0_1 (setS ((setS ((setS ((setS (setS st1.2.2 st1.2.1 ((⟨y2, y3.Pattern⟩ : ad_) : ad_)) st1.2.1 ((⟨y4.Name, (⟨(w4 (st1.1 + 1)), y4.Pattern.Num, y4.Pattern.Text, y4.Pattern.Kids⟩ : DPattern)⟩ : ad_) : ad_))) st1.2.1 ((⟨y5.Name, (⟨y5.Pattern.Kind, (w4 ((w4 (st1.1 + 1)) + 1)), y5.Pattern.Text, y5.Pattern.Kids⟩ : DPattern)⟩ : ad_) : ad_))) st1.2.1 ((⟨y7.Name, (⟨y7.Pattern.Kind, y7.Pattern.Num, y6, y7.Pattern.Kids⟩ : DPattern)⟩ : ad_) : ad_))) st1.2.1 ((⟨y8.Name, (⟨y8.Pattern.Kind, y8.Pattern.Num, y8.Pattern.Text, y9.2⟩ : DPattern)⟩ : ad_) : ad_)).t, .keep F σk] := hH
   refine ac_ (bk_n (sq_n (aa_ ?_)))
   refine qs 3 [(0, p0_1), (1, i4 y9.1), (5, i4 (w4 (st1.2.1 + 1)))] hS ?_; intro s hS
   refine ac_ ?_
   injection h with h; subst h
   exact And.intro (aj_ hS (by kernel_rfl)) hH
  ·have h := ah_ hc1 h
   refine ae_ hS rfl (fun hf => af_ hc1 hf) (fun _ => ?_)
   refine bl_ (sq_x ?_)
   injection h with h; subst h
   exact And.intro rfl (And.intro (aj_ hS (by kernel_rfl)) hH)
 ·clear hS hH; intro e fr HF; obtain ⟨s, σ⟩ := fr
  obtain ⟨rfl, hS, hH⟩ := HF
  refine bk_e (sq_n (ab_ (aa_ ?_)))
  refine qs 2 [(4, i4 y1.1)] hS ?_; intro s hS
  refine ac_ (sq_n (al_ ?_))
  injection h with h; subst h
  exact lC_ [] (ak_ (v := i4 y1.1) hS rfl r_nil) rfl rfl hH
noncomputable def a8_ (a0 : (Sl ad_)) (a1 : ByteArray) : Option Bool := (if (decide (1048576 < (a1.size : Int))) = true then (some true) else ((cN_ a0 1048576).bind fun y1 => (if (decide (y1 < 0)) = true then (some true) else ((a9_ a0).bind fun y2 => ((b7_ y2 a1).bind fun y3 => ((a9_ a0).bind fun y4 => ((bs_ y4 a1).bind fun y5 => ((aL_ y5.1 y3.1).bind fun y6 => (if (!y6) = true then (some false) else (if (!(y5.2 == y3.2)) = true then (some false) else ((a9_ a0).bind fun y7 => ((c4_ y4 y7).bind fun y8 => (if (!y8) = true then (some false) else ((bc_ y4 1).bind fun y9 => (if (decide (y9.1 < 0)) = true then (some false) else ((aL_ y5.1 y3.1).bind fun y10 => (if (!y10) = true then (some false) else ((a6_ y5.1 1).bind fun y11 => ((bq_ (⟨y5.1.Kind, y5.1.Num, y5.1.Text, y11.2.Kids⟩ : DPattern) 1).bind fun y12 => (if (decide (y12 < 0)) = true then (some false) else (if (!decide (y12 = y11.1)) = true then (some false) else ((a9_ a0).bind fun y13 => ((bs_ y13 a1).bind fun y14 => ((aL_ y14.1 y3.1).bind fun y15 => (if (!y15) = true then (some false) else (if (!(y14.2 == y3.2)) = true then (some false) else ((bq_ (⟨y5.1.Kind, y5.1.Num, y5.1.Text, y11.2.Kids⟩ : DPattern) 1).bind fun y16 => (if (decide (y16 < 0)) = true then (some false) else (if (!decide (y16 = y11.1)) = true then (some false) else (some true))))))))))))))))))))))))))))))
theorem dk_ (a0 : (Sl ad_)) (a1 : ByteArray) (r : Bool) (h : a8_ a0 a1 = some r) : bE_ a0 a1 = some r := by
 unfold a8_ at h
 refine aF_ E_bool_inj rfl rfl ok_5 rfl (all_cons (by kernel_rfl) (all_cons (by kernel_rfl) all_nil)) ?_
 intro σ0 s hS hH
 have hS := aj_ (L' := [(0, a0.t), (1, .str a1)]) hS (by kernel_rfl)
 refine ab_ (aa_ ?_)
 refine qs 1 [(0, a0.t), (1, .str a1)] hS ?_; intro s hS
 refine ac_ (sq_n (ab_ (ab_ (aa_ ?_))))
 refine qs 3 [(0, a0.t), (1, .str a1), (18, .bool (decide (1048576 < (a1.size : Int))))] hS ?_; intro s hS
 refine ac_ (sq_n ?_)
 by_cases hc1 : (decide (1048576 < (a1.size : Int))) = true
 ·have h := ai_ hc1 h
  refine ae_ hS rfl (fun _ => ?_) (fun hf => ag_ hc1 hf)
  refine ab_ (aa_ ?_)
  refine qs 1 [(4, .bool true)] hS ?_; intro s hS
  refine ac_ (sq_n (al_ (sq_r ?_)))
  injection h with h; subst h
  exact am_ hH (ak_ (v := .bool true) hS rfl r_nil) rfl (by kernel_rfl) (by simp [pureT, pureL, E_bool])
 ·have h := ah_ hc1 h
  refine ae_ hS rfl (fun hf => af_ hc1 hf) (fun _ => ?_)
  refine aq_ (sq_n (ab_ (aa_ ?_)))
  refine qs 1 [(0, a0.t), (1, .str a1), (5, i4 1048576)] hS ?_; intro s hS
  refine ac_ (sq_n (ab_ (aa_ ?_)))
  refine qs 2 [(0, a0.t), (1, .str a1), (19, a0.t), (20, i4 1048576)] hS ?_; intro s hS
  obtain ⟨y1, hy1, h⟩ := bind_some h
  refine aw_ (a := []) (b := []) (xs := [a0.t, i4 1048576]) rfl hS rfl rfl hy1 ?_; intro s hS
  refine qs 1 [(0, a0.t), (1, .str a1), (5, i4 y1)] hS ?_; intro s hS
  refine ac_ (sq_n (ab_ (ab_ (aa_ ?_))))
  refine qs 2 [(0, a0.t), (1, .str a1), (23, .bool (decide (y1 < 0)))] hS ?_; intro s hS
  refine ac_ (sq_n ?_)
  by_cases hc2 : (decide (y1 < 0)) = true
  ·have h := ai_ hc2 h
   refine ae_ hS rfl (fun _ => ?_) (fun hf => ag_ hc2 hf)
   refine ab_ (aa_ ?_)
   refine qs 1 [(4, .bool true)] hS ?_; intro s hS
   refine ac_ (sq_n (al_ (sq_r ?_)))
   injection h with h; subst h
   exact am_ hH (ak_ (v := .bool true) hS rfl r_nil) rfl (by kernel_rfl) (by simp [pureT, pureL, E_bool])
  ·have h := ah_ hc2 h
   refine ae_ hS rfl (fun hf => af_ hc2 hf) (fun _ => ?_)
   refine aq_ (sq_n (ab_ (aa_ ?_)))
   refine qs 1 [(0, a0.t), (1, .str a1), (25, a0.t)] hS ?_; intro s hS
   obtain ⟨y2, hy2, h⟩ := bind_some h
   refine bL_ (ents := []) (z := false) (ts := [a0.t]) (vs := [a0.t]) rfl rfl hS rfl rfl rfl hH (HLp HL.nil) hy2 ?_; intro hs σ s hl hH hS
   obtain ⟨t1, rfl⟩ := len1 hl
   have hH : Heap σ0 σ [.own true 5 t1 y2.t] := hH
   have ht1 : bu_ t1 := Heap.one hH
   refine qs 1 [(0, a0.t), (1, .str a1), (26, t1), (27, .str a1)] hS ?_; intro s hS
   obtain ⟨y3, hy3, h⟩ := bind_some h
   refine bL_ (ents := [.own true 5 t1 y2.t]) (z := false) (ts := [t1, .str a1]) (vs := [y2.t, .str a1]) rfl rfl hS rfl rfl rfl hH (HL.own rfl (HLs HL.nil)) hy3 ?_; intro hs σ s hl hH hS
   obtain ⟨t2, rfl⟩ := len1 hl
   have hH : Heap σ0 σ [.own true 4 t2 y3.1.Kids.t, .own true 5 t1 y2.t] := hH
   have ht2 : bu_ t2 := Heap.one hH
   refine qs 3 [(0, a0.t), (1, .str a1), (29, .agg [i4 y3.1.Kind, i4 y3.1.Num, .str y3.1.Text, t2]), (30, .bool y3.2)] hS ?_; intro s hS
   refine bo_ (z := [i4 0, i4 0, .str ⟨#[]⟩, (nt DPattern)]) rfl hS hH (by kernel_rfl) ?_; intro b1 σ s hH hS
   refine aV_ (cs := [i4 y3.1.Kind, i4 y3.1.Num, .str y3.1.Text, t2]) rfl hS hH rfl rfl (by simp [ht2.1, ht2.2]) ?_; intro σ s hH hS
   refine qs 1 [(0, a0.t), (1, .str a1), (6, .ptr b1 0 0 4), (7, .bool y3.2)] hS ?_; intro s hS
   refine ac_ (sq_n (ab_ (aa_ ?_)))
   refine qs 1 [(0, a0.t), (1, .str a1), (6, .ptr b1 0 0 4), (7, .bool y3.2), (31, a0.t)] hS ?_; intro s hS
   obtain ⟨y4, hy4, h⟩ := bind_some h
   refine bL_ (ents := []) (z := false) (ts := [a0.t]) (vs := [a0.t]) rfl rfl hS rfl rfl rfl hH (HLp HL.nil) hy4 ?_; intro hs σ s hl hH hS
   obtain ⟨t3, rfl⟩ := len1 hl
   have hH : Heap σ0 σ [.own true 5 t3 y4.t, .box b1 [i4 y3.1.Kind, i4 y3.1.Num, .str y3.1.Text, t2], .own true 4 t2 y3.1.Kids.t, .own true 5 t1 y2.t] := hH
   have ht3 : bu_ t3 := Heap.one hH
   refine qs 1 [(0, a0.t), (1, .str a1), (6, .ptr b1 0 0 4), (7, .bool y3.2), (8, t3)] hS ?_; intro s hS
   refine ac_ (sq_n (ab_ (aa_ ?_)))
   refine qs 2 [(0, a0.t), (1, .str a1), (6, .ptr b1 0 0 4), (7, .bool y3.2), (8, t3), (34, t3), (35, .str a1)] hS ?_; intro s hS
   obtain ⟨y5, hy5, h⟩ := bind_some h
   refine bL_ (ents := [.own true 5 t3 y4.t]) (z := false) (ts := [t3, .str a1]) (vs := [y4.t, .str a1]) rfl rfl hS rfl rfl rfl hH (HL.own rfl (HLs HL.nil)) hy5 ?_; intro hs σ s hl hH hS
   obtain ⟨t4, rfl⟩ := len1 hl
   have hH : Heap σ0 σ [.own true 4 t4 y5.1.Kids.t, .own true 5 t3 y4.t, .box b1 [i4 y3.1.Kind, i4 y3.1.Num, .str y3.1.Text, t2], .own true 4 t2 y3.1.Kids.t, .own true 5 t1 y2.t] := hH
   have ht4 : bu_ t4 := Heap.one hH
   refine qs 3 [(0, a0.t), (1, .str a1), (6, .ptr b1 0 0 4), (7, .bool y3.2), (8, t3), (37, .agg [i4 y5.1.Kind, i4 y5.1.Num, .str y5.1.Text, t4]), (38, .bool y5.2)] hS ?_; intro s hS
   refine bo_ (z := [i4 0, i4 0, .str ⟨#[]⟩, (nt DPattern)]) rfl hS hH (by kernel_rfl) ?_; intro b2 σ s hH hS
   refine aV_ (cs := [i4 y5.1.Kind, i4 y5.1.Num, .str y5.1.Text, t4]) rfl hS hH rfl rfl (by simp [ht4.1, ht4.2]) ?_; intro σ s hH hS
   refine qs 1 [(0, a0.t), (1, .str a1), (6, .ptr b1 0 0 4), (7, .bool y3.2), (8, t3), (9, .ptr b2 0 0 4), (10, .bool y5.2)] hS ?_; intro s hS
   refine ac_ (sq_n (ab_ (ab_ (aa_ ?_))))
   refine as_ (v := .agg [i4 y5.1.Kind, i4 y5.1.Num, .str y5.1.Text, t4]) 0 trivial rfl hS hH rfl rfl (by kernel_rfl) ?_; intro s hS
   refine as_ (v := .agg [i4 y3.1.Kind, i4 y3.1.Num, .str y3.1.Text, t2]) 3 trivial rfl hS hH rfl rfl (by kernel_rfl) ?_; intro s hS
   obtain ⟨y6, hy6, h⟩ := bind_some h
   have hH : Heap σ0 σ [.own true 4 t4 y5.1.Kids.t, .own true 4 t2 y3.1.Kids.t, .box b2 [i4 y5.1.Kind, i4 y5.1.Num, .str y5.1.Text, t4], .own true 5 t3 y4.t, .box b1 [i4 y3.1.Kind, i4 y3.1.Num, .str y3.1.Text, t2], .own true 5 t1 y2.t] := hH.sel [1, 4, 0, 2, 3, 5] rfl (by kernel_rfl)
   refine eD_ (ents := [.own true 4 t4 y5.1.Kids.t, .own true 4 t2 y3.1.Kids.t]) (z := false) (ts := [.agg [i4 y5.1.Kind, i4 y5.1.Num, .str y5.1.Text, t4], .agg [i4 y3.1.Kind, i4 y3.1.Num, .str y3.1.Text, t2]]) (vs := [.agg [i4 y5.1.Kind, i4 y5.1.Num, .str y5.1.Text, y5.1.Kids.t], .agg [i4 y3.1.Kind, i4 y3.1.Num, .str y3.1.Text, y3.1.Kids.t]]) rfl hS rfl rfl rfl hH (HL.agg (es1 := [.own true 4 t4 y5.1.Kids.t]) (es2 := [.own true 4 t2 y3.1.Kids.t]) (HLi (HLi (HLs (HL.own rfl HL.nil)))) (HL.agg (es1 := [.own true 4 t2 y3.1.Kids.t]) (es2 := []) (HLi (HLi (HLs (HL.own rfl HL.nil)))) HL.nil)) hy6 (by kernel_rfl) ?_; intro s hS
   refine qs 2 [(43, .bool (!y6)), (0, a0.t), (1, .str a1), (6, .ptr b1 0 0 4), (7, .bool y3.2), (8, t3), (9, .ptr b2 0 0 4), (10, .bool y5.2)] hS ?_; intro s hS
   by_cases hc3 : (!y6) = true
   ·have h := ai_ hc3 h
    have hS := ao_ hS hc3
    refine qs 4 [(0, a0.t), (1, .str a1), (6, .ptr b1 0 0 4), (7, .bool y3.2), (8, t3), (9, .ptr b2 0 0 4), (10, .bool y5.2), (47, .bool true)] hS ?_; intro s hS
    refine ac_ (sq_n ?_)
    refine ae_ (t := true) hS rfl (fun _ => ?_) (fun hf => by cases hf)
    refine ab_ (aa_ ?_)
    refine qs 1 [(4, .bool false)] hS ?_; intro s hS
    refine ac_ (sq_n (al_ (sq_r ?_)))
    injection h with h; subst h
    exact am_ hH (ak_ (v := .bool false) hS rfl r_nil) rfl (by kernel_rfl) (by simp [pureT, pureL, E_bool])
   ·have h := ah_ hc3 h
    have hS := ao_ hS (aY_ hc3)
    refine qs 4 [(0, a0.t), (1, .str a1), (6, .ptr b1 0 0 4), (7, .bool y3.2), (8, t3), (9, .ptr b2 0 0 4), (10, .bool y5.2), (47, .bool (!(y5.2 == y3.2)))] hS ?_; intro s hS
    refine ac_ (sq_n ?_)
    by_cases hc4 : (!(y5.2 == y3.2)) = true
    ·have h := ai_ hc4 h
     refine ae_ hS rfl (fun _ => ?_) (fun hf => ag_ hc4 hf)
     refine ab_ (aa_ ?_)
     refine qs 1 [(4, .bool false)] hS ?_; intro s hS
     refine ac_ (sq_n (al_ (sq_r ?_)))
     injection h with h; subst h
     exact am_ hH (ak_ (v := .bool false) hS rfl r_nil) rfl (by kernel_rfl) (by simp [pureT, pureL, E_bool])
    ·have h := ah_ hc4 h
     refine ae_ hS rfl (fun hf => af_ hc4 hf) (fun _ => ?_)
     refine aq_ (sq_n (ab_ (ab_ (aa_ ?_))))
     refine qs 2 [(0, a0.t), (1, .str a1), (6, .ptr b1 0 0 4), (7, .bool y3.2), (8, t3), (9, .ptr b2 0 0 4), (10, .bool y5.2), (48, t3), (49, a0.t)] hS ?_; intro s hS
     obtain ⟨y7, hy7, h⟩ := bind_some h
     refine bL_ (ents := []) (z := false) (ts := [a0.t]) (vs := [a0.t]) rfl rfl hS rfl rfl rfl hH (HLp HL.nil) hy7 ?_; intro hs σ s hl hH hS
     obtain ⟨t5, rfl⟩ := len1 hl
     have hH : Heap σ0 σ [.own true 5 t5 y7.t, .own true 4 t4 y5.1.Kids.t, .own true 4 t2 y3.1.Kids.t, .box b2 [i4 y5.1.Kind, i4 y5.1.Num, .str y5.1.Text, t4], .own true 5 t3 y4.t, .box b1 [i4 y3.1.Kind, i4 y3.1.Num, .str y3.1.Text, t2], .own true 5 t1 y2.t] := hH
     have ht5 : bu_ t5 := Heap.one hH
     obtain ⟨y8, hy8, h⟩ := bind_some h
     have hH : Heap σ0 σ [.own true 5 t3 y4.t, .own true 5 t5 y7.t, .own true 4 t4 y5.1.Kids.t, .own true 4 t2 y3.1.Kids.t, .box b2 [i4 y5.1.Kind, i4 y5.1.Num, .str y5.1.Text, t4], .box b1 [i4 y3.1.Kind, i4 y3.1.Num, .str y3.1.Text, t2], .own true 5 t1 y2.t] := hH.sel [4, 0, 1, 2, 3, 5, 6] rfl (by kernel_rfl)
     refine eD_ (ents := [.own true 5 t3 y4.t, .own true 5 t5 y7.t]) (z := false) (ts := [t3, t5]) (vs := [y4.t, y7.t]) rfl hS rfl rfl rfl hH (HL.own rfl (HL.own rfl HL.nil)) hy8 (by kernel_rfl) ?_; intro s hS
     refine qs 1 [(0, a0.t), (1, .str a1), (6, .ptr b1 0 0 4), (7, .bool y3.2), (8, t3), (9, .ptr b2 0 0 4), (10, .bool y5.2), (52, .bool (!y8))] hS ?_; intro s hS
     refine ac_ (sq_n ?_)
     by_cases hc5 : (!y8) = true
     ·have h := ai_ hc5 h
      refine ae_ hS rfl (fun _ => ?_) (fun hf => ag_ hc5 hf)
      refine ab_ (aa_ ?_)
      refine qs 1 [(4, .bool false)] hS ?_; intro s hS
      refine ac_ (sq_n (al_ (sq_r ?_)))
      injection h with h; subst h
      exact am_ hH (ak_ (v := .bool false) hS rfl r_nil) rfl (by kernel_rfl) (by simp [pureT, pureL, E_bool])
     ·have h := ah_ hc5 h
      refine ae_ hS rfl (fun hf => af_ hc5 hf) (fun _ => ?_)
      refine aq_ (sq_n (ab_ (aa_ ?_)))
      refine qs 1 [(0, a0.t), (1, .str a1), (6, .ptr b1 0 0 4), (7, .bool y3.2), (8, t3), (9, .ptr b2 0 0 4), (10, .bool y5.2), (11, i4 1)] hS ?_; intro s hS
      refine ac_ (sq_n (ab_ (aa_ ?_)))
      refine qs 2 [(0, a0.t), (1, .str a1), (6, .ptr b1 0 0 4), (7, .bool y3.2), (9, .ptr b2 0 0 4), (10, .bool y5.2), (53, t3), (54, i4 1)] hS ?_; intro s hS
      obtain ⟨y9, hy9, h⟩ := bind_some h
      refine fW_ (a := []) (b := []) (xs := [t3, i4 1]) (ents := [.own true 5 t3 y4.t]) rfl hS rfl rfl hH (fh_ y4 1 y9 hy9 5 t3) ?_; intro hs σ s hl hH hS
      have hH : Heap σ0 σ [.own true 5 t3 y9.2.t, .own true 5 t5 y7.t, .own true 4 t4 y5.1.Kids.t, .own true 4 t2 y3.1.Kids.t, .box b2 [i4 y5.1.Kind, i4 y5.1.Num, .str y5.1.Text, t4], .box b1 [i4 y3.1.Kind, i4 y3.1.Num, .str y3.1.Text, t2], .own true 5 t1 y2.t] := hH
      refine qs 1 [(0, a0.t), (1, .str a1), (6, .ptr b1 0 0 4), (7, .bool y3.2), (9, .ptr b2 0 0 4), (10, .bool y5.2), (11, i4 y9.1)] hS ?_; intro s hS
      refine ac_ (sq_n (ab_ (ab_ (aa_ ?_))))
      refine qs 3 [(58, .bool (decide (y9.1 < 0))), (0, a0.t), (1, .str a1), (6, .ptr b1 0 0 4), (7, .bool y3.2), (9, .ptr b2 0 0 4), (10, .bool y5.2)] hS ?_; intro s hS
      by_cases hc6 : (decide (y9.1 < 0)) = true
      ·have h := ai_ hc6 h
       have hS := ao_ hS hc6
       refine qs 10 [(0, a0.t), (1, .str a1), (6, .ptr b1 0 0 4), (7, .bool y3.2), (9, .ptr b2 0 0 4), (68, .bool true)] hS ?_; intro s hS
       refine ac_ (sq_n ?_)
       refine ae_ (t := true) hS rfl (fun _ => ?_) (fun hf => by cases hf)
       refine ab_ (aa_ ?_)
       refine qs 1 [(4, .bool false)] hS ?_; intro s hS
       refine ac_ (sq_n (al_ (sq_r ?_)))
       injection h with h; subst h
       exact am_ hH (ak_ (v := .bool false) hS rfl r_nil) rfl (by kernel_rfl) (by simp [pureT, pureL, E_bool])
      ·have h := ah_ hc6 h
       have hS := ao_ hS (aY_ hc6)
       refine as_ (v := .agg [i4 y5.1.Kind, i4 y5.1.Num, .str y5.1.Text, t4]) 4 trivial rfl hS hH rfl rfl (by kernel_rfl) ?_; intro s hS
       refine as_ (v := .agg [i4 y3.1.Kind, i4 y3.1.Num, .str y3.1.Text, t2]) 5 trivial rfl hS hH rfl rfl (by kernel_rfl) ?_; intro s hS
       obtain ⟨y10, hy10, h⟩ := bind_some h
       have hH : Heap σ0 σ [.own true 4 t4 y5.1.Kids.t, .own true 4 t2 y3.1.Kids.t, .own true 5 t3 y9.2.t, .own true 5 t5 y7.t, .box b2 [i4 y5.1.Kind, i4 y5.1.Num, .str y5.1.Text, t4], .box b1 [i4 y3.1.Kind, i4 y3.1.Num, .str y3.1.Text, t2], .own true 5 t1 y2.t] := hH.sel [2, 3, 0, 1, 4, 5, 6] rfl (by kernel_rfl)
       refine eD_ (ents := [.own true 4 t4 y5.1.Kids.t, .own true 4 t2 y3.1.Kids.t]) (z := false) (ts := [.agg [i4 y5.1.Kind, i4 y5.1.Num, .str y5.1.Text, t4], .agg [i4 y3.1.Kind, i4 y3.1.Num, .str y3.1.Text, t2]]) (vs := [.agg [i4 y5.1.Kind, i4 y5.1.Num, .str y5.1.Text, y5.1.Kids.t], .agg [i4 y3.1.Kind, i4 y3.1.Num, .str y3.1.Text, y3.1.Kids.t]]) rfl hS rfl rfl rfl hH (HL.agg (es1 := [.own true 4 t4 y5.1.Kids.t]) (es2 := [.own true 4 t2 y3.1.Kids.t]) (HLi (HLi (HLs (HL.own rfl HL.nil)))) (HL.agg (es1 := [.own true 4 t2 y3.1.Kids.t]) (es2 := []) (HLi (HLi (HLs (HL.own rfl HL.nil)))) HL.nil)) hy10 (by kernel_rfl) ?_; intro s hS
       refine qs 3 [(64, .bool (!y10)), (0, a0.t), (1, .str a1), (6, .ptr b1 0 0 4), (7, .bool y3.2), (9, .ptr b2 0 0 4), (10, .bool y5.2)] hS ?_; intro s hS
       by_cases hc7 : (!y10) = true
       ·have h := ai_ hc7 h
        have hS := ao_ hS hc7
        refine qs 4 [(0, a0.t), (1, .str a1), (6, .ptr b1 0 0 4), (7, .bool y3.2), (9, .ptr b2 0 0 4), (68, .bool true)] hS ?_; intro s hS
        refine ac_ (sq_n ?_)
        refine ae_ (t := true) hS rfl (fun _ => ?_) (fun hf => by cases hf)
        refine ab_ (aa_ ?_)
        refine qs 1 [(4, .bool false)] hS ?_; intro s hS
        refine ac_ (sq_n (al_ (sq_r ?_)))
        injection h with h; subst h
        exact am_ hH (ak_ (v := .bool false) hS rfl r_nil) rfl (by kernel_rfl) (by simp [pureT, pureL, E_bool])
       ·have h := ah_ hc7 h
        have hS := ao_ hS (aY_ hc7)
        refine qs 4 [(0, a0.t), (1, .str a1), (6, .ptr b1 0 0 4), (7, .bool y3.2), (9, .ptr b2 0 0 4), (68, .bool (!(y5.2 == y3.2)))] hS ?_; intro s hS
        refine ac_ (sq_n ?_)
        refine ae_ hS rfl (fun hf => af_ hc4 hf) (fun _ => ?_)
        refine aq_ (sq_n (ab_ (aa_ ?_)))
        refine qs 1 [(0, a0.t), (1, .str a1), (6, .ptr b1 0 0 4), (7, .bool y3.2), (9, .ptr b2 0 0 4), (12, i4 1)] hS ?_; intro s hS
        refine ac_ (sq_n (ab_ (aa_ ?_)))
        refine as_ (v := .agg [i4 y5.1.Kind, i4 y5.1.Num, .str y5.1.Text, t4]) 4 trivial rfl hS hH rfl rfl (by kernel_rfl) ?_; intro s hS
        refine qs 1 [(0, a0.t), (1, .str a1), (6, .ptr b1 0 0 4), (7, .bool y3.2), (9, .ptr b2 0 0 4), (69, .agg [i4 y5.1.Kind, i4 y5.1.Num, .str y5.1.Text, t4]), (70, i4 1)] hS ?_; intro s hS
        obtain ⟨y11, hy11, h⟩ := bind_some h
        refine fW_ (a := []) (b := []) (xs := [.agg [i4 y5.1.Kind, i4 y5.1.Num, .str y5.1.Text, t4], i4 1]) (ents := [.own true 4 t4 y5.1.Kids.t]) rfl hS rfl rfl hH (eI_ y5.1 1 y11 hy11 4 t4) ?_; intro hs σ s hl hH hS
        have hH : Heap σ0 σ [.own true 4 t4 y11.2.Kids.t, .own true 4 t2 y3.1.Kids.t, .own true 5 t3 y9.2.t, .own true 5 t5 y7.t, .box b2 [i4 y5.1.Kind, i4 y5.1.Num, .str y5.1.Text, t4], .box b1 [i4 y3.1.Kind, i4 y3.1.Num, .str y3.1.Text, t2], .own true 5 t1 y2.t] := hH
        refine qs 1 [(0, a0.t), (1, .str a1), (6, .ptr b1 0 0 4), (7, .bool y3.2), (9, .ptr b2 0 0 4), (12, i4 y11.1)] hS ?_; intro s hS
        refine ac_ (sq_n (ab_ (aa_ ?_)))
        refine qs 1 [(0, a0.t), (1, .str a1), (6, .ptr b1 0 0 4), (7, .bool y3.2), (9, .ptr b2 0 0 4), (12, i4 y11.1), (13, i4 1)] hS ?_; intro s hS
        refine ac_ (sq_n (ab_ (aa_ ?_)))
        refine as_ (v := .agg [i4 y5.1.Kind, i4 y5.1.Num, .str y5.1.Text, t4]) 4 trivial rfl hS hH rfl rfl (by kernel_rfl) ?_; intro s hS
        refine qs 1 [(0, a0.t), (1, .str a1), (6, .ptr b1 0 0 4), (7, .bool y3.2), (9, .ptr b2 0 0 4), (12, i4 y11.1), (72, .agg [i4 y5.1.Kind, i4 y5.1.Num, .str y5.1.Text, t4]), (73, i4 1)] hS ?_; intro s hS
        obtain ⟨y12, hy12, h⟩ := bind_some h
        refine eD_ (ents := [.own true 4 t4 y11.2.Kids.t]) (z := false) (ts := [.agg [i4 y5.1.Kind, i4 y5.1.Num, .str y5.1.Text, t4], i4 1]) (vs := [.agg [i4 y5.1.Kind, i4 y5.1.Num, .str y5.1.Text, y11.2.Kids.t], i4 1]) rfl hS rfl rfl rfl hH (HL.agg (es1 := [.own true 4 t4 y11.2.Kids.t]) (es2 := []) (HLi (HLi (HLs (HL.own rfl HL.nil)))) (HLi HL.nil)) hy12 (by kernel_rfl) ?_; intro s hS
        refine qs 1 [(0, a0.t), (1, .str a1), (6, .ptr b1 0 0 4), (7, .bool y3.2), (9, .ptr b2 0 0 4), (12, i4 y11.1), (13, i4 y12)] hS ?_; intro s hS
        refine ac_ (sq_n (ab_ (ab_ (aa_ ?_))))
        refine qs 2 [(0, a0.t), (1, .str a1), (6, .ptr b1 0 0 4), (7, .bool y3.2), (9, .ptr b2 0 0 4), (12, i4 y11.1), (13, i4 y12), (76, .bool (decide (y12 < 0)))] hS ?_; intro s hS
        refine ac_ (sq_n ?_)
        by_cases hc8 : (decide (y12 < 0)) = true
        ·have h := ai_ hc8 h
         refine ae_ hS rfl (fun _ => ?_) (fun hf => ag_ hc8 hf)
         refine ab_ (aa_ ?_)
         refine qs 1 [(4, .bool false)] hS ?_; intro s hS
         refine ac_ (sq_n (al_ (sq_r ?_)))
         injection h with h; subst h
         exact am_ hH (ak_ (v := .bool false) hS rfl r_nil) rfl (by kernel_rfl) (by simp [pureT, pureL, E_bool])
        ·have h := ah_ hc8 h
         refine ae_ hS rfl (fun hf => af_ hc8 hf) (fun _ => ?_)
         refine aq_ (sq_n (ab_ (ab_ (aa_ ?_))))
         refine qs 3 [(0, a0.t), (1, .str a1), (6, .ptr b1 0 0 4), (7, .bool y3.2), (9, .ptr b2 0 0 4), (12, i4 y11.1), (79, .bool (!decide (y12 = y11.1)))] hS ?_; intro s hS
         refine ac_ (sq_n ?_)
         by_cases hc9 : (!decide (y12 = y11.1)) = true
         ·have h := ai_ hc9 h
          refine ae_ hS rfl (fun _ => ?_) (fun hf => ag_ hc9 hf)
          refine ab_ (aa_ ?_)
          refine qs 1 [(4, .bool false)] hS ?_; intro s hS
          refine ac_ (sq_n (al_ (sq_r ?_)))
          injection h with h; subst h
          exact am_ hH (ak_ (v := .bool false) hS rfl r_nil) rfl (by kernel_rfl) (by simp [pureT, pureL, E_bool])
         ·have h := ah_ hc9 h
          refine ae_ hS rfl (fun hf => af_ hc9 hf) (fun _ => ?_)
          refine aq_ (sq_n (ab_ (aa_ ?_)))
          refine qs 1 [(1, .str a1), (6, .ptr b1 0 0 4), (7, .bool y3.2), (9, .ptr b2 0 0 4), (12, i4 y11.1), (81, a0.t)] hS ?_; intro s hS
          obtain ⟨y13, hy13, h⟩ := bind_some h
          refine bL_ (ents := []) (z := false) (ts := [a0.t]) (vs := [a0.t]) rfl rfl hS rfl rfl rfl hH (HLp HL.nil) hy13 ?_; intro hs σ s hl hH hS
          obtain ⟨t6, rfl⟩ := len1 hl
          have hH : Heap σ0 σ [.own true 5 t6 y13.t, .own true 4 t4 y11.2.Kids.t, .own true 4 t2 y3.1.Kids.t, .own true 5 t3 y9.2.t, .own true 5 t5 y7.t, .box b2 [i4 y5.1.Kind, i4 y5.1.Num, .str y5.1.Text, t4], .box b1 [i4 y3.1.Kind, i4 y3.1.Num, .str y3.1.Text, t2], .own true 5 t1 y2.t] := hH
          have ht6 : bu_ t6 := Heap.one hH
          refine qs 1 [(6, .ptr b1 0 0 4), (7, .bool y3.2), (9, .ptr b2 0 0 4), (12, i4 y11.1), (82, t6), (83, .str a1)] hS ?_; intro s hS
          obtain ⟨y14, hy14, h⟩ := bind_some h
          refine bL_ (ents := [.own true 5 t6 y13.t]) (z := false) (ts := [t6, .str a1]) (vs := [y13.t, .str a1]) rfl rfl hS rfl rfl rfl hH (HL.own rfl (HLs HL.nil)) hy14 ?_; intro hs σ s hl hH hS
          obtain ⟨t7, rfl⟩ := len1 hl
          have hH : Heap σ0 σ [.own true 4 t7 y14.1.Kids.t, .own true 5 t6 y13.t, .own true 4 t4 y11.2.Kids.t, .own true 4 t2 y3.1.Kids.t, .own true 5 t3 y9.2.t, .own true 5 t5 y7.t, .box b2 [i4 y5.1.Kind, i4 y5.1.Num, .str y5.1.Text, t4], .box b1 [i4 y3.1.Kind, i4 y3.1.Num, .str y3.1.Text, t2], .own true 5 t1 y2.t] := hH
          have ht7 : bu_ t7 := Heap.one hH
          refine qs 3 [(6, .ptr b1 0 0 4), (7, .bool y3.2), (9, .ptr b2 0 0 4), (12, i4 y11.1), (85, .agg [i4 y14.1.Kind, i4 y14.1.Num, .str y14.1.Text, t7]), (86, .bool y14.2)] hS ?_; intro s hS
          refine bo_ (z := [i4 0, i4 0, .str ⟨#[]⟩, (nt DPattern)]) rfl hS hH (by kernel_rfl) ?_; intro b3 σ s hH hS
          refine aV_ (cs := [i4 y14.1.Kind, i4 y14.1.Num, .str y14.1.Text, t7]) rfl hS hH rfl rfl (by simp [ht7.1, ht7.2]) ?_; intro σ s hH hS
          refine qs 1 [(6, .ptr b1 0 0 4), (7, .bool y3.2), (9, .ptr b2 0 0 4), (12, i4 y11.1), (14, .ptr b3 0 0 4), (15, .bool y14.2)] hS ?_; intro s hS
          refine ac_ (sq_n (ab_ (ab_ (aa_ ?_))))
          refine as_ (v := .agg [i4 y14.1.Kind, i4 y14.1.Num, .str y14.1.Text, t7]) 0 trivial rfl hS hH rfl rfl (by kernel_rfl) ?_; intro s hS
          refine as_ (v := .agg [i4 y3.1.Kind, i4 y3.1.Num, .str y3.1.Text, t2]) 8 trivial rfl hS hH rfl rfl (by kernel_rfl) ?_; intro s hS
          obtain ⟨y15, hy15, h⟩ := bind_some h
          have hH : Heap σ0 σ [.own true 4 t7 y14.1.Kids.t, .own true 4 t2 y3.1.Kids.t, .box b3 [i4 y14.1.Kind, i4 y14.1.Num, .str y14.1.Text, t7], .own true 5 t6 y13.t, .own true 4 t4 y11.2.Kids.t, .own true 5 t3 y9.2.t, .own true 5 t5 y7.t, .box b2 [i4 y5.1.Kind, i4 y5.1.Num, .str y5.1.Text, t4], .box b1 [i4 y3.1.Kind, i4 y3.1.Num, .str y3.1.Text, t2], .own true 5 t1 y2.t] := hH.sel [1, 4, 0, 2, 3, 5, 6, 7, 8, 9] rfl (by kernel_rfl)
          refine eD_ (ents := [.own true 4 t7 y14.1.Kids.t, .own true 4 t2 y3.1.Kids.t]) (z := false) (ts := [.agg [i4 y14.1.Kind, i4 y14.1.Num, .str y14.1.Text, t7], .agg [i4 y3.1.Kind, i4 y3.1.Num, .str y3.1.Text, t2]]) (vs := [.agg [i4 y14.1.Kind, i4 y14.1.Num, .str y14.1.Text, y14.1.Kids.t], .agg [i4 y3.1.Kind, i4 y3.1.Num, .str y3.1.Text, y3.1.Kids.t]]) rfl hS rfl rfl rfl hH (HL.agg (es1 := [.own true 4 t7 y14.1.Kids.t]) (es2 := [.own true 4 t2 y3.1.Kids.t]) (HLi (HLi (HLs (HL.own rfl HL.nil)))) (HL.agg (es1 := [.own true 4 t2 y3.1.Kids.t]) (es2 := []) (HLi (HLi (HLs (HL.own rfl HL.nil)))) HL.nil)) hy15 (by kernel_rfl) ?_; intro s hS
          refine qs 2 [(91, .bool (!y15)), (7, .bool y3.2), (9, .ptr b2 0 0 4), (12, i4 y11.1), (15, .bool y14.2)] hS ?_; intro s hS
          by_cases hc10 : (!y15) = true
          ·have h := ai_ hc10 h
           have hS := ao_ hS hc10
           refine qs 4 [(9, .ptr b2 0 0 4), (12, i4 y11.1), (95, .bool true)] hS ?_; intro s hS
           refine ac_ (sq_n ?_)
           refine ae_ (t := true) hS rfl (fun _ => ?_) (fun hf => by cases hf)
           refine ab_ (aa_ ?_)
           refine qs 1 [(4, .bool false)] hS ?_; intro s hS
           refine ac_ (sq_n (al_ (sq_r ?_)))
           injection h with h; subst h
           exact am_ hH (ak_ (v := .bool false) hS rfl r_nil) rfl (by kernel_rfl) (by simp [pureT, pureL, E_bool])
          ·have h := ah_ hc10 h
           have hS := ao_ hS (aY_ hc10)
           refine qs 4 [(9, .ptr b2 0 0 4), (12, i4 y11.1), (95, .bool (!(y14.2 == y3.2)))] hS ?_; intro s hS
           refine ac_ (sq_n ?_)
           by_cases hc11 : (!(y14.2 == y3.2)) = true
           ·have h := ai_ hc11 h
            refine ae_ hS rfl (fun _ => ?_) (fun hf => ag_ hc11 hf)
            refine ab_ (aa_ ?_)
            refine qs 1 [(4, .bool false)] hS ?_; intro s hS
            refine ac_ (sq_n (al_ (sq_r ?_)))
            injection h with h; subst h
            exact am_ hH (ak_ (v := .bool false) hS rfl r_nil) rfl (by kernel_rfl) (by simp [pureT, pureL, E_bool])
           ·have h := ah_ hc11 h
            refine ae_ hS rfl (fun hf => af_ hc11 hf) (fun _ => ?_)
            refine aq_ (sq_n (ab_ (aa_ ?_)))
            refine qs 1 [(9, .ptr b2 0 0 4), (12, i4 y11.1), (13, i4 1)] hS ?_; intro s hS
            refine ac_ (sq_n (ab_ (aa_ ?_)))
            refine as_ (v := .agg [i4 y5.1.Kind, i4 y5.1.Num, .str y5.1.Text, t4]) 7 trivial rfl hS hH rfl rfl (by kernel_rfl) ?_; intro s hS
            refine qs 1 [(12, i4 y11.1), (96, .agg [i4 y5.1.Kind, i4 y5.1.Num, .str y5.1.Text, t4]), (97, i4 1)] hS ?_; intro s hS
            obtain ⟨y16, hy16, h⟩ := bind_some h
            have hH : Heap σ0 σ [.own true 4 t4 y11.2.Kids.t, .own true 4 t7 y14.1.Kids.t, .own true 4 t2 y3.1.Kids.t, .box b3 [i4 y14.1.Kind, i4 y14.1.Num, .str y14.1.Text, t7], .own true 5 t6 y13.t, .own true 5 t3 y9.2.t, .own true 5 t5 y7.t, .box b2 [i4 y5.1.Kind, i4 y5.1.Num, .str y5.1.Text, t4], .box b1 [i4 y3.1.Kind, i4 y3.1.Num, .str y3.1.Text, t2], .own true 5 t1 y2.t] := hH.sel [4, 0, 1, 2, 3, 5, 6, 7, 8, 9] rfl (by kernel_rfl)
            refine eD_ (ents := [.own true 4 t4 y11.2.Kids.t]) (z := false) (ts := [.agg [i4 y5.1.Kind, i4 y5.1.Num, .str y5.1.Text, t4], i4 1]) (vs := [.agg [i4 y5.1.Kind, i4 y5.1.Num, .str y5.1.Text, y11.2.Kids.t], i4 1]) rfl hS rfl rfl rfl hH (HL.agg (es1 := [.own true 4 t4 y11.2.Kids.t]) (es2 := []) (HLi (HLi (HLs (HL.own rfl HL.nil)))) (HLi HL.nil)) hy16 (by kernel_rfl) ?_; intro s hS
            refine qs 1 [(12, i4 y11.1), (13, i4 y16)] hS ?_; intro s hS
            refine ac_ (sq_n (ab_ (ab_ (aa_ ?_))))
            refine qs 2 [(12, i4 y11.1), (13, i4 y16), (100, .bool (decide (y16 < 0)))] hS ?_; intro s hS
            refine ac_ (sq_n ?_)
            by_cases hc12 : (decide (y16 < 0)) = true
            ·have h := ai_ hc12 h
             refine ae_ hS rfl (fun _ => ?_) (fun hf => ag_ hc12 hf)
             refine ab_ (aa_ ?_)
             refine qs 1 [(4, .bool false)] hS ?_; intro s hS
             refine ac_ (sq_n (al_ (sq_r ?_)))
             injection h with h; subst h
             exact am_ hH (ak_ (v := .bool false) hS rfl r_nil) rfl (by kernel_rfl) (by simp [pureT, pureL, E_bool])
            ·have h := ah_ hc12 h
             refine ae_ hS rfl (fun hf => af_ hc12 hf) (fun _ => ?_)
             refine aq_ (sq_n (ab_ (ab_ (aa_ ?_))))
             refine qs 3 [(103, .bool (!decide (y16 = y11.1)))] hS ?_; intro s hS
             refine ac_ (sq_n ?_)
             by_cases hc13 : (!decide (y16 = y11.1)) = true
             ·have h := ai_ hc13 h
              refine ae_ hS rfl (fun _ => ?_) (fun hf => ag_ hc13 hf)
              refine ab_ (aa_ ?_)
              refine qs 1 [(4, .bool false)] hS ?_; intro s hS
              refine ac_ (sq_n (al_ (sq_r ?_)))
              injection h with h; subst h
              exact am_ hH (ak_ (v := .bool false) hS rfl r_nil) rfl (by kernel_rfl) (by simp [pureT, pureL, E_bool])
             ·have h := ah_ hc13 h
              refine ae_ hS rfl (fun hf => af_ hc13 hf) (fun _ => ?_)
              refine aq_ (sq_n (ab_ (aa_ ?_)))
              refine qs 1 [(4, .bool true)] hS ?_; intro s hS
              refine ac_ (sq_n (al_ ?_))
              injection h with h; subst h
              exact am_ hH (ak_ (v := .bool true) hS rfl r_nil) rfl (by kernel_rfl) (by simp [pureT, pureL, E_bool])
noncomputable def bz_ (a0 : (Sl DPattern)) (a1 : Int) : Option Int := (if (decide ((w4 (a1 - (a0.l.length : Int))) < 0)) = true then (some (-1)) else ((aI_ (S := (Int × Int)) (R := (Int ⊕ Int)) (fun st1 => (if (decide (st1.2 < (a0.l.length : Int))) = true then ((elt a0 st1.2).bind fun y2 => ((a3_ y2 st1.1).bind fun y3 => (if (decide (y3 < 0)) = true then (some (.inr (.inr (-1)))) else (some (.inl (y3, (w4 (st1.2 + 1)))))))) else (some (.inr (.inl st1.1))))) ((w4 (a1 - (a0.l.length : Int))), 0)).bind fun y1 => (Sum.elim (fun y1 => (some y1)) (fun y1 => (some y1)) y1)))
theorem dA_ (a0 : (Sl DPattern)) (a1 : Int) (r : Int) (h : bz_ a0 a1 = some r) : cd_ a0 a1 = some r := by
 unfold bz_ at h
 refine aF_ E_i64_inj rfl rfl ok_15 rfl (all_cons (by kernel_rfl) (all_cons (by kernel_rfl) all_nil)) ?_
 intro σ0 s hS hH
 have hS := aj_ (L' := [(0, a0.t), (1, i4 a1)]) hS (by kernel_rfl)
 refine ab_ (aa_ ?_)
 refine qs 1 [(0, a0.t), (1, i4 a1)] hS ?_; intro s hS
 refine ac_ (sq_n (ab_ (aa_ ?_)))
 refine qs 5 [(0, a0.t), (1, i4 (w4 (a1 - (a0.l.length : Int))))] hS ?_; intro s hS
 refine ac_ (sq_n (ab_ (ab_ (aa_ ?_))))
 refine qs 2 [(0, a0.t), (1, i4 (w4 (a1 - (a0.l.length : Int)))), (11, .bool (decide ((w4 (a1 - (a0.l.length : Int))) < 0)))] hS ?_; intro s hS
 refine ac_ (sq_n ?_)
 by_cases hc1 : (decide ((w4 (a1 - (a0.l.length : Int))) < 0)) = true
 ·have h := ai_ hc1 h
  refine ae_ hS rfl (fun _ => ?_) (fun hf => ag_ hc1 hf)
  refine ab_ (aa_ ?_)
  refine qs 1 [(4, i4 (-1))] hS ?_; intro s hS
  refine ac_ (sq_n (al_ (sq_r ?_)))
  injection h with h; subst h
  exact am_ hH (ak_ (v := i4 (-1)) hS rfl r_nil) rfl (by kernel_rfl) (by simp [pureT, pureL, E_i64])
 ·have h := ah_ hc1 h
  refine ae_ hS rfl (fun hf => af_ hc1 hf) (fun _ => ?_)
  refine aq_ (sq_n (ab_ (ab_ (aa_ ?_))))
  refine qs 1 [(0, a0.t), (1, i4 (w4 (a1 - (a0.l.length : Int)))), (5, i4 0)] hS ?_; intro s hS
  refine ac_ (sq_n (ax_ ?_))
  obtain ⟨y1, hy1, h⟩ := bind_some h
  refine bw_ (fun (st1 : (Int × Int)) (fr : Fr) => Sub [(0, a0.t), (1, i4 st1.1), (5, i4 st1.2)] fr.s ∧ Heap σ0 fr.σ []) (fun (y1 : (Int ⊕ Int)) (e : aB_) (fr : Fr) => (Sum.elim (fun y => e = (.exit 0) ∧ Sub [(1, i4 y)] fr.s ∧ Heap σ0 fr.σ []) (fun y => e = .ret ∧ endW Try.prog (Try.f15.results.toList) σ0 (E_i64 y) .ret fr)) y1) hy1 (And.intro (aj_ hS (by kernel_rfl)) hH) ?_ ?_
  ·clear h hy1 hS hH; clear y1; intro st1 x fr h HI; obtain ⟨s, σ⟩ := fr; obtain ⟨hS, hH⟩ := HI
   refine ab_ (ab_ (aa_ ?_))
   refine qs 4 [(0, a0.t), (1, i4 st1.1), (5, i4 st1.2), (15, .bool (decide (st1.2 < (a0.l.length : Int))))] hS ?_; intro s hS
   refine ac_ (sq_n ?_)
   by_cases hc2 : (decide (st1.2 < (a0.l.length : Int))) = true
   ·have h := ai_ hc2 h
    refine ae_ hS rfl (fun _ => ?_) (fun hf => ag_ hc2 hf)
    refine aq_ (sq_n (ab_ (ax_ (ab_ (aa_ ?_)))))
    refine qs 2 [(0, a0.t), (1, i4 st1.1), (5, i4 st1.2), (18, a0.t), (19, i4 st1.2)] hS ?_; intro s hS
    obtain ⟨y2, hy2, h⟩ := bind_some h
    refine co_ (sl := a0) (e := 51) [i4 y2.Kind, i4 y2.Num, .str y2.Text, y2.Kids.t] rfl hS rfl rfl (by kernel_rfl) (by kernel_rfl) hy2 (DPattern.cells_eq _) ?_; intro rest1 s hS
    refine qs 2 [(0, a0.t), (5, i4 st1.2), (21, .agg [i4 y2.Kind, i4 y2.Num, .str y2.Text, y2.Kids.t]), (22, i4 st1.1)] hS ?_; intro s hS
    obtain ⟨y3, hy3, h⟩ := bind_some h
    refine aw_ (a := []) (b := []) (xs := [.agg [i4 y2.Kind, i4 y2.Num, .str y2.Text, y2.Kids.t], i4 st1.1]) rfl hS rfl rfl hy3 ?_; intro s hS
    refine qs 1 [(0, a0.t), (1, i4 y3), (5, i4 st1.2)] hS ?_; intro s hS
    refine ac_ (sq_n (ab_ (aa_ ?_)))
    refine qs 2 [(0, a0.t), (1, i4 y3), (5, i4 st1.2), (25, .bool (decide (y3 < 0)))] hS ?_; intro s hS
    refine ac_ (sq_n ?_)
    by_cases hc3 : (decide (y3 < 0)) = true
    ·have h := ai_ hc3 h
     refine ae_ hS rfl (fun _ => ?_) (fun hf => ag_ hc3 hf)
     refine ab_ (aa_ ?_)
     refine qs 1 [(4, i4 (-1))] hS ?_; intro s hS
     refine ac_ (sq_n (al_ (bk_r (sq_r ?_))))
     injection h with h; subst h
     exact And.intro rfl (am_ hH (ak_ (v := i4 (-1)) hS rfl r_nil) rfl (by kernel_rfl) (by simp [pureT, pureL, E_i64]))
    ·have h := ah_ hc3 h
     refine ae_ hS rfl (fun hf => af_ hc3 hf) (fun _ => ?_)
     refine aq_ (bk_n (sq_n (aa_ ?_)))
     refine qs 3 [(0, a0.t), (1, i4 y3), (5, i4 (w4 (st1.2 + 1)))] hS ?_; intro s hS
     refine ac_ ?_
     injection h with h; subst h
     exact And.intro (aj_ hS (by kernel_rfl)) hH
   ·have h := ah_ hc2 h
    refine ae_ hS rfl (fun hf => af_ hc2 hf) (fun _ => ?_)
    refine bl_ (sq_x ?_)
    injection h with h; subst h
    exact And.intro rfl (And.intro (aj_ hS (by kernel_rfl)) hH)
  ·clear hS hH; intro e fr HF; obtain ⟨s, σ⟩ := fr
   rcases y1 with y1 | y1
   ·obtain ⟨rfl, hS, hH⟩ := HF
    refine bk_e (sq_n (ab_ (aa_ ?_)))
    refine qs 2 [(4, i4 y1)] hS ?_; intro s hS
    refine ac_ (sq_n (al_ ?_))
    injection h with h; subst h
    exact am_ hH (ak_ (v := i4 y1) hS rfl r_nil) rfl (by kernel_rfl) (by simp [pureT, pureL, E_i64])
   ·obtain ⟨rfl, HE⟩ := HF
    refine bk_r (sq_r ?_)
    injection h with h; subst h; exact HE
noncomputable def cj_ (a0 : (Sl DPattern)) : Option (Sl DPattern) := ((mkS 56 ((⟨0, 0, ⟨#[]⟩, ⟨true, []⟩⟩ : DPattern) : DPattern) (a0.l.length : Int) (a0.l.length : Int)).bind fun y1 => ((aI_ (S := (Int × (Sl DPattern))) (R := (Sl DPattern)) (fun st1 => (if (decide (st1.1 < (a0.l.length : Int))) = true then ((elt a0 st1.1).bind fun y3 => ((bi_ y3).bind fun y4 => ((elt st1.2 st1.1).bind fun y5 => (some (.inl ((w4 (st1.1 + 1)), (setS st1.2 st1.1 (y4 : DPattern)))))))) else (some (.inr st1.2)))) (0, y1)).bind fun y2 => (some y2)))
theorem fk_ (a0 : (Sl DPattern)) (r : (Sl DPattern)) (h : cj_ a0 = some r) : cg_ a0 = some r := by
 unfold cj_ at h
 refine ec_ rfl rfl ok_17 rfl (all_cons (by kernel_rfl) all_nil) ?_
 intro σ0 s hS hH
 have hS := aj_ (L' := [(0, a0.t)]) hS (by kernel_rfl)
 refine ab_ (aa_ ?_)
 refine qs 1 [(0, a0.t)] hS ?_; intro s hS
 refine ac_ (sq_n (ab_ (aa_ ?_)))
 refine qs 2 [(0, a0.t), (6, i4 (a0.l.length : Int))] hS ?_; intro s hS
 obtain ⟨y1, hy1, h⟩ := bind_some h
 refine lf_ (z := true) (e := 26) (by_ := 56) (x0 := ((⟨0, 0, ⟨#[]⟩, ⟨true, []⟩⟩ : DPattern) : DPattern)) (fun σ d => by simp [Enc.cells, DPattern.cells, DPattern.cellsK, Iv]) rfl hS hH rfl rfl (by kernel_rfl) (by kernel_rfl) (by kernel_rfl) (by kernel_rfl) rfl hy1 ?_; intro t1 σ s ht1 hH hS
 refine qs 1 [(0, a0.t), (3, t1)] hS ?_; intro s hS
 refine ac_ (sq_n (ab_ (ab_ (aa_ ?_))))
 refine qs 1 [(0, a0.t), (3, t1), (4, i4 0)] hS ?_; intro s hS
 refine ac_ (sq_n (ax_ ?_))
 obtain ⟨y2, hy2, h⟩ := bind_some h
 refine bw_ (fun (st1 : (Int × (Sl DPattern))) (fr : Fr) => Sub [(0, a0.t), (3, t1), (4, i4 st1.1)] fr.s ∧ Heap σ0 fr.σ [.own true 4 t1 st1.2.t]) (fun (y2 : (Sl DPattern)) (e : aB_) (fr : Fr) => e = (.exit 0) ∧ Sub [(3, t1)] fr.s ∧ Heap σ0 fr.σ [.own true 4 t1 y2.t]) hy2 (And.intro (aj_ hS (by kernel_rfl)) hH) ?_ ?_
 ·clear h hy2 hS hH; clear y2; intro st1 x fr h HI; obtain ⟨s, σ⟩ := fr; obtain ⟨hS, hH⟩ := HI
  refine ab_ (ab_ (aa_ ?_))
  refine qs 4 [(0, a0.t), (3, t1), (4, i4 st1.1), (11, .bool (decide (st1.1 < (a0.l.length : Int))))] hS ?_; intro s hS
  refine ac_ (sq_n ?_)
  by_cases hc1 : (decide (st1.1 < (a0.l.length : Int))) = true
  ·have h := ai_ hc1 h
   refine ae_ hS rfl (fun _ => ?_) (fun hf => ag_ hc1 hf)
   refine aq_ (sq_n (ab_ (ax_ (aa_ ?_))))
   refine qs 4 [(0, a0.t), (3, t1), (4, i4 st1.1), (14, t1), (15, i4 st1.1), (16, a0.t), (17, i4 st1.1)] hS ?_; intro s hS
   obtain ⟨y3, hy3, h⟩ := bind_some h
   refine co_ (sl := a0) (e := 51) [i4 y3.Kind, i4 y3.Num, .str y3.Text, y3.Kids.t] rfl hS rfl rfl (by kernel_rfl) (by kernel_rfl) hy3 (DPattern.cells_eq _) ?_; intro rest1 s hS
   refine qs 1 [(0, a0.t), (3, t1), (4, i4 st1.1), (14, t1), (15, i4 st1.1), (19, .agg [i4 y3.Kind, i4 y3.Num, .str y3.Text, y3.Kids.t])] hS ?_; intro s hS
   obtain ⟨y4, hy4, h⟩ := bind_some h
   refine bL_ (ents := []) (z := false) (ts := [.agg [i4 y3.Kind, i4 y3.Num, .str y3.Text, y3.Kids.t]]) (vs := [.agg [i4 y3.Kind, i4 y3.Num, .str y3.Text, y3.Kids.t]]) rfl rfl hS rfl rfl rfl hH (HL.agg (es1 := []) (es2 := []) (HLi (HLi (HLs (HLp HL.nil)))) HL.nil) hy4 ?_; intro hs σ s hl hH hS
   obtain ⟨t2, rfl⟩ := len1 hl
   have hH : Heap σ0 σ [.own true 4 t2 y4.Kids.t, .own true 4 t1 st1.2.t] := hH
   have ht2 : bu_ t2 := Heap.one hH
   have hH : Heap σ0 σ [.own true 4 t1 st1.2.t, .own true 4 t2 y4.Kids.t] := hH.sel [1, 0] rfl (by kernel_rfl)
   obtain ⟨y5, hy5, h⟩ := bind_some h
   refine ee_ (a := st1.2) (e := 26) (fun _ _ _ _ _ => trivial) rfl hS hH rfl rfl (by kernel_rfl) (by kernel_rfl) hy5 ?_; intro hb1 hb1e s hl_hb1 hS
   refine cL_ (ents := [.own true 4 t2 y4.Kids.t]) (a := st1.2) (j := st1.1) (y := y5) (y' := (y4 : DPattern)) (off := 0) (c := [i4 y5.Kind, i4 y5.Num, .str y5.Text, y5.Kids.t]) (us := [i4 y4.Kind, i4 y4.Num, .str y4.Text, t2]) (vs := [i4 y4.Kind, i4 y4.Num, .str y4.Text, y4.Kids.t]) (v := .agg [i4 y4.Kind, i4 y4.Num, .str y4.Text, t2]) rfl hS hH hl_hb1 rfl rfl rfl (by simp [ht2.1, ht2.2]) (by kernel_rfl) rfl hy5 (DPattern.cells_eq _) (HLi (HLi (HLs (HL.own rfl HL.nil)))) rfl (by rw [DPattern.enc_eq]; rfl) ?_; intro σ s hH hS
   refine ac_ (bk_n (sq_n (aa_ ?_)))
   refine qs 3 [(0, a0.t), (3, t1), (4, i4 (w4 (st1.1 + 1)))] hS ?_; intro s hS
   refine ac_ ?_
   injection h with h; subst h
   exact And.intro (aj_ hS (by kernel_rfl)) hH
  ·have h := ah_ hc1 h
   refine ae_ hS rfl (fun hf => af_ hc1 hf) (fun _ => ?_)
   refine bl_ (sq_x ?_)
   injection h with h; subst h
   exact And.intro rfl (And.intro (aj_ hS (by kernel_rfl)) hH)
 ·clear hS hH; intro e fr HF; obtain ⟨s, σ⟩ := fr
  obtain ⟨rfl, hS, hH⟩ := HF
  refine bk_e (sq_n (ab_ (aa_ ?_)))
  refine qs 2 [(2, t1)] hS ?_; intro s hS
  refine ac_ (sq_n (al_ ?_))
  injection h with h; subst h
  exact dV_ [t1] [] (ak_ (v := t1) hS rfl r_nil) (by kernel_rfl) rfl hH (by kernel_rfl)
noncomputable def cA_ (a0 : DPattern) (a1 : DPattern) : Option Bool := (if (!decide (a0.Kind = a1.Kind)) = true then (some false) else (if (!decide (a0.Num = a1.Num)) = true then (some false) else (if (!decide (a0.Text = a1.Text)) = true then (some false) else ((cc_ a0.Kids a1.Kids).bind fun y1 => (if (!y1) = true then (some false) else (some true))))))
theorem fB_ (a0 : DPattern) (a1 : DPattern) (r : Bool) (h : cA_ a0 a1 = some r) : aL_ a0 a1 = some r := by
 unfold cA_ at h
 refine aF_ E_bool_inj rfl rfl ok_19 rfl (all_cons (by kernel_rfl) (all_cons (by kernel_rfl) all_nil)) ?_
 intro σ0 s hS hH
 have hS := aj_ (L' := [(0, .agg [i4 a0.Kind, i4 a0.Num, .str a0.Text, a0.Kids.t]), (1, .agg [i4 a1.Kind, i4 a1.Num, .str a1.Text, a1.Kids.t])]) hS (by kernel_rfl)
 refine ab_ (aa_ ?_)
 refine dy_ (v := .agg [i4 a0.Kind, i4 a0.Num, .str a0.Text, a0.Kids.t]) (cs := [i4 a0.Kind, i4 a0.Num, .str a0.Text, a0.Kids.t]) rfl hS hH rfl rfl (by kernel_rfl) ?_; intro b1 σ s hH hS
 refine dy_ (v := .agg [i4 a1.Kind, i4 a1.Num, .str a1.Text, a1.Kids.t]) (cs := [i4 a1.Kind, i4 a1.Num, .str a1.Text, a1.Kids.t]) rfl hS hH rfl rfl (by kernel_rfl) ?_; intro b2 σ s hH hS
 refine qs 1 [(2, .ptr b1 0 0 4), (3, .ptr b2 0 0 4)] hS ?_; intro s hS
 refine ac_ (sq_n (ab_ (ab_ (aa_ ?_))))
 refine qs 1 [(2, .ptr b1 0 0 4), (3, .ptr b2 0 0 4), (5, .ptr b1 0 0 1)] hS ?_; intro s hS
 refine as_ (v := i4 a0.Kind) 1 trivial rfl hS hH rfl rfl (by kernel_rfl) ?_; intro s hS
 refine qs 1 [(2, .ptr b1 0 0 4), (3, .ptr b2 0 0 4), (6, i4 a0.Kind), (7, .ptr b2 0 0 1)] hS ?_; intro s hS
 refine as_ (v := i4 a1.Kind) 0 trivial rfl hS hH rfl rfl (by kernel_rfl) ?_; intro s hS
 refine qs 1 [(2, .ptr b1 0 0 4), (3, .ptr b2 0 0 4), (9, .bool (!decide (a0.Kind = a1.Kind)))] hS ?_; intro s hS
 refine ac_ (sq_n ?_)
 by_cases hc1 : (!decide (a0.Kind = a1.Kind)) = true
 ·have h := ai_ hc1 h
  refine ae_ hS rfl (fun _ => ?_) (fun hf => ag_ hc1 hf)
  refine ab_ (aa_ ?_)
  refine qs 1 [(4, .bool false)] hS ?_; intro s hS
  refine ac_ (sq_n (al_ (sq_r ?_)))
  injection h with h; subst h
  exact am_ hH (ak_ (v := .bool false) hS rfl r_nil) rfl (by kernel_rfl) (by simp [pureT, pureL, E_bool])
 ·have h := ah_ hc1 h
  refine ae_ hS rfl (fun hf => af_ hc1 hf) (fun _ => ?_)
  refine aq_ (sq_n (ab_ (ab_ (aa_ ?_))))
  refine qs 1 [(2, .ptr b1 0 0 4), (3, .ptr b2 0 0 4), (10, .ptr b1 0 1 1)] hS ?_; intro s hS
  refine as_ (v := i4 a0.Num) 1 trivial rfl hS hH rfl rfl (by kernel_rfl) ?_; intro s hS
  refine qs 1 [(2, .ptr b1 0 0 4), (3, .ptr b2 0 0 4), (11, i4 a0.Num), (12, .ptr b2 0 1 1)] hS ?_; intro s hS
  refine as_ (v := i4 a1.Num) 0 trivial rfl hS hH rfl rfl (by kernel_rfl) ?_; intro s hS
  refine qs 1 [(2, .ptr b1 0 0 4), (3, .ptr b2 0 0 4), (14, .bool (!decide (a0.Num = a1.Num)))] hS ?_; intro s hS
  refine ac_ (sq_n ?_)
  by_cases hc2 : (!decide (a0.Num = a1.Num)) = true
  ·have h := ai_ hc2 h
   refine ae_ hS rfl (fun _ => ?_) (fun hf => ag_ hc2 hf)
   refine ab_ (aa_ ?_)
   refine qs 1 [(4, .bool false)] hS ?_; intro s hS
   refine ac_ (sq_n (al_ (sq_r ?_)))
   injection h with h; subst h
   exact am_ hH (ak_ (v := .bool false) hS rfl r_nil) rfl (by kernel_rfl) (by simp [pureT, pureL, E_bool])
  ·have h := ah_ hc2 h
   refine ae_ hS rfl (fun hf => af_ hc2 hf) (fun _ => ?_)
   refine aq_ (sq_n (ab_ (ab_ (aa_ ?_))))
   refine qs 1 [(2, .ptr b1 0 0 4), (3, .ptr b2 0 0 4), (15, .ptr b1 0 2 1)] hS ?_; intro s hS
   refine as_ (v := .str a0.Text) 1 trivial rfl hS hH rfl rfl (by kernel_rfl) ?_; intro s hS
   refine qs 1 [(2, .ptr b1 0 0 4), (3, .ptr b2 0 0 4), (16, .str a0.Text), (17, .ptr b2 0 2 1)] hS ?_; intro s hS
   refine as_ (v := .str a1.Text) 0 trivial rfl hS hH rfl rfl (by kernel_rfl) ?_; intro s hS
   refine qs 1 [(2, .ptr b1 0 0 4), (3, .ptr b2 0 0 4), (19, .bool (!decide (a0.Text = a1.Text)))] hS ?_; intro s hS
   refine ac_ (sq_n ?_)
   by_cases hc3 : (!decide (a0.Text = a1.Text)) = true
   ·have h := ai_ hc3 h
    refine ae_ hS rfl (fun _ => ?_) (fun hf => ag_ hc3 hf)
    refine ab_ (aa_ ?_)
    refine qs 1 [(4, .bool false)] hS ?_; intro s hS
    refine ac_ (sq_n (al_ (sq_r ?_)))
    injection h with h; subst h
    exact am_ hH (ak_ (v := .bool false) hS rfl r_nil) rfl (by kernel_rfl) (by simp [pureT, pureL, E_bool])
   ·have h := ah_ hc3 h
    refine ae_ hS rfl (fun hf => af_ hc3 hf) (fun _ => ?_)
    refine aq_ (sq_n (ab_ (ab_ (aa_ ?_))))
    refine qs 1 [(3, .ptr b2 0 0 4), (20, .ptr b1 0 3 1)] hS ?_; intro s hS
    refine as_ (v := a0.Kids.t) 1 trivial rfl hS hH rfl rfl (by kernel_rfl) ?_; intro s hS
    refine qs 1 [(21, a0.Kids.t), (22, .ptr b2 0 3 1)] hS ?_; intro s hS
    refine as_ (v := a1.Kids.t) 0 trivial rfl hS hH rfl rfl (by kernel_rfl) ?_; intro s hS
    obtain ⟨y1, hy1, h⟩ := bind_some h
    refine aw_ (a := []) (b := []) (xs := [a0.Kids.t, a1.Kids.t]) rfl hS rfl rfl hy1 ?_; intro s hS
    refine qs 1 [(25, .bool (!y1))] hS ?_; intro s hS
    refine ac_ (sq_n ?_)
    by_cases hc4 : (!y1) = true
    ·have h := ai_ hc4 h
     refine ae_ hS rfl (fun _ => ?_) (fun hf => ag_ hc4 hf)
     refine ab_ (aa_ ?_)
     refine qs 1 [(4, .bool false)] hS ?_; intro s hS
     refine ac_ (sq_n (al_ (sq_r ?_)))
     injection h with h; subst h
     exact am_ hH (ak_ (v := .bool false) hS rfl r_nil) rfl (by kernel_rfl) (by simp [pureT, pureL, E_bool])
    ·have h := ah_ hc4 h
     refine ae_ hS rfl (fun hf => af_ hc4 hf) (fun _ => ?_)
     refine aq_ (sq_n (ab_ (aa_ ?_)))
     refine qs 1 [(4, .bool true)] hS ?_; intro s hS
     refine ac_ (sq_n (al_ ?_))
     injection h with h; subst h
     exact am_ hH (ak_ (v := .bool true) hS rfl r_nil) rfl (by kernel_rfl) (by simp [pureT, pureL, E_bool])
noncomputable def ci_ (a0 : (Sl DPattern)) (a1 : (Sl DPattern)) : Option Bool := (if ((!decide ((a0.l.length : Int) = (a1.l.length : Int)))) = true then (some false) else ((aI_ (S := Int) (R := (Unit ⊕ Bool)) (fun st1 => (if (decide (st1 < (a0.l.length : Int))) = true then ((elt a0 st1).bind fun y2 => ((elt a1 st1).bind fun y3 => ((aL_ y2 y3).bind fun y4 => (if (!y4) = true then (some (.inr (.inr false))) else (some (.inl (w4 (st1 + 1)))))))) else (some (.inr (.inl ()))))) 0).bind fun y1 => (Sum.elim (fun y1 => (some true)) (fun y1 => (some y1)) y1)))
theorem fc_ (a0 : (Sl DPattern)) (a1 : (Sl DPattern)) (r : Bool) (h : ci_ a0 a1 = some r) : cc_ a0 a1 = some r := by
 unfold ci_ at h
 refine aF_ E_bool_inj rfl rfl ok_20 rfl (all_cons (by kernel_rfl) (all_cons (by kernel_rfl) all_nil)) ?_
 intro σ0 s hS hH
 have hS := aj_ (L' := [(0, a0.t), (1, a1.t)]) hS (by kernel_rfl)
 refine ab_ (aa_ ?_)
 refine qs 1 [(0, a0.t), (1, a1.t)] hS ?_; intro s hS
 refine ac_ (sq_n (ab_ (ab_ (aa_ ?_))))
 refine qs 5 [(0, a0.t), (1, a1.t), (10, .bool ((!decide ((a0.l.length : Int) = (a1.l.length : Int)))))] hS ?_; intro s hS
 refine ac_ (sq_n ?_)
 by_cases hc1 : ((!decide ((a0.l.length : Int) = (a1.l.length : Int)))) = true
 ·have h := ai_ hc1 h
  refine ae_ hS rfl (fun _ => ?_) (fun hf => ag_ hc1 hf)
  refine ab_ (aa_ ?_)
  refine qs 1 [(4, .bool false)] hS ?_; intro s hS
  refine ac_ (sq_n (al_ (sq_r ?_)))
  injection h with h; subst h
  exact am_ hH (ak_ (v := .bool false) hS rfl r_nil) rfl (by kernel_rfl) (by simp [pureT, pureL, E_bool])
 ·have h := ah_ hc1 h
  refine ae_ hS rfl (fun hf => af_ hc1 hf) (fun _ => ?_)
  refine aq_ (sq_n (ab_ (ab_ (aa_ ?_))))
  refine qs 1 [(0, a0.t), (1, a1.t), (5, i4 0)] hS ?_; intro s hS
  refine ac_ (sq_n (ax_ ?_))
  obtain ⟨y1, hy1, h⟩ := bind_some h
  refine bw_ (fun (st1 : Int) (fr : Fr) => Sub [(0, a0.t), (1, a1.t), (5, i4 st1)] fr.s ∧ Heap σ0 fr.σ []) (fun (y1 : (Unit ⊕ Bool)) (e : aB_) (fr : Fr) => (Sum.elim (fun y => e = (.exit 0) ∧ Sub [] fr.s ∧ Heap σ0 fr.σ []) (fun y => e = .ret ∧ endW Try.prog (Try.f20.results.toList) σ0 (E_bool y) .ret fr)) y1) hy1 (And.intro (aj_ hS (by kernel_rfl)) hH) ?_ ?_
  ·clear h hy1 hS hH; clear y1; intro st1 x fr h HI; obtain ⟨s, σ⟩ := fr; obtain ⟨hS, hH⟩ := HI
   refine ab_ (ab_ (aa_ ?_))
   refine qs 4 [(0, a0.t), (1, a1.t), (5, i4 st1), (14, .bool (decide (st1 < (a0.l.length : Int))))] hS ?_; intro s hS
   refine ac_ (sq_n ?_)
   by_cases hc2 : (decide (st1 < (a0.l.length : Int))) = true
   ·have h := ai_ hc2 h
    refine ae_ hS rfl (fun _ => ?_) (fun hf => ag_ hc2 hf)
    refine aq_ (sq_n (ab_ (ax_ (ab_ ?_))))
    refine hE_ (by kernel_rfl) hH ?_; intro mb σ hH
    refine qs 2 [(0, a0.t), (1, a1.t), (5, i4 st1), (17, a0.t), (18, i4 st1)] hS ?_; intro s hS
    obtain ⟨y2, hy2, h⟩ := bind_some h
    refine co_ (sl := a0) (e := 26) [i4 y2.Kind, i4 y2.Num, .str y2.Text, y2.Kids.t] rfl hS rfl rfl (by kernel_rfl) (by kernel_rfl) hy2 (DPattern.cells_eq _) ?_; intro rest1 s hS
    refine qs 3 [(0, a0.t), (1, a1.t), (5, i4 st1), (20, .agg [i4 y2.Kind, i4 y2.Num, .str y2.Text, y2.Kids.t]), (21, a1.t), (22, i4 st1)] hS ?_; intro s hS
    obtain ⟨y3, hy3, h⟩ := bind_some h
    refine co_ (sl := a1) (e := 26) [i4 y3.Kind, i4 y3.Num, .str y3.Text, y3.Kids.t] rfl hS rfl rfl (by kernel_rfl) (by kernel_rfl) hy3 (DPattern.cells_eq _) ?_; intro rest2 s hS
    refine qs 1 [(0, a0.t), (1, a1.t), (5, i4 st1), (20, .agg [i4 y2.Kind, i4 y2.Num, .str y2.Text, y2.Kids.t]), (24, .agg [i4 y3.Kind, i4 y3.Num, .str y3.Text, y3.Kids.t])] hS ?_; intro s hS
    obtain ⟨y4, hy4, h⟩ := bind_some h
    refine aw_ (a := []) (b := []) (xs := [.agg [i4 y2.Kind, i4 y2.Num, .str y2.Text, y2.Kids.t], .agg [i4 y3.Kind, i4 y3.Num, .str y3.Text, y3.Kids.t]]) rfl hS rfl rfl hy4 ?_; intro s hS
    refine qs 1 [(0, a0.t), (1, a1.t), (5, i4 st1), (26, .bool (!y4))] hS ?_; intro s hS
    refine ac_ (sq_n ?_)
    by_cases hc3 : (!y4) = true
    ·have h := ai_ hc3 h
     refine ae_ hS rfl (fun _ => ?_) (fun hf => ag_ hc3 hf)
     refine ab_ (aa_ ?_)
     refine qs 1 [(4, .bool false)] hS ?_; intro s hS
     refine ac_ (sq_n (al_ (bk_r (sq_r ?_))))
     injection h with h; subst h
     exact And.intro rfl (am_ hH (ak_ (v := .bool false) hS rfl r_nil) rfl (by kernel_rfl) (by simp [pureT, pureL, E_bool]))
    ·have h := ah_ hc3 h
     refine ae_ hS rfl (fun hf => af_ hc3 hf) (fun _ => ?_)
     refine aq_ (bk_n (sq_n (aa_ ?_)))
     refine qs 3 [(0, a0.t), (1, a1.t), (5, i4 (w4 (st1 + 1)))] hS ?_; intro s hS
     refine ac_ ?_
     injection h with h; subst h
     exact And.intro (aj_ hS (by kernel_rfl)) hH
   ·have h := ah_ hc2 h
    refine ae_ hS rfl (fun hf => af_ hc2 hf) (fun _ => ?_)
    refine bl_ (sq_x ?_)
    injection h with h; subst h
    exact And.intro rfl (And.intro (aj_ hS (by kernel_rfl)) hH)
  ·clear hS hH; intro e fr HF; obtain ⟨s, σ⟩ := fr
   rcases y1 with y1 | y1
   ·obtain ⟨rfl, hS, hH⟩ := HF
    refine bk_e (sq_n (ab_ (aa_ ?_)))
    refine qs 1 [(4, .bool true)] hS ?_; intro s hS
    refine ac_ (sq_n (al_ ?_))
    injection h with h; subst h
    exact am_ hH (ak_ (v := .bool true) hS rfl r_nil) rfl (by kernel_rfl) (by simp [pureT, pureL, E_bool])
   ·obtain ⟨rfl, HE⟩ := HF
    refine bk_r (sq_r ?_)
    injection h with h; subst h; exact HE
noncomputable def b8_ (a0 : DPattern) (a1 : Int) : Option Int := ((aN_ a0.Kids a1).bind fun y1 => (if (decide (y1 < 0)) = true then (some (-1)) else (some y1)))
theorem eX_ (a0 : DPattern) (a1 : Int) (r : Int) (h : b8_ a0 a1 = some r) : bq_ a0 a1 = some r := by
 unfold b8_ at h
 refine aF_ E_i64_inj rfl rfl ok_23 rfl (all_cons (by kernel_rfl) (all_cons (by kernel_rfl) all_nil)) ?_
 intro σ0 s hS hH
 have hS := aj_ (L' := [(0, .agg [i4 a0.Kind, i4 a0.Num, .str a0.Text, a0.Kids.t]), (1, i4 a1)]) hS (by kernel_rfl)
 refine ab_ (aa_ ?_)
 refine dy_ (v := .agg [i4 a0.Kind, i4 a0.Num, .str a0.Text, a0.Kids.t]) (cs := [i4 a0.Kind, i4 a0.Num, .str a0.Text, a0.Kids.t]) rfl hS hH rfl rfl (by kernel_rfl) ?_; intro b1 σ s hH hS
 refine qs 1 [(1, i4 a1), (2, .ptr b1 0 0 4)] hS ?_; intro s hS
 refine ac_ (sq_n (ab_ (aa_ ?_)))
 refine qs 1 [(1, i4 a1), (5, .ptr b1 0 3 1)] hS ?_; intro s hS
 refine as_ (v := a0.Kids.t) 0 trivial rfl hS hH rfl rfl (by kernel_rfl) ?_; intro s hS
 refine qs 1 [(6, a0.Kids.t), (7, i4 a1)] hS ?_; intro s hS
 obtain ⟨y1, hy1, h⟩ := bind_some h
 refine aw_ (a := []) (b := []) (xs := [a0.Kids.t, i4 a1]) rfl hS rfl rfl hy1 ?_; intro s hS
 refine qs 1 [(1, i4 y1)] hS ?_; intro s hS
 refine ac_ (sq_n (ab_ (ab_ (aa_ ?_))))
 refine qs 2 [(1, i4 y1), (10, .bool (decide (y1 < 0)))] hS ?_; intro s hS
 refine ac_ (sq_n ?_)
 by_cases hc1 : (decide (y1 < 0)) = true
 ·have h := ai_ hc1 h
  refine ae_ hS rfl (fun _ => ?_) (fun hf => ag_ hc1 hf)
  refine ab_ (aa_ ?_)
  refine qs 1 [(4, i4 (-1))] hS ?_; intro s hS
  refine ac_ (sq_n (al_ (sq_r ?_)))
  injection h with h; subst h
  exact am_ hH (ak_ (v := i4 (-1)) hS rfl r_nil) rfl (by kernel_rfl) (by simp [pureT, pureL, E_i64])
 ·have h := ah_ hc1 h
  refine ae_ hS rfl (fun hf => af_ hc1 hf) (fun _ => ?_)
  refine aq_ (sq_n (ab_ (aa_ ?_)))
  refine qs 2 [(4, i4 y1)] hS ?_; intro s hS
  refine ac_ (sq_n (al_ ?_))
  injection h with h; subst h
  exact am_ hH (ak_ (v := i4 y1) hS rfl r_nil) rfl (by kernel_rfl) (by simp [pureT, pureL, E_i64])
end Go.Am
