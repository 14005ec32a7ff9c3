/- Functions of the program. -/
import Derived.Test.YtkgmfmcpbgffpaaAd0
set_option maxRecDepth 100000
set_option maxHeartbeats 4000000
set_option linter.unusedVariables false
set_option linter.unusedSimpArgs false
namespace Go.Am
open Go.Proofs
def bi_ (R : (Sl DPattern) → Int → Option (Int × (Sl DPattern))) : Prop := ∀ (a0 : (Sl DPattern)) (a1 : Int) (r : (Int × (Sl DPattern))), R a0 a1 = some r → ∀ (wp0_1 : Nat) (p0_1 : T), RawS Try.prog md ext 27 [p0_1, i4 a1] 0 (fun hs => E_i64 r.1) [.own true wp0_1 p0_1 a0.t] (fun hs => [.own true wp0_1 p0_1 r.2.t])
noncomputable def aG_ (R_27 : (Sl DPattern) → Int → Option (Int × (Sl DPattern))) (a0 : (Sl DPattern)) (a1 : Int) : Option (Int × (Sl DPattern)) := ((au_ (S := (Int × Int × (Sl DPattern))) (R := (Int × (Sl DPattern))) (fun st1 => (if (decide (st1.2.1 < (st1.2.2.l.length : Int))) = true then ((elt st1.2.2 st1.2.1).bind fun y2 => ((elt (setS st1.2.2 st1.2.1 ((⟨st1.1, y2.Num, y2.Text, y2.Kids⟩ : DPattern) : DPattern)) st1.2.1).bind fun y3 => ((aE_ (w4 ((w4 (st1.1 + 1)) + 1))).bind fun y4 => ((elt ((setS (setS st1.2.2 st1.2.1 ((⟨st1.1, y2.Num, y2.Text, y2.Kids⟩ : DPattern) : DPattern)) st1.2.1 ((⟨y3.Kind, (w4 (st1.1 + 1)), y3.Text, y3.Kids⟩ : DPattern) : DPattern))) st1.2.1).bind fun y5 => ((elt ((setS ((setS (setS st1.2.2 st1.2.1 ((⟨st1.1, y2.Num, y2.Text, y2.Kids⟩ : DPattern) : DPattern)) st1.2.1 ((⟨y3.Kind, (w4 (st1.1 + 1)), y3.Text, y3.Kids⟩ : DPattern) : DPattern))) st1.2.1 ((⟨y5.Kind, y5.Num, y4, y5.Kids⟩ : DPattern) : DPattern))) st1.2.1).bind fun y6 => ((R_27 y6.Kids (w4 ((w4 ((w4 (st1.1 + 1)) + 1)) + 1))).bind fun y7 => (some (.inl (y7.1, (w4 (st1.2.1 + 1)), (setS ((setS ((setS (setS st1.2.2 st1.2.1 ((⟨st1.1, y2.Num, y2.Text, y2.Kids⟩ : DPattern) : DPattern)) st1.2.1 ((⟨y3.Kind, (w4 (st1.1 + 1)), y3.Text, y3.Kids⟩ : DPattern) : DPattern))) st1.2.1 ((⟨y5.Kind, y5.Num, y4, y5.Kids⟩ : DPattern) : DPattern))) st1.2.1 ((⟨y6.Kind, y6.Num, y6.Text, y7.2⟩ : DPattern) : DPattern))))))))))) else (some (.inr (st1.1, st1.2.2))))) (a1, 0, a0)).bind fun y1 => (some (y1.1, y1.2)))
theorem dT_ (R_27 : (Sl DPattern) → Int → Option (Int × (Sl DPattern))) (hR_27 : bi_ R_27) : bi_ (aG_ R_27) := by
 intro a0 a1 r h wp0_1 p0_1
 unfold aG_ at h
 refine j5_ rfl rfl ok_27 rfl ?_
 intro σ0 σ F σk s hS hH
 have hp0_1 : bK_ p0_1 := Heap.one hH
 have hS := ae_ (L' := [(0, p0_1), (1, i4 a1)]) hS (by kernel_rfl)
 refine t_go h hS hH ?_
 refine t_RN ?_
 refine t_RN ?_
 refine ca_ (fun st1 fr => Sub [(0, p0_1), (1, i4 st1.1), (5, i4 st1.2.1)] fr.s ∧ Heap σ0 fr.σ [.own true wp0_1 p0_1 st1.2.2.t, .keep F σk]) (fun y1 e fr => e = (.exit 0) ∧ Sub [(1, i4 y1.1)] fr.s ∧ Heap σ0 fr.σ [.own true wp0_1 p0_1 y1.2.t, .keep F σk]) (fun hS hH => ⟨(ae_ hS (by kernel_rfl)), hH⟩) (fun st1 x fr h HI => ?_) fun y1 e fr h HF => ?_
 ·obtain ⟨s, σ⟩ := fr; obtain ⟨hS, hH⟩ := HI
  refine t_bk h hS hH ?_
  refine t_RU 2 ?_
  refine nG_ (a := st1.2.2) 0 ?_
  refine t_N ?_
  refine t_if (fun hc1 => ?_) fun hc1 => ?_
  ·refine t_RU 3 ?_
   refine gZ_ 0 (fun hb1 hb1e y2 hy2 hl_hb1 => ?_)
   refine t_U 1 ?_
   intro h s σ hS hH
   refine fb_ (ents := []) (a := st1.2.2) (j := st1.2.1) (y := y2) (y' := ((⟨st1.1, y2.Num, y2.Text, y2.Kids⟩ : DPattern) : DPattern)) (off := 0) (c := [i4 y2.Kind, i4 y2.Num, .str y2.Text, y2.Kids.t]) (us := [i4 st1.1]) (vs := [i4 st1.1]) (v := i4 st1.1) rfl hS hH hl_hb1 rfl rfl rfl (by kernel_rfl) (by kernel_rfl) rfl hy2 (DPattern.cells_eq _) (HLi HL.nil) rfl (by rw [DPattern.enc_eq]; rfl) ?_; intro σ s hH hS
   refine t_bk h hS hH ?_
   refine t_N ?_
   refine t_RN ?_
   refine t_RU 3 ?_
   refine gZ_ 0 (fun hb2 hb2e y3 hy3 hl_hb2 => ?_)
   refine t_U 1 ?_
   intro h s σ hS hH
   refine fb_ (ents := []) (a := (setS st1.2.2 st1.2.1 ((⟨st1.1, y2.Num, y2.Text, y2.Kids⟩ : DPattern) : DPattern))) (j := st1.2.1) (y := y3) (y' := ((⟨y3.Kind, (w4 (st1.1 + 1)), y3.Text, y3.Kids⟩ : DPattern) : DPattern)) (off := 1) (c := [i4 y3.Kind, i4 y3.Num, .str y3.Text, y3.Kids.t]) (us := [i4 (w4 (st1.1 + 1))]) (vs := [i4 (w4 (st1.1 + 1))]) (v := i4 (w4 (st1.1 + 1))) rfl hS hH hl_hb2 rfl rfl rfl (by kernel_rfl) (by kernel_rfl) rfl hy3 (DPattern.cells_eq _) (HLi HL.nil) rfl (by rw [DPattern.enc_eq]; rfl) ?_; intro σ s hH hS
   refine t_bk h hS hH ?_
   refine t_N ?_
   refine t_RN ?_
   refine t_RU 3 ?_
   refine aw_ fun y4 hy4 => ?_
   refine gZ_ 0 (fun hb3 hb3e y5 hy5 hl_hb3 => ?_)
   refine t_U 1 ?_
   intro h s σ hS hH
   refine fb_ (ents := []) (a := (setS (setS st1.2.2 st1.2.1 ((⟨st1.1, y2.Num, y2.Text, y2.Kids⟩ : DPattern) : DPattern)) st1.2.1 ((⟨y3.Kind, (w4 (st1.1 + 1)), y3.Text, y3.Kids⟩ : DPattern) : DPattern))) (j := st1.2.1) (y := y5) (y' := ((⟨y5.Kind, y5.Num, y4, y5.Kids⟩ : DPattern) : DPattern)) (off := 2) (c := [i4 y5.Kind, i4 y5.Num, .str y5.Text, y5.Kids.t]) (us := [.str y4]) (vs := [.str y4]) (v := .str y4) rfl hS hH hl_hb3 rfl rfl rfl (by kernel_rfl) (by kernel_rfl) rfl hy5 (DPattern.cells_eq _) (HLs HL.nil) rfl (by rw [DPattern.enc_eq]; rfl) ?_; intro σ s hH hS
   refine t_bk h hS hH ?_
   refine t_N ?_
   refine t_RN ?_
   refine t_RU 2 ?_
   refine gZ_ 0 (fun hb4 hb4e y6 hy6 hl_hb4 => ?_)
   refine t_U 1 ?_
   intro h s σ hS hH
   refine mp_ (a := (setS ((setS (setS st1.2.2 st1.2.1 ((⟨st1.1, y2.Num, y2.Text, y2.Kids⟩ : DPattern) : DPattern)) st1.2.1 ((⟨y3.Kind, (w4 (st1.1 + 1)), y3.Text, y3.Kids⟩ : DPattern) : DPattern))) st1.2.1 ((⟨y5.Kind, y5.Num, y4, y5.Kids⟩ : DPattern) : DPattern))) (j := st1.2.1) (y := y6) (off := 3) (c := [i4 y6.Kind, i4 y6.Num, .str y6.Text, y6.Kids.t]) (q := (y6.Kids : Sl DPattern)) (fun _ _ _ _ _ => trivial) rfl hS hH hl_hb4 rfl hy6 (DPattern.cells_eq _) (by kernel_rfl) rfl rfl ?_; intro F1 σk1 t1 s ht1 hH hcl1 hcl1s hcl1p hcl1k hcl1f hS
   refine t_bk h hS hH ?_
   refine t_U 1 ?_
   refine gz_ (fun y7 hs hy7 hl => ?_) (hr := by exact fun y7 hy7 => hR_27 _ _ y7 hy7 0 t1)
   obtain rfl := len0 hl
   refine k3_ ?_
   refine t_U 1 ?_
   intro h s σ hS hH
   have hH := hcl1 _ _ _ ((⟨y6.Kind, y6.Num, y6.Text, y7.2⟩ : DPattern) : DPattern) (by rw [DPattern.enc_eq]; rfl) hH
   have hH : Heap σ0 σ [.own true wp0_1 p0_1 (setS ((setS ((setS (setS st1.2.2 st1.2.1 ((⟨st1.1, y2.Num, y2.Text, y2.Kids⟩ : DPattern) : DPattern)) st1.2.1 ((⟨y3.Kind, (w4 (st1.1 + 1)), y3.Text, y3.Kids⟩ : DPattern) : DPattern))) st1.2.1 ((⟨y5.Kind, y5.Num, y4, y5.Kids⟩ : DPattern) : DPattern))) st1.2.1 ((⟨y6.Kind, y6.Num, y6.Text, y7.2⟩ : DPattern) : DPattern)).t, .keep F σk] := hH
   refine t_bk h hS hH ?_
   refine t_N ?_
   refine t_RN ?_
   exact t_e fun he hS hH => he ▸ ⟨(ae_ hS (by kernel_rfl)), hH⟩
  exact t_e fun he hS hH => he ▸ ⟨rfl, (ae_ hS (by kernel_rfl)), hH⟩
 obtain ⟨s, σ⟩ := fr
 obtain ⟨rfl, hS, hH⟩ := HF
 refine t_bx h hS hH ?_
 refine t_RN ?_
 intro h s σ hS hH
 obtain rfl := si_1 h
 exact of_ [] (mJ_ (v := i4 y1.1) hS rfl r_nil) rfl rfl hH
noncomputable def BG_laws_markPatternS : Nat → ((Sl DPattern) → Int → Option (Int × (Sl DPattern)))
 | 0 => (fun _ _ => none)
 | n + 1 => aG_ (BG_laws_markPatternS n)
theorem uBG_laws_markPatternS : ∀ n, bi_ ((BG_laws_markPatternS n))
 | 0 => (by intro _ _ r h; have h : none = some r := h; cases h)
 | n + 1 => dT_ (BG_laws_markPatternS n) (uBG_laws_markPatternS n)
noncomputable def aM_ (a0 : (Sl DPattern)) (a1 : Int) : Option (Int × (Sl DPattern)) := (BG_laws_markPatternS bigN) a0 a1
theorem ch_ (a0 : (Sl DPattern)) (a1 : Int) (r : (Int × (Sl DPattern))) (h : aM_ a0 a1 = some r) (wp0_1 : Nat) (p0_1 : T) : RawS Try.prog md ext 27 [p0_1, i4 a1] 0 (fun hs => E_i64 r.1) [.own true wp0_1 p0_1 a0.t] (fun hs => [.own true wp0_1 p0_1 r.2.t]) := (uBG_laws_markPatternS bigN) a0 a1 r h wp0_1 p0_1
noncomputable def aP_ (a0 : DPattern) (a1 : Int) : Option (Int × DPattern) := ((aM_ a0.Kids a1).bind fun y1 => (some (y1.1, (⟨a0.Kind, a0.Num, a0.Text, y1.2⟩ : DPattern))))
theorem ev_ (a0 : DPattern) (a1 : Int) (r : (Int × DPattern)) (h : aP_ a0 a1 = some r) (wp0_1 : Nat) (p0_1 : T) : RawS Try.prog md ext 28 [.agg [i4 a0.Kind, i4 a0.Num, .str a0.Text, p0_1], i4 a1] 0 (fun hs => E_i64 r.1) [.own true wp0_1 p0_1 a0.Kids.t] (fun hs => [.own true wp0_1 p0_1 r.2.Kids.t]) := by
 unfold aP_ at h
 refine j5_ rfl rfl ok_28 rfl ?_
 intro σ0 σ F σk s hS hH
 have hp0_1 : bK_ p0_1 := Heap.one hH
 have hS := ae_ (L' := [(0, .agg [i4 a0.Kind, i4 a0.Num, .str a0.Text, p0_1]), (1, i4 a1)]) hS (by kernel_rfl)
 refine t_go h hS hH ?_
 refine t_R ?_
 refine dV_ (fun b1 => ?_) (h1 := by simp [hp0_1.1, hp0_1.2])
 refine t_N ?_
 refine t_RU 1 ?_
 refine ai_ 0 ?_
 refine t_U 1 ?_
 refine t_h Heap.up1 ?_
 refine gz_ (fun y1 hs hy1 hl => ?_) (hr := by exact fun y1 hy1 => ch_ _ _ y1 hy1 wp0_1 p0_1)
 obtain rfl := len0 hl
 refine k3_ ?_
 refine t_N ?_
 refine t_RN ?_
 intro h s σ hS hH
 obtain rfl := si_1 h
 exact of_ [] (mJ_ (v := i4 y1.1) hS rfl r_nil) rfl rfl (Heap.sel hH [0, 2] rfl (by kernel_rfl))
noncomputable def bu_ (a0 : (Sl DPattern)) : Option Bool := ((be_ a0 1048576).bind fun y1 => (if (decide (y1 < 0)) = true then (some true) else ((ay_ a0).bind fun y2 => ((dy_ y2).bind fun y3 => ((ay_ a0).bind fun y4 => ((cF_ y4).bind fun y5 => ((aC_ y5.1 y3.1).bind fun y6 => (if (!y6) = true then (some false) else (if (!(y5.2 == y3.2)) = true then (some false) else ((ay_ a0).bind fun y7 => ((aW_ y4 y7).bind fun y8 => (if (!y8) = true then (some false) else ((aM_ y4 1).bind fun y9 => (if (decide (y9.1 < 0)) = true then (some false) else ((aC_ y5.1 y3.1).bind fun y10 => (if (!y10) = true then (some false) else ((aP_ y5.1 1).bind fun y11 => ((a9_ (⟨y5.1.Kind, y5.1.Num, y5.1.Text, y11.2.Kids⟩ : DPattern) 1).bind fun y12 => (if (decide (y12 < 0)) = true then (some false) else (if (!decide (y12 = y11.1)) = true then (some false) else ((ay_ a0).bind fun y13 => ((cF_ y13).bind fun y14 => ((aC_ y14.1 y3.1).bind fun y15 => (if (!y15) = true then (some false) else (if (!(y14.2 == y3.2)) = true then (some false) else ((a9_ (⟨y5.1.Kind, y5.1.Num, y5.1.Text, y11.2.Kids⟩ : DPattern) 1).bind fun y16 => (if (decide (y16 < 0)) = true then (some false) else (if (!decide (y16 = y11.1)) = true then (some false) else (some true)))))))))))))))))))))))))))))
theorem d0_ (a0 : (Sl DPattern)) (r : Bool) (h : bu_ a0 = some r) : cf_ a0 = some r := by
 unfold bu_ at h
 refine k_W ok_5 E_bool_inj h (fun σ0 => ?_)
 refine t_RN ?_
 refine t_RN ?_
 refine t_RU 2 ?_
 refine aw_ fun y1 hy1 => ?_
 refine t_N ?_
 refine t_RN ?_
 refine t_if (fun hc1 => ?_) fun hc1 => ?_
 ·refine t_RN ?_
  exact k_eW (rT rN) E_bool_p
 refine t_RU 1 ?_
 refine a4_ (fun y2 t1 hy2 ht1 => ?_)
 refine a4_ (fun y3 t2 hy3 ht2 => ?_)
 refine t_U 3 ?_
 refine a8_ fun b1 => ?_
 refine as_ 0 ?_ (h1 := by simp [ht2.1, ht2.2])
 refine t_N ?_
 refine t_RU 1 ?_
 refine a4_ (fun y4 t3 hy4 ht3 => ?_)
 refine t_N ?_
 refine t_RU 1 ?_
 refine a4_ (fun y5 t4 hy5 ht4 => ?_)
 refine t_U 3 ?_
 refine a8_ fun b2 => ?_
 refine as_ 0 ?_ (h1 := by simp [ht4.1, ht4.2])
 refine t_N ?_
 refine t_R ?_
 refine ai_ 0 ?_
 refine ai_ 3 ?_
 refine t_h (·.up4.up2) ?_
 refine dK_ (fun y6 hy6 => ?_)
 refine t_U 2 ?_
 refine aR_ 36 (fun hc2 => ?_) fun hc2 => ?_
 ·refine t_N ?_
  refine t_cT rfl ?_
  refine t_RN ?_
  exact k_eW (rT rN) E_bool_p
 refine t_N ?_
 refine t_if (fun hc3 => ?_) fun hc3 => ?_
 ·refine t_RN ?_
  exact k_eW (rT rN) E_bool_p
 refine t_RU 2 ?_
 refine a4_ (fun y7 t5 hy7 ht5 => ?_)
 refine t_h Heap.up4 ?_
 refine dK_ (fun y8 hy8 => ?_)
 refine t_N ?_
 refine t_if (fun hc4 => ?_) fun hc4 => ?_
 ·refine t_RN ?_
  exact k_eW (rT rN) E_bool_p
 refine t_RN ?_
 refine t_RU 2 ?_
 refine gz_ (fun y9 hs hy9 hl => ?_) (hr := by exact fun y9 hy9 => ch_ _ _ y9 hy9 4 t3)
 obtain rfl := len0 hl
 refine k3_ ?_
 refine t_N ?_
 refine t_RU 3 ?_
 refine aR_ 51 (fun hc5 => ?_) fun hc5 => ?_
 ·refine t_N ?_
  refine t_cT rfl ?_
  refine t_RN ?_
  exact k_eW (rT rN) E_bool_p
 refine ai_ 4 ?_
 refine ai_ 5 ?_
 refine t_h (·.up3.up3) ?_
 refine dK_ (fun y10 hy10 => ?_)
 refine t_U 3 ?_
 refine aR_ 57 (fun hc6 => ?_) fun hc6 => ?_
 ·refine t_N ?_
  refine t_cT rfl ?_
  refine t_RN ?_
  exact k_eW (rT rN) E_bool_p
 refine t_N ?_
 refine t_cF hc3 ?_
 refine t_RN ?_
 refine t_R ?_
 refine ai_ 4 ?_
 refine t_U 1 ?_
 refine gz_ (fun y11 hs hy11 hl => ?_) (hr := by exact fun y11 hy11 => ev_ _ _ y11 hy11 4 t4)
 obtain rfl := len0 hl
 refine k3_ ?_
 refine t_N ?_
 refine t_RN ?_
 refine t_R ?_
 refine ai_ 4 ?_
 refine t_U 1 ?_
 refine dK_ (fun y12 hy12 => ?_)
 refine t_N ?_
 refine t_RN ?_
 refine t_if (fun hc7 => ?_) fun hc7 => ?_
 ·refine t_RN ?_
  exact k_eW (rT rN) E_bool_p
 refine t_RN ?_
 refine t_if (fun hc8 => ?_) fun hc8 => ?_
 ·refine t_RN ?_
  exact k_eW (rT rN) E_bool_p
 refine t_RU 1 ?_
 refine a4_ (fun y13 t6 hy13 ht6 => ?_)
 refine a4_ (fun y14 t7 hy14 ht7 => ?_)
 refine t_U 3 ?_
 refine a8_ fun b3 => ?_
 refine as_ 0 ?_ (h1 := by simp [ht7.1, ht7.2])
 refine t_N ?_
 refine t_R ?_
 refine ai_ 0 ?_
 refine ai_ 8 ?_
 refine t_h (·.up4.up2) ?_
 refine dK_ (fun y15 hy15 => ?_)
 refine t_U 2 ?_
 refine aR_ 83 (fun hc9 => ?_) fun hc9 => ?_
 ·refine t_N ?_
  refine t_cT rfl ?_
  refine t_RN ?_
  exact k_eW (rT rN) E_bool_p
 refine t_N ?_
 refine t_if (fun hc10 => ?_) fun hc10 => ?_
 ·refine t_RN ?_
  exact k_eW (rT rN) E_bool_p
 refine t_RN ?_
 refine t_R ?_
 refine ai_ 7 ?_
 refine t_U 1 ?_
 refine t_h Heap.up4 ?_
 refine dK_ (fun y16 hy16 => ?_)
 refine t_N ?_
 refine t_RN ?_
 refine t_if (fun hc11 => ?_) fun hc11 => ?_
 ·refine t_RN ?_
  exact k_eW (rT rN) E_bool_p
 refine t_RN ?_
 refine t_if (fun hc12 => ?_) fun hc12 => ?_
 ·refine t_RN ?_
  exact k_eW (rT rN) E_bool_p
 refine t_RN ?_
 exact k_eW (rT rN) E_bool_p
noncomputable def cE_ (a0 : (Sl DPattern)) : Option (DPattern × Bool) := (((if (decide ((a0.l.length : Int) = 0)) = true then (some (1, 0, ⟨#[]⟩, true, (⟨true, []⟩ : Sl DPattern))) else ((bc_ a0 (T.fn 53 [] [])).bind fun y2 => (if (!y2) = true then (some (0, 0, ⟨#[]⟩, false, (⟨true, []⟩ : Sl DPattern))) else (if (decide (60 < (a0.l.length : Int))) = true then (some (0, 0, ⟨#[]⟩, false, (⟨true, []⟩ : Sl DPattern))) else ((elt a0 (w4 ((a0.l.length : Int) - 1))).bind fun y3 => ((ar_ y3).bind fun y4 => ((subS a0 0 (w4 ((a0.l.length : Int) - 1))).bind fun y5 => ((ka_ (S := (Int × Int × ByteArray × (Sl DPattern))) y5 (fun i1 y7 st1 => ((ar_ y7).bind fun y8 => (some (19, 0, ⟨#[]⟩, (⟨false, [y8, (⟨st1.1, st1.2.1, st1.2.2.1, st1.2.2.2⟩ : DPattern)]⟩ : Sl DPattern))))) (y4.Kind, y4.Num, y4.Text, y4.Kids)).bind fun y6 => ((a2_ (⟨y6.1, y6.2.1, y6.2.2.1, y6.2.2.2⟩ : DPattern)).bind fun y9 => (if (!y9) = true then (some (0, 0, ⟨#[]⟩, false, (⟨true, []⟩ : Sl DPattern))) else (some (y6.1, y6.2.1, y6.2.2.1, true, y6.2.2.2)))))))))))) : Option (Int × Int × ByteArray × Bool × (Sl DPattern))).bind fun y1 => (some ((⟨y1.1, y1.2.1, y1.2.2.1, y1.2.2.2.2⟩ : DPattern), y1.2.2.2.1)))
theorem ht_ (a0 : (Sl DPattern)) (r : (DPattern × Bool)) (h : cE_ a0 = some r) : cF_ a0 = some r := by
 unfold cE_ at h
 refine k_O ok_19 h (fun σ0 => ?_)
 refine t_R ?_
 refine a8_ fun b1 => ?_
 refine t_N ?_
 refine t_RU 2 ?_
 refine lO_ (fun y1 s σ => ∃ t1, bK_ t1 ∧ Sub [(2, .ptr b1 0 0 4), (6, .tup [.agg [i4 y1.1, i4 y1.2.1, .str y1.2.2.1, t1], .bool y1.2.2.2.1])] s ∧ Heap σ0 σ [.box b1 [i4 0, i4 0, .str ⟨#[]⟩, (nt DPattern)], .own true 4 t1 y1.2.2.2.2.t]) ok_67 (fun y1 => ?_) fun y1 s σ HF h => ?_
 ·refine t_R ?_
  refine dV_ (fun b2 => ?_)
  refine dV_ (fun b3 => ?_)
  refine a8_ fun b4 => ?_
  refine t_N ?_
  refine t_RN ?_
  refine t_if (fun hc1 => ?_) fun hc1 => ?_
  ·refine t_R ?_
   refine ai_ 1 ?_
   refine as_ 0 ?_
   refine t_N ?_
   refine t_h (Heap.addNil · true 4) ?_
   exact fT_ (rC 1 (rT rN)) fun he hS hH => he ▸ ⟨(T.row true 0 []), ⟨rfl, rfl⟩, (ae_ hS (by kernel_rfl)), (Heap.sel hH [4, 0] rfl (by kernel_rfl))⟩
  refine t_RU 1 ?_
  refine aw_ fun y2 hy2 => ?_
  refine t_U 2 ?_
  refine aR_ 18 (fun hc2 => ?_) fun hc2 => ?_
  ·refine t_N ?_
   refine t_cT rfl ?_
   refine t_RU 1 ?_
   refine as_ 0 ?_
   refine t_N ?_
   refine t_h (Heap.addNil · true 4) ?_
   exact fT_ (rC 1 (rT rN)) fun he hS hH => he ▸ ⟨(T.row true 0 []), ⟨rfl, rfl⟩, (ae_ hS (by kernel_rfl)), (Heap.sel hH [4, 0] rfl (by kernel_rfl))⟩
  refine t_N ?_
  refine t_if (fun hc3 => ?_) fun hc3 => ?_
  ·refine t_RU 1 ?_
   refine as_ 0 ?_
   refine t_N ?_
   refine t_h (Heap.addNil · true 4) ?_
   exact fT_ (rC 1 (rT rN)) fun he hS hH => he ▸ ⟨(T.row true 0 []), ⟨rfl, rfl⟩, (ae_ hS (by kernel_rfl)), (Heap.sel hH [4, 0] rfl (by kernel_rfl))⟩
  refine t_RU 4 ?_
  refine dq_ fun y3 rest1 hy3 => ?_
  refine t_U 1 ?_
  refine a4_ (fun y4 t2 hy4 ht2 => ?_)
  refine a8_ fun b5 => ?_
  refine as_ 0 ?_ (h1 := by simp [ht2.1, ht2.2])
  refine t_N ?_
  refine t_RU 4 ?_
  refine o1_ fun y5 hy5 => ?_
  refine pD_ ok_118 ?_
  refine t_R ?_
  refine dV_ (fun b6 => ?_)
  refine t_N ?_
  refine t_RN ?_
  refine k_eI (rT rN) ?_
  refine t_N ?_
  refine oV_ back_139 (fun st1 σ => ∃ t4, bK_ t4 ∧ Heap σ0 σ [.box b6 [y5.t], .box b5 [i4 st1.1, i4 st1.2.1, .str st1.2.2.1, t4], .box b4 [i4 0, i4 0, .str ⟨#[]⟩, (nt DPattern)], .box b2 [i4 19], .box b1 [i4 0, i4 0, .str ⟨#[]⟩, (nt DPattern)], .own true 4 t4 st1.2.2.2.t]) (fun hH => ⟨t2, ht2, ((Heap.sel hH [0, 1, 3, 5, 6, 2] rfl (by kernel_rfl)))⟩) (fun h => by obtain ⟨t4, ht4, hH⟩ := h; exact (hH.at 0 rfl).lent) (fun i1 y7 st1 x h s σ HI hS => ?_) fun y6 s σ h hS HI => ?_
  ·obtain ⟨t4, ht4, hH⟩ := HI
   have hS := ae_ (L' := [(3, .ptr b2 0 0 1), (6, .ptr b4 0 0 4), (8, .ptr b5 0 0 4), (36, T.fn 139 [] [.ptr b6 0 0 1]), (37, i4 i1), (38, .agg [i4 y7.Kind, i4 y7.Num, .str y7.Text, y7.Kids.t])]) hS (by kernel_rfl)
   refine t_bk h hS hH ?_
   refine t_R ?_
   refine a8_ fun b7 => ?_
   refine as_ 0 ?_
   refine t_N ?_
   refine ic_ [(6, RN)] ext_x fun mb σs hn0 hlt hlto => ?_
   have hlt_b5 : b5 < mb := hlt b5 _ (List.Mem.tail _ (List.Mem.tail _ (List.Mem.head _)))
   have hlt_b2 : b2 < mb := hlt b2 _ (List.Mem.tail _ (List.Mem.tail _ (List.Mem.tail _ (List.Mem.tail _ (List.Mem.head _)))))
   refine ai_ 4 ?_ (hlt := by exact (Or.inr ⟨hlt_b2, (Wc.cons (.inl (by kernel_rfl)) Wc.nil)⟩))
   refine ai_ 0 ?_ (hlt := by exact (Or.inl (by kernel_rfl)))
   refine a4_ (fun y8 t5 hy8 ht5 => ?_)
   refine ai_ 3 ?_ (hlt := by exact (Or.inr ⟨hlt_b5, (Wc.cons (.inl (by kernel_rfl)) Wc.nil)⟩))
   refine t_h (·.up7.up1) ?_
   refine k_bs (z := true) (⟨false, [y8, (⟨st1.1, st1.2.1, st1.2.2.1, st1.2.2.2⟩ : DPattern)]⟩ : Sl DPattern) (fun t6 ht6 => ?_) (hb := by exact hn0) (h1 := by simp [ht4.1, ht4.2, ht5.1, ht5.2])
   intro h s σ hS hH
   refine kr_ (qs := [(0, i4 19), (3, t6)]) (z := [i4 0, i4 0, .str ⟨#[]⟩, (nt DPattern)]) (r := [i4 19, i4 0, .str ⟨#[]⟩, t6]) [[i4 19], [t6]] rfl hS rfl (by kernel_rfl) (by kernel_rfl) (⟨rfl, (by kernel_rfl), (by simp [ht6.1, ht6.2]), (by simp [ht6.1, ht6.2]), trivial⟩) (by kernel_rfl) ?_; intro s hS
   refine t_bk h hS hH ?_
   refine as_ 3 ?_ (h1 := by simp [ht6.1, ht6.2]) (hwr := by exact fun hH => Or.inr ⟨6, by kernel_rfl, fun h => h⟩)
   refine t_N ?_
   exact t_e fun he hS hH => he ▸ ⟨rfl, t6, ht6, ((Heap.sel hH [3, 0, 4, 5, 6, 1] rfl (by kernel_rfl)))⟩
  obtain ⟨t4, ht4, hH⟩ := HI
  have hS := ae_ (L' := [(3, .ptr b2 0 0 1), (6, .ptr b4 0 0 4), (8, .ptr b5 0 0 4), (36, T.fn 139 [] [.ptr b6 0 0 1])]) hS (by kernel_rfl)
  refine t_bk h hS hH ?_
  refine t_R ?_
  refine ai_ 1 ?_
  refine t_h Heap.up5 ?_
  refine dK_ (fun y9 hy9 => ?_)
  refine t_N ?_
  refine t_if (fun hc4 => ?_) fun hc4 => ?_
  ·refine t_RU 1 ?_
   refine as_ 3 ?_
   refine t_N ?_
   refine t_h (Heap.addNil · true 4) ?_
   exact fT_ (rC 1 (rT rN)) fun he hS hH => he ▸ ⟨(T.row true 0 []), ⟨rfl, rfl⟩, (ae_ hS (by kernel_rfl)), (Heap.sel hH [6, 0] rfl (by kernel_rfl))⟩
  refine t_R ?_
  refine ai_ 2 ?_
  refine as_ 3 ?_ (h1 := by simp [ht4.1, ht4.2])
  refine t_N ?_
  exact fT_ (rC 0 (rT rN)) fun he hS hH => he ▸ ⟨t4, ht4, (ae_ hS (by kernel_rfl)), (Heap.sel hH [5, 1] rfl (by kernel_rfl))⟩
 obtain ⟨t1, ht1, ⟨hS, hH⟩⟩ := HF
 refine t_bk h hS hH ?_
 refine t_U 2 ?_
 refine as_ 0 ?_ (h1 := by simp [ht1.1, ht1.2])
 refine t_N ?_
 refine t_h Heap.up1 ?_
 exact k_eO [t1] (rC 1 (rT rN))
noncomputable def bg_ (a0 : (Sl DPattern)) (a1 : Int) : Option Int := (if (decide ((w4 (a1 - (a0.l.length : Int))) < 0)) = true then (some (-1)) else ((au_ (S := (Int × Int)) (R := (Int ⊕ Int)) (fun st1 => (if (decide (st1.2 < (a0.l.length : Int))) = true then ((elt a0 st1.2).bind fun y2 => ((a6_ y2 st1.1).bind fun y3 => (if (decide (y3 < 0)) = true then (some (.inr (.inr (-1)))) else (some (.inl (y3, (w4 (st1.2 + 1)))))))) else (some (.inr (.inl st1.1))))) ((w4 (a1 - (a0.l.length : Int))), 0)).bind fun y1 => (Sum.elim (fun y1 => (some y1)) (fun y1 => (some y1)) y1)))
theorem cQ_ (a0 : (Sl DPattern)) (a1 : Int) (r : Int) (h : bg_ a0 a1 = some r) : be_ a0 a1 = some r := by
 unfold bg_ at h
 refine k_W ok_22 E_i64_inj h (fun σ0 => ?_)
 refine t_RN ?_
 refine t_RN ?_
 refine t_RN ?_
 refine t_if (fun hc1 => ?_) fun hc1 => ?_
 ·refine t_RN ?_
  exact k_eW (rT rN) E_i64_p
 refine t_RN ?_
 refine ca_ (fun st1 fr => Sub [(0, a0.t), (1, i4 st1.1), (5, i4 st1.2)] fr.s ∧ Heap σ0 fr.σ []) (fun y1 e fr => (Sum.elim (fun y => e = (.exit 0) ∧ Sub [(1, i4 y)] fr.s ∧ Heap σ0 fr.σ []) (fun y => e = .ret ∧ endW Try.prog (Try.f22.results.toList) σ0 (E_i64 y) .ret fr)) y1) (fun hS hH => ⟨(ae_ hS (by kernel_rfl)), hH⟩) (fun st1 x fr h HI => ?_) fun y1 e fr h HF => ?_
 ·obtain ⟨s, σ⟩ := fr; obtain ⟨hS, hH⟩ := HI
  refine t_bk h hS hH ?_
  refine t_RN ?_
  refine t_if (fun hc2 => ?_) fun hc2 => ?_
  ·refine t_RU 2 ?_
   refine dq_ fun y2 rest1 hy2 => ?_
   refine t_U 2 ?_
   refine aw_ fun y3 hy3 => ?_
   refine t_N ?_
   refine t_RN ?_
   refine t_if (fun hc3 => ?_) fun hc3 => ?_
   ·refine t_RN ?_
    exact t_e fun he hS hH => he ▸ ⟨rfl, (eW hS hH (rT rN) E_i64_p)⟩
   refine t_RN ?_
   exact t_e fun he hS hH => he ▸ ⟨(ae_ hS (by kernel_rfl)), hH⟩
  exact t_e fun he hS hH => he ▸ ⟨rfl, (ae_ hS (by kernel_rfl)), hH⟩
 obtain ⟨s, σ⟩ := fr
 rcases y1 with y1 | y1
 ·have h := el_l h
  obtain ⟨rfl, hS, hH⟩ := HF
  refine t_bx h hS hH ?_
  refine t_RN ?_
  exact k_eW (rT rN) E_i64_p
 have h := el_r h
 obtain ⟨rfl, HE⟩ := HF
 obtain rfl := si_1 h; exact HE
noncomputable def bV_ (a0 : (Sl DPattern)) : Option (Sl DPattern) := ((mkS 56 ((⟨0, 0, ⟨#[]⟩, ⟨true, []⟩⟩ : DPattern) : DPattern) (a0.l.length : Int) (a0.l.length : Int)).bind fun y1 => ((au_ (S := (Int × (Sl DPattern))) (R := (Sl DPattern)) (fun st1 => (if (decide (st1.1 < (a0.l.length : Int))) = true then ((elt a0 st1.1).bind fun y3 => ((bo_ y3).bind fun y4 => ((elt st1.2 st1.1).bind fun y5 => (some (.inl ((w4 (st1.1 + 1)), (setS st1.2 st1.1 (y4 : DPattern)))))))) else (some (.inr st1.2)))) (0, y1)).bind fun y2 => (some y2)))
theorem eK_ (a0 : (Sl DPattern)) (r : (Sl DPattern)) (h : bV_ a0 = some r) : ay_ a0 = some r := by
 unfold bV_ at h
 refine k_O ok_24 h (fun σ0 => ?_)
 refine t_RN ?_
 refine t_RU 2 ?_
 intro h s σ hS hH
 obtain ⟨y1, hy1, h⟩ := bind_some h
 refine nu_ (z := true) (e := 25) (by_ := 56) (x0 := ((⟨0, 0, ⟨#[]⟩, ⟨true, []⟩⟩ : DPattern) : DPattern)) (fun σ d => by simp [Enc.cells, DPattern.cells, DPattern.cellsK, Iv]) rfl hS hH rfl rfl (by kernel_rfl) (by kernel_rfl) (by kernel_rfl) (by kernel_rfl) rfl hy1 ?_; intro t1 σ s ht1 hH hS
 refine t_bk h hS hH ?_
 refine t_N ?_
 refine t_RN ?_
 refine ca_ (fun st1 fr => Sub [(0, a0.t), (3, t1), (4, i4 st1.1)] fr.s ∧ Heap σ0 fr.σ [.own true 4 t1 st1.2.t]) (fun y2 e fr => e = (.exit 0) ∧ Sub [(3, t1)] fr.s ∧ Heap σ0 fr.σ [.own true 4 t1 y2.t]) (fun hS hH => ⟨(ae_ hS (by kernel_rfl)), hH⟩) (fun st1 x fr h HI => ?_) fun y2 e fr h HF => ?_
 ·obtain ⟨s, σ⟩ := fr; obtain ⟨hS, hH⟩ := HI
  refine t_bk h hS hH ?_
  refine t_RN ?_
  refine t_if (fun hc1 => ?_) fun hc1 => ?_
  ·refine t_RU 4 ?_
   refine dq_ fun y3 rest1 hy3 => ?_
   refine t_U 1 ?_
   refine a4_ (fun y4 t2 hy4 ht2 => ?_)
   refine gZ_ 1 (fun hb1 hb1e y5 hy5 hl_hb1 => ?_)
   refine t_h Heap.up1 ?_
   intro h s σ hS hH
   refine fb_ (ents := [.own true 4 t2 y4.Kids.t]) (a := st1.2) (j := st1.1) (y := y5) (y' := (y4 : DPattern)) (off := 0) (c := [i4 y5.Kind, i4 y5.Num, .str y5.Text, y5.Kids.t]) (us := [i4 y4.Kind, i4 y4.Num, .str y4.Text, t2]) (vs := [i4 y4.Kind, i4 y4.Num, .str y4.Text, y4.Kids.t]) (v := .agg [i4 y4.Kind, i4 y4.Num, .str y4.Text, t2]) rfl hS hH hl_hb1 rfl rfl rfl (by simp [ht2.1, ht2.2]) (by kernel_rfl) rfl hy5 (DPattern.cells_eq _) (HLi (HLi (HLs (HL.own rfl HL.nil)))) rfl (by rw [DPattern.enc_eq]; rfl) ?_; intro σ s hH hS
   refine t_bk h hS hH ?_
   refine t_N ?_
   refine t_RN ?_
   exact t_e fun he hS hH => he ▸ ⟨(ae_ hS (by kernel_rfl)), hH⟩
  exact t_e fun he hS hH => he ▸ ⟨rfl, (ae_ hS (by kernel_rfl)), hH⟩
 obtain ⟨s, σ⟩ := fr
 obtain ⟨rfl, hS, hH⟩ := HF
 refine t_bx h hS hH ?_
 refine t_RN ?_
 exact k_eO [t1] (rT rN)
noncomputable def b8_ (a0 : DPattern) (a1 : DPattern) : Option Bool := (if (!decide (a0.Kind = a1.Kind)) = true then (some false) else (if (!decide (a0.Num = a1.Num)) = true then (some false) else (if (!decide (a0.Text = a1.Text)) = true then (some false) else ((aW_ a0.Kids a1.Kids).bind fun y1 => (if (!y1) = true then (some false) else (some true))))))
theorem e4_ (a0 : DPattern) (a1 : DPattern) (r : Bool) (h : b8_ a0 a1 = some r) : aC_ a0 a1 = some r := by
 unfold b8_ at h
 refine k_W ok_25 E_bool_inj h (fun σ0 => ?_)
 refine t_R ?_
 refine dV_ (fun b1 => ?_)
 refine dV_ (fun b2 => ?_)
 refine t_N ?_
 refine t_RU 1 ?_
 refine ai_ 1 ?_
 refine t_U 1 ?_
 refine ai_ 0 ?_
 refine t_N ?_
 refine t_if (fun hc1 => ?_) fun hc1 => ?_
 ·refine t_RN ?_
  exact k_eW (rT rN) E_bool_p
 refine t_RU 1 ?_
 refine ai_ 1 ?_
 refine t_U 1 ?_
 refine ai_ 0 ?_
 refine t_N ?_
 refine t_if (fun hc2 => ?_) fun hc2 => ?_
 ·refine t_RN ?_
  exact k_eW (rT rN) E_bool_p
 refine t_RU 1 ?_
 refine ai_ 1 ?_
 refine t_U 1 ?_
 refine ai_ 0 ?_
 refine t_N ?_
 refine t_if (fun hc3 => ?_) fun hc3 => ?_
 ·refine t_RN ?_
  exact k_eW (rT rN) E_bool_p
 refine t_RU 1 ?_
 refine ai_ 1 ?_
 refine t_U 1 ?_
 refine ai_ 0 ?_
 refine aw_ fun y1 hy1 => ?_
 refine t_N ?_
 refine t_if (fun hc4 => ?_) fun hc4 => ?_
 ·refine t_RN ?_
  exact k_eW (rT rN) E_bool_p
 refine t_RN ?_
 exact k_eW (rT rN) E_bool_p
noncomputable def bS_ (a0 : (Sl DPattern)) (a1 : (Sl DPattern)) : Option Bool := (if ((!decide ((a0.l.length : Int) = (a1.l.length : Int)))) = true then (some false) else ((au_ (S := Int) (R := (Unit ⊕ Bool)) (fun st1 => (if (decide (st1 < (a0.l.length : Int))) = true then ((elt a0 st1).bind fun y2 => ((elt a1 st1).bind fun y3 => ((aC_ y2 y3).bind fun y4 => (if (!y4) = true then (some (.inr (.inr false))) else (some (.inl (w4 (st1 + 1)))))))) else (some (.inr (.inl ()))))) 0).bind fun y1 => (Sum.elim (fun y1 => (some true)) (fun y1 => (some y1)) y1)))
theorem eE_ (a0 : (Sl DPattern)) (a1 : (Sl DPattern)) (r : Bool) (h : bS_ a0 a1 = some r) : aW_ a0 a1 = some r := by
 unfold bS_ at h
 refine k_W ok_26 E_bool_inj h (fun σ0 => ?_)
 refine t_RN ?_
 refine t_RN ?_
 refine t_if (fun hc1 => ?_) fun hc1 => ?_
 ·refine t_RN ?_
  exact k_eW (rT rN) E_bool_p
 refine t_RN ?_
 refine ca_ (fun st1 fr => Sub [(0, a0.t), (1, a1.t), (5, i4 st1)] fr.s ∧ Heap σ0 fr.σ []) (fun y1 e fr => (Sum.elim (fun y => e = (.exit 0) ∧ Sub [] fr.s ∧ Heap σ0 fr.σ []) (fun y => e = .ret ∧ endW Try.prog (Try.f26.results.toList) σ0 (E_bool y) .ret fr)) y1) (fun hS hH => ⟨(ae_ hS (by kernel_rfl)), hH⟩) (fun st1 x fr h HI => ?_) fun y1 e fr h HF => ?_
 ·obtain ⟨s, σ⟩ := fr; obtain ⟨hS, hH⟩ := HI
  refine t_bk h hS hH ?_
  refine t_RN ?_
  refine t_if (fun hc2 => ?_) fun hc2 => ?_
  ·refine t_D fun mb => ?_
   refine t_U 2 ?_
   refine dq_ fun y2 rest1 hy2 => ?_
   refine t_U 3 ?_
   refine dq_ fun y3 rest2 hy3 => ?_
   refine t_U 1 ?_
   refine aw_ fun y4 hy4 => ?_
   refine t_N ?_
   refine t_if (fun hc3 => ?_) fun hc3 => ?_
   ·refine t_RN ?_
    exact t_e fun he hS hH => he ▸ ⟨rfl, (eW hS hH (rT rN) E_bool_p)⟩
   refine t_RN ?_
   exact t_e fun he hS hH => he ▸ ⟨(ae_ hS (by kernel_rfl)), hH⟩
  exact t_e fun he hS hH => he ▸ ⟨rfl, (ae_ hS (by kernel_rfl)), hH⟩
 obtain ⟨s, σ⟩ := fr
 rcases y1 with y1 | y1
 ·have h := el_l h
  obtain ⟨rfl, hS, hH⟩ := HF
  refine t_bx h hS hH ?_
  refine t_RN ?_
  exact k_eW (rT rN) E_bool_p
 have h := el_r h
 obtain ⟨rfl, HE⟩ := HF
 obtain rfl := si_1 h; exact HE
noncomputable def bJ_ (a0 : DPattern) (a1 : Int) : Option Int := ((ax_ a0.Kids a1).bind fun y1 => (if (decide (y1 < 0)) = true then (some (-1)) else (some y1)))
theorem ee_ (a0 : DPattern) (a1 : Int) (r : Int) (h : bJ_ a0 a1 = some r) : a9_ a0 a1 = some r := by
 unfold bJ_ at h
 refine k_W ok_29 E_i64_inj h (fun σ0 => ?_)
 refine t_R ?_
 refine dV_ (fun b1 => ?_)
 refine t_N ?_
 refine t_RU 1 ?_
 refine ai_ 0 ?_
 refine t_U 1 ?_
 refine aw_ fun y1 hy1 => ?_
 refine t_N ?_
 refine t_RN ?_
 refine t_if (fun hc1 => ?_) fun hc1 => ?_
 ·refine t_RN ?_
  exact k_eW (rT rN) E_i64_p
 refine t_RN ?_
 exact k_eW (rT rN) E_i64_p
noncomputable def cA_ (a0 : (Sl DPattern)) : Option (DPattern × Bool) := (((if (decide (60 < (a0.l.length : Int))) = true then (some (0, 0, ⟨#[]⟩, false, (⟨true, []⟩ : Sl DPattern))) else ((c4_ (w4 ((a0.l.length : Int) - 1)) 0).bind fun y2 => ((au_ (S := (Int × Int)) (R := (Int ⊕ Unit)) (fun st1 => (if (decide (st1.2 < (a0.l.length : Int))) = true then ((elt a0 st1.2).bind fun y4 => ((an_ y4 60).bind fun y5 => (if (decide (y5 < 0)) = true then (some (.inr (.inr ()))) else (some (.inl ((w4 (st1.1 + y5)), (w4 (st1.2 + 1)))))))) else (some (.inr (.inl st1.1))))) (y2, 0)).bind fun y3 => (Sum.elim (fun y3 => (if (decide (60 < y3)) = true then (some (0, 0, ⟨#[]⟩, false, (⟨true, []⟩ : Sl DPattern))) else (if (decide ((a0.l.length : Int) = 0)) = true then (some (1, 0, ⟨#[]⟩, true, (⟨true, []⟩ : Sl DPattern))) else ((elt a0 (w4 ((a0.l.length : Int) - 1))).bind fun y6 => ((aq_ y6).bind fun y7 => ((au_ (S := (Int × Int × Int × ByteArray × (Sl DPattern))) (R := (Int × Int × ByteArray × (Sl DPattern))) (fun st2 => (if (decide (0 ≤ st2.1)) = true then ((elt a0 st2.1).bind fun y9 => ((aq_ y9).bind fun y10 => (some (.inl ((w4 (st2.1 - 1)), 19, 0, ⟨#[]⟩, (⟨false, [y10, (⟨st2.2.1, st2.2.2.1, st2.2.2.2.1, st2.2.2.2.2⟩ : DPattern)]⟩ : Sl DPattern)))))) else (some (.inr (st2.2.1, st2.2.2.1, st2.2.2.2.1, st2.2.2.2.2))))) ((w4 ((a0.l.length : Int) - 2)), y7.Kind, y7.Num, y7.Text, y7.Kids)).bind fun y8 => (some (y8.1, y8.2.1, y8.2.2.1, true, y8.2.2.2)))))))) (fun y3 => (some (0, 0, ⟨#[]⟩, false, (⟨true, []⟩ : Sl DPattern)))) y3)))) : Option (Int × Int × ByteArray × Bool × (Sl DPattern))).bind fun y1 => (some ((⟨y1.1, y1.2.1, y1.2.2.1, y1.2.2.2.2⟩ : DPattern), y1.2.2.2.1)))
theorem hn_ (a0 : (Sl DPattern)) (r : (DPattern × Bool)) (h : cA_ a0 = some r) : dy_ a0 = some r := by
 unfold cA_ at h
 refine k_O ok_30 h (fun σ0 => ?_)
 refine t_R ?_
 refine a8_ fun b1 => ?_
 refine t_N ?_
 refine t_RU 2 ?_
 refine lO_ (fun y1 s σ => ∃ t1, bK_ t1 ∧ Sub [(2, .ptr b1 0 0 4), (6, .tup [.agg [i4 y1.1, i4 y1.2.1, .str y1.2.2.1, t1], .bool y1.2.2.2.1])] s ∧ Heap σ0 σ [.box b1 [i4 0, i4 0, .str ⟨#[]⟩, (nt DPattern)], .own true 4 t1 y1.2.2.2.2.t]) ok_69 (fun y1 => ?_) fun y1 s σ HF h => ?_
 ·refine t_R ?_
  refine dV_ (fun b2 => ?_)
  refine a8_ fun b3 => ?_
  refine t_N ?_
  refine t_RN ?_
  refine t_if (fun hc1 => ?_) fun hc1 => ?_
  ·refine t_RU 1 ?_
   refine as_ 0 ?_
   refine t_N ?_
   refine t_h (Heap.addNil · true 4) ?_
   exact fT_ (rC 1 (rT rN)) fun he hS hH => he ▸ ⟨(T.row true 0 []), ⟨rfl, rfl⟩, (ae_ hS (by kernel_rfl)), (Heap.sel hH [3, 0] rfl (by kernel_rfl))⟩
  refine t_RU 3 ?_
  refine aw_ fun y2 hy2 => ?_
  refine t_N ?_
  refine t_RN ?_
  refine ca_ (fun st1 fr => Sub [(0, a0.t), (1, i4 19), (5, .ptr b2 0 0 4), (6, .ptr b3 0 0 4), (8, i4 st1.1), (9, i4 st1.2)] fr.s ∧ Heap σ0 fr.σ [.box b3 [i4 0, i4 0, .str ⟨#[]⟩, (nt DPattern)], .box b2 [i4 1, i4 0, .str ⟨#[]⟩, (nt DPattern)], .box b1 [i4 0, i4 0, .str ⟨#[]⟩, (nt DPattern)]]) (fun y3 e fr => (Sum.elim (fun y => e = (.exit 0) ∧ Sub [(0, a0.t), (1, i4 19), (5, .ptr b2 0 0 4), (6, .ptr b3 0 0 4), (8, i4 y)] fr.s ∧ Heap σ0 fr.σ [.box b3 [i4 0, i4 0, .str ⟨#[]⟩, (nt DPattern)], .box b2 [i4 1, i4 0, .str ⟨#[]⟩, (nt DPattern)], .box b1 [i4 0, i4 0, .str ⟨#[]⟩, (nt DPattern)]]) (fun y => e = .ret ∧ Sub [(6, .ptr b3 0 0 4), (7, .bool false)] fr.s ∧ Heap σ0 fr.σ [.box b3 [i4 0, i4 0, .str ⟨#[]⟩, (nt DPattern)], .box b1 [i4 0, i4 0, .str ⟨#[]⟩, (nt DPattern)]])) y3) (fun hS hH => ⟨(ae_ hS (by kernel_rfl)), hH⟩) (fun st1 x fr h HI => ?_) fun y3 e fr h HF => ?_
  ·obtain ⟨s, σ⟩ := fr; obtain ⟨hS, hH⟩ := HI
   refine t_bk h hS hH ?_
   refine t_RN ?_
   refine t_if (fun hc2 => ?_) fun hc2 => ?_
   ·refine t_RU 2 ?_
    refine dq_ fun y4 rest1 hy4 => ?_
    refine t_U 1 ?_
    refine aw_ fun y5 hy5 => ?_
    refine t_N ?_
    refine t_RN ?_
    refine t_if (fun hc3 => ?_) fun hc3 => ?_
    ·refine t_RU 1 ?_
     refine as_ 0 ?_
     refine t_N ?_
     exact t_e fun he hS hH => he ▸ ⟨rfl, (ae_ hS (by kernel_rfl)), (Heap.sel hH [0, 2] rfl (by kernel_rfl))⟩
    refine t_RN ?_
    refine t_RN ?_
    exact t_e fun he hS hH => he ▸ ⟨(ae_ hS (by kernel_rfl)), hH⟩
   exact t_e fun he hS hH => he ▸ ⟨rfl, (ae_ hS (by kernel_rfl)), hH⟩
  obtain ⟨s, σ⟩ := fr
  rcases y3 with y3 | y3
  ·have h := el_l h
   obtain ⟨rfl, hS, hH⟩ := HF
   refine t_bx h hS hH ?_
   refine t_RN ?_
   refine t_if (fun hc4 => ?_) fun hc4 => ?_
   ·refine t_RU 1 ?_
    refine as_ 0 ?_
    refine t_N ?_
    refine t_h (Heap.addNil · true 4) ?_
    exact fT_ (rC 1 (rT rN)) fun he hS hH => he ▸ ⟨(T.row true 0 []), ⟨rfl, rfl⟩, (ae_ hS (by kernel_rfl)), (Heap.sel hH [3, 0] rfl (by kernel_rfl))⟩
   refine t_RN ?_
   refine t_if (fun hc5 => ?_) fun hc5 => ?_
   ·refine t_R ?_
    refine ai_ 1 ?_
    refine as_ 0 ?_
    refine t_N ?_
    refine t_h (Heap.addNil · true 4) ?_
    exact fT_ (rC 1 (rT rN)) fun he hS hH => he ▸ ⟨(T.row true 0 []), ⟨rfl, rfl⟩, (ae_ hS (by kernel_rfl)), (Heap.sel hH [3, 0] rfl (by kernel_rfl))⟩
   refine t_RU 4 ?_
   refine dq_ fun y6 rest2 hy6 => ?_
   refine t_U 1 ?_
   refine a4_ (fun y7 t2 hy7 ht2 => ?_)
   refine a8_ fun b4 => ?_
   refine as_ 0 ?_ (h1 := by simp [ht2.1, ht2.2])
   refine t_N ?_
   refine t_RN ?_
   refine ca_ (fun st2 fr => ∃ t4, bK_ t4 ∧ Sub [(0, a0.t), (1, i4 19), (6, .ptr b3 0 0 4), (11, .ptr b4 0 0 4), (12, i4 st2.1)] fr.s ∧ Heap σ0 fr.σ [.box b4 [i4 st2.2.1, i4 st2.2.2.1, .str st2.2.2.2.1, t4], .box b3 [i4 0, i4 0, .str ⟨#[]⟩, (nt DPattern)], .box b1 [i4 0, i4 0, .str ⟨#[]⟩, (nt DPattern)], .own true 4 t4 st2.2.2.2.2.t]) (fun y8 e fr => ∃ t5, bK_ t5 ∧ e = (.exit 2) ∧ Sub [(6, .ptr b3 0 0 4), (11, .ptr b4 0 0 4)] fr.s ∧ Heap σ0 fr.σ [.box b4 [i4 y8.1, i4 y8.2.1, .str y8.2.2.1, t5], .box b3 [i4 0, i4 0, .str ⟨#[]⟩, (nt DPattern)], .box b1 [i4 0, i4 0, .str ⟨#[]⟩, (nt DPattern)], .own true 4 t5 y8.2.2.2.t]) (fun hS hH => ⟨t2, ht2, (ae_ hS (by kernel_rfl)), (Heap.sel hH [0, 2, 4, 1] rfl (by kernel_rfl))⟩) (fun st2 x fr h HI => ?_) fun y8 e fr h HF => ?_
   ·obtain ⟨s, σ⟩ := fr; obtain ⟨t4, ht4, ⟨hS, hH⟩⟩ := HI
    refine t_bk h hS hH ?_
    refine t_RN ?_
    refine t_if (fun hc6 => ?_) fun hc6 => ?_
    ·refine ic_ [(9, RN)] ext_x fun mb σs hn0 hlt hlto => ?_
     have hlt_b4 : b4 < mb := hlt b4 _ (List.Mem.head _)
     refine t_U 3 ?_
     refine dq_ fun y9 rest3 hy9 => ?_
     refine t_U 1 ?_
     refine a4_ (fun y10 t6 hy10 ht6 => ?_)
     refine ai_ 1 ?_ (hlt := by exact (Or.inr ⟨hlt_b4, (Wc.cons (.inl (by kernel_rfl)) Wc.nil)⟩))
     refine t_h (·.up4.up1) ?_
     refine k_bs (z := true) (⟨false, [y10, (⟨st2.2.1, st2.2.2.1, st2.2.2.2.1, st2.2.2.2.2⟩ : DPattern)]⟩ : Sl DPattern) (fun t7 ht7 => ?_) (hb := by exact hn0) (h1 := by simp [ht4.1, ht4.2, ht6.1, ht6.2])
     intro h s σ hS hH
     refine kr_ (qs := [(0, i4 19), (3, t7)]) (z := [i4 0, i4 0, .str ⟨#[]⟩, (nt DPattern)]) (r := [i4 19, i4 0, .str ⟨#[]⟩, t7]) [[i4 19], [t7]] rfl hS rfl (by kernel_rfl) (by kernel_rfl) (⟨rfl, (by kernel_rfl), (by simp [ht7.1, ht7.2]), (by simp [ht7.1, ht7.2]), trivial⟩) (by kernel_rfl) ?_; intro s hS
     refine t_bk h hS hH ?_
     refine as_ 1 ?_ (h1 := by simp [ht7.1, ht7.2]) (hwr := by exact fun hH => Or.inr ⟨9, by kernel_rfl, fun h => h⟩)
     refine t_N ?_
     refine t_RN ?_
     exact t_e fun he hS hH => he ▸ ⟨t7, ht7, (ae_ hS (by kernel_rfl)), (Heap.sel hH [0, 2, 3, 1] rfl (by kernel_rfl))⟩
    exact t_e fun he hS hH => he ▸ ⟨t4, ht4, rfl, (ae_ hS (by kernel_rfl)), hH⟩
   obtain ⟨s, σ⟩ := fr
   obtain ⟨t5, ht5, ⟨rfl, hS, hH⟩⟩ := HF
   refine t_bx h hS hH ?_
   refine t_R ?_
   refine ai_ 0 ?_
   refine as_ 1 ?_ (h1 := by simp [ht5.1, ht5.2])
   refine t_N ?_
   exact fT_ (rC 0 (rT rN)) fun he hS hH => he ▸ ⟨t5, ht5, (ae_ hS (by kernel_rfl)), (Heap.sel hH [2, 3] rfl (by kernel_rfl))⟩
  have h := el_r h
  obtain ⟨rfl, hS, hH⟩ := HF
  refine t_bx h hS hH ?_
  refine t_h (Heap.addNil · true 4) ?_
  exact fT_ (rC 1 (rT rN)) fun he hS hH => he ▸ ⟨(T.row true 0 []), ⟨rfl, rfl⟩, (ae_ hS (by kernel_rfl)), (Heap.sel hH [2, 0] rfl (by kernel_rfl))⟩
 obtain ⟨t1, ht1, ⟨hS, hH⟩⟩ := HF
 refine t_bk h hS hH ?_
 refine t_U 2 ?_
 refine as_ 0 ?_ (h1 := by simp [ht1.1, ht1.2])
 refine t_N ?_
 refine t_h Heap.up1 ?_
 exact k_eO [t1] (rC 1 (rT rN))
noncomputable def bp_ (a0 : DPattern) (a1 : Int) : Option Int := (if (decide ((w4 (a1 - (a0.Text.size : Int))) < 0)) = true then (some (-1)) else ((be_ a0.Kids (w4 (a1 - (a0.Text.size : Int)))).bind fun y1 => (if (decide (y1 < 0)) = true then (some (-1)) else (some y1))))
theorem dm_ (a0 : DPattern) (a1 : Int) (r : Int) (h : bp_ a0 a1 = some r) : a6_ a0 a1 = some r := by
 unfold bp_ at h
 refine k_W ok_37 E_i64_inj h (fun σ0 => ?_)
 refine t_R ?_
 refine dV_ (fun b1 => ?_)
 refine t_N ?_
 refine t_RU 2 ?_
 refine ai_ 0 ?_
 refine t_N ?_
 refine t_RN ?_
 refine t_if (fun hc1 => ?_) fun hc1 => ?_
 ·refine t_RN ?_
  exact k_eW (rT rN) E_i64_p
 refine t_RU 1 ?_
 refine ai_ 0 ?_
 refine t_U 1 ?_
 refine aw_ fun y1 hy1 => ?_
 refine t_N ?_
 refine t_RN ?_
 refine t_if (fun hc2 => ?_) fun hc2 => ?_
 ·refine t_RN ?_
  exact k_eW (rT rN) E_i64_p
 refine t_RN ?_
 exact k_eW (rT rN) E_i64_p
noncomputable def b6_ (a0 : DPattern) : Option DPattern := ((ay_ a0.Kids).bind fun y1 => (some (⟨a0.Kind, a0.Num, a0.Text, y1⟩ : DPattern)))
theorem e3_ (a0 : DPattern) (r : DPattern) (h : b6_ a0 = some r) : bo_ a0 = some r := by
 unfold b6_ at h
 refine k_O ok_40 h (fun σ0 => ?_)
 refine t_R ?_
 refine dV_ (fun b1 => ?_)
 refine a8_ fun b2 => ?_
 refine t_N ?_
 refine t_R ?_
 refine a8_ fun b3 => ?_
 refine t_N ?_
 refine t_RU 1 ?_
 refine ai_ 2 ?_
 refine t_U 1 ?_
 refine hZ_ 0 ?_
 refine t_N ?_
 refine t_RU 1 ?_
 refine ai_ 2 ?_
 refine t_U 1 ?_
 refine hZ_ 0 ?_
 refine t_N ?_
 refine t_RU 1 ?_
 refine ai_ 2 ?_
 refine t_U 1 ?_
 refine hZ_ 0 ?_
 refine t_N ?_
 refine t_RU 1 ?_
 refine ai_ 2 ?_
 refine a4_ (fun y1 t1 hy1 ht1 => ?_)
 refine t_U 1 ?_
 refine gI_ 1 ht1 ?_
 refine t_N ?_
 refine t_R ?_
 refine ai_ 0 ?_
 refine as_ 2 ?_ (h1 := by simp [ht1.1, ht1.2])
 refine t_N ?_
 refine t_h Heap.up2 ?_
 exact k_eO [t1] (rC 1 rN)
noncomputable def bt_ (a0 : DPattern) : Option Bool := ((aj_ a0 0).bind fun y1 => (some (decide (y1 ≤ 60))))
theorem d1_ (a0 : DPattern) (r : Bool) (h : bt_ a0 = some r) : a2_ a0 = some r := by
 unfold bt_ at h
 refine k_W ok_53 E_bool_inj h (fun σ0 => ?_)
 refine t_R ?_
 refine dV_ (fun b1 => ?_)
 refine t_N ?_
 refine t_R ?_
 refine ai_ 0 ?_
 refine aw_ fun y1 hy1 => ?_
 refine t_N ?_
 exact k_eW (rT rN) E_bool_p
noncomputable def bG_ (a0 : Int) : Option ByteArray := (if (decide (a0 ≤ 0)) = true then (some ⟨#[109, 48]⟩) else ((au_ (S := (Int × ByteArray)) (R := ByteArray) (fun st1 => (if (decide (0 < st1.1)) = true then ((strS ((⟨false, [⟨(IntKind.u8.wrap (w4 (48 + (st1.1.tmod 10))))⟩]⟩ : Sl (Iv .u8)))).bind fun y2 => ((catB y2 st1.2).bind fun y3 => (some (.inl ((w4 (st1.1.tdiv 10)), y3))))) else (some (.inr st1.2)))) (a0, ⟨#[]⟩)).bind fun y1 => ((catB ⟨#[109]⟩ y1).bind fun y4 => (some y4))))
theorem fv_ (a0 : Int) (r : ByteArray) (h : bG_ a0 = some r) : aE_ a0 = some r := by
 unfold bG_ at h
 refine k_W ok_70 E_str_inj h (fun σ0 => ?_)
 refine t_RN ?_
 refine t_RN ?_
 refine t_if (fun hc1 => ?_) fun hc1 => ?_
 ·refine t_RN ?_
  exact k_eW (rT rN) E_str_p
 refine t_RN ?_
 refine ca_ (fun st1 fr => Sub [(0, i4 st1.1), (3, .str st1.2)] fr.s ∧ Heap σ0 fr.σ []) (fun y1 e fr => e = (.exit 0) ∧ Sub [(3, .str y1)] fr.s ∧ Heap σ0 fr.σ []) (fun hS hH => ⟨(ae_ hS (by kernel_rfl)), hH⟩) (fun st1 x fr h HI => ?_) fun y1 e fr h HF => ?_
 ·obtain ⟨s, σ⟩ := fr; obtain ⟨hS, hH⟩ := HI
  refine t_bk h hS hH ?_
  refine t_RN ?_
  refine t_if (fun hc2 => ?_) fun hc2 => ?_
  ·refine t_RU 4 ?_
   refine k_bs (z := true) (⟨false, [⟨(IntKind.u8.wrap (w4 (48 + (st1.1.tmod 10))))⟩]⟩ : Sl (Iv .u8)) (fun t1 ht1 => ?_)
   refine pP_ (a := (⟨false, [⟨(IntKind.u8.wrap (w4 (48 + (st1.1.tmod 10))))⟩]⟩ : Sl (Iv .u8))) 0 (fun y2 hy2 => ?_)
   refine t_U 1 ?_
   refine l9_ fun y3 hy3 => ?_
   refine t_N ?_
   refine t_RN ?_
   exact t_e fun he hS hH => he ▸ ⟨(ae_ hS (by kernel_rfl)), (Heap.sel hH [] rfl (by kernel_rfl))⟩
  exact t_e fun he hS hH => he ▸ ⟨rfl, (ae_ hS (by kernel_rfl)), hH⟩
 obtain ⟨s, σ⟩ := fr
 obtain ⟨rfl, hS, hH⟩ := HF
 refine t_bx h hS hH ?_
 refine t_RU 1 ?_
 refine l9_ fun y4 hy4 => ?_
 refine t_N ?_
 exact k_eW (rT rN) E_str_p
noncomputable def bq_ (a0 : (Sl DPattern)) (a1 : Int) : Option Int := ((au_ (S := (Int × Int)) (R := (Int ⊕ Int)) (fun st1 => (if (decide (st1.2 < (a0.l.length : Int))) = true then ((elt a0 st1.2).bind fun y2 => (if (!decide (y2.Kind = st1.1)) = true then (some (.inr (.inr (-1)))) else ((elt a0 st1.2).bind fun y3 => (if (!decide (y3.Num = (w4 (st1.1 + 1)))) = true then (some (.inr (.inr (-1)))) else ((elt a0 st1.2).bind fun y4 => ((aE_ (w4 ((w4 (st1.1 + 1)) + 1))).bind fun y5 => (if (!decide (y4.Text = y5)) = true then (some (.inr (.inr (-1)))) else ((elt a0 st1.2).bind fun y6 => ((ax_ y6.Kids (w4 ((w4 ((w4 (st1.1 + 1)) + 1)) + 1))).bind fun y7 => (if (decide (y7 < 0)) = true then (some (.inr (.inr (-1)))) else (some (.inl (y7, (w4 (st1.2 + 1))))))))))))))) else (some (.inr (.inl st1.1))))) (a1, 0)).bind fun y1 => (Sum.elim (fun y1 => (some y1)) (fun y1 => (some y1)) y1))
theorem d8_ (a0 : (Sl DPattern)) (a1 : Int) (r : Int) (h : bq_ a0 a1 = some r) : ax_ a0 a1 = some r := by
 unfold bq_ at h
 refine k_W ok_71 E_i64_inj h (fun σ0 => ?_)
 refine t_RN ?_
 refine t_RN ?_
 refine ca_ (fun st1 fr => Sub [(0, a0.t), (1, i4 st1.1), (5, i4 st1.2)] fr.s ∧ Heap σ0 fr.σ []) (fun y1 e fr => (Sum.elim (fun y => e = (.exit 0) ∧ Sub [(1, i4 y)] fr.s ∧ Heap σ0 fr.σ []) (fun y => e = .ret ∧ endW Try.prog (Try.f71.results.toList) σ0 (E_i64 y) .ret fr)) y1) (fun hS hH => ⟨(ae_ hS (by kernel_rfl)), hH⟩) (fun st1 x fr h HI => ?_) fun y1 e fr h HF => ?_
 ·obtain ⟨s, σ⟩ := fr; obtain ⟨hS, hH⟩ := HI
  refine t_bk h hS hH ?_
  refine t_RN ?_
  refine t_if (fun hc1 => ?_) fun hc1 => ?_
  ·refine t_RU 2 ?_
   refine dq_ fun y2 rest1 hy2 => ?_
   refine t_N ?_
   refine t_if (fun hc2 => ?_) fun hc2 => ?_
   ·refine t_RN ?_
    exact t_e fun he hS hH => he ▸ ⟨rfl, (eW hS hH (rT rN) E_i64_p)⟩
   refine t_RN ?_
   refine t_RU 2 ?_
   refine dq_ fun y3 rest2 hy3 => ?_
   refine t_N ?_
   refine t_if (fun hc3 => ?_) fun hc3 => ?_
   ·refine t_RN ?_
    exact t_e fun he hS hH => he ▸ ⟨rfl, (eW hS hH (rT rN) E_i64_p)⟩
   refine t_RN ?_
   refine t_D fun mb => ?_
   refine t_U 2 ?_
   refine dq_ fun y4 rest3 hy4 => ?_
   refine t_U 3 ?_
   refine aw_ fun y5 hy5 => ?_
   refine t_N ?_
   refine t_if (fun hc4 => ?_) fun hc4 => ?_
   ·refine t_RN ?_
    exact t_e fun he hS hH => he ▸ ⟨rfl, (eW hS hH (rT rN) E_i64_p)⟩
   refine t_RN ?_
   refine t_RU 2 ?_
   refine dq_ fun y6 rest4 hy6 => ?_
   refine t_U 3 ?_
   refine aw_ fun y7 hy7 => ?_
   refine t_N ?_
   refine t_RN ?_
   refine t_if (fun hc5 => ?_) fun hc5 => ?_
   ·refine t_RN ?_
    exact t_e fun he hS hH => he ▸ ⟨rfl, (eW hS hH (rT rN) E_i64_p)⟩
   refine t_RN ?_
   exact t_e fun he hS hH => he ▸ ⟨(ae_ hS (by kernel_rfl)), hH⟩
  exact t_e fun he hS hH => he ▸ ⟨rfl, (ae_ hS (by kernel_rfl)), hH⟩
 obtain ⟨s, σ⟩ := fr
 rcases y1 with y1 | y1
 ·have h := el_l h
  obtain ⟨rfl, hS, hH⟩ := HF
  refine t_bx h hS hH ?_
  refine t_RN ?_
  exact k_eW (rT rN) E_i64_p
 have h := el_r h
 obtain ⟨rfl, HE⟩ := HF
 obtain rfl := si_1 h; exact HE
noncomputable def cL_ (a0 : ByteArray) : Option Bool := (some (decide ((a0.size : Int) ≤ 200)))
theorem fQ_ (a0 : ByteArray) (r : Bool) (h : cL_ a0 = some r) : bY_ a0 = some r := by
 unfold cL_ at h
 refine k_W ok_76 E_bool_inj h (fun σ0 => ?_)
 refine t_RN ?_
 refine t_RN ?_
 exact k_eW (rT rN) E_bool_p
noncomputable def aL_ (a0 : DPattern) (a1 : Int) : Option Int := (if (decide (60 < (w4 (a1 + 1)))) = true then (some 61) else ((bO_ a0.Kind a0.Num a0.Text).bind fun y1 => (if (!y1) = true then (some 61) else ((c7_ a0.Kind).bind fun y2 => (if (!decide ((a0.Kids.l.length : Int) = y2)) = true then (some 61) else ((au_ (S := (Int × Int)) (R := Int) (fun st1 => (if (decide (st1.2 < (a0.Kids.l.length : Int))) = true then ((elt a0.Kids st1.2).bind fun y4 => ((aj_ y4 st1.1).bind fun y5 => (if (decide (60 < y5)) = true then (some (.inr y5)) else (some (.inl (y5, (w4 (st1.2 + 1)))))))) else (some (.inr st1.1)))) ((w4 (a1 + 1)), 0)).bind fun y3 => (some y3)))))))
theorem cj_ (a0 : DPattern) (a1 : Int) (r : Int) (h : aL_ a0 a1 = some r) : aj_ a0 a1 = some r := by
 unfold aL_ at h
 refine k_W ok_99 E_i64_inj h (fun σ0 => ?_)
 refine t_R ?_
 refine dV_ (fun b1 => ?_)
 refine t_N ?_
 refine t_RN ?_
 refine t_D fun mb => ?_
 refine t_U 3 ?_
 refine aR_ 11 (fun hc1 => ?_) fun hc1 => ?_
 ·refine t_N ?_
  refine t_cT rfl ?_
  refine t_RN ?_
  exact k_eW (rT rN) E_i64_p
 refine t_U 1 ?_
 refine ai_ 0 ?_
 refine t_U 1 ?_
 refine ai_ 0 ?_
 refine t_U 1 ?_
 refine ai_ 0 ?_
 refine aw_ fun y1 hy1 => ?_
 refine t_U 3 ?_
 refine aR_ 21 (fun hc2 => ?_) fun hc2 => ?_
 ·refine t_N ?_
  refine t_cT rfl ?_
  refine t_RN ?_
  exact k_eW (rT rN) E_i64_p
 refine t_U 1 ?_
 refine ai_ 0 ?_
 refine t_U 2 ?_
 refine ai_ 0 ?_
 refine aw_ fun y2 hy2 => ?_
 refine t_N ?_
 refine t_if (fun hc3 => ?_) fun hc3 => ?_
 ·refine t_RN ?_
  exact k_eW (rT rN) E_i64_p
 refine t_RU 1 ?_
 refine ai_ 0 ?_
 refine t_N ?_
 refine ca_ (fun st1 fr => Sub [(1, i4 st1.1), (31, a0.Kids.t), (32, i4 (a0.Kids.l.length : Int)), (33, i4 st1.2)] fr.s ∧ Heap σ0 fr.σ []) (fun y3 e fr => e = (.exit 0) ∧ Sub [(1, i4 y3)] fr.s ∧ Heap σ0 fr.σ []) (fun hS hH => ⟨(ae_ hS (by kernel_rfl)), (Heap.sel hH [] rfl (by kernel_rfl))⟩) (fun st1 x fr h HI => ?_) fun y3 e fr h HF => ?_
 ·obtain ⟨s, σ⟩ := fr; obtain ⟨hS, hH⟩ := HI
  refine t_bk h hS hH ?_
  refine t_RN ?_
  refine t_if (fun hc4 => ?_) fun hc4 => ?_
  ·refine t_R ?_
   refine dq_ fun y4 rest1 hy4 => ?_
   refine t_U 1 ?_
   refine a8_ fun b2 => ?_
   refine as_ 0 ?_
   refine t_N ?_
   refine t_R ?_
   refine ai_ 0 ?_
   refine t_U 1 ?_
   refine aw_ fun y5 hy5 => ?_
   refine t_N ?_
   refine t_RN ?_
   refine t_if (fun hc5 => ?_) fun hc5 => ?_
   ·exact t_e fun he hS hH => he ▸ ⟨rfl, (ae_ hS (by kernel_rfl)), (Heap.sel hH [] rfl (by kernel_rfl))⟩
   refine t_RN ?_
   exact t_e fun he hS hH => he ▸ ⟨(ae_ hS (by kernel_rfl)), (Heap.sel hH [] rfl (by kernel_rfl))⟩
  exact t_e fun he hS hH => he ▸ ⟨rfl, (ae_ hS (by kernel_rfl)), hH⟩
 obtain ⟨s, σ⟩ := fr
 obtain ⟨rfl, hS, hH⟩ := HF
 refine t_bx h hS hH ?_
 refine t_RN ?_
 exact k_eW (rT rN) E_i64_p
noncomputable def dg_ (a0 : Int) (a1 : Int) (a2 : Int) : Option Bool := (if (decide (a1 ≤ a0)) = true then (some (decide (a0 ≤ a2))) else (some false))
theorem gG_ (a0 : Int) (a1 : Int) (a2 : Int) (r : Bool) (h : dg_ a0 a1 a2 = some r) : a1_ a0 a1 a2 = some r := by
 unfold dg_ at h
 refine k_W ok_103 E_bool_inj h (fun σ0 => ?_)
 refine t_RN ?_
 refine t_RU 4 ?_
 refine aR_ 10 (fun hc1 => ?_) fun hc1 => ?_
 ·refine t_N ?_
  exact k_eW (rT rN) E_bool_p
 refine t_N ?_
 exact k_eW (rT rN) E_bool_p
noncomputable def cM_ (a0 : DPattern) : Option DPattern := ((au_ (S := (Int × (Sl DPattern))) (R := (Sl DPattern)) (fun st1 => (if (decide (st1.1 < (a0.Kids.l.length : Int))) = true then ((elt a0.Kids st1.1).bind fun y2 => ((aq_ y2).bind fun y3 => ((appS 56 st1.2 (⟨false, [y3]⟩ : Sl DPattern)).bind fun y4 => (some (.inl ((w4 (st1.1 + 1)), y4)))))) else (some (.inr st1.2)))) (0, (⟨true, []⟩ : Sl DPattern))).bind fun y1 => (some (⟨a0.Kind, a0.Num, a0.Text, y1⟩ : DPattern)))
theorem fR_ (a0 : DPattern) (r : DPattern) (h : cM_ a0 = some r) : aq_ a0 = some r := by
 unfold cM_ at h
 refine k_O ok_108 h (fun σ0 => ?_)
 refine t_R ?_
 refine dV_ (fun b1 => ?_)
 refine a8_ fun b2 => ?_
 refine t_N ?_
 refine t_RU 1 ?_
 refine ai_ 1 ?_
 refine t_U 1 ?_
 refine ai_ 1 ?_
 refine t_U 1 ?_
 refine ai_ 1 ?_
 refine t_U 1 ?_
 refine a8_ fun b3 => ?_
 refine as_ 0 ?_
 refine t_N ?_
 refine t_RN ?_
 refine t_h (Heap.addNil · true 4) ?_
 refine ca_ (fun st1 fr => ∃ t2, bK_ t2 ∧ Sub [(1, .ptr b1 0 0 4), (2, .ptr b2 0 0 4), (3, .ptr b3 0 0 4), (4, i4 st1.1)] fr.s ∧ Heap σ0 fr.σ [.box b3 [i4 a0.Kind, i4 a0.Num, .str a0.Text, t2], .box b2 [i4 0, i4 0, .str ⟨#[]⟩, (nt DPattern)], .box b1 [i4 a0.Kind, i4 a0.Num, .str a0.Text, a0.Kids.t], .own true 4 t2 st1.2.t]) (fun y1 e fr => ∃ t3, bK_ t3 ∧ e = (.exit 0) ∧ Sub [(2, .ptr b2 0 0 4), (3, .ptr b3 0 0 4)] fr.s ∧ Heap σ0 fr.σ [.box b3 [i4 a0.Kind, i4 a0.Num, .str a0.Text, t3], .box b2 [i4 0, i4 0, .str ⟨#[]⟩, (nt DPattern)], .own true 4 t3 y1.t]) (fun hS hH => ⟨(T.row true 0 []), ⟨rfl, rfl⟩, (ae_ hS (by kernel_rfl)), (Heap.sel hH [1, 2, 3, 0] rfl (by kernel_rfl))⟩) (fun st1 x fr h HI => ?_) fun y1 e fr h HF => ?_
 ·obtain ⟨s, σ⟩ := fr; obtain ⟨t2, ht2, ⟨hS, hH⟩⟩ := HI
  refine t_bk h hS hH ?_
  refine t_RU 2 ?_
  refine ai_ 2 ?_
  refine t_N ?_
  refine t_if (fun hc1 => ?_) fun hc1 => ?_
  ·refine ic_ [(9, RN), (11, RN)] ext_x fun mb σs hn0 hlt hlto => ?_
   have hlt_b3 : b3 < mb := hlt b3 _ (List.Mem.head _)
   refine t_U 1 ?_
   refine ai_ 0 ?_ (hlt := by exact (Or.inr ⟨hlt_b3, (Wc.cons (.inl (by kernel_rfl)) (Wc.cons (.inl (by kernel_rfl)) Wc.nil))⟩))
   refine t_U 1 ?_
   refine ai_ 2 ?_ (hlt := by exact (Or.inl (by kernel_rfl)))
   refine t_U 1 ?_
   refine dq_ fun y2 rest1 hy2 => ?_
   refine t_U 1 ?_
   refine a4_ (fun y3 t4 hy3 ht4 => ?_)
   refine k_bs (z := true) (⟨false, [y3]⟩ : Sl DPattern) (fun t5 ht5 => ?_) (hb := by exact hn0) (h1 := by simp [ht4.1, ht4.2])
   refine oi_ 4 0 (fun y4 t6 hy4 ht6 => ?_) (hb := by exact hn0) (hwr := by exact fun hH b e o n h0 => Or.inr ⟨9, by kernel_rfl, fun h => h⟩)
   refine t_U 1 ?_
   refine gI_ 1 ht6 ?_ (hwr := by exact fun hH => Or.inr ⟨11, by kernel_rfl, fun h => h⟩)
   refine t_N ?_
   refine t_RN ?_
   exact t_e fun he hS hH => he ▸ ⟨t6, ht6, (ae_ hS (by kernel_rfl)), (Heap.sel hH [0, 2, 3, 1] rfl (by kernel_rfl))⟩
  exact t_e fun he hS hH => he ▸ ⟨t2, ht2, rfl, (ae_ hS (by kernel_rfl)), (Heap.sel hH [0, 1, 3] rfl (by kernel_rfl))⟩
 obtain ⟨s, σ⟩ := fr
 obtain ⟨t3, ht3, ⟨rfl, hS, hH⟩⟩ := HF
 refine t_bx h hS hH ?_
 refine t_R ?_
 refine ai_ 0 ?_
 refine as_ 1 ?_ (h1 := by simp [ht3.1, ht3.2])
 refine t_N ?_
 refine t_h Heap.up2 ?_
 exact k_eO [t3] (rC 1 rN)
noncomputable def cJ_ (a0 : Int) : Option (Int × ByteArray) := (if (decide (a0 = 1)) = true then (some (0, ⟨#[115]⟩)) else ((dW_ a0).bind fun y1 => ((au_ (S := (Int × ByteArray × Int)) (R := (Int × ByteArray)) (fun st1 => (if (decide (st1.2.2 < (y1.2.size : Int))) = true then ((aZ_ y1.2 st1.2.2).bind fun y3 => (if (decide (y3 = 112)) = true then (some (.inl ((w4 (st1.1 + 1)), st1.2.1, (w4 (st1.2.2 + 1))))) else ((subB y1.2 st1.2.2 (w4 (st1.2.2 + 1))).bind fun y4 => ((catB st1.2.1 y4).bind fun y5 => (some (.inl (st1.1, y5, (w4 (st1.2.2 + 1))))))))) else (some (.inr (st1.1, st1.2.1))))) (0, ⟨#[]⟩, 0)).bind fun y2 => (some (y2.1, y2.2)))))
theorem dX_ (a0 : Int) (r : (Int × ByteArray)) (h : cJ_ a0 = some r) : bX_ a0 = some r := by
 unfold cJ_ at h
 refine k_W ok_112 E_t2_i64_str_inj h (fun σ0 => ?_)
 refine t_RN ?_
 refine t_RN ?_
 refine t_if (fun hc1 => ?_) fun hc1 => ?_
 ·refine t_RN ?_
  exact k_eW (rT (rT rN)) E_t2_i64_str_p
 refine t_RU 1 ?_
 refine aw_ fun y1 hy1 => ?_
 refine t_N ?_
 refine t_RN ?_
 refine t_RN ?_
 refine t_RN ?_
 refine ca_ (fun st1 fr => Sub [(5, .str y1.2), (6, i4 st1.1), (7, .str st1.2.1), (8, i4 st1.2.2)] fr.s ∧ Heap σ0 fr.σ []) (fun y2 e fr => e = (.exit 0) ∧ Sub [(6, i4 y2.1), (7, .str y2.2)] fr.s ∧ Heap σ0 fr.σ []) (fun hS hH => ⟨(ae_ hS (by kernel_rfl)), hH⟩) (fun st1 x fr h HI => ?_) fun y2 e fr h HF => ?_
 ·obtain ⟨s, σ⟩ := fr; obtain ⟨hS, hH⟩ := HI
  refine t_bk h hS hH ?_
  refine t_RN ?_
  refine t_if (fun hc2 => ?_) fun hc2 => ?_
  ·refine t_RU 2 ?_
   refine gn_ fun y3 hy3 => ?_
   refine t_N ?_
   refine t_if (fun hc3 => ?_) fun hc3 => ?_
   ·refine t_RN ?_
    refine t_RN ?_
    exact t_e fun he hS hH => he ▸ ⟨(ae_ hS (by kernel_rfl)), hH⟩
   refine t_RU 5 ?_
   refine os_ fun y4 hy4 => ?_
   refine l9_ fun y5 hy5 => ?_
   refine t_N ?_
   refine t_RN ?_
   exact t_e fun he hS hH => he ▸ ⟨(ae_ hS (by kernel_rfl)), hH⟩
  exact t_e fun he hS hH => he ▸ ⟨rfl, (ae_ hS (by kernel_rfl)), hH⟩
 obtain ⟨s, σ⟩ := fr
 obtain ⟨rfl, hS, hH⟩ := HF
 refine t_bx h hS hH ?_
 refine t_RN ?_
 exact k_eW (rT (rT rN)) E_t2_i64_str_p
noncomputable def bd_ (a0 : (Sl DPattern)) (a1 : T) : Option Bool := (if flat1 a1 = true then ((au_ (S := Int) (R := (Unit ⊕ Bool)) (fun st1 => (if (decide (st1 < (a0.l.length : Int))) = true then ((elt a0 st1).bind fun y2 => ((gN_ Try.prog md ext E_bool a1 [.agg [i4 y2.Kind, i4 y2.Num, .str y2.Text, y2.Kids.t]]).bind fun y3 => (if (!y3) = true then (some (.inr (.inr false))) else (some (.inl (w4 (st1 + 1))))))) else (some (.inr (.inl ()))))) 0).bind fun y1 => (Sum.elim (fun y1 => (some true)) (fun y1 => (some y1)) y1)) else none)
theorem dD_ (a0 : (Sl DPattern)) (a1 : T) (r : Bool) (h : bd_ a0 a1 = some r) : bc_ a0 a1 = some r := by
 unfold bd_ at h
 obtain ⟨hf_a1, h⟩ := kK_ h
 refine k_W ok_116 E_bool_inj h (fun σ0 => ?_) (hf := (all_cons (by kernel_rfl) (all_cons (ik_ hf_a1) all_nil)))
 refine t_RN ?_
 refine t_RN ?_
 refine ca_ (fun st1 fr => Sub [(1, a1), (7, a0.t), (8, i4 (a0.l.length : Int)), (9, i4 st1)] fr.s ∧ Heap σ0 fr.σ []) (fun y1 e fr => (Sum.elim (fun y => e = (.exit 0) ∧ Sub [] fr.s ∧ Heap σ0 fr.σ []) (fun y => e = .ret ∧ endW Try.prog (Try.f116.results.toList) σ0 (E_bool y) .ret fr)) y1) (fun hS hH => ⟨(ae_ hS (by kernel_rfl)), hH⟩) (fun st1 x fr h HI => ?_) fun y1 e fr h HF => ?_
 ·obtain ⟨s, σ⟩ := fr; obtain ⟨hS, hH⟩ := HI
  refine t_bk h hS hH ?_
  refine t_RN ?_
  refine t_if (fun hc1 => ?_) fun hc1 => ?_
  ·refine t_R ?_
   refine dq_ fun y2 rest1 hy2 => ?_
   refine t_U 1 ?_
   refine a8_ fun b1 => ?_
   refine as_ 0 ?_
   refine t_N ?_
   refine t_RU 1 ?_
   refine ai_ 0 ?_
   refine jU_ fun y3 hy3 => ?_
   refine t_N ?_
   refine t_if (fun hc2 => ?_) fun hc2 => ?_
   ·refine t_RN ?_
    exact t_e fun he hS hH => he ▸ ⟨rfl, (eW hS hH (rT rN) E_bool_p)⟩
   refine t_RN ?_
   exact t_e fun he hS hH => he ▸ ⟨(ae_ hS (by kernel_rfl)), (Heap.sel hH [] rfl (by kernel_rfl))⟩
  exact t_e fun he hS hH => he ▸ ⟨rfl, (ae_ hS (by kernel_rfl)), hH⟩
 obtain ⟨s, σ⟩ := fr
 rcases y1 with y1 | y1
 ·have h := el_l h
  obtain ⟨rfl, hS, hH⟩ := HF
  refine t_bx h hS hH ?_
  refine t_RN ?_
  exact k_eW (rT rN) E_bool_p
 have h := el_r h
 obtain ⟨rfl, HE⟩ := HF
 obtain rfl := si_1 h; exact HE
noncomputable def bb_ (a0 : DPattern) : Option DPattern := ((au_ (S := (Int × (Sl DPattern))) (R := (Sl DPattern)) (fun st1 => (if (decide (st1.1 < (a0.Kids.l.length : Int))) = true then ((elt a0.Kids st1.1).bind fun y2 => ((ar_ y2).bind fun y3 => ((appS 56 st1.2 (⟨false, [y3]⟩ : Sl DPattern)).bind fun y4 => (some (.inl ((w4 (st1.1 + 1)), y4)))))) else (some (.inr st1.2)))) (0, (⟨false, []⟩ : Sl DPattern))).bind fun y1 => (some (⟨a0.Kind, a0.Num, a0.Text, y1⟩ : DPattern)))
theorem du_ (a0 : DPattern) (r : DPattern) (h : bb_ a0 = some r) : ar_ a0 = some r := by
 unfold bb_ at h
 refine k_O ok_117 h (fun σ0 => ?_)
 refine t_R ?_
 refine dV_ (fun b1 => ?_)
 refine a8_ fun b2 => ?_
 refine t_N ?_
 refine t_R ?_
 refine qa_ (α := DPattern) (fun t1 ht1 => ?_)
 refine t_N ?_
 refine t_RU 1 ?_
 refine ai_ 2 ?_
 refine t_N ?_
 refine ca_ (fun st1 fr => ∃ t3, bK_ t3 ∧ Sub [(1, .ptr b1 0 0 4), (2, .ptr b2 0 0 4), (3, t3), (8, a0.Kids.t), (9, i4 (a0.Kids.l.length : Int)), (10, i4 st1.1)] fr.s ∧ Heap σ0 fr.σ [.box b2 [i4 0, i4 0, .str ⟨#[]⟩, (nt DPattern)], .box b1 [i4 a0.Kind, i4 a0.Num, .str a0.Text, a0.Kids.t], .own true 4 t3 st1.2.t]) (fun y1 e fr => ∃ t4, bK_ t4 ∧ e = (.exit 0) ∧ Sub [(1, .ptr b1 0 0 4), (2, .ptr b2 0 0 4), (3, t4)] fr.s ∧ Heap σ0 fr.σ [.box b2 [i4 0, i4 0, .str ⟨#[]⟩, (nt DPattern)], .box b1 [i4 a0.Kind, i4 a0.Num, .str a0.Text, a0.Kids.t], .own true 4 t4 y1.t]) (fun hS hH => ⟨t1, ht1, (ae_ hS (by kernel_rfl)), (Heap.sel hH [1, 2, 0] rfl (by kernel_rfl))⟩) (fun st1 x fr h HI => ?_) fun y1 e fr h HF => ?_
 ·obtain ⟨s, σ⟩ := fr; obtain ⟨t3, ht3, ⟨hS, hH⟩⟩ := HI
  refine t_bk h hS hH ?_
  refine t_RN ?_
  refine t_if (fun hc1 => ?_) fun hc1 => ?_
  ·refine t_R ?_
   refine dq_ fun y2 rest1 hy2 => ?_
   refine t_U 1 ?_
   refine a8_ fun b3 => ?_
   refine as_ 0 ?_
   refine t_N ?_
   refine t_RU 1 ?_
   refine ai_ 0 ?_
   refine a4_ (fun y3 t5 hy3 ht5 => ?_)
   refine k_bs (z := true) (⟨false, [y3]⟩ : Sl DPattern) (fun t6 ht6 => ?_) (h1 := by simp [ht5.1, ht5.2])
   refine oi_ 4 0 (fun y4 t7 hy4 ht7 => ?_)
   refine t_N ?_
   refine t_RN ?_
   exact t_e fun he hS hH => he ▸ ⟨t7, ht7, (ae_ hS (by kernel_rfl)), (Heap.sel hH [2, 3, 0] rfl (by kernel_rfl))⟩
  exact t_e fun he hS hH => he ▸ ⟨t3, ht3, rfl, (ae_ hS (by kernel_rfl)), hH⟩
 obtain ⟨s, σ⟩ := fr
 obtain ⟨t4, ht4, ⟨rfl, hS, hH⟩⟩ := HF
 refine t_bx h hS hH ?_
 refine t_RU 2 ?_
 refine gI_ 1 ht4 ?_
 refine t_N ?_
 refine t_R ?_
 refine ai_ 0 ?_
 refine as_ 1 ?_ (h1 := by simp [ht4.1, ht4.2])
 refine t_N ?_
 refine t_h Heap.up2 ?_
 exact k_eO [t4] (rC 1 rN)
noncomputable def dh_ (a0 : Int) (a1 : Int) : Option Int := (if (decide (a1 < a0)) = true then (some a0) else (some a1))
theorem gM_ (a0 : Int) (a1 : Int) (r : Int) (h : dh_ a0 a1 = some r) : c4_ a0 a1 = some r := by
 unfold dh_ at h
 refine k_W ok_119 E_i64_inj h (fun σ0 => ?_)
 refine t_RN ?_
 refine t_RN ?_
 refine t_if (fun hc1 => ?_) fun hc1 => ?_
 ·refine t_RN ?_
  exact k_eW (rT rN) E_i64_p
 refine t_RN ?_
 exact k_eW (rT rN) E_i64_p
noncomputable def ba_ (a0 : DPattern) (a1 : Int) : Option Int := (if (decide (a1 < 1)) = true then (some (-1)) else ((cH_ a0).bind fun y1 => (if (!y1) = true then (some (-1)) else ((au_ (S := (Int × Int)) (R := (Int ⊕ Int)) (fun st1 => (if (decide (st1.2 < (a0.Kids.l.length : Int))) = true then ((elt a0.Kids st1.2).bind fun y3 => ((an_ y3 (w4 (a1 - st1.1))).bind fun y4 => (if (decide (y4 < 0)) = true then (some (.inr (.inr (-1)))) else (some (.inl ((w4 (st1.1 + y4)), (w4 (st1.2 + 1)))))))) else (some (.inr (.inl st1.1))))) (1, 0)).bind fun y2 => (Sum.elim (fun y2 => (some y2)) (fun y2 => (some y2)) y2)))))
theorem dF_ (a0 : DPattern) (a1 : Int) (r : Int) (h : ba_ a0 a1 = some r) : an_ a0 a1 = some r := by
 unfold ba_ at h
 refine k_W ok_120 E_i64_inj h (fun σ0 => ?_)
 refine t_R ?_
 refine dV_ (fun b1 => ?_)
 refine t_N ?_
 refine t_RU 3 ?_
 refine aR_ 10 (fun hc1 => ?_) fun hc1 => ?_
 ·refine t_N ?_
  refine t_cT rfl ?_
  refine t_RN ?_
  exact k_eW (rT rN) E_i64_p
 refine ai_ 0 ?_
 refine aw_ fun y1 hy1 => ?_
 refine t_N ?_
 refine t_if (fun hc2 => ?_) fun hc2 => ?_
 ·refine t_RN ?_
  exact k_eW (rT rN) E_i64_p
 refine t_RN ?_
 refine t_RN ?_
 refine ca_ (fun st1 fr => Sub [(1, i4 a1), (2, .ptr b1 0 0 4), (5, i4 st1.1), (6, i4 st1.2)] fr.s ∧ Heap σ0 fr.σ [.box b1 [i4 a0.Kind, i4 a0.Num, .str a0.Text, a0.Kids.t]]) (fun y2 e fr => (Sum.elim (fun y => e = (.exit 0) ∧ Sub [(5, i4 y)] fr.s ∧ Heap σ0 fr.σ []) (fun y => e = .ret ∧ endW Try.prog (Try.f120.results.toList) σ0 (E_i64 y) .ret fr)) y2) (fun hS hH => ⟨(ae_ hS (by kernel_rfl)), hH⟩) (fun st1 x fr h HI => ?_) fun y2 e fr h HF => ?_
 ·obtain ⟨s, σ⟩ := fr; obtain ⟨hS, hH⟩ := HI
  refine t_bk h hS hH ?_
  refine t_RU 2 ?_
  refine ai_ 0 ?_
  refine t_N ?_
  refine t_if (fun hc3 => ?_) fun hc3 => ?_
  ·refine t_RU 1 ?_
   refine ai_ 0 ?_
   refine t_U 1 ?_
   refine dq_ fun y3 rest1 hy3 => ?_
   refine t_U 4 ?_
   refine aw_ fun y4 hy4 => ?_
   refine t_N ?_
   refine t_RN ?_
   refine t_if (fun hc4 => ?_) fun hc4 => ?_
   ·refine t_RN ?_
    exact t_e fun he hS hH => he ▸ ⟨rfl, (eW hS hH (rT rN) E_i64_p)⟩
   refine t_RN ?_
   refine t_RN ?_
   exact t_e fun he hS hH => he ▸ ⟨(ae_ hS (by kernel_rfl)), hH⟩
  exact t_e fun he hS hH => he ▸ ⟨rfl, (ae_ hS (by kernel_rfl)), (Heap.sel hH [] rfl (by kernel_rfl))⟩
 obtain ⟨s, σ⟩ := fr
 rcases y2 with y2 | y2
 ·have h := el_l h
  obtain ⟨rfl, hS, hH⟩ := HF
  refine t_bx h hS hH ?_
  refine t_RN ?_
  exact k_eW (rT rN) E_i64_p
 have h := el_r h
 obtain ⟨rfl, HE⟩ := HF
 obtain rfl := si_1 h; exact HE
noncomputable def dt_ (a0 : Int) (a1 : Int) (a2 : Int) : Option Bool := (if (decide (a1 ≤ a0)) = true then (some (decide (a0 ≤ a2))) else (some false))
theorem gW_ (a0 : Int) (a1 : Int) (a2 : Int) (r : Bool) (h : dt_ a0 a1 a2 = some r) : cB_ a0 a1 a2 = some r := by
 unfold dt_ at h
 refine k_W ok_128 E_bool_inj h (fun σ0 => ?_)
 refine t_RN ?_
 refine t_RU 4 ?_
 refine aR_ 10 (fun hc1 => ?_) fun hc1 => ?_
 ·refine t_N ?_
  exact k_eW (rT rN) E_bool_p
 refine t_N ?_
 exact k_eW (rT rN) E_bool_p
noncomputable def bT_ (a0 : Int) (a1 : Int) (a2 : ByteArray) : Option Bool := (if (decide (a0 = 1)) = true then (if (decide (a1 = 0)) = true then ((bY_ a2).bind fun y1 => (some y1)) else (some false)) else ((c9_ a0).bind fun y2 => (if y2 = true then (if (decide (a1 = 0)) = true then (if (!decide (a2 = (⟨#[]⟩ : ByteArray))) = true then ((bY_ a2).bind fun y3 => (some y3)) else (some false)) else (some false)) else ((b3_ a0).bind fun y4 => (if y4 = true then (if (decide (a2 = (⟨#[]⟩ : ByteArray))) = true then ((a1_ a1 0 200).bind fun y5 => (some y5)) else (some false)) else ((cP_ a0).bind fun y6 => (if y6 = true then (if (decide (a1 = 0)) = true then ((cZ_ a2).bind fun y7 => (some y7)) else (some false)) else ((bj_ a0).bind fun y8 => (if y8 = true then (if (decide (a1 = 0)) = true then (some (decide (a2 = (⟨#[]⟩ : ByteArray)))) else (some false)) else (some false))))))))))
theorem eO_ (a0 : Int) (a1 : Int) (a2 : ByteArray) (r : Bool) (h : bT_ a0 a1 a2 = some r) : bO_ a0 a1 a2 = some r := by
 unfold bT_ at h
 refine k_W ok_134 E_bool_inj h (fun σ0 => ?_)
 refine t_RN ?_
 refine t_RN ?_
 refine t_if (fun hc1 => ?_) fun hc1 => ?_
 ·refine t_RU 3 ?_
  refine aR_ 12 (fun hc2 => ?_) fun hc2 => ?_
  ·refine t_U 1 ?_
   refine aw_ fun y1 hy1 => ?_
   refine t_N ?_
   exact k_eW (rT rN) E_bool_p
  refine t_N ?_
  exact k_eW (rT rN) E_bool_p
 refine t_RU 1 ?_
 refine aw_ fun y2 hy2 => ?_
 refine t_N ?_
 refine t_if (fun hc3 => ?_) fun hc3 => ?_
 ·refine t_RU 3 ?_
  refine aR_ 21 (fun hc4 => ?_) fun hc4 => ?_
  ·refine t_U 4 ?_
   refine aR_ 25 (fun hc5 => ?_) fun hc5 => ?_
   ·refine t_U 1 ?_
    refine aw_ fun y3 hy3 => ?_
    refine t_N ?_
    exact k_eW (rT rN) E_bool_p
   refine t_N ?_
   exact k_eW (rT rN) E_bool_p
  refine t_N ?_
  exact k_eW (rT rN) E_bool_p
 refine t_RU 1 ?_
 refine aw_ fun y4 hy4 => ?_
 refine t_N ?_
 refine t_if (fun hc6 => ?_) fun hc6 => ?_
 ·refine t_RU 3 ?_
  refine aR_ 34 (fun hc7 => ?_) fun hc7 => ?_
  ·refine t_U 1 ?_
   refine aw_ fun y5 hy5 => ?_
   refine t_N ?_
   exact k_eW (rT rN) E_bool_p
  refine t_N ?_
  exact k_eW (rT rN) E_bool_p
 refine t_RU 1 ?_
 refine aw_ fun y6 hy6 => ?_
 refine t_N ?_
 refine t_if (fun hc8 => ?_) fun hc8 => ?_
 ·refine t_RU 3 ?_
  refine aR_ 43 (fun hc9 => ?_) fun hc9 => ?_
  ·refine t_U 1 ?_
   refine aw_ fun y7 hy7 => ?_
   refine t_N ?_
   exact k_eW (rT rN) E_bool_p
  refine t_N ?_
  exact k_eW (rT rN) E_bool_p
 refine t_RU 1 ?_
 refine aw_ fun y8 hy8 => ?_
 refine t_U 1 ?_
 refine aR_ 49 (fun hc10 => ?_) fun hc10 => ?_
 ·refine t_U 4 ?_
  refine aR_ 53 (fun hc11 => ?_) fun hc11 => ?_
  ·refine t_N ?_
   exact k_eW (rT rN) E_bool_p
  refine t_N ?_
  exact k_eW (rT rN) E_bool_p
 refine t_N ?_
 exact k_eW (rT rN) E_bool_p
noncomputable def db_ (a0 : Int) : Option Int := (((if (decide (a0 = 18)) = true then (some (decide (a0 = 18))) else (some (decide (a0 = 19)))) : Option Bool).bind fun y1 => (if y1 = true then (some 2) else (((if (decide (a0 = 20)) = true then (some (decide (a0 = 20))) else (if (decide (a0 = 21)) = true then (some (decide (a0 = 21))) else (some (decide (a0 = 22))))) : Option Bool).bind fun y2 => (if y2 = true then (some 1) else (some 0)))))
theorem gD_ (a0 : Int) (r : Int) (h : db_ a0 = some r) : c7_ a0 = some r := by
 unfold db_ at h
 refine k_W ok_135 E_i64_inj h (fun σ0 => ?_)
 refine t_RN ?_
 refine t_RN ?_
 refine t_RN ?_
 refine oe_ 0 (fun y1 e fr => e = .normal ∧ Sub [(3, i4 a0), (4, .bool y1)] fr.s ∧ Heap σ0 fr.σ []) (fun y1 e fr h HF => ?_) fun y1 => ?_
 ·obtain ⟨s, σ⟩ := fr
  obtain ⟨rfl, hS, hH⟩ := HF
  refine t_bx h hS hH ?_
  refine t_if (fun hc1 => ?_) fun hc1 => ?_
  ·refine t_RN ?_
   exact k_eW (rT rN) E_i64_p
  refine t_RN ?_
  refine oe_ 0 (fun y2 e fr => e = .normal ∧ Sub [(7, .bool y2)] fr.s ∧ Heap σ0 fr.σ []) (fun y2 e fr h HF => ?_) fun y2 => ?_
  ·obtain ⟨s, σ⟩ := fr
   obtain ⟨rfl, hS, hH⟩ := HF
   refine t_bx h hS hH ?_
   refine t_if (fun hc2 => ?_) fun hc2 => ?_
   ·refine t_RN ?_
    exact k_eW (rT rN) E_i64_p
   refine t_RN ?_
   exact k_eW (rT rN) E_i64_p
  refine t_if (fun hc3 => ?_) fun hc3 => ?_
  ·exact t_e fun he hS hH => he ▸ ⟨rfl, (ae_ hS (by kernel_rfl)), hH⟩
  refine t_RN ?_
  refine t_if (fun hc4 => ?_) fun hc4 => ?_
  ·exact t_e fun he hS hH => he ▸ ⟨rfl, (ae_ hS (by kernel_rfl)), hH⟩
  refine t_RN ?_
  exact t_e fun he hS hH => he ▸ ⟨rfl, (ae_ hS (by kernel_rfl)), hH⟩
 refine t_if (fun hc5 => ?_) fun hc5 => ?_
 ·exact t_e fun he hS hH => he ▸ ⟨rfl, (ae_ hS (by kernel_rfl)), hH⟩
 refine t_RN ?_
 exact t_e fun he hS hH => he ▸ ⟨rfl, (ae_ hS (by kernel_rfl)), hH⟩
noncomputable def cN_ (a0 : Int) : Option (ByteArray × ByteArray) := (if (decide (a0 = 2)) = true then (some (⟨#[97, 110, 121]⟩, ⟨#[115]⟩)) else (if (decide (a0 = 3)) = true then (some (⟨#[110, 111, 116, 97, 110, 121]⟩, ⟨#[115]⟩)) else (if (decide (a0 = 4)) = true then (some (⟨#[115, 112, 97, 110]⟩, ⟨#[115]⟩)) else (if (decide (a0 = 5)) = true then (some (⟨#[98, 114, 101, 97, 107]⟩, ⟨#[115]⟩)) else (if (decide (a0 = 6)) = true then (some (⟨#[108, 101, 110]⟩, ⟨#[110]⟩)) else (if (decide (a0 = 7)) = true then (some (⟨#[112, 111, 115]⟩, ⟨#[110]⟩)) else (if (decide (a0 = 8)) = true then (some (⟨#[114, 112, 111, 115]⟩, ⟨#[110]⟩)) else (if (decide (a0 = 9)) = true then (some (⟨#[116, 97, 98]⟩, ⟨#[110]⟩)) else (if (decide (a0 = 10)) = true then (some (⟨#[114, 116, 97, 98]⟩, ⟨#[110]⟩)) else (if (decide (a0 = 11)) = true then (some (⟨#[114, 101, 109]⟩, ⟨#[]⟩)) else (if (decide (a0 = 12)) = true then (some (⟨#[97, 114, 98]⟩, ⟨#[]⟩)) else (if (decide (a0 = 13)) = true then (some (⟨#[98, 97, 108]⟩, ⟨#[]⟩)) else (if (decide (a0 = 14)) = true then (some (⟨#[102, 101, 110, 99, 101]⟩, ⟨#[]⟩)) else (if (decide (a0 = 15)) = true then (some (⟨#[97, 98, 111, 114, 116]⟩, ⟨#[]⟩)) else (if (decide (a0 = 16)) = true then (some (⟨#[102, 97, 105, 108]⟩, ⟨#[]⟩)) else (if (decide (a0 = 17)) = true then (some (⟨#[115, 117, 99, 99, 101, 101, 100]⟩, ⟨#[]⟩)) else (if (decide (a0 = 18)) = true then (some (⟨#[97, 108, 116]⟩, ⟨#[112, 112]⟩)) else (if (decide (a0 = 19)) = true then (some (⟨#[99, 97, 116]⟩, ⟨#[112, 112]⟩)) else (if (decide (a0 = 20)) = true then (some (⟨#[97, 114, 98, 110, 111]⟩, ⟨#[112]⟩)) else (if (decide (a0 = 21)) = true then (some (⟨#[99, 111, 110, 100]⟩, ⟨#[112, 120]⟩)) else (if (decide (a0 = 22)) = true then (some (⟨#[110, 111, 119]⟩, ⟨#[112, 120]⟩)) else (if (decide (a0 = 23)) = true then (some (⟨#[99, 117, 114, 115, 111, 114]⟩, ⟨#[120]⟩)) else (if (decide (a0 = 24)) = true then (some (⟨#[100, 101, 102, 101, 114]⟩, ⟨#[120]⟩)) else (some (⟨#[]⟩, ⟨#[]⟩)))))))))))))))))))))))))
theorem fV_ (a0 : Int) (r : (ByteArray × ByteArray)) (h : cN_ a0 = some r) : dW_ a0 = some r := by
 unfold cN_ at h
 refine k_W ok_137 E_t2_str_str_inj h (fun σ0 => ?_)
 refine t_RN ?_
 refine t_RN ?_
 refine t_RN ?_
 refine t_if (fun hc1 => ?_) fun hc1 => ?_
 ·refine t_RN ?_
  exact k_eW (rT (rT rN)) E_t2_str_str_p
 refine t_RN ?_
 refine t_if (fun hc2 => ?_) fun hc2 => ?_
 ·refine t_RN ?_
  exact k_eW (rT (rT rN)) E_t2_str_str_p
 refine t_RN ?_
 refine t_if (fun hc3 => ?_) fun hc3 => ?_
 ·refine t_RN ?_
  exact k_eW (rT (rT rN)) E_t2_str_str_p
 refine t_RN ?_
 refine t_if (fun hc4 => ?_) fun hc4 => ?_
 ·refine t_RN ?_
  exact k_eW (rT (rT rN)) E_t2_str_str_p
 refine t_RN ?_
 refine t_if (fun hc5 => ?_) fun hc5 => ?_
 ·refine t_RN ?_
  exact k_eW (rT (rT rN)) E_t2_str_str_p
 refine t_RN ?_
 refine t_if (fun hc6 => ?_) fun hc6 => ?_
 ·refine t_RN ?_
  exact k_eW (rT (rT rN)) E_t2_str_str_p
 refine t_RN ?_
 refine t_if (fun hc7 => ?_) fun hc7 => ?_
 ·refine t_RN ?_
  exact k_eW (rT (rT rN)) E_t2_str_str_p
 refine t_RN ?_
 refine t_if (fun hc8 => ?_) fun hc8 => ?_
 ·refine t_RN ?_
  exact k_eW (rT (rT rN)) E_t2_str_str_p
 refine t_RN ?_
 refine t_if (fun hc9 => ?_) fun hc9 => ?_
 ·refine t_RN ?_
  exact k_eW (rT (rT rN)) E_t2_str_str_p
 refine t_RN ?_
 refine t_if (fun hc10 => ?_) fun hc10 => ?_
 ·refine t_RN ?_
  exact k_eW (rT (rT rN)) E_t2_str_str_p
 refine t_RN ?_
 refine t_if (fun hc11 => ?_) fun hc11 => ?_
 ·refine t_RN ?_
  exact k_eW (rT (rT rN)) E_t2_str_str_p
 refine t_RN ?_
 refine t_if (fun hc12 => ?_) fun hc12 => ?_
 ·refine t_RN ?_
  exact k_eW (rT (rT rN)) E_t2_str_str_p
 refine t_RN ?_
 refine t_if (fun hc13 => ?_) fun hc13 => ?_
 ·refine t_RN ?_
  exact k_eW (rT (rT rN)) E_t2_str_str_p
 refine t_RN ?_
 refine t_if (fun hc14 => ?_) fun hc14 => ?_
 ·refine t_RN ?_
  exact k_eW (rT (rT rN)) E_t2_str_str_p
 refine t_RN ?_
 refine t_if (fun hc15 => ?_) fun hc15 => ?_
 ·refine t_RN ?_
  exact k_eW (rT (rT rN)) E_t2_str_str_p
 refine t_RN ?_
 refine t_if (fun hc16 => ?_) fun hc16 => ?_
 ·refine t_RN ?_
  exact k_eW (rT (rT rN)) E_t2_str_str_p
 refine t_RN ?_
 refine t_if (fun hc17 => ?_) fun hc17 => ?_
 ·refine t_RN ?_
  exact k_eW (rT (rT rN)) E_t2_str_str_p
 refine t_RN ?_
 refine t_if (fun hc18 => ?_) fun hc18 => ?_
 ·refine t_RN ?_
  exact k_eW (rT (rT rN)) E_t2_str_str_p
 refine t_RN ?_
 refine t_if (fun hc19 => ?_) fun hc19 => ?_
 ·refine t_RN ?_
  exact k_eW (rT (rT rN)) E_t2_str_str_p
 refine t_RN ?_
 refine t_if (fun hc20 => ?_) fun hc20 => ?_
 ·refine t_RN ?_
  exact k_eW (rT (rT rN)) E_t2_str_str_p
 refine t_RN ?_
 refine t_if (fun hc21 => ?_) fun hc21 => ?_
 ·refine t_RN ?_
  exact k_eW (rT (rT rN)) E_t2_str_str_p
 refine t_RN ?_
 refine t_if (fun hc22 => ?_) fun hc22 => ?_
 ·refine t_RN ?_
  exact k_eW (rT (rT rN)) E_t2_str_str_p
 refine t_RN ?_
 refine t_if (fun hc23 => ?_) fun hc23 => ?_
 ·refine t_RN ?_
  exact k_eW (rT (rT rN)) E_t2_str_str_p
 refine t_RN ?_
 exact k_eW (rT (rT rN)) E_t2_str_str_p
noncomputable def cI_ (a0 : DPattern) : Option Bool := ((cB_ a0.Kind 1 24).bind fun y1 => (if (!y1) = true then (some false) else ((bX_ a0.Kind).bind fun y2 => (if (!decide ((a0.Kids.l.length : Int) = y2.1)) = true then (some false) else (if (decide (y2.2 = (⟨#[115]⟩ : ByteArray))) = true then (if (decide (a0.Num = 0)) = true then (if (decide ((a0.Text.size : Int) ≤ 200)) = true then (if (decide (a0.Kind = 1)) = true then (some true) else (some (!decide (a0.Text = (⟨#[]⟩ : ByteArray))))) else (some false)) else (some false)) else (if (decide (y2.2 = (⟨#[110]⟩ : ByteArray))) = true then (if (decide (a0.Text = (⟨#[]⟩ : ByteArray))) = true then ((cB_ a0.Num 0 200).bind fun y3 => (some y3)) else (some false)) else (if (decide (y2.2 = (⟨#[120]⟩ : ByteArray))) = true then (if (decide (a0.Num = 0)) = true then ((c6_ a0.Text).bind fun y4 => (some y4)) else (some false)) else (if (decide (a0.Num = 0)) = true then (some (decide (a0.Text = (⟨#[]⟩ : ByteArray)))) else (some false)))))))))
theorem fP_ (a0 : DPattern) (r : Bool) (h : cI_ a0 = some r) : cH_ a0 = some r := by
 unfold cI_ at h
 refine k_W ok_140 E_bool_inj h (fun σ0 => ?_)
 refine t_R ?_
 refine dV_ (fun b1 => ?_)
 refine t_N ?_
 refine t_RU 1 ?_
 refine ai_ 0 ?_
 refine aw_ fun y1 hy1 => ?_
 refine t_N ?_
 refine t_if (fun hc1 => ?_) fun hc1 => ?_
 ·refine t_RN ?_
  exact k_eW (rT rN) E_bool_p
 refine t_RU 1 ?_
 refine ai_ 0 ?_
 refine aw_ fun y2 hy2 => ?_
 refine t_N ?_
 refine t_RU 1 ?_
 refine ai_ 0 ?_
 refine t_N ?_
 refine t_if (fun hc2 => ?_) fun hc2 => ?_
 ·refine t_RN ?_
  exact k_eW (rT rN) E_bool_p
 refine t_RN ?_
 refine t_RN ?_
 refine t_if (fun hc3 => ?_) fun hc3 => ?_
 ·refine t_RU 1 ?_
  refine ai_ 0 ?_
  refine t_U 2 ?_
  refine aR_ 26 (fun hc4 => ?_) fun hc4 => ?_
  ·refine t_U 1 ?_
   refine ai_ 0 ?_
   refine t_U 4 ?_
   refine aR_ 32 (fun hc5 => ?_) fun hc5 => ?_
   ·refine t_U 1 ?_
    refine ai_ 0 ?_
    refine t_U 2 ?_
    refine aR_ 36 (fun hc6 => ?_) fun hc6 => ?_
    ·refine t_N ?_
     exact k_eW (rT rN) E_bool_p
    refine t_U 1 ?_
    refine ai_ 0 ?_
    refine t_N ?_
    exact k_eW (rT rN) E_bool_p
   refine t_N ?_
   exact k_eW (rT rN) E_bool_p
  refine t_N ?_
  exact k_eW (rT rN) E_bool_p
 refine t_RN ?_
 refine t_if (fun hc7 => ?_) fun hc7 => ?_
 ·refine t_RU 1 ?_
  refine ai_ 0 ?_
  refine t_U 2 ?_
  refine aR_ 47 (fun hc8 => ?_) fun hc8 => ?_
  ·refine t_U 1 ?_
   refine ai_ 0 ?_
   refine aw_ fun y3 hy3 => ?_
   refine t_N ?_
   exact k_eW (rT rN) E_bool_p
  refine t_N ?_
  exact k_eW (rT rN) E_bool_p
 refine t_RN ?_
 refine t_if (fun hc9 => ?_) fun hc9 => ?_
 ·refine t_RU 1 ?_
  refine ai_ 0 ?_
  refine t_U 2 ?_
  refine aR_ 57 (fun hc10 => ?_) fun hc10 => ?_
  ·refine t_U 1 ?_
   refine ai_ 0 ?_
   refine aw_ fun y4 hy4 => ?_
   refine t_N ?_
   exact k_eW (rT rN) E_bool_p
  refine t_N ?_
  exact k_eW (rT rN) E_bool_p
 refine t_RU 1 ?_
 refine ai_ 0 ?_
 refine t_U 2 ?_
 refine aR_ 65 (fun hc11 => ?_) fun hc11 => ?_
 ·refine t_U 1 ?_
  refine ai_ 0 ?_
  refine t_N ?_
  exact k_eW (rT rN) E_bool_p
 refine t_N ?_
 exact k_eW (rT rN) E_bool_p
end Go.Am
