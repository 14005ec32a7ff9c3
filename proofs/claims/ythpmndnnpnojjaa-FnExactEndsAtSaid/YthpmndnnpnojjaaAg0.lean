/- Functions of the program. -/
import Derived.Test.YthpmndnnpnojjaaAd0
set_option maxRecDepth 100000
set_option maxHeartbeats 4000000
set_option linter.unusedVariables false
set_option linter.unusedSimpArgs false
namespace Go.Am
open Go.Proofs
def cw_ (R : (Sl DPattern) → Int → Option (Int × (Sl DPattern))) : Prop := ∀ (a0 : (Sl DPattern)) (a1 : Int) (r : (Int × (Sl DPattern))), R a0 a1 = some r → ∀ (wp0_1 : Nat) (p0_1 : T), RawS Try.prog md ext 21 [p0_1, i4 a1] 0 (fun hs => E_i64 r.1) [.own true wp0_1 p0_1 a0.t] (fun hs => [.own true wp0_1 p0_1 r.2.t])
noncomputable def bi_ (R_21 : (Sl DPattern) → Int → Option (Int × (Sl DPattern))) (a0 : (Sl DPattern)) (a1 : Int) : Option (Int × (Sl DPattern)) := ((ax_ (S := (Int × Int × (Sl DPattern))) (R := (Int × (Sl DPattern))) (fun st1 => (if (decide (st1.2.1 < (st1.2.2.l.length : Int))) = true then ((elt st1.2.2 st1.2.1).bind fun y2 => ((elt (setS st1.2.2 st1.2.1 ((⟨st1.1, y2.Num, y2.Text, y2.Kids⟩ : DPattern) : DPattern)) st1.2.1).bind fun y3 => ((aJ_ (w4 ((w4 (st1.1 + 1)) + 1))).bind fun y4 => ((elt ((setS (setS st1.2.2 st1.2.1 ((⟨st1.1, y2.Num, y2.Text, y2.Kids⟩ : DPattern) : DPattern)) st1.2.1 ((⟨y3.Kind, (w4 (st1.1 + 1)), y3.Text, y3.Kids⟩ : DPattern) : DPattern))) st1.2.1).bind fun y5 => ((elt ((setS ((setS (setS st1.2.2 st1.2.1 ((⟨st1.1, y2.Num, y2.Text, y2.Kids⟩ : DPattern) : DPattern)) st1.2.1 ((⟨y3.Kind, (w4 (st1.1 + 1)), y3.Text, y3.Kids⟩ : DPattern) : DPattern))) st1.2.1 ((⟨y5.Kind, y5.Num, y4, y5.Kids⟩ : DPattern) : DPattern))) st1.2.1).bind fun y6 => ((R_21 y6.Kids (w4 ((w4 ((w4 (st1.1 + 1)) + 1)) + 1))).bind fun y7 => (some (.inl (y7.1, (w4 (st1.2.1 + 1)), (setS ((setS ((setS (setS st1.2.2 st1.2.1 ((⟨st1.1, y2.Num, y2.Text, y2.Kids⟩ : DPattern) : DPattern)) st1.2.1 ((⟨y3.Kind, (w4 (st1.1 + 1)), y3.Text, y3.Kids⟩ : DPattern) : DPattern))) st1.2.1 ((⟨y5.Kind, y5.Num, y4, y5.Kids⟩ : DPattern) : DPattern))) st1.2.1 ((⟨y6.Kind, y6.Num, y6.Text, y7.2⟩ : DPattern) : DPattern))))))))))) else (some (.inr (st1.1, st1.2.2))))) (a1, 0, a0)).bind fun y1 => (some (y1.1, y1.2)))
theorem f3_ (R_21 : (Sl DPattern) → Int → Option (Int × (Sl DPattern))) (hR_21 : cw_ R_21) : cw_ (bi_ R_21) := by
 intro a0 a1 r h wp0_1 p0_1
 unfold bi_ at h
 refine dA_ rfl rfl ok_21 rfl ?_
 intro σ0 σ F σk s hS hH
 have hp0_1 : ap_ p0_1 := Heap.one hH
 have hS := af_ (L' := [(0, p0_1), (1, i4 a1)]) hS (by kernel_rfl)
 refine t_go h hS hH ?_
 refine t_RN ?_
 refine t_RN ?_
 refine aU_ (fun st1 fr => Sub [(0, p0_1), (1, i4 st1.1), (5, i4 st1.2.1)] fr.s ∧ Heap σ0 fr.σ [.own true wp0_1 p0_1 st1.2.2.t, .keep F σk]) (fun y1 e fr => e = (.exit 0) ∧ Sub [(1, i4 y1.1)] fr.s ∧ Heap σ0 fr.σ [.own true wp0_1 p0_1 y1.2.t, .keep F σk]) (fun hS hH => ⟨(af_ hS (by kernel_rfl)), hH⟩) (fun st1 x fr h HI => ?_) fun y1 e fr h HF => ?_
 ·obtain ⟨s, σ⟩ := fr; obtain ⟨hS, hH⟩ := HI
  refine t_bk h hS hH ?_
  refine t_RU 2 ?_
  refine hl_ (a := st1.2.2) 0 ?_
  refine t_N ?_
  refine t_if (fun hc1 => ?_) fun hc1 => ?_
  ·refine t_RU 3 ?_
   refine ex_ 0 (fun hb1 hb1e y2 hy2 hl_hb1 => ?_)
   refine t_U 1 ?_
   intro h s σ hS hH
   refine dq_ (ents := []) (a := st1.2.2) (j := st1.2.1) (y := y2) (y' := ((⟨st1.1, y2.Num, y2.Text, y2.Kids⟩ : DPattern) : DPattern)) (off := 0) (c := [i4 y2.Kind, i4 y2.Num, .str y2.Text, y2.Kids.t]) (us := [i4 st1.1]) (vs := [i4 st1.1]) (v := i4 st1.1) rfl hS hH hl_hb1 rfl rfl rfl (by kernel_rfl) (by kernel_rfl) rfl hy2 (DPattern.cells_eq _) (HLi HL.nil) rfl (by rw [DPattern.enc_eq]; rfl) ?_; intro σ s hH hS
   refine t_bk h hS hH ?_
   refine t_N ?_
   refine t_RN ?_
   refine t_RU 3 ?_
   refine ex_ 0 (fun hb2 hb2e y3 hy3 hl_hb2 => ?_)
   refine t_U 1 ?_
   intro h s σ hS hH
   refine dq_ (ents := []) (a := (setS st1.2.2 st1.2.1 ((⟨st1.1, y2.Num, y2.Text, y2.Kids⟩ : DPattern) : DPattern))) (j := st1.2.1) (y := y3) (y' := ((⟨y3.Kind, (w4 (st1.1 + 1)), y3.Text, y3.Kids⟩ : DPattern) : DPattern)) (off := 1) (c := [i4 y3.Kind, i4 y3.Num, .str y3.Text, y3.Kids.t]) (us := [i4 (w4 (st1.1 + 1))]) (vs := [i4 (w4 (st1.1 + 1))]) (v := i4 (w4 (st1.1 + 1))) rfl hS hH hl_hb2 rfl rfl rfl (by kernel_rfl) (by kernel_rfl) rfl hy3 (DPattern.cells_eq _) (HLi HL.nil) rfl (by rw [DPattern.enc_eq]; rfl) ?_; intro σ s hH hS
   refine t_bk h hS hH ?_
   refine t_N ?_
   refine t_RN ?_
   refine t_RU 3 ?_
   refine ar_ fun y4 hy4 => ?_
   refine ex_ 0 (fun hb3 hb3e y5 hy5 hl_hb3 => ?_)
   refine t_U 1 ?_
   intro h s σ hS hH
   refine dq_ (ents := []) (a := (setS (setS st1.2.2 st1.2.1 ((⟨st1.1, y2.Num, y2.Text, y2.Kids⟩ : DPattern) : DPattern)) st1.2.1 ((⟨y3.Kind, (w4 (st1.1 + 1)), y3.Text, y3.Kids⟩ : DPattern) : DPattern))) (j := st1.2.1) (y := y5) (y' := ((⟨y5.Kind, y5.Num, y4, y5.Kids⟩ : DPattern) : DPattern)) (off := 2) (c := [i4 y5.Kind, i4 y5.Num, .str y5.Text, y5.Kids.t]) (us := [.str y4]) (vs := [.str y4]) (v := .str y4) rfl hS hH hl_hb3 rfl rfl rfl (by kernel_rfl) (by kernel_rfl) rfl hy5 (DPattern.cells_eq _) (HLs HL.nil) rfl (by rw [DPattern.enc_eq]; rfl) ?_; intro σ s hH hS
   refine t_bk h hS hH ?_
   refine t_N ?_
   refine t_RN ?_
   refine t_RU 2 ?_
   refine ex_ 0 (fun hb4 hb4e y6 hy6 hl_hb4 => ?_)
   refine t_U 1 ?_
   intro h s σ hS hH
   refine mi_ (a := (setS ((setS (setS st1.2.2 st1.2.1 ((⟨st1.1, y2.Num, y2.Text, y2.Kids⟩ : DPattern) : DPattern)) st1.2.1 ((⟨y3.Kind, (w4 (st1.1 + 1)), y3.Text, y3.Kids⟩ : DPattern) : DPattern))) st1.2.1 ((⟨y5.Kind, y5.Num, y4, y5.Kids⟩ : DPattern) : DPattern))) (j := st1.2.1) (y := y6) (off := 3) (c := [i4 y6.Kind, i4 y6.Num, .str y6.Text, y6.Kids.t]) (q := (y6.Kids : Sl DPattern)) (fun _ _ _ _ _ => trivial) rfl hS hH hl_hb4 rfl hy6 (DPattern.cells_eq _) (by kernel_rfl) rfl rfl ?_; intro F1 σk1 t1 s ht1 hH hcl1 hcl1s hcl1p hcl1k hcl1f hS
   refine t_bk h hS hH ?_
   refine t_U 1 ?_
   refine ba_ (fun y7 hs hy7 hl => ?_) (hr := by exact fun y7 hy7 => hR_21 _ _ y7 hy7 0 t1)
   obtain rfl := len0 hl
   refine cj_ ?_
   refine t_U 1 ?_
   intro h s σ hS hH
   have hH := hcl1 _ _ _ ((⟨y6.Kind, y6.Num, y6.Text, y7.2⟩ : DPattern) : DPattern) (by rw [DPattern.enc_eq]; rfl) hH
   have hH : Heap σ0 σ [.own true wp0_1 p0_1 (setS ((setS ((setS (setS st1.2.2 st1.2.1 ((⟨st1.1, y2.Num, y2.Text, y2.Kids⟩ : DPattern) : DPattern)) st1.2.1 ((⟨y3.Kind, (w4 (st1.1 + 1)), y3.Text, y3.Kids⟩ : DPattern) : DPattern))) st1.2.1 ((⟨y5.Kind, y5.Num, y4, y5.Kids⟩ : DPattern) : DPattern))) st1.2.1 ((⟨y6.Kind, y6.Num, y6.Text, y7.2⟩ : DPattern) : DPattern)).t, .keep F σk] := hH
   refine t_bk h hS hH ?_
   refine t_N ?_
   refine t_RN ?_
   exact t_e fun he hS hH => he ▸ ⟨(af_ hS (by kernel_rfl)), hH⟩
  exact t_e fun he hS hH => he ▸ ⟨rfl, (af_ hS (by kernel_rfl)), hH⟩
 obtain ⟨s, σ⟩ := fr
 obtain ⟨rfl, hS, hH⟩ := HF
 refine t_bx h hS hH ?_
 refine t_RN ?_
 intro h s σ hS hH
 obtain rfl := si_1 h
 exact aW_ [] (b1_ (v := i4 y1.1) hS rfl r_nil) rfl rfl hH
noncomputable def BG_laws_markPatternS : Nat → ((Sl DPattern) → Int → Option (Int × (Sl DPattern)))
 | 0 => (fun _ _ => none)
 | n + 1 => bi_ (BG_laws_markPatternS n)
theorem uBG_laws_markPatternS : ∀ n, cw_ ((BG_laws_markPatternS n))
 | 0 => (by intro _ _ r h; have h : none = some r := h; cases h)
 | n + 1 => f3_ (BG_laws_markPatternS n) (uBG_laws_markPatternS n)
noncomputable def a1_ (a0 : (Sl DPattern)) (a1 : Int) : Option (Int × (Sl DPattern)) := (BG_laws_markPatternS bigN) a0 a1
theorem el_ (a0 : (Sl DPattern)) (a1 : Int) (r : (Int × (Sl DPattern))) (h : a1_ a0 a1 = some r) (wp0_1 : Nat) (p0_1 : T) : RawS Try.prog md ext 21 [p0_1, i4 a1] 0 (fun hs => E_i64 r.1) [.own true wp0_1 p0_1 a0.t] (fun hs => [.own true wp0_1 p0_1 r.2.t]) := (uBG_laws_markPatternS bigN) a0 a1 r h wp0_1 p0_1
noncomputable def bD_ (a0 : DPattern) (a1 : Int) : Option (Int × DPattern) := ((a1_ a0.Kids a1).bind fun y1 => (some (y1.1, (⟨a0.Kind, a0.Num, a0.Text, y1.2⟩ : DPattern))))
theorem gN_ (a0 : DPattern) (a1 : Int) (r : (Int × DPattern)) (h : bD_ a0 a1 = some r) (wp0_1 : Nat) (p0_1 : T) : RawS Try.prog md ext 22 [.agg [i4 a0.Kind, i4 a0.Num, .str a0.Text, p0_1], i4 a1] 0 (fun hs => E_i64 r.1) [.own true wp0_1 p0_1 a0.Kids.t] (fun hs => [.own true wp0_1 p0_1 r.2.Kids.t]) := by
 unfold bD_ at h
 refine dA_ rfl rfl ok_22 rfl ?_
 intro σ0 σ F σk s hS hH
 have hp0_1 : ap_ p0_1 := Heap.one hH
 have hS := af_ (L' := [(0, .agg [i4 a0.Kind, i4 a0.Num, .str a0.Text, p0_1]), (1, i4 a1)]) hS (by kernel_rfl)
 refine t_go h hS hH ?_
 refine t_R ?_
 refine bX_ (fun b1 => ?_) (h1 := by simp [hp0_1.1, hp0_1.2])
 refine t_N ?_
 refine t_RU 1 ?_
 refine ag_ 0 ?_
 refine t_U 1 ?_
 refine t_h Heap.up1 ?_
 refine ba_ (fun y1 hs hy1 hl => ?_) (hr := by exact fun y1 hy1 => el_ _ _ y1 hy1 wp0_1 p0_1)
 obtain rfl := len0 hl
 refine cj_ ?_
 refine t_N ?_
 refine t_RN ?_
 intro h s σ hS hH
 obtain rfl := si_1 h
 exact aW_ [] (b1_ (v := i4 y1.1) hS rfl r_nil) rfl rfl (Heap.sel hH [0, 2] rfl (by kernel_rfl))
noncomputable def bK_ (a0 : (Sl ac_)) (a1 : Int) : Option (Int × (Sl ac_)) := ((ax_ (S := (Int × Int × (Sl ac_))) (R := (Int × (Sl ac_))) (fun st1 => (if (decide (st1.2.1 < (st1.2.2.l.length : Int))) = true then ((aJ_ st1.1).bind fun y2 => ((elt st1.2.2 st1.2.1).bind fun y3 => ((elt (setS st1.2.2 st1.2.1 ((⟨y2, y3.Pattern⟩ : ac_) : ac_)) st1.2.1).bind fun y4 => ((elt ((setS (setS st1.2.2 st1.2.1 ((⟨y2, y3.Pattern⟩ : ac_) : ac_)) st1.2.1 ((⟨y4.Name, (⟨(w4 (st1.1 + 1)), y4.Pattern.Num, y4.Pattern.Text, y4.Pattern.Kids⟩ : DPattern)⟩ : ac_) : ac_))) st1.2.1).bind fun y5 => ((aJ_ (w4 ((w4 ((w4 (st1.1 + 1)) + 1)) + 1))).bind fun y6 => ((elt ((setS ((setS (setS st1.2.2 st1.2.1 ((⟨y2, y3.Pattern⟩ : ac_) : ac_)) st1.2.1 ((⟨y4.Name, (⟨(w4 (st1.1 + 1)), y4.Pattern.Num, y4.Pattern.Text, y4.Pattern.Kids⟩ : DPattern)⟩ : ac_) : ac_))) st1.2.1 ((⟨y5.Name, (⟨y5.Pattern.Kind, (w4 ((w4 (st1.1 + 1)) + 1)), y5.Pattern.Text, y5.Pattern.Kids⟩ : DPattern)⟩ : ac_) : ac_))) st1.2.1).bind fun y7 => ((elt ((setS ((setS ((setS (setS st1.2.2 st1.2.1 ((⟨y2, y3.Pattern⟩ : ac_) : ac_)) st1.2.1 ((⟨y4.Name, (⟨(w4 (st1.1 + 1)), y4.Pattern.Num, y4.Pattern.Text, y4.Pattern.Kids⟩ : DPattern)⟩ : ac_) : ac_))) st1.2.1 ((⟨y5.Name, (⟨y5.Pattern.Kind, (w4 ((w4 (st1.1 + 1)) + 1)), y5.Pattern.Text, y5.Pattern.Kids⟩ : DPattern)⟩ : ac_) : ac_))) st1.2.1 ((⟨y7.Name, (⟨y7.Pattern.Kind, y7.Pattern.Num, y6, y7.Pattern.Kids⟩ : DPattern)⟩ : ac_) : ac_))) st1.2.1).bind fun y8 => ((a1_ y8.Pattern.Kids (w4 ((w4 ((w4 ((w4 (st1.1 + 1)) + 1)) + 1)) + 1))).bind fun y9 => (some (.inl (y9.1, (w4 (st1.2.1 + 1)), (setS ((setS ((setS ((setS (setS st1.2.2 st1.2.1 ((⟨y2, y3.Pattern⟩ : ac_) : ac_)) st1.2.1 ((⟨y4.Name, (⟨(w4 (st1.1 + 1)), y4.Pattern.Num, y4.Pattern.Text, y4.Pattern.Kids⟩ : DPattern)⟩ : ac_) : ac_))) st1.2.1 ((⟨y5.Name, (⟨y5.Pattern.Kind, (w4 ((w4 (st1.1 + 1)) + 1)), y5.Pattern.Text, y5.Pattern.Kids⟩ : DPattern)⟩ : ac_) : ac_))) st1.2.1 ((⟨y7.Name, (⟨y7.Pattern.Kind, y7.Pattern.Num, y6, y7.Pattern.Kids⟩ : DPattern)⟩ : ac_) : ac_))) st1.2.1 ((⟨y8.Name, (⟨y8.Pattern.Kind, y8.Pattern.Num, y8.Pattern.Text, y9.2⟩ : DPattern)⟩ : ac_) : ac_))))))))))))) else (some (.inr (st1.1, st1.2.2))))) (a1, 0, a0)).bind fun y1 => (some (y1.1, y1.2)))
theorem g6_ (a0 : (Sl ac_)) (a1 : Int) (r : (Int × (Sl ac_))) (h : bK_ a0 a1 = some r) (wp0_1 : Nat) (p0_1 : T) : RawS Try.prog md ext 31 [p0_1, i4 a1] 0 (fun hs => E_i64 r.1) [.own true wp0_1 p0_1 a0.t] (fun hs => [.own true wp0_1 p0_1 r.2.t]) := by
 unfold bK_ at h
 refine dA_ rfl rfl ok_31 rfl ?_
 intro σ0 σ F σk s hS hH
 have hp0_1 : ap_ p0_1 := Heap.one hH
 have hS := af_ (L' := [(0, p0_1), (1, i4 a1)]) hS (by kernel_rfl)
 refine t_go h hS hH ?_
 refine t_RN ?_
 refine t_RN ?_
 refine aU_ (fun st1 fr => Sub [(0, p0_1), (1, i4 st1.1), (5, i4 st1.2.1)] fr.s ∧ Heap σ0 fr.σ [.own true wp0_1 p0_1 st1.2.2.t, .keep F σk]) (fun y1 e fr => e = (.exit 0) ∧ Sub [(1, i4 y1.1)] fr.s ∧ Heap σ0 fr.σ [.own true wp0_1 p0_1 y1.2.t, .keep F σk]) (fun hS hH => ⟨(af_ hS (by kernel_rfl)), hH⟩) (fun st1 x fr h HI => ?_) fun y1 e fr h HF => ?_
 ·obtain ⟨s, σ⟩ := fr; obtain ⟨hS, hH⟩ := HI
  refine t_bk h hS hH ?_
  refine t_RU 2 ?_
  refine hl_ (a := st1.2.2) 0 ?_
  refine t_N ?_
  refine t_if (fun hc1 => ?_) fun hc1 => ?_
  ·refine t_RU 3 ?_
   refine ar_ fun y2 hy2 => ?_
   refine ex_ 0 (fun hb1 hb1e y3 hy3 hl_hb1 => ?_)
   refine t_U 1 ?_
   intro h s σ hS hH
   refine dq_ (ents := []) (a := st1.2.2) (j := st1.2.1) (y := y3) (y' := ((⟨y2, y3.Pattern⟩ : ac_) : ac_)) (off := 0) (c := [.str y3.Name, i4 y3.Pattern.Kind, i4 y3.Pattern.Num, .str y3.Pattern.Text, y3.Pattern.Kids.t]) (us := [.str y2]) (vs := [.str y2]) (v := .str y2) rfl hS hH hl_hb1 rfl rfl rfl (by kernel_rfl) (by kernel_rfl) rfl hy3 rfl (HLs HL.nil) rfl (by kernel_rfl) ?_; intro σ s hH hS
   refine t_bk h hS hH ?_
   refine t_N ?_
   refine t_RN ?_
   refine t_RU 3 ?_
   refine ex_ 0 (fun hb2 hb2e y4 hy4 hl_hb2 => ?_)
   refine t_U 2 ?_
   intro h s σ hS hH
   refine dq_ (ents := []) (a := (setS st1.2.2 st1.2.1 ((⟨y2, y3.Pattern⟩ : ac_) : ac_))) (j := st1.2.1) (y := y4) (y' := ((⟨y4.Name, (⟨(w4 (st1.1 + 1)), y4.Pattern.Num, y4.Pattern.Text, y4.Pattern.Kids⟩ : DPattern)⟩ : ac_) : ac_)) (off := 1) (c := [.str y4.Name, i4 y4.Pattern.Kind, i4 y4.Pattern.Num, .str y4.Pattern.Text, y4.Pattern.Kids.t]) (us := [i4 (w4 (st1.1 + 1))]) (vs := [i4 (w4 (st1.1 + 1))]) (v := i4 (w4 (st1.1 + 1))) rfl hS hH hl_hb2 rfl rfl rfl (by kernel_rfl) (by kernel_rfl) rfl hy4 rfl (HLi HL.nil) rfl (by kernel_rfl) ?_; intro σ s hH hS
   refine t_bk h hS hH ?_
   refine t_N ?_
   refine t_RN ?_
   refine t_RU 3 ?_
   refine ex_ 0 (fun hb3 hb3e y5 hy5 hl_hb3 => ?_)
   refine t_U 2 ?_
   intro h s σ hS hH
   refine dq_ (ents := []) (a := (setS (setS st1.2.2 st1.2.1 ((⟨y2, y3.Pattern⟩ : ac_) : ac_)) st1.2.1 ((⟨y4.Name, (⟨(w4 (st1.1 + 1)), y4.Pattern.Num, y4.Pattern.Text, y4.Pattern.Kids⟩ : DPattern)⟩ : ac_) : ac_))) (j := st1.2.1) (y := y5) (y' := ((⟨y5.Name, (⟨y5.Pattern.Kind, (w4 ((w4 (st1.1 + 1)) + 1)), y5.Pattern.Text, y5.Pattern.Kids⟩ : DPattern)⟩ : ac_) : ac_)) (off := 2) (c := [.str y5.Name, i4 y5.Pattern.Kind, i4 y5.Pattern.Num, .str y5.Pattern.Text, y5.Pattern.Kids.t]) (us := [i4 (w4 ((w4 (st1.1 + 1)) + 1))]) (vs := [i4 (w4 ((w4 (st1.1 + 1)) + 1))]) (v := i4 (w4 ((w4 (st1.1 + 1)) + 1))) rfl hS hH hl_hb3 rfl rfl rfl (by kernel_rfl) (by kernel_rfl) rfl hy5 rfl (HLi HL.nil) rfl (by kernel_rfl) ?_; intro σ s hH hS
   refine t_bk h hS hH ?_
   refine t_N ?_
   refine t_RN ?_
   refine t_RU 3 ?_
   refine ar_ fun y6 hy6 => ?_
   refine ex_ 0 (fun hb4 hb4e y7 hy7 hl_hb4 => ?_)
   refine t_U 2 ?_
   intro h s σ hS hH
   refine dq_ (ents := []) (a := (setS ((setS (setS st1.2.2 st1.2.1 ((⟨y2, y3.Pattern⟩ : ac_) : ac_)) st1.2.1 ((⟨y4.Name, (⟨(w4 (st1.1 + 1)), y4.Pattern.Num, y4.Pattern.Text, y4.Pattern.Kids⟩ : DPattern)⟩ : ac_) : ac_))) st1.2.1 ((⟨y5.Name, (⟨y5.Pattern.Kind, (w4 ((w4 (st1.1 + 1)) + 1)), y5.Pattern.Text, y5.Pattern.Kids⟩ : DPattern)⟩ : ac_) : ac_))) (j := st1.2.1) (y := y7) (y' := ((⟨y7.Name, (⟨y7.Pattern.Kind, y7.Pattern.Num, y6, y7.Pattern.Kids⟩ : DPattern)⟩ : ac_) : ac_)) (off := 3) (c := [.str y7.Name, i4 y7.Pattern.Kind, i4 y7.Pattern.Num, .str y7.Pattern.Text, y7.Pattern.Kids.t]) (us := [.str y6]) (vs := [.str y6]) (v := .str y6) rfl hS hH hl_hb4 rfl rfl rfl (by kernel_rfl) (by kernel_rfl) rfl hy7 rfl (HLs HL.nil) rfl (by kernel_rfl) ?_; intro σ s hH hS
   refine t_bk h hS hH ?_
   refine t_N ?_
   refine t_RN ?_
   refine t_RU 2 ?_
   refine ex_ 0 (fun hb5 hb5e y8 hy8 hl_hb5 => ?_)
   refine t_U 2 ?_
   intro h s σ hS hH
   refine mi_ (a := (setS ((setS ((setS (setS st1.2.2 st1.2.1 ((⟨y2, y3.Pattern⟩ : ac_) : ac_)) st1.2.1 ((⟨y4.Name, (⟨(w4 (st1.1 + 1)), y4.Pattern.Num, y4.Pattern.Text, y4.Pattern.Kids⟩ : DPattern)⟩ : ac_) : ac_))) st1.2.1 ((⟨y5.Name, (⟨y5.Pattern.Kind, (w4 ((w4 (st1.1 + 1)) + 1)), y5.Pattern.Text, y5.Pattern.Kids⟩ : DPattern)⟩ : ac_) : ac_))) st1.2.1 ((⟨y7.Name, (⟨y7.Pattern.Kind, y7.Pattern.Num, y6, y7.Pattern.Kids⟩ : DPattern)⟩ : ac_) : ac_))) (j := st1.2.1) (y := y8) (off := 4) (c := [.str y8.Name, i4 y8.Pattern.Kind, i4 y8.Pattern.Num, .str y8.Pattern.Text, y8.Pattern.Kids.t]) (q := (y8.Pattern.Kids : Sl DPattern)) (fun _ _ _ _ _ => trivial) rfl hS hH hl_hb5 rfl hy8 rfl (by kernel_rfl) rfl rfl ?_; intro F1 σk1 t1 s ht1 hH hcl1 hcl1s hcl1p hcl1k hcl1f hS
   refine t_bk h hS hH ?_
   refine t_U 1 ?_
   refine ba_ (fun y9 hs hy9 hl => ?_) (hr := by exact fun y9 hy9 => el_ _ _ y9 hy9 0 t1)
   obtain rfl := len0 hl
   refine cj_ ?_
   refine t_U 1 ?_
   intro h s σ hS hH
   have hH := hcl1 _ _ _ ((⟨y8.Name, (⟨y8.Pattern.Kind, y8.Pattern.Num, y8.Pattern.Text, y9.2⟩ : DPattern)⟩ : ac_) : ac_) rfl hH
   have hH : Heap σ0 σ [.own true wp0_1 p0_1 (setS ((setS ((setS ((setS (setS st1.2.2 st1.2.1 ((⟨y2, y3.Pattern⟩ : ac_) : ac_)) st1.2.1 ((⟨y4.Name, (⟨(w4 (st1.1 + 1)), y4.Pattern.Num, y4.Pattern.Text, y4.Pattern.Kids⟩ : DPattern)⟩ : ac_) : ac_))) st1.2.1 ((⟨y5.Name, (⟨y5.Pattern.Kind, (w4 ((w4 (st1.1 + 1)) + 1)), y5.Pattern.Text, y5.Pattern.Kids⟩ : DPattern)⟩ : ac_) : ac_))) st1.2.1 ((⟨y7.Name, (⟨y7.Pattern.Kind, y7.Pattern.Num, y6, y7.Pattern.Kids⟩ : DPattern)⟩ : ac_) : ac_))) st1.2.1 ((⟨y8.Name, (⟨y8.Pattern.Kind, y8.Pattern.Num, y8.Pattern.Text, y9.2⟩ : DPattern)⟩ : ac_) : ac_)).t, .keep F σk] := hH
   refine t_bk h hS hH ?_
   refine t_N ?_
   refine t_RN ?_
   exact t_e fun he hS hH => he ▸ ⟨(af_ hS (by kernel_rfl)), hH⟩
  exact t_e fun he hS hH => he ▸ ⟨rfl, (af_ hS (by kernel_rfl)), hH⟩
 obtain ⟨s, σ⟩ := fr
 obtain ⟨rfl, hS, hH⟩ := HF
 refine t_bx h hS hH ?_
 refine t_RN ?_
 intro h s σ hS hH
 obtain rfl := si_1 h
 exact aW_ [] (b1_ (v := i4 y1.1) hS rfl r_nil) rfl rfl hH
noncomputable def bO_ (a0 : (Sl (Iv .i64))) (a1 : Int) : Option (Int × (Sl (Iv .i64))) := ((ax_ (S := (Int × Int × (Sl (Iv .i64)))) (R := (Int × (Sl (Iv .i64)))) (fun st1 => (if (decide (st1.2.1 < (st1.2.2.l.length : Int))) = true then ((elt st1.2.2 st1.2.1).bind fun y2 => (some (.inl ((w4 (st1.1 + 1)), (w4 (st1.2.1 + 1)), (setS st1.2.2 st1.2.1 (⟨st1.1⟩ : (Iv .i64))))))) else (some (.inr (st1.1, st1.2.2))))) (a1, 0, a0)).bind fun y1 => (some (y1.1, y1.2)))
theorem hh_ (a0 : (Sl (Iv .i64))) (a1 : Int) (r : (Int × (Sl (Iv .i64)))) (h : bO_ a0 a1 = some r) (wp0_1 : Nat) (p0_1 : T) : RawS Try.prog md ext 46 [p0_1, i4 a1] 0 (fun hs => E_i64 r.1) [.own true wp0_1 p0_1 a0.t] (fun hs => [.own true wp0_1 p0_1 r.2.t]) := by
 unfold bO_ at h
 refine dA_ rfl rfl ok_46 rfl ?_
 intro σ0 σ F σk s hS hH
 have hp0_1 : ap_ p0_1 := Heap.one hH
 have hS := af_ (L' := [(0, p0_1), (1, i4 a1)]) hS (by kernel_rfl)
 refine t_go h hS hH ?_
 refine t_RN ?_
 refine t_RN ?_
 refine aU_ (fun st1 fr => Sub [(0, p0_1), (1, i4 st1.1), (5, i4 st1.2.1)] fr.s ∧ Heap σ0 fr.σ [.own true wp0_1 p0_1 st1.2.2.t, .keep F σk]) (fun y1 e fr => e = (.exit 0) ∧ Sub [(1, i4 y1.1)] fr.s ∧ Heap σ0 fr.σ [.own true wp0_1 p0_1 y1.2.t, .keep F σk]) (fun hS hH => ⟨(af_ hS (by kernel_rfl)), hH⟩) (fun st1 x fr h HI => ?_) fun y1 e fr h HF => ?_
 ·obtain ⟨s, σ⟩ := fr; obtain ⟨hS, hH⟩ := HI
  refine t_bk h hS hH ?_
  refine t_RU 2 ?_
  refine hl_ (a := st1.2.2) 0 ?_
  refine t_N ?_
  refine t_if (fun hc1 => ?_) fun hc1 => ?_
  ·refine t_RU 3 ?_
   refine ex_ 0 (fun hb1 hb1e y2 hy2 hl_hb1 => ?_)
   intro h s σ hS hH
   refine dq_ (ents := []) (a := st1.2.2) (j := st1.2.1) (y := y2) (y' := (⟨st1.1⟩ : (Iv .i64))) (off := 0) (c := [i4 y2.v]) (us := [i4 st1.1]) (vs := [i4 st1.1]) (v := i4 st1.1) rfl hS hH hl_hb1 rfl rfl rfl (by kernel_rfl) (by kernel_rfl) rfl hy2 rfl (HLi HL.nil) rfl (by kernel_rfl) ?_; intro σ s hH hS
   refine t_bk h hS hH ?_
   refine t_N ?_
   refine t_RN ?_
   refine t_RN ?_
   exact t_e fun he hS hH => he ▸ ⟨(af_ hS (by kernel_rfl)), hH⟩
  exact t_e fun he hS hH => he ▸ ⟨rfl, (af_ hS (by kernel_rfl)), hH⟩
 obtain ⟨s, σ⟩ := fr
 obtain ⟨rfl, hS, hH⟩ := HF
 refine t_bx h hS hH ?_
 refine t_RN ?_
 intro h s σ hS hH
 obtain rfl := si_1 h
 exact aW_ [] (b1_ (v := i4 y1.1) hS rfl r_nil) rfl rfl hH
noncomputable def ct_ (a0 : (Sl ac_)) (a1 : DPattern) (a2 : ByteArray) (a3 : Int) (a4 : Int) : Option Bool := (if (decide (1048576 < (a2.size : Int))) = true then (some true) else ((d0_ a0 1048576).bind fun y1 => (if (decide (y1 < 0)) = true then (some true) else ((bf_ a1 y1).bind fun y2 => (if (decide (y2 < 0)) = true then (some true) else ((bN_ a0).bind fun y3 => ((a0_ a1).bind fun y4 => ((fi_ y3 y4 a2 a3 a4).bind fun y5 => ((bN_ a0).bind fun y6 => ((a0_ a1).bind fun y7 => ((dR_ y6 y7 a2 a3 a4).bind fun y8 => ((ce_ y8.1 y5.1).bind fun y9 => (if (!y9) = true then (some false) else (if (!decide (y8.2 = y5.2)) = true then (some false) else ((bN_ a0).bind fun y10 => ((em_ y6 y10).bind fun y11 => (if (!y11) = true then (some false) else ((a0_ a1).bind fun y12 => ((bg_ y7 y12).bind fun y13 => (if (!y13) = true then (some false) else ((bK_ y6 1).bind fun y14 => ((bD_ y7 y14.1).bind fun y15 => (if (decide (y15.1 < 0)) = true then (some false) else ((ce_ y8.1 y5.1).bind fun y16 => (if (!y16) = true then (some false) else ((bO_ y8.1 1).bind fun y17 => ((ci_ y17.2 1).bind fun y18 => (if (decide (y18 < 0)) = true then (some false) else (if (!decide (y18 = y17.1)) = true then (some false) else ((bN_ a0).bind fun y19 => ((a0_ a1).bind fun y20 => ((dR_ y19 y20 a2 a3 a4).bind fun y21 => ((ce_ y21.1 y5.1).bind fun y22 => (if (!y22) = true then (some false) else (if (!decide (y21.2 = y5.2)) = true then (some false) else ((ci_ y17.2 1).bind fun y23 => (if (decide (y23 < 0)) = true then (some false) else (if (!decide (y23 = y17.1)) = true then (some false) else (some true)))))))))))))))))))))))))))))))))))))))
theorem f2_ (a0 : (Sl ac_)) (a1 : DPattern) (a2 : ByteArray) (a3 : Int) (a4 : Int) (r : Bool) (h : ct_ a0 a1 a2 a3 a4 = some r) : dI_ a0 a1 a2 a3 a4 = some r := by
 unfold ct_ at h
 refine k_W ok_9 E_bool_inj h (fun σ0 => ?_)
 refine t_R ?_
 refine bX_ (fun b1 => ?_)
 refine t_N ?_
 refine t_RN ?_
 refine t_if (fun hc1 => ?_) fun hc1 => ?_
 ·refine t_RN ?_
  exact k_eW (rT rN) E_bool_p
 refine t_RN ?_
 refine t_RU 2 ?_
 refine ar_ fun y1 hy1 => ?_
 refine t_N ?_
 refine t_RN ?_
 refine t_if (fun hc2 => ?_) fun hc2 => ?_
 ·refine t_RN ?_
  exact k_eW (rT rN) E_bool_p
 refine t_R ?_
 refine ag_ 0 ?_
 refine t_U 1 ?_
 refine ar_ fun y2 hy2 => ?_
 refine t_N ?_
 refine t_RN ?_
 refine t_if (fun hc3 => ?_) fun hc3 => ?_
 ·refine t_RN ?_
  exact k_eW (rT rN) E_bool_p
 refine a6_ [] ext_x fun mb σs hn0 hlt hlto => ?_
 have hlt_b1 : b1 < mb := hlt b1 _ (List.Mem.head _)
 refine t_U 1 ?_
 refine bv_ (fun y3 t1 hy3 ht1 => ?_)
 refine ag_ 1 ?_ (hlt := by exact (Or.inr ⟨hlt_b1, Wc.nil⟩))
 refine bv_ (fun y4 t2 hy4 ht2 => ?_)
 refine t_U 3 ?_
 refine t_h Heap.up1 ?_
 refine bv_ (fun y5 t3 hy5 ht3 => ?_)
 refine t_N ?_
 refine t_RU 1 ?_
 refine bv_ (fun y6 t4 hy6 ht4 => ?_)
 refine t_N ?_
 refine t_R ?_
 refine ag_ 4 ?_
 refine bv_ (fun y7 t5 hy7 ht5 => ?_)
 refine c5_ fun b2 => ?_
 refine ch_ 0 ?_ (h1 := by simp [ht5.1, ht5.2])
 refine t_N ?_
 refine t_RU 1 ?_
 refine ag_ 0 ?_
 refine t_U 3 ?_
 refine t_h (·.up1.up2) ?_
 refine bv_ (fun y8 t6 hy8 ht6 => ?_)
 refine t_N ?_
 refine t_RU 2 ?_
 refine t_h (·.up4.up1) ?_
 refine eI_ (fun y9 hy9 => ?_)
 refine t_U 2 ?_
 refine aL_ 64 (fun hc4 => ?_) fun hc4 => ?_
 ·refine t_N ?_
  refine t_cT rfl ?_
  refine t_RN ?_
  exact k_eW (rT rN) E_bool_p
 refine t_N ?_
 refine t_if (fun hc5 => ?_) fun hc5 => ?_
 ·refine t_RN ?_
  exact k_eW (rT rN) E_bool_p
 refine t_RU 2 ?_
 refine bv_ (fun y10 t7 hy10 ht7 => ?_)
 refine t_h Heap.up3 ?_
 refine eI_ (fun y11 hy11 => ?_)
 refine t_N ?_
 refine t_if (fun hc6 => ?_) fun hc6 => ?_
 ·refine t_RN ?_
  exact k_eW (rT rN) E_bool_p
 refine a6_ [] ext_x fun mb σs hn0 hlt hlto => ?_
 have hlt_b2 : b2 < mb := hlt b2 _ (List.Mem.tail _ (List.Mem.tail _ (List.Mem.tail _ (List.Mem.tail _ (List.Mem.tail _ (List.Mem.head _))))))
 refine ag_ 5 ?_ (hlt := by exact (Or.inr ⟨hlt_b2, Wc.nil⟩))
 refine ag_ 8 ?_ (hlt := by exact (Or.inl (by kernel_rfl)))
 refine bv_ (fun y12 t8 hy12 ht8 => ?_)
 refine t_h Heap.up5 ?_
 refine eI_ (fun y13 hy13 => ?_)
 refine t_N ?_
 refine t_if (fun hc7 => ?_) fun hc7 => ?_
 ·refine t_RN ?_
  exact k_eW (rT rN) E_bool_p
 refine t_RN ?_
 refine t_RU 2 ?_
 refine t_h Heap.up2 ?_
 refine ba_ (fun y14 hs hy14 hl => ?_) (hr := by exact fun y14 hy14 => g6_ _ _ y14 hy14 5 t4)
 obtain rfl := len0 hl
 refine cj_ ?_
 refine t_N ?_
 refine t_R ?_
 refine ag_ 6 ?_
 refine t_U 1 ?_
 refine t_h Heap.up1 ?_
 refine ba_ (fun y15 hs hy15 hl => ?_) (hr := by exact fun y15 hy15 => gN_ _ _ y15 hy15 4 t5)
 obtain rfl := len0 hl
 refine cj_ ?_
 refine t_N ?_
 refine t_RU 3 ?_
 refine aL_ 87 (fun hc8 => ?_) fun hc8 => ?_
 ·refine t_N ?_
  refine t_cT rfl ?_
  refine t_RN ?_
  exact k_eW (rT rN) E_bool_p
 refine t_U 2 ?_
 refine t_h (·.up5.up5) ?_
 refine eI_ (fun y16 hy16 => ?_)
 refine t_U 3 ?_
 refine aL_ 93 (fun hc9 => ?_) fun hc9 => ?_
 ·refine t_N ?_
  refine t_cT rfl ?_
  refine t_RN ?_
  exact k_eW (rT rN) E_bool_p
 refine t_N ?_
 refine t_cF hc5 ?_
 refine t_RN ?_
 refine t_RU 2 ?_
 refine ba_ (fun y17 hs hy17 hl => ?_) (hr := by exact fun y17 hy17 => hh_ _ _ y17 hy17 1 t6)
 obtain rfl := len0 hl
 refine cj_ ?_
 refine t_N ?_
 refine t_RN ?_
 refine t_RU 2 ?_
 refine eI_ (fun y18 hy18 => ?_)
 refine t_N ?_
 refine t_RN ?_
 refine t_if (fun hc10 => ?_) fun hc10 => ?_
 ·refine t_RN ?_
  exact k_eW (rT rN) E_bool_p
 refine t_RN ?_
 refine t_if (fun hc11 => ?_) fun hc11 => ?_
 ·refine t_RN ?_
  exact k_eW (rT rN) E_bool_p
 refine a6_ [] ext_x fun mb σs hn0 hlt hlto => ?_
 have hlt_b1 : b1 < mb := hlt b1 _ (List.Mem.tail _ (List.Mem.tail _ (List.Mem.tail _ (List.Mem.tail _ (List.Mem.tail _ (List.Mem.tail _ (List.Mem.tail _ (List.Mem.tail _ (List.Mem.tail _ (List.Mem.head _))))))))))
 refine t_U 1 ?_
 refine bv_ (fun y19 t9 hy19 ht9 => ?_)
 refine ag_ 10 ?_ (hlt := by exact (Or.inr ⟨hlt_b1, Wc.nil⟩))
 refine bv_ (fun y20 t10 hy20 ht10 => ?_)
 refine t_U 3 ?_
 refine t_h Heap.up1 ?_
 refine bv_ (fun y21 t11 hy21 ht11 => ?_)
 refine t_N ?_
 refine t_RU 2 ?_
 refine t_h (·.up4.up1) ?_
 refine eI_ (fun y22 hy22 => ?_)
 refine t_U 2 ?_
 refine aL_ 124 (fun hc12 => ?_) fun hc12 => ?_
 ·refine t_N ?_
  refine t_cT rfl ?_
  refine t_RN ?_
  exact k_eW (rT rN) E_bool_p
 refine t_N ?_
 refine t_if (fun hc13 => ?_) fun hc13 => ?_
 ·refine t_RN ?_
  exact k_eW (rT rN) E_bool_p
 refine t_RN ?_
 refine t_RU 2 ?_
 refine t_h Heap.up4 ?_
 refine eI_ (fun y23 hy23 => ?_)
 refine t_N ?_
 refine t_RN ?_
 refine t_if (fun hc14 => ?_) fun hc14 => ?_
 ·refine t_RN ?_
  exact k_eW (rT rN) E_bool_p
 refine t_RN ?_
 refine t_if (fun hc15 => ?_) fun hc15 => ?_
 ·refine t_RN ?_
  exact k_eW (rT rN) E_bool_p
 refine t_RN ?_
 exact k_eW (rT rN) E_bool_p
noncomputable def cp_ (a0 : (Sl DPattern)) (a1 : Int) : Option Int := (if (decide ((w4 (a1 - (a0.l.length : Int))) < 0)) = true then (some (-1)) else ((ax_ (S := (Int × Int)) (R := (Int ⊕ Int)) (fun st1 => (if (decide (st1.2 < (a0.l.length : Int))) = true then ((elt a0 st1.2).bind fun y2 => ((bf_ y2 st1.1).bind fun y3 => (if (decide (y3 < 0)) = true then (some (.inr (.inr (-1)))) else (some (.inl (y3, (w4 (st1.2 + 1)))))))) else (some (.inr (.inl st1.1))))) ((w4 (a1 - (a0.l.length : Int))), 0)).bind fun y1 => (Sum.elim (fun y1 => (some y1)) (fun y1 => (some y1)) y1)))
theorem eY_ (a0 : (Sl DPattern)) (a1 : Int) (r : Int) (h : cp_ a0 a1 = some r) : c8_ a0 a1 = some r := by
 unfold cp_ at h
 refine k_W ok_15 E_i64_inj h (fun σ0 => ?_)
 refine t_RN ?_
 refine t_RN ?_
 refine t_RN ?_
 refine t_if (fun hc1 => ?_) fun hc1 => ?_
 ·refine t_RN ?_
  exact k_eW (rT rN) E_i64_p
 refine t_RN ?_
 refine aU_ (fun st1 fr => Sub [(0, a0.t), (1, i4 st1.1), (5, i4 st1.2)] fr.s ∧ Heap σ0 fr.σ []) (fun y1 e fr => (Sum.elim (fun y => e = (.exit 0) ∧ Sub [(1, i4 y)] fr.s ∧ Heap σ0 fr.σ []) (fun y => e = .ret ∧ endW Try.prog (Try.f15.results.toList) σ0 (E_i64 y) .ret fr)) y1) (fun hS hH => ⟨(af_ hS (by kernel_rfl)), hH⟩) (fun st1 x fr h HI => ?_) fun y1 e fr h HF => ?_
 ·obtain ⟨s, σ⟩ := fr; obtain ⟨hS, hH⟩ := HI
  refine t_bk h hS hH ?_
  refine t_RN ?_
  refine t_if (fun hc2 => ?_) fun hc2 => ?_
  ·refine t_RU 2 ?_
   refine bz_ fun y2 rest1 hy2 => ?_
   refine t_U 2 ?_
   refine ar_ fun y3 hy3 => ?_
   refine t_N ?_
   refine t_RN ?_
   refine t_if (fun hc3 => ?_) fun hc3 => ?_
   ·refine t_RN ?_
    exact t_e fun he hS hH => he ▸ ⟨rfl, (eW hS hH (rT rN) E_i64_p)⟩
   refine t_RN ?_
   exact t_e fun he hS hH => he ▸ ⟨(af_ hS (by kernel_rfl)), hH⟩
  exact t_e fun he hS hH => he ▸ ⟨rfl, (af_ hS (by kernel_rfl)), hH⟩
 obtain ⟨s, σ⟩ := fr
 rcases y1 with y1 | y1
 ·have h := el_l h
  obtain ⟨rfl, hS, hH⟩ := HF
  refine t_bx h hS hH ?_
  refine t_RN ?_
  exact k_eW (rT rN) E_i64_p
 have h := el_r h
 obtain ⟨rfl, HE⟩ := HF
 obtain rfl := si_1 h; exact HE
noncomputable def dk_ (a0 : (Sl DPattern)) : Option (Sl DPattern) := ((mkS 56 ((⟨0, 0, ⟨#[]⟩, ⟨true, []⟩⟩ : DPattern) : DPattern) (a0.l.length : Int) (a0.l.length : Int)).bind fun y1 => ((ax_ (S := (Int × (Sl DPattern))) (R := (Sl DPattern)) (fun st1 => (if (decide (st1.1 < (a0.l.length : Int))) = true then ((elt a0 st1.1).bind fun y3 => ((a0_ y3).bind fun y4 => ((elt st1.2 st1.1).bind fun y5 => (some (.inl ((w4 (st1.1 + 1)), (setS st1.2 st1.1 (y4 : DPattern)))))))) else (some (.inr st1.2)))) (0, y1)).bind fun y2 => (some y2)))
theorem g2_ (a0 : (Sl DPattern)) (r : (Sl DPattern)) (h : dk_ a0 = some r) : c7_ a0 = some r := by
 unfold dk_ at h
 refine k_O ok_17 h (fun σ0 => ?_)
 refine t_RN ?_
 refine t_RU 2 ?_
 intro h s σ hS hH
 obtain ⟨y1, hy1, h⟩ := bind_some h
 refine oE_ (z := true) (e := 26) (by_ := 56) (x0 := ((⟨0, 0, ⟨#[]⟩, ⟨true, []⟩⟩ : DPattern) : DPattern)) (fun σ d => by simp [Enc.cells, DPattern.cells, DPattern.cellsK, Iv]) rfl hS hH rfl rfl (by kernel_rfl) (by kernel_rfl) (by kernel_rfl) (by kernel_rfl) rfl hy1 ?_; intro t1 σ s ht1 hH hS
 refine t_bk h hS hH ?_
 refine t_N ?_
 refine t_RN ?_
 refine aU_ (fun st1 fr => Sub [(0, a0.t), (3, t1), (4, i4 st1.1)] fr.s ∧ Heap σ0 fr.σ [.own true 4 t1 st1.2.t]) (fun y2 e fr => e = (.exit 0) ∧ Sub [(3, t1)] fr.s ∧ Heap σ0 fr.σ [.own true 4 t1 y2.t]) (fun hS hH => ⟨(af_ hS (by kernel_rfl)), hH⟩) (fun st1 x fr h HI => ?_) fun y2 e fr h HF => ?_
 ·obtain ⟨s, σ⟩ := fr; obtain ⟨hS, hH⟩ := HI
  refine t_bk h hS hH ?_
  refine t_RN ?_
  refine t_if (fun hc1 => ?_) fun hc1 => ?_
  ·refine t_RU 4 ?_
   refine bz_ fun y3 rest1 hy3 => ?_
   refine t_U 1 ?_
   refine bv_ (fun y4 t2 hy4 ht2 => ?_)
   refine ex_ 1 (fun hb1 hb1e y5 hy5 hl_hb1 => ?_)
   refine t_h Heap.up1 ?_
   intro h s σ hS hH
   refine dq_ (ents := [.own true 4 t2 y4.Kids.t]) (a := st1.2) (j := st1.1) (y := y5) (y' := (y4 : DPattern)) (off := 0) (c := [i4 y5.Kind, i4 y5.Num, .str y5.Text, y5.Kids.t]) (us := [i4 y4.Kind, i4 y4.Num, .str y4.Text, t2]) (vs := [i4 y4.Kind, i4 y4.Num, .str y4.Text, y4.Kids.t]) (v := .agg [i4 y4.Kind, i4 y4.Num, .str y4.Text, t2]) rfl hS hH hl_hb1 rfl rfl rfl (by simp [ht2.1, ht2.2]) (by kernel_rfl) rfl hy5 (DPattern.cells_eq _) (HLi (HLi (HLs (HL.own rfl HL.nil)))) rfl (by rw [DPattern.enc_eq]; rfl) ?_; intro σ s hH hS
   refine t_bk h hS hH ?_
   refine t_N ?_
   refine t_RN ?_
   exact t_e fun he hS hH => he ▸ ⟨(af_ hS (by kernel_rfl)), hH⟩
  exact t_e fun he hS hH => he ▸ ⟨rfl, (af_ hS (by kernel_rfl)), hH⟩
 obtain ⟨s, σ⟩ := fr
 obtain ⟨rfl, hS, hH⟩ := HF
 refine t_bx h hS hH ?_
 refine t_RN ?_
 exact k_eO [t1] (rT rN)
noncomputable def dB_ (a0 : DPattern) (a1 : DPattern) : Option Bool := (if (!decide (a0.Kind = a1.Kind)) = true then (some false) else (if (!decide (a0.Num = a1.Num)) = true then (some false) else (if (!decide (a0.Text = a1.Text)) = true then (some false) else ((dc_ a0.Kids a1.Kids).bind fun y1 => (if (!y1) = true then (some false) else (some true))))))
theorem hu_ (a0 : DPattern) (a1 : DPattern) (r : Bool) (h : dB_ a0 a1 = some r) : bg_ a0 a1 = some r := by
 unfold dB_ at h
 refine k_W ok_19 E_bool_inj h (fun σ0 => ?_)
 refine t_R ?_
 refine bX_ (fun b1 => ?_)
 refine bX_ (fun b2 => ?_)
 refine t_N ?_
 refine t_RU 1 ?_
 refine ag_ 1 ?_
 refine t_U 1 ?_
 refine ag_ 0 ?_
 refine t_N ?_
 refine t_if (fun hc1 => ?_) fun hc1 => ?_
 ·refine t_RN ?_
  exact k_eW (rT rN) E_bool_p
 refine t_RU 1 ?_
 refine ag_ 1 ?_
 refine t_U 1 ?_
 refine ag_ 0 ?_
 refine t_N ?_
 refine t_if (fun hc2 => ?_) fun hc2 => ?_
 ·refine t_RN ?_
  exact k_eW (rT rN) E_bool_p
 refine t_RU 1 ?_
 refine ag_ 1 ?_
 refine t_U 1 ?_
 refine ag_ 0 ?_
 refine t_N ?_
 refine t_if (fun hc3 => ?_) fun hc3 => ?_
 ·refine t_RN ?_
  exact k_eW (rT rN) E_bool_p
 refine t_RU 1 ?_
 refine ag_ 1 ?_
 refine t_U 1 ?_
 refine ag_ 0 ?_
 refine ar_ fun y1 hy1 => ?_
 refine t_N ?_
 refine t_if (fun hc4 => ?_) fun hc4 => ?_
 ·refine t_RN ?_
  exact k_eW (rT rN) E_bool_p
 refine t_RN ?_
 exact k_eW (rT rN) E_bool_p
noncomputable def de_ (a0 : (Sl DPattern)) (a1 : (Sl DPattern)) : Option Bool := (if ((!decide ((a0.l.length : Int) = (a1.l.length : Int)))) = true then (some false) else ((ax_ (S := Int) (R := (Unit ⊕ Bool)) (fun st1 => (if (decide (st1 < (a0.l.length : Int))) = true then ((elt a0 st1).bind fun y2 => ((elt a1 st1).bind fun y3 => ((bg_ y2 y3).bind fun y4 => (if (!y4) = true then (some (.inr (.inr false))) else (some (.inl (w4 (st1 + 1)))))))) else (some (.inr (.inl ()))))) 0).bind fun y1 => (Sum.elim (fun y1 => (some true)) (fun y1 => (some y1)) y1)))
theorem gZ_ (a0 : (Sl DPattern)) (a1 : (Sl DPattern)) (r : Bool) (h : de_ a0 a1 = some r) : dc_ a0 a1 = some r := by
 unfold de_ at h
 refine k_W ok_20 E_bool_inj h (fun σ0 => ?_)
 refine t_RN ?_
 refine t_RN ?_
 refine t_if (fun hc1 => ?_) fun hc1 => ?_
 ·refine t_RN ?_
  exact k_eW (rT rN) E_bool_p
 refine t_RN ?_
 refine aU_ (fun st1 fr => Sub [(0, a0.t), (1, a1.t), (5, i4 st1)] fr.s ∧ Heap σ0 fr.σ []) (fun y1 e fr => (Sum.elim (fun y => e = (.exit 0) ∧ Sub [] fr.s ∧ Heap σ0 fr.σ []) (fun y => e = .ret ∧ endW Try.prog (Try.f20.results.toList) σ0 (E_bool y) .ret fr)) y1) (fun hS hH => ⟨(af_ hS (by kernel_rfl)), hH⟩) (fun st1 x fr h HI => ?_) fun y1 e fr h HF => ?_
 ·obtain ⟨s, σ⟩ := fr; obtain ⟨hS, hH⟩ := HI
  refine t_bk h hS hH ?_
  refine t_RN ?_
  refine t_if (fun hc2 => ?_) fun hc2 => ?_
  ·refine t_D fun mb => ?_
   refine t_U 2 ?_
   refine bz_ fun y2 rest1 hy2 => ?_
   refine t_U 3 ?_
   refine bz_ fun y3 rest2 hy3 => ?_
   refine t_U 1 ?_
   refine ar_ fun y4 hy4 => ?_
   refine t_N ?_
   refine t_if (fun hc3 => ?_) fun hc3 => ?_
   ·refine t_RN ?_
    exact t_e fun he hS hH => he ▸ ⟨rfl, (eW hS hH (rT rN) E_bool_p)⟩
   refine t_RN ?_
   exact t_e fun he hS hH => he ▸ ⟨(af_ hS (by kernel_rfl)), hH⟩
  exact t_e fun he hS hH => he ▸ ⟨rfl, (af_ hS (by kernel_rfl)), hH⟩
 obtain ⟨s, σ⟩ := fr
 rcases y1 with y1 | y1
 ·have h := el_l h
  obtain ⟨rfl, hS, hH⟩ := HF
  refine t_bx h hS hH ?_
  refine t_RN ?_
  exact k_eW (rT rN) E_bool_p
 have h := el_r h
 obtain ⟨rfl, HE⟩ := HF
 obtain rfl := si_1 h; exact HE
noncomputable def cQ_ (a0 : (Sl ac_)) (a1 : Int) : Option Int := (if (decide ((w4 (a1 - (a0.l.length : Int))) < 0)) = true then (some (-1)) else ((ax_ (S := (Int × Int)) (R := (Int ⊕ Int)) (fun st1 => (if (decide (st1.2 < (a0.l.length : Int))) = true then ((elt a0 st1.2).bind fun y2 => ((b4_ y2 st1.1).bind fun y3 => (if (decide (y3 < 0)) = true then (some (.inr (.inr (-1)))) else (some (.inl (y3, (w4 (st1.2 + 1)))))))) else (some (.inr (.inl st1.1))))) ((w4 (a1 - (a0.l.length : Int))), 0)).bind fun y1 => (Sum.elim (fun y1 => (some y1)) (fun y1 => (some y1)) y1)))
theorem fC_ (a0 : (Sl ac_)) (a1 : Int) (r : Int) (h : cQ_ a0 a1 = some r) : d0_ a0 a1 = some r := by
 unfold cQ_ at h
 refine k_W ok_26 E_i64_inj h (fun σ0 => ?_)
 refine t_RN ?_
 refine t_RN ?_
 refine t_RN ?_
 refine t_if (fun hc1 => ?_) fun hc1 => ?_
 ·refine t_RN ?_
  exact k_eW (rT rN) E_i64_p
 refine t_RN ?_
 refine aU_ (fun st1 fr => Sub [(0, a0.t), (1, i4 st1.1), (5, i4 st1.2)] fr.s ∧ Heap σ0 fr.σ []) (fun y1 e fr => (Sum.elim (fun y => e = (.exit 0) ∧ Sub [(1, i4 y)] fr.s ∧ Heap σ0 fr.σ []) (fun y => e = .ret ∧ endW Try.prog (Try.f26.results.toList) σ0 (E_i64 y) .ret fr)) y1) (fun hS hH => ⟨(af_ hS (by kernel_rfl)), hH⟩) (fun st1 x fr h HI => ?_) fun y1 e fr h HF => ?_
 ·obtain ⟨s, σ⟩ := fr; obtain ⟨hS, hH⟩ := HI
  refine t_bk h hS hH ?_
  refine t_RN ?_
  refine t_if (fun hc2 => ?_) fun hc2 => ?_
  ·refine t_RU 2 ?_
   refine bz_ fun y2 rest1 hy2 => ?_
   refine t_U 2 ?_
   refine ar_ fun y3 hy3 => ?_
   refine t_N ?_
   refine t_RN ?_
   refine t_if (fun hc3 => ?_) fun hc3 => ?_
   ·refine t_RN ?_
    exact t_e fun he hS hH => he ▸ ⟨rfl, (eW hS hH (rT rN) E_i64_p)⟩
   refine t_RN ?_
   exact t_e fun he hS hH => he ▸ ⟨(af_ hS (by kernel_rfl)), hH⟩
  exact t_e fun he hS hH => he ▸ ⟨rfl, (af_ hS (by kernel_rfl)), hH⟩
 obtain ⟨s, σ⟩ := fr
 rcases y1 with y1 | y1
 ·have h := el_l h
  obtain ⟨rfl, hS, hH⟩ := HF
  refine t_bx h hS hH ?_
  refine t_RN ?_
  exact k_eW (rT rN) E_i64_p
 have h := el_r h
 obtain ⟨rfl, HE⟩ := HF
 obtain rfl := si_1 h; exact HE
noncomputable def eo_ (a0 : (Sl ac_)) : Option (Sl ac_) := ((mkS 72 ((⟨⟨#[]⟩, (⟨0, 0, ⟨#[]⟩, ⟨true, []⟩⟩ : DPattern)⟩ : ac_) : ac_) (a0.l.length : Int) (a0.l.length : Int)).bind fun y1 => ((ax_ (S := (Int × (Sl ac_))) (R := (Sl ac_)) (fun st1 => (if (decide (st1.1 < (a0.l.length : Int))) = true then ((elt a0 st1.1).bind fun y3 => ((eS_ y3).bind fun y4 => ((elt st1.2 st1.1).bind fun y5 => (some (.inl ((w4 (st1.1 + 1)), (setS st1.2 st1.1 (y4 : ac_)))))))) else (some (.inr st1.2)))) (0, y1)).bind fun y2 => (some y2)))
theorem im_ (a0 : (Sl ac_)) (r : (Sl ac_)) (h : eo_ a0 = some r) : bN_ a0 = some r := by
 unfold eo_ at h
 refine k_O ok_28 h (fun σ0 => ?_)
 refine t_RN ?_
 refine t_RU 2 ?_
 intro h s σ hS hH
 obtain ⟨y1, hy1, h⟩ := bind_some h
 refine oE_ (z := true) (e := 82) (by_ := 72) (x0 := ((⟨⟨#[]⟩, (⟨0, 0, ⟨#[]⟩, ⟨true, []⟩⟩ : DPattern)⟩ : ac_) : ac_)) (fun σ d => by simp [Enc.cells, ac_.cells, Iv]) rfl hS hH rfl rfl (by kernel_rfl) (by kernel_rfl) (by kernel_rfl) (by kernel_rfl) rfl hy1 ?_; intro t1 σ s ht1 hH hS
 refine t_bk h hS hH ?_
 refine t_N ?_
 refine t_RN ?_
 refine aU_ (fun st1 fr => Sub [(0, a0.t), (3, t1), (4, i4 st1.1)] fr.s ∧ Heap σ0 fr.σ [.own true 5 t1 st1.2.t]) (fun y2 e fr => e = (.exit 0) ∧ Sub [(3, t1)] fr.s ∧ Heap σ0 fr.σ [.own true 5 t1 y2.t]) (fun hS hH => ⟨(af_ hS (by kernel_rfl)), hH⟩) (fun st1 x fr h HI => ?_) fun y2 e fr h HF => ?_
 ·obtain ⟨s, σ⟩ := fr; obtain ⟨hS, hH⟩ := HI
  refine t_bk h hS hH ?_
  refine t_RN ?_
  refine t_if (fun hc1 => ?_) fun hc1 => ?_
  ·refine t_RU 4 ?_
   refine bz_ fun y3 rest1 hy3 => ?_
   refine t_U 1 ?_
   refine bv_ (fun y4 t2 hy4 ht2 => ?_)
   refine ex_ 1 (fun hb1 hb1e y5 hy5 hl_hb1 => ?_)
   refine t_h Heap.up1 ?_
   intro h s σ hS hH
   refine dq_ (ents := [.own true 4 t2 y4.Pattern.Kids.t]) (a := st1.2) (j := st1.1) (y := y5) (y' := (y4 : ac_)) (off := 0) (c := [.str y5.Name, i4 y5.Pattern.Kind, i4 y5.Pattern.Num, .str y5.Pattern.Text, y5.Pattern.Kids.t]) (us := [.str y4.Name, i4 y4.Pattern.Kind, i4 y4.Pattern.Num, .str y4.Pattern.Text, t2]) (vs := [.str y4.Name, i4 y4.Pattern.Kind, i4 y4.Pattern.Num, .str y4.Pattern.Text, y4.Pattern.Kids.t]) (v := .agg [.str y4.Name, i4 y4.Pattern.Kind, i4 y4.Pattern.Num, .str y4.Pattern.Text, t2]) rfl hS hH hl_hb1 rfl rfl rfl (by simp [ht2.1, ht2.2]) (by kernel_rfl) rfl hy5 rfl (HLs (HLi (HLi (HLs (HL.own rfl HL.nil))))) rfl (by kernel_rfl) ?_; intro σ s hH hS
   refine t_bk h hS hH ?_
   refine t_N ?_
   refine t_RN ?_
   exact t_e fun he hS hH => he ▸ ⟨(af_ hS (by kernel_rfl)), hH⟩
  exact t_e fun he hS hH => he ▸ ⟨rfl, (af_ hS (by kernel_rfl)), hH⟩
 obtain ⟨s, σ⟩ := fr
 obtain ⟨rfl, hS, hH⟩ := HF
 refine t_bx h hS hH ?_
 refine t_RN ?_
 exact k_eO [t1] (rT rN)
noncomputable def d3_ (a0 : (Sl ac_)) (a1 : (Sl ac_)) : Option Bool := (if ((!decide ((a0.l.length : Int) = (a1.l.length : Int)))) = true then (some false) else ((ax_ (S := Int) (R := (Unit ⊕ Bool)) (fun st1 => (if (decide (st1 < (a0.l.length : Int))) = true then ((elt a0 st1).bind fun y2 => ((elt a1 st1).bind fun y3 => ((eR_ y2 y3).bind fun y4 => (if (!y4) = true then (some (.inr (.inr false))) else (some (.inl (w4 (st1 + 1)))))))) else (some (.inr (.inl ()))))) 0).bind fun y1 => (Sum.elim (fun y1 => (some true)) (fun y1 => (some y1)) y1)))
theorem hT_ (a0 : (Sl ac_)) (a1 : (Sl ac_)) (r : Bool) (h : d3_ a0 a1 = some r) : em_ a0 a1 = some r := by
 unfold d3_ at h
 refine k_W ok_30 E_bool_inj h (fun σ0 => ?_)
 refine t_RN ?_
 refine t_RN ?_
 refine t_if (fun hc1 => ?_) fun hc1 => ?_
 ·refine t_RN ?_
  exact k_eW (rT rN) E_bool_p
 refine t_RN ?_
 refine aU_ (fun st1 fr => Sub [(0, a0.t), (1, a1.t), (5, i4 st1)] fr.s ∧ Heap σ0 fr.σ []) (fun y1 e fr => (Sum.elim (fun y => e = (.exit 0) ∧ Sub [] fr.s ∧ Heap σ0 fr.σ []) (fun y => e = .ret ∧ endW Try.prog (Try.f30.results.toList) σ0 (E_bool y) .ret fr)) y1) (fun hS hH => ⟨(af_ hS (by kernel_rfl)), hH⟩) (fun st1 x fr h HI => ?_) fun y1 e fr h HF => ?_
 ·obtain ⟨s, σ⟩ := fr; obtain ⟨hS, hH⟩ := HI
  refine t_bk h hS hH ?_
  refine t_RN ?_
  refine t_if (fun hc2 => ?_) fun hc2 => ?_
  ·refine t_D fun mb => ?_
   refine t_U 2 ?_
   refine bz_ fun y2 rest1 hy2 => ?_
   refine t_U 3 ?_
   refine bz_ fun y3 rest2 hy3 => ?_
   refine t_U 1 ?_
   refine ar_ fun y4 hy4 => ?_
   refine t_N ?_
   refine t_if (fun hc3 => ?_) fun hc3 => ?_
   ·refine t_RN ?_
    exact t_e fun he hS hH => he ▸ ⟨rfl, (eW hS hH (rT rN) E_bool_p)⟩
   refine t_RN ?_
   exact t_e fun he hS hH => he ▸ ⟨(af_ hS (by kernel_rfl)), hH⟩
  exact t_e fun he hS hH => he ▸ ⟨rfl, (af_ hS (by kernel_rfl)), hH⟩
 obtain ⟨s, σ⟩ := fr
 rcases y1 with y1 | y1
 ·have h := el_l h
  obtain ⟨rfl, hS, hH⟩ := HF
  refine t_bx h hS hH ?_
  refine t_RN ?_
  exact k_eW (rT rN) E_bool_p
 have h := el_r h
 obtain ⟨rfl, HE⟩ := HF
 obtain rfl := si_1 h; exact HE
noncomputable def cC_ (a0 : DPattern) (a1 : Int) : Option Int := (if (decide ((w4 (a1 - (a0.Text.size : Int))) < 0)) = true then (some (-1)) else ((c8_ a0.Kids (w4 (a1 - (a0.Text.size : Int)))).bind fun y1 => (if (decide (y1 < 0)) = true then (some (-1)) else (some y1))))
theorem fz_ (a0 : DPattern) (a1 : Int) (r : Int) (h : cC_ a0 a1 = some r) : bf_ a0 a1 = some r := by
 unfold cC_ at h
 refine k_W ok_37 E_i64_inj h (fun σ0 => ?_)
 refine t_R ?_
 refine bX_ (fun b1 => ?_)
 refine t_N ?_
 refine t_RU 2 ?_
 refine ag_ 0 ?_
 refine t_N ?_
 refine t_RN ?_
 refine t_if (fun hc1 => ?_) fun hc1 => ?_
 ·refine t_RN ?_
  exact k_eW (rT rN) E_i64_p
 refine t_RU 1 ?_
 refine ag_ 0 ?_
 refine t_U 1 ?_
 refine ar_ fun y1 hy1 => ?_
 refine t_N ?_
 refine t_RN ?_
 refine t_if (fun hc2 => ?_) fun hc2 => ?_
 ·refine t_RN ?_
  exact k_eW (rT rN) E_i64_p
 refine t_RN ?_
 exact k_eW (rT rN) E_i64_p
noncomputable def dF_ (a0 : DPattern) : Option DPattern := ((c7_ a0.Kids).bind fun y1 => (some (⟨a0.Kind, a0.Num, a0.Text, y1⟩ : DPattern)))
theorem hq_ (a0 : DPattern) (r : DPattern) (h : dF_ a0 = some r) : a0_ a0 = some r := by
 unfold dF_ at h
 refine k_O ok_39 h (fun σ0 => ?_)
 refine t_R ?_
 refine bX_ (fun b1 => ?_)
 refine c5_ fun b2 => ?_
 refine t_N ?_
 refine t_R ?_
 refine c5_ fun b3 => ?_
 refine t_N ?_
 refine t_RU 1 ?_
 refine ag_ 2 ?_
 refine t_U 1 ?_
 refine aI_ 0 ?_
 refine t_N ?_
 refine t_RU 1 ?_
 refine ag_ 2 ?_
 refine t_U 1 ?_
 refine aI_ 0 ?_
 refine t_N ?_
 refine t_RU 1 ?_
 refine ag_ 2 ?_
 refine t_U 1 ?_
 refine aI_ 0 ?_
 refine t_N ?_
 refine t_RU 1 ?_
 refine ag_ 2 ?_
 refine bv_ (fun y1 t1 hy1 ht1 => ?_)
 refine t_U 1 ?_
 refine bJ_ 1 ht1 ?_
 refine t_N ?_
 refine t_R ?_
 refine ag_ 0 ?_
 refine ch_ 2 ?_ (h1 := by simp [ht1.1, ht1.2])
 refine t_N ?_
 refine t_h Heap.up2 ?_
 exact k_eO [t1] (rC 1 rN)
noncomputable def dJ_ (a0 : (Sl ac_)) (a1 : DPattern) (a2 : ByteArray) (a3 : Int) (a4 : Int) : Option ((Sl (Iv .i64)) × Int) := ((fk_ a0 a1 a2 a4).bind fun y1 => (if (!decide (y1 = 0)) = true then (some (⟨false, []⟩, y1)) else ((bP_ a3 0 (a2.size : Int)).bind fun y2 => (if (!y2) = true then (some (⟨false, []⟩, 3)) else ((eQ_ a0 a1 a2 a3 a4).bind fun y3 => (if (!decide (y3.2 = 0)) = true then (some (⟨false, []⟩, y3.2)) else (some (y3.1, 0))))))))
theorem jg_ (a0 : (Sl ac_)) (a1 : DPattern) (a2 : ByteArray) (a3 : Int) (a4 : Int) (r : ((Sl (Iv .i64)) × Int)) (h : dJ_ a0 a1 a2 a3 a4 = some r) : fi_ a0 a1 a2 a3 a4 = some r := by
 unfold dJ_ at h
 refine k_O ok_43 h (fun σ0 => ?_)
 refine t_R ?_
 refine bX_ (fun b1 => ?_)
 refine t_N ?_
 refine t_RU 1 ?_
 refine ag_ 0 ?_
 refine t_U 2 ?_
 refine ar_ fun y1 hy1 => ?_
 refine t_N ?_
 refine t_RN ?_
 refine t_if (fun hc1 => ?_) fun hc1 => ?_
 ·refine t_R ?_
  refine jA_ (α := (Iv .i64)) (fun t1 ht1 => ?_)
  refine t_N ?_
  exact k_eO [t1] (rT (rT rN))
 refine t_RU 3 ?_
 refine ar_ fun y2 hy2 => ?_
 refine t_N ?_
 refine t_if (fun hc2 => ?_) fun hc2 => ?_
 ·refine t_R ?_
  refine jA_ (α := (Iv .i64)) (fun t2 ht2 => ?_)
  refine t_N ?_
  exact k_eO [t2] (rT (rT rN))
 refine t_RU 1 ?_
 refine ag_ 0 ?_
 refine t_U 3 ?_
 refine bv_ (fun y3 t3 hy3 ht3 => ?_)
 refine t_N ?_
 refine t_RN ?_
 refine t_if (fun hc3 => ?_) fun hc3 => ?_
 ·refine t_R ?_
  refine jA_ (α := (Iv .i64)) (fun t4 ht4 => ?_)
  refine t_N ?_
  exact k_eO [t4] (rT (rT rN))
 refine t_RN ?_
 exact k_eO [t3] (rT (rT rN))
noncomputable def dM_ (a0 : (Sl ac_)) (a1 : DPattern) (a2 : ByteArray) (a3 : Int) (a4 : Int) : Option ((Sl (Iv .i64)) × Int) := ((c9_ a0 a1 a2 a4).bind fun y1 => ((bj_ a3 0 (a2.size : Int)).bind fun y2 => ((cR_ y2 3).bind fun y3 => ((eD_ (⟨false, [⟨y1⟩, ⟨y3⟩]⟩)).bind fun y4 => (if (!decide (y4 = 0)) = true then (some (⟨true, []⟩, y4)) else ((b8_ a0 a1 a2 (⟨false, [⟨a3⟩]⟩) a4).bind fun y5 => (if (!decide (y5.2 = 0)) = true then (some (⟨true, []⟩, y5.2)) else ((ax_ (S := (Int × (Sl (Iv .i64)))) (R := (Sl (Iv .i64))) (fun st1 => (if (decide (st1.1 < (y5.1.l.length : Int))) = true then ((elt y5.1 st1.1).bind fun y7 => ((appS 8 st1.2 (⟨false, [⟨y7.End⟩]⟩ : Sl (Iv .i64))).bind fun y8 => (some (.inl ((w4 (st1.1 + 1)), y8))))) else (some (.inr st1.2)))) (0, (⟨false, []⟩ : Sl (Iv .i64)))).bind fun y6 => (some (y6, 0))))))))))
theorem jB_ (a0 : (Sl ac_)) (a1 : DPattern) (a2 : ByteArray) (a3 : Int) (a4 : Int) (r : ((Sl (Iv .i64)) × Int)) (h : dM_ a0 a1 a2 a3 a4 = some r) : dR_ a0 a1 a2 a3 a4 = some r := by
 unfold dM_ at h
 refine k_O ok_44 h (fun σ0 => ?_)
 refine t_R ?_
 refine bX_ (fun b1 => ?_)
 refine t_N ?_
 refine t_RU 1 ?_
 refine ag_ 0 ?_
 refine t_U 2 ?_
 refine ar_ fun y1 hy1 => ?_
 refine t_U 3 ?_
 refine ar_ fun y2 hy2 => ?_
 refine ar_ fun y3 hy3 => ?_
 refine k_bs (z := true) (⟨false, [⟨y1⟩, ⟨y3⟩]⟩ : Sl (Iv .i64)) (fun t1 ht1 => ?_)
 refine eI_ (fun y4 hy4 => ?_)
 refine t_N ?_
 refine t_RN ?_
 refine t_if (fun hc1 => ?_) fun hc1 => ?_
 ·refine t_RN ?_
  refine t_h (Heap.addNil · true 1) ?_
  exact k_eO [(T.row true 0 [])] (rT (rT rN))
 refine t_RU 1 ?_
 refine ag_ 1 ?_
 refine t_U 2 ?_
 refine k_bs (z := true) (⟨false, [⟨a3⟩]⟩ : Sl (Iv .i64)) (fun t2 ht2 => ?_)
 refine t_U 1 ?_
 refine bv_ (fun y5 t3 hy5 ht3 => ?_)
 refine t_N ?_
 refine t_RN ?_
 refine t_if (fun hc2 => ?_) fun hc2 => ?_
 ·refine t_RN ?_
  refine t_h (Heap.addNil · true 1) ?_
  exact k_eO [(T.row true 0 [])] (rT (rT rN))
 refine t_R ?_
 refine jA_ (α := (Iv .i64)) (fun t4 ht4 => ?_)
 refine t_N ?_
 refine t_RU 1 ?_
 refine hl_ (a := y5.1) 1 ?_
 refine t_N ?_
 refine aU_ (fun st1 fr => ∃ t6, ap_ t6 ∧ Sub [(15, t6), (47, t3), (48, i4 (y5.1.l.length : Int)), (49, i4 st1.1)] fr.s ∧ Heap σ0 fr.σ [.own true 1 t6 st1.2.t, .own true 3 t3 y5.1.t]) (fun y6 e fr => ∃ t7, ap_ t7 ∧ e = (.exit 0) ∧ Sub [(15, t7)] fr.s ∧ Heap σ0 fr.σ [.own true 1 t7 y6.t]) (fun hS hH => ⟨t4, ht4, (af_ hS (by kernel_rfl)), (Heap.sel hH [0, 1] rfl (by kernel_rfl))⟩) (fun st1 x fr h HI => ?_) fun y6 e fr h HF => ?_
 ·obtain ⟨s, σ⟩ := fr; obtain ⟨t6, ht6, ⟨hS, hH⟩⟩ := HI
  refine t_bk h hS hH ?_
  refine t_RN ?_
  refine t_if (fun hc3 => ?_) fun hc3 => ?_
  ·refine t_R ?_
   refine ex_ 1 (fun hb1 hb1e y7 hy7 hl_hb1 => ?_)
   refine t_h Heap.up1 ?_
   intro h s σ hS hH
   refine nS_ (a := y5.1) (j := st1.1) (y := y7) (off := 2) (c := [i4 y7.Start, i4 y7.End, y7.Captures.t]) (q := (y7.Captures : Sl aa_)) (fun _ _ _ _ _ => trivial) rfl hS hH hl_hb1 rfl hy7 rfl (by kernel_rfl) (by kernel_rfl) rfl (by kernel_rfl) (by kernel_rfl) (by kernel_rfl) ?_; intro F1 σk1 t8 s ht8 hH hcl1 hcl1s hcl1p hcl1k hcl1f hS
   refine t_bk h hS hH ?_
   refine c5_ fun b2 => ?_
   refine ch_ 0 ?_ (h1 := by simp [ht8.1, ht8.2])
   refine t_h (·.up2.up2) ?_
   intro h s σ hS hH
   have hH := hcl1s _ _ hH
   have hH : Heap σ0 σ [.own true 3 t3 y5.1.t, .box b2 [i4 y7.Start, i4 y7.End, t8], .own true 1 t6 st1.2.t] := hH
   refine t_bk h hS hH ?_
   refine t_N ?_
   refine t_RU 2 ?_
   refine ag_ 1 ?_
   refine k_bs (z := true) (⟨false, [⟨y7.End⟩]⟩ : Sl (Iv .i64)) (fun t9 ht9 => ?_)
   refine nz_ 3 0 (fun y8 t10 hy8 ht10 => ?_)
   refine t_N ?_
   refine t_RN ?_
   exact t_e fun he hS hH => he ▸ ⟨t10, ht10, (af_ hS (by kernel_rfl)), (Heap.sel hH [0, 1] rfl (by kernel_rfl))⟩
  exact t_e fun he hS hH => he ▸ ⟨t6, ht6, rfl, (af_ hS (by kernel_rfl)), (Heap.sel hH [0] rfl (by kernel_rfl))⟩
 obtain ⟨s, σ⟩ := fr
 obtain ⟨t7, ht7, ⟨rfl, hS, hH⟩⟩ := HF
 refine t_bx h hS hH ?_
 refine t_RN ?_
 exact k_eO [t7] (rT (rT rN))
noncomputable def eg_ (a0 : (Sl (Iv .i64))) (a1 : (Sl (Iv .i64))) : Option Bool := (if ((!decide ((a0.l.length : Int) = (a1.l.length : Int)))) = true then (some false) else ((ax_ (S := Int) (R := (Unit ⊕ Bool)) (fun st1 => (if (decide (st1 < (a0.l.length : Int))) = true then ((elt a0 st1).bind fun y2 => ((elt a1 st1).bind fun y3 => (if (!decide (y2.v = y3.v)) = true then (some (.inr (.inr false))) else (some (.inl (w4 (st1 + 1))))))) else (some (.inr (.inl ()))))) 0).bind fun y1 => (Sum.elim (fun y1 => (some true)) (fun y1 => (some y1)) y1)))
theorem hH_ (a0 : (Sl (Iv .i64))) (a1 : (Sl (Iv .i64))) (r : Bool) (h : eg_ a0 a1 = some r) : ce_ a0 a1 = some r := by
 unfold eg_ at h
 refine k_W ok_45 E_bool_inj h (fun σ0 => ?_)
 refine t_RN ?_
 refine t_RN ?_
 refine t_if (fun hc1 => ?_) fun hc1 => ?_
 ·refine t_RN ?_
  exact k_eW (rT rN) E_bool_p
 refine t_RN ?_
 refine aU_ (fun st1 fr => Sub [(0, a0.t), (1, a1.t), (5, i4 st1)] fr.s ∧ Heap σ0 fr.σ []) (fun y1 e fr => (Sum.elim (fun y => e = (.exit 0) ∧ Sub [] fr.s ∧ Heap σ0 fr.σ []) (fun y => e = .ret ∧ endW Try.prog (Try.f45.results.toList) σ0 (E_bool y) .ret fr)) y1) (fun hS hH => ⟨(af_ hS (by kernel_rfl)), hH⟩) (fun st1 x fr h HI => ?_) fun y1 e fr h HF => ?_
 ·obtain ⟨s, σ⟩ := fr; obtain ⟨hS, hH⟩ := HI
  refine t_bk h hS hH ?_
  refine t_RN ?_
  refine t_if (fun hc2 => ?_) fun hc2 => ?_
  ·refine t_D fun mb => ?_
   refine t_U 2 ?_
   refine bz_ fun y2 rest1 hy2 => ?_
   refine t_U 3 ?_
   refine bz_ fun y3 rest2 hy3 => ?_
   refine t_N ?_
   refine t_if (fun hc3 => ?_) fun hc3 => ?_
   ·refine t_RN ?_
    exact t_e fun he hS hH => he ▸ ⟨rfl, (eW hS hH (rT rN) E_bool_p)⟩
   refine t_RN ?_
   exact t_e fun he hS hH => he ▸ ⟨(af_ hS (by kernel_rfl)), hH⟩
  exact t_e fun he hS hH => he ▸ ⟨rfl, (af_ hS (by kernel_rfl)), hH⟩
 obtain ⟨s, σ⟩ := fr
 rcases y1 with y1 | y1
 ·have h := el_l h
  obtain ⟨rfl, hS, hH⟩ := HF
  refine t_bx h hS hH ?_
  refine t_RN ?_
  exact k_eW (rT rN) E_bool_p
 have h := el_r h
 obtain ⟨rfl, HE⟩ := HF
 obtain rfl := si_1 h; exact HE
noncomputable def c6_ (a0 : (Sl (Iv .i64))) (a1 : Int) : Option Int := ((ax_ (S := (Int × Int)) (R := (Int ⊕ Int)) (fun st1 => (if (decide (st1.2 < (a0.l.length : Int))) = true then ((elt a0 st1.2).bind fun y2 => (if (!decide (y2.v = st1.1)) = true then (some (.inr (.inr (-1)))) else (some (.inl ((w4 (st1.1 + 1)), (w4 (st1.2 + 1))))))) else (some (.inr (.inl st1.1))))) (a1, 0)).bind fun y1 => (Sum.elim (fun y1 => (some y1)) (fun y1 => (some y1)) y1))
theorem hd_ (a0 : (Sl (Iv .i64))) (a1 : Int) (r : Int) (h : c6_ a0 a1 = some r) : ci_ a0 a1 = some r := by
 unfold c6_ at h
 refine k_W ok_47 E_i64_inj h (fun σ0 => ?_)
 refine t_RN ?_
 refine t_RN ?_
 refine aU_ (fun st1 fr => Sub [(0, a0.t), (1, i4 st1.1), (5, i4 st1.2)] fr.s ∧ Heap σ0 fr.σ []) (fun y1 e fr => (Sum.elim (fun y => e = (.exit 0) ∧ Sub [(1, i4 y)] fr.s ∧ Heap σ0 fr.σ []) (fun y => e = .ret ∧ endW Try.prog (Try.f47.results.toList) σ0 (E_i64 y) .ret fr)) y1) (fun hS hH => ⟨(af_ hS (by kernel_rfl)), hH⟩) (fun st1 x fr h HI => ?_) fun y1 e fr h HF => ?_
 ·obtain ⟨s, σ⟩ := fr; obtain ⟨hS, hH⟩ := HI
  refine t_bk h hS hH ?_
  refine t_RN ?_
  refine t_if (fun hc1 => ?_) fun hc1 => ?_
  ·refine t_RU 2 ?_
   refine bz_ fun y2 rest1 hy2 => ?_
   refine t_N ?_
   refine t_if (fun hc2 => ?_) fun hc2 => ?_
   ·refine t_RN ?_
    exact t_e fun he hS hH => he ▸ ⟨rfl, (eW hS hH (rT rN) E_i64_p)⟩
   refine t_RN ?_
   refine t_RN ?_
   exact t_e fun he hS hH => he ▸ ⟨(af_ hS (by kernel_rfl)), hH⟩
  exact t_e fun he hS hH => he ▸ ⟨rfl, (af_ hS (by kernel_rfl)), hH⟩
 obtain ⟨s, σ⟩ := fr
 rcases y1 with y1 | y1
 ·have h := el_l h
  obtain ⟨rfl, hS, hH⟩ := HF
  refine t_bx h hS hH ?_
  refine t_RN ?_
  exact k_eW (rT rN) E_i64_p
 have h := el_r h
 obtain ⟨rfl, HE⟩ := HF
 obtain rfl := si_1 h; exact HE
noncomputable def cX_ (a0 : Int) : Option ByteArray := (if (decide (a0 ≤ 0)) = true then (some ⟨#[109, 48]⟩) else ((ax_ (S := (Int × ByteArray)) (R := ByteArray) (fun st1 => (if (decide (0 < st1.1)) = true then ((strS ((⟨false, [⟨(IntKind.u8.wrap (w4 (48 + (st1.1.tmod 10))))⟩]⟩ : Sl (Iv .u8)))).bind fun y2 => ((catB y2 st1.2).bind fun y3 => (some (.inl ((w4 (st1.1.tdiv 10)), y3))))) else (some (.inr st1.2)))) (a0, ⟨#[]⟩)).bind fun y1 => ((catB ⟨#[109]⟩ y1).bind fun y4 => (some y4))))
theorem hI_ (a0 : Int) (r : ByteArray) (h : cX_ a0 = some r) : aJ_ a0 = some r := by
 unfold cX_ at h
 refine k_W ok_63 E_str_inj h (fun σ0 => ?_)
 refine t_RN ?_
 refine t_RN ?_
 refine t_if (fun hc1 => ?_) fun hc1 => ?_
 ·refine t_RN ?_
  exact k_eW (rT rN) E_str_p
 refine t_RN ?_
 refine aU_ (fun st1 fr => Sub [(0, i4 st1.1), (3, .str st1.2)] fr.s ∧ Heap σ0 fr.σ []) (fun y1 e fr => e = (.exit 0) ∧ Sub [(3, .str y1)] fr.s ∧ Heap σ0 fr.σ []) (fun hS hH => ⟨(af_ hS (by kernel_rfl)), hH⟩) (fun st1 x fr h HI => ?_) fun y1 e fr h HF => ?_
 ·obtain ⟨s, σ⟩ := fr; obtain ⟨hS, hH⟩ := HI
  refine t_bk h hS hH ?_
  refine t_RN ?_
  refine t_if (fun hc2 => ?_) fun hc2 => ?_
  ·refine t_RU 4 ?_
   refine k_bs (z := true) (⟨false, [⟨(IntKind.u8.wrap (w4 (48 + (st1.1.tmod 10))))⟩]⟩ : Sl (Iv .u8)) (fun t1 ht1 => ?_)
   intro h s σ hS hH
   obtain ⟨y2, hy2, h⟩ := bind_some h
   refine tq_ (a := (⟨false, [⟨(IntKind.u8.wrap (w4 (48 + (st1.1.tmod 10))))⟩]⟩ : Sl (Iv .u8))) (e := 5) rfl hS hH rfl (by kernel_rfl) (by kernel_rfl) (by kernel_rfl) hy2 ?_; intro s hS
   refine t_bk h hS hH ?_
   refine t_U 1 ?_
   refine pL_ fun y3 hy3 => ?_
   refine t_N ?_
   refine t_RN ?_
   exact t_e fun he hS hH => he ▸ ⟨(af_ hS (by kernel_rfl)), (Heap.sel hH [] rfl (by kernel_rfl))⟩
  exact t_e fun he hS hH => he ▸ ⟨rfl, (af_ hS (by kernel_rfl)), hH⟩
 obtain ⟨s, σ⟩ := fr
 obtain ⟨rfl, hS, hH⟩ := HF
 refine t_bx h hS hH ?_
 refine t_RU 1 ?_
 refine pL_ fun y4 hy4 => ?_
 refine t_N ?_
 exact k_eW (rT rN) E_str_p
noncomputable def cK_ (a0 : (Sl DPattern)) (a1 : Int) : Option Int := ((ax_ (S := (Int × Int)) (R := (Int ⊕ Int)) (fun st1 => (if (decide (st1.2 < (a0.l.length : Int))) = true then ((elt a0 st1.2).bind fun y2 => (if (!decide (y2.Kind = st1.1)) = true then (some (.inr (.inr (-1)))) else ((elt a0 st1.2).bind fun y3 => (if (!decide (y3.Num = (w4 (st1.1 + 1)))) = true then (some (.inr (.inr (-1)))) else ((elt a0 st1.2).bind fun y4 => ((aJ_ (w4 ((w4 (st1.1 + 1)) + 1))).bind fun y5 => (if (!decide (y4.Text = y5)) = true then (some (.inr (.inr (-1)))) else ((elt a0 st1.2).bind fun y6 => ((bs_ y6.Kids (w4 ((w4 ((w4 (st1.1 + 1)) + 1)) + 1))).bind fun y7 => (if (decide (y7 < 0)) = true then (some (.inr (.inr (-1)))) else (some (.inl (y7, (w4 (st1.2 + 1))))))))))))))) else (some (.inr (.inl st1.1))))) (a1, 0)).bind fun y1 => (Sum.elim (fun y1 => (some y1)) (fun y1 => (some y1)) y1))
theorem gi_ (a0 : (Sl DPattern)) (a1 : Int) (r : Int) (h : cK_ a0 a1 = some r) : bs_ a0 a1 = some r := by
 unfold cK_ at h
 refine k_W ok_64 E_i64_inj h (fun σ0 => ?_)
 refine t_RN ?_
 refine t_RN ?_
 refine aU_ (fun st1 fr => Sub [(0, a0.t), (1, i4 st1.1), (5, i4 st1.2)] fr.s ∧ Heap σ0 fr.σ []) (fun y1 e fr => (Sum.elim (fun y => e = (.exit 0) ∧ Sub [(1, i4 y)] fr.s ∧ Heap σ0 fr.σ []) (fun y => e = .ret ∧ endW Try.prog (Try.f64.results.toList) σ0 (E_i64 y) .ret fr)) y1) (fun hS hH => ⟨(af_ hS (by kernel_rfl)), hH⟩) (fun st1 x fr h HI => ?_) fun y1 e fr h HF => ?_
 ·obtain ⟨s, σ⟩ := fr; obtain ⟨hS, hH⟩ := HI
  refine t_bk h hS hH ?_
  refine t_RN ?_
  refine t_if (fun hc1 => ?_) fun hc1 => ?_
  ·refine t_RU 2 ?_
   refine bz_ fun y2 rest1 hy2 => ?_
   refine t_N ?_
   refine t_if (fun hc2 => ?_) fun hc2 => ?_
   ·refine t_RN ?_
    exact t_e fun he hS hH => he ▸ ⟨rfl, (eW hS hH (rT rN) E_i64_p)⟩
   refine t_RN ?_
   refine t_RU 2 ?_
   refine bz_ fun y3 rest2 hy3 => ?_
   refine t_N ?_
   refine t_if (fun hc3 => ?_) fun hc3 => ?_
   ·refine t_RN ?_
    exact t_e fun he hS hH => he ▸ ⟨rfl, (eW hS hH (rT rN) E_i64_p)⟩
   refine t_RN ?_
   refine t_D fun mb => ?_
   refine t_U 2 ?_
   refine bz_ fun y4 rest3 hy4 => ?_
   refine t_U 3 ?_
   refine ar_ fun y5 hy5 => ?_
   refine t_N ?_
   refine t_if (fun hc4 => ?_) fun hc4 => ?_
   ·refine t_RN ?_
    exact t_e fun he hS hH => he ▸ ⟨rfl, (eW hS hH (rT rN) E_i64_p)⟩
   refine t_RN ?_
   refine t_RU 2 ?_
   refine bz_ fun y6 rest4 hy6 => ?_
   refine t_U 3 ?_
   refine ar_ fun y7 hy7 => ?_
   refine t_N ?_
   refine t_RN ?_
   refine t_if (fun hc5 => ?_) fun hc5 => ?_
   ·refine t_RN ?_
    exact t_e fun he hS hH => he ▸ ⟨rfl, (eW hS hH (rT rN) E_i64_p)⟩
   refine t_RN ?_
   exact t_e fun he hS hH => he ▸ ⟨(af_ hS (by kernel_rfl)), hH⟩
  exact t_e fun he hS hH => he ▸ ⟨rfl, (af_ hS (by kernel_rfl)), hH⟩
 obtain ⟨s, σ⟩ := fr
 rcases y1 with y1 | y1
 ·have h := el_l h
  obtain ⟨rfl, hS, hH⟩ := HF
  refine t_bx h hS hH ?_
  refine t_RN ?_
  exact k_eW (rT rN) E_i64_p
 have h := el_r h
 obtain ⟨rfl, HE⟩ := HF
 obtain rfl := si_1 h; exact HE
noncomputable def dm_ (a0 : ac_) (a1 : Int) : Option Int := (if (decide ((w4 (a1 - (a0.Name.size : Int))) < 0)) = true then (some (-1)) else ((bf_ a0.Pattern (w4 (a1 - (a0.Name.size : Int)))).bind fun y1 => (if (decide (y1 < 0)) = true then (some (-1)) else (some y1))))
theorem f5_ (a0 : ac_) (a1 : Int) (r : Int) (h : dm_ a0 a1 = some r) : b4_ a0 a1 = some r := by
 unfold dm_ at h
 refine k_W ok_65 E_i64_inj h (fun σ0 => ?_)
 refine t_R ?_
 refine bX_ (fun b1 => ?_)
 refine t_N ?_
 refine t_RU 2 ?_
 refine ag_ 0 ?_
 refine t_N ?_
 refine t_RN ?_
 refine t_if (fun hc1 => ?_) fun hc1 => ?_
 ·refine t_RN ?_
  exact k_eW (rT rN) E_i64_p
 refine t_RU 1 ?_
 refine ag_ 0 ?_
 refine t_U 1 ?_
 refine ar_ fun y1 hy1 => ?_
 refine t_N ?_
 refine t_RN ?_
 refine t_if (fun hc2 => ?_) fun hc2 => ?_
 ·refine t_RN ?_
  exact k_eW (rT rN) E_i64_p
 refine t_RN ?_
 exact k_eW (rT rN) E_i64_p
noncomputable def b3_ (a0 : (Sl ac_)) (a1 : ByteArray) : Option Int := ((ax_ (S := Int) (R := (Unit ⊕ Int)) (fun st1 => (if (decide (st1 < (a0.l.length : Int))) = true then ((elt a0 st1).bind fun y2 => (if (decide (y2.Name = a1)) = true then (some (.inr (.inr st1))) else (some (.inl (w4 (st1 + 1)))))) else (some (.inr (.inl ()))))) 0).bind fun y1 => (Sum.elim (fun y1 => (some (-1))) (fun y1 => (some y1)) y1))
theorem do_ (a0 : (Sl ac_)) (a1 : ByteArray) (r : Int) (h : b3_ a0 a1 = some r) : b5_ a0 a1 = some r := by
 unfold b3_ at h
 refine k_W ok_66 E_i64_inj h (fun σ0 => ?_)
 refine t_RN ?_
 refine t_RN ?_
 refine aU_ (fun st1 fr => Sub [(0, a0.t), (1, .str a1), (5, i4 st1)] fr.s ∧ Heap σ0 fr.σ []) (fun y1 e fr => (Sum.elim (fun y => e = (.exit 0) ∧ Sub [] fr.s ∧ Heap σ0 fr.σ []) (fun y => e = .ret ∧ endW Try.prog (Try.f66.results.toList) σ0 (E_i64 y) .ret fr)) y1) (fun hS hH => ⟨(af_ hS (by kernel_rfl)), hH⟩) (fun st1 x fr h HI => ?_) fun y1 e fr h HF => ?_
 ·obtain ⟨s, σ⟩ := fr; obtain ⟨hS, hH⟩ := HI
  refine t_bk h hS hH ?_
  refine t_RN ?_
  refine t_if (fun hc1 => ?_) fun hc1 => ?_
  ·refine t_RU 2 ?_
   refine bz_ fun y2 rest1 hy2 => ?_
   refine t_N ?_
   refine t_if (fun hc2 => ?_) fun hc2 => ?_
   ·refine t_RN ?_
    exact t_e fun he hS hH => he ▸ ⟨rfl, (eW hS hH (rT rN) E_i64_p)⟩
   refine t_RN ?_
   exact t_e fun he hS hH => he ▸ ⟨(af_ hS (by kernel_rfl)), hH⟩
  exact t_e fun he hS hH => he ▸ ⟨rfl, (af_ hS (by kernel_rfl)), hH⟩
 obtain ⟨s, σ⟩ := fr
 rcases y1 with y1 | y1
 ·have h := el_l h
  obtain ⟨rfl, hS, hH⟩ := HF
  refine t_bx h hS hH ?_
  refine t_RN ?_
  exact k_eW (rT rN) E_i64_p
 have h := el_r h
 obtain ⟨rfl, HE⟩ := HF
 obtain rfl := si_1 h; exact HE
noncomputable def dY_ (a0 : (Sl ac_)) : Option Bool := (if (decide (40 < (a0.l.length : Int))) = true then (some false) else ((ax_ (S := Int) (R := (Unit ⊕ Bool)) (fun st1 => (if (decide (st1 < (a0.l.length : Int))) = true then ((elt a0 st1).bind fun y2 => ((dO_ y2.Name).bind fun y3 => (if (!y3) = true then (some (.inr (.inr false))) else ((elt a0 st1).bind fun y4 => ((bV_ y4.Pattern).bind fun y5 => (if (!y5) = true then (some (.inr (.inr false))) else ((ax_ (S := Int) (R := (Unit ⊕ Bool)) (fun st2 => (if (decide (st2 < st1)) = true then ((elt a0 st2).bind fun y7 => ((elt a0 st1).bind fun y8 => (if (decide (y7.Name = y8.Name)) = true then (some (.inr (.inr false))) else (some (.inl (w4 (st2 + 1))))))) else (some (.inr (.inl ()))))) 0).bind fun y6 => (Sum.elim (fun y6 => (some (.inl (w4 (st1 + 1))))) (fun y6 => (some (.inr (.inr y6)))) y6)))))))) else (some (.inr (.inl ()))))) 0).bind fun y1 => (Sum.elim (fun y1 => (some true)) (fun y1 => (some y1)) y1)))
theorem hR_ (a0 : (Sl ac_)) (r : Bool) (h : dY_ a0 = some r) : ef_ a0 = some r := by
 unfold dY_ at h
 refine k_W ok_67 E_bool_inj h (fun σ0 => ?_)
 refine t_RN ?_
 refine t_RN ?_
 refine t_if (fun hc1 => ?_) fun hc1 => ?_
 ·refine t_RN ?_
  exact k_eW (rT rN) E_bool_p
 refine t_RN ?_
 refine aU_ (fun st1 fr => Sub [(0, a0.t), (3, i4 st1)] fr.s ∧ Heap σ0 fr.σ []) (fun y1 e fr => (Sum.elim (fun y => e = (.exit 0) ∧ Sub [] fr.s ∧ Heap σ0 fr.σ []) (fun y => e = .ret ∧ endW Try.prog (Try.f67.results.toList) σ0 (E_bool y) .ret fr)) y1) (fun hS hH => ⟨(af_ hS (by kernel_rfl)), hH⟩) (fun st1 x fr h HI => ?_) fun y1 e fr h HF => ?_
 ·obtain ⟨s, σ⟩ := fr; obtain ⟨hS, hH⟩ := HI
  refine t_bk h hS hH ?_
  refine t_RN ?_
  refine t_if (fun hc2 => ?_) fun hc2 => ?_
  ·refine t_RU 2 ?_
   refine bz_ fun y2 rest1 hy2 => ?_
   refine t_U 2 ?_
   refine ar_ fun y3 hy3 => ?_
   refine t_U 2 ?_
   refine aL_ 21 (fun hc3 => ?_) fun hc3 => ?_
   ·refine t_N ?_
    refine t_cT rfl ?_
    refine t_RN ?_
    exact t_e fun he hS hH => he ▸ ⟨rfl, (eW hS hH (rT rN) E_bool_p)⟩
   refine t_U 2 ?_
   refine bz_ fun y4 rest2 hy4 => ?_
   refine t_U 2 ?_
   refine ar_ fun y5 hy5 => ?_
   refine t_N ?_
   refine t_if (fun hc4 => ?_) fun hc4 => ?_
   ·refine t_RN ?_
    exact t_e fun he hS hH => he ▸ ⟨rfl, (eW hS hH (rT rN) E_bool_p)⟩
   refine t_RN ?_
   refine aU_ (fun st2 fr => Sub [(0, a0.t), (3, i4 st1), (4, i4 st2)] fr.s ∧ Heap σ0 fr.σ []) (fun y6 e fr => (Sum.elim (fun y => e = (.exit 2) ∧ Sub [(0, a0.t), (3, i4 st1)] fr.s ∧ Heap σ0 fr.σ []) (fun y => e = .ret ∧ endW Try.prog (Try.f67.results.toList) σ0 (E_bool y) .ret fr)) y6) (fun hS hH => ⟨(af_ hS (by kernel_rfl)), hH⟩) (fun st2 x fr h HI => ?_) fun y6 e fr h HF => ?_
   ·obtain ⟨s, σ⟩ := fr; obtain ⟨hS, hH⟩ := HI
    refine t_bk h hS hH ?_
    refine t_RN ?_
    refine t_if (fun hc5 => ?_) fun hc5 => ?_
    ·refine t_D fun mb => ?_
     refine t_U 2 ?_
     refine bz_ fun y7 rest3 hy7 => ?_
     refine t_U 4 ?_
     refine bz_ fun y8 rest4 hy8 => ?_
     refine t_N ?_
     refine t_if (fun hc6 => ?_) fun hc6 => ?_
     ·refine t_RN ?_
      exact t_e fun he hS hH => he ▸ ⟨rfl, (eW hS hH (rT rN) E_bool_p)⟩
     refine t_RN ?_
     exact t_e fun he hS hH => he ▸ ⟨(af_ hS (by kernel_rfl)), hH⟩
    exact t_e fun he hS hH => he ▸ ⟨rfl, (af_ hS (by kernel_rfl)), hH⟩
   obtain ⟨s, σ⟩ := fr
   rcases y6 with y6 | y6
   ·have h := el_l h
    obtain ⟨rfl, hS, hH⟩ := HF
    refine t_bx h hS hH ?_
    refine t_RN ?_
    exact t_e fun he hS hH => he ▸ ⟨(af_ hS (by kernel_rfl)), hH⟩
   have h := el_r h
   obtain ⟨rfl, HE⟩ := HF
   obtain rfl := si_1 h; exact ⟨rfl, HE⟩
  exact t_e fun he hS hH => he ▸ ⟨rfl, (af_ hS (by kernel_rfl)), hH⟩
 obtain ⟨s, σ⟩ := fr
 rcases y1 with y1 | y1
 ·have h := el_l h
  obtain ⟨rfl, hS, hH⟩ := HF
  refine t_bx h hS hH ?_
  refine t_RN ?_
  exact k_eW (rT rN) E_bool_p
 have h := el_r h
 obtain ⟨rfl, HE⟩ := HF
 obtain rfl := si_1 h; exact HE
noncomputable def eT_ (a0 : ac_) : Option ac_ := ((a0_ a0.Pattern).bind fun y1 => (some (⟨a0.Name, y1⟩ : ac_)))
theorem ip_ (a0 : ac_) (r : ac_) (h : eT_ a0 = some r) : eS_ a0 = some r := by
 unfold eT_ at h
 refine k_O ok_69 h (fun σ0 => ?_)
 refine t_R ?_
 refine bX_ (fun b1 => ?_)
 refine c5_ fun b2 => ?_
 refine t_N ?_
 refine t_R ?_
 refine c5_ fun b3 => ?_
 refine t_N ?_
 refine t_RU 1 ?_
 refine ag_ 2 ?_
 refine t_U 1 ?_
 refine aI_ 0 ?_
 refine t_N ?_
 refine t_RU 1 ?_
 refine ag_ 2 ?_
 refine bv_ (fun y1 t1 hy1 ht1 => ?_)
 refine t_U 1 ?_
 refine aI_ 1 ?_ (h1 := by simp [ht1.1, ht1.2])
 refine t_N ?_
 refine t_R ?_
 refine ag_ 0 ?_
 refine ch_ 2 ?_ (h1 := by simp [ht1.1, ht1.2])
 refine t_N ?_
 refine t_h Heap.up2 ?_
 exact k_eO [t1] (rC 1 rN)
noncomputable def dX_ (a0 : (Sl ac_)) (a1 : ByteArray) : Option (DPattern × Bool) := ((((ax_ (S := Int) (R := (Unit ⊕ Int)) (fun st1 => (if (decide (st1 < (a0.l.length : Int))) = true then ((elt a0 st1).bind fun y3 => (if (decide (y3.Name = a1)) = true then (some (.inr (.inr st1))) else (some (.inl (w4 (st1 + 1)))))) else (some (.inr (.inl ()))))) 0).bind fun y2 => (Sum.elim (fun y2 => (some (-1))) (fun y2 => (some y2)) y2)) : Option Int).bind fun y1 => (if (decide (y1 < 0)) = true then (some ((⟨0, 0, ⟨#[]⟩, ⟨true, []⟩⟩ : DPattern), false)) else ((elt a0 y1).bind fun y4 => (some (y4.Pattern, true)))))
theorem gL_ (a0 : (Sl ac_)) (a1 : ByteArray) (r : (DPattern × Bool)) (h : dX_ a0 a1 = some r) : dS_ a0 a1 = some r := by
 unfold dX_ at h
 refine k_W ok_70 E_t2_DPattern_bool_inj h (fun σ0 => ?_)
 refine t_R ?_
 refine bX_ (fun b1 => ?_)
 refine c5_ fun b2 => ?_
 refine t_N ?_
 refine t_RU 2 ?_
 refine eW_ (fun y1 s σ => Sub [(0, a0.t), (4, .ptr b2 0 0 4), (9, i4 y1)] s ∧ Heap σ0 σ [.box b2 [i4 0, i4 0, .str ⟨#[]⟩, (nt DPattern)]]) ok_110 (fun y1 => ?_) fun y1 s σ HF h => ?_
 ·refine t_RN ?_
  refine t_RN ?_
  refine aU_ (fun st1 fr => Sub [(0, a0.t), (1, T.fn 111 [] [.ptr b1 0 0 1]), (7, i4 (a0.l.length : Int)), (8, i4 st1)] fr.s ∧ Heap σ0 fr.σ [.box b2 [i4 0, i4 0, .str ⟨#[]⟩, (nt DPattern)], .box b1 [.str a1]]) (fun y2 e fr => (Sum.elim (fun y => e = (.exit 0) ∧ Sub [] fr.s ∧ Heap σ0 fr.σ [.box b2 [i4 0, i4 0, .str ⟨#[]⟩, (nt DPattern)]]) (fun y => e = .ret ∧ Sub [(4, i4 y)] fr.s ∧ Heap σ0 fr.σ [.box b2 [i4 0, i4 0, .str ⟨#[]⟩, (nt DPattern)]])) y2) (fun hS hH => ⟨(af_ hS (by kernel_rfl)), hH⟩) (fun st1 x fr h HI => ?_) fun y2 e fr h HF => ?_
  ·obtain ⟨s, σ⟩ := fr; obtain ⟨hS, hH⟩ := HI
   refine t_bk h hS hH ?_
   refine t_RN ?_
   refine t_if (fun hc1 => ?_) fun hc1 => ?_
   ·refine t_RN ?_
    refine t_RU 3 ?_
    refine bz_ fun y3 rest1 hy3 => ?_
    refine t_U 1 ?_
    refine et_ ok_111 ?_
    refine t_R ?_
    refine bX_ (fun b3 => ?_)
    refine t_N ?_
    refine t_RU 1 ?_
    refine ag_ 0 ?_
    refine ag_ 2 ?_
    refine t_N ?_
    refine k_eI (rT rN) ?_
    refine t_N ?_
    refine t_if (fun hc2 => ?_) fun hc2 => ?_
    ·refine t_RN ?_
     exact t_e fun he hS hH => he ▸ ⟨rfl, (af_ hS (by kernel_rfl)), (Heap.sel hH [1] rfl (by kernel_rfl))⟩
    refine t_RN ?_
    exact t_e fun he hS hH => he ▸ ⟨(af_ hS (by kernel_rfl)), (Heap.sel hH [1, 2] rfl (by kernel_rfl))⟩
   exact t_e fun he hS hH => he ▸ ⟨rfl, (af_ hS (by kernel_rfl)), (Heap.sel hH [0] rfl (by kernel_rfl))⟩
  obtain ⟨s, σ⟩ := fr
  rcases y2 with y2 | y2
  ·have h := el_l h
   obtain ⟨rfl, hS, hH⟩ := HF
   refine t_bx h hS hH ?_
   refine t_RN ?_
   exact cb_ (rT rN) fun he hS hH => he ▸ ⟨(af_ hS (by kernel_rfl)), hH⟩
  have h := el_r h
  obtain ⟨rfl, hS, hH⟩ := HF
  refine t_bx h hS hH ?_
  exact cb_ (rT rN) fun he hS hH => he ▸ ⟨(af_ hS (by kernel_rfl)), hH⟩
 obtain ⟨hS, hH⟩ := HF
 refine t_bk h hS hH ?_
 refine t_N ?_
 refine t_RN ?_
 refine t_if (fun hc3 => ?_) fun hc3 => ?_
 ·refine t_RU 1 ?_
  refine ch_ 0 ?_
  refine t_N ?_
  exact k_eW (rC 0 (rT rN)) E_t2_DPattern_bool_p
 refine t_RU 2 ?_
 refine bz_ fun y4 rest2 hy4 => ?_
 refine t_U 2 ?_
 refine ch_ 0 ?_
 refine t_N ?_
 exact k_eW (rC 0 (rT rN)) E_t2_DPattern_bool_p
noncomputable def ee_ (a0 : (Sl ac_)) : Option Bool := (if (decide (40 < (a0.l.length : Int))) = true then (some false) else ((cJ_ a0 (T.fn 113 [] [])).bind fun y1 => (if (!y1) = true then (some false) else ((ax_ (S := Int) (R := (Unit ⊕ Bool)) (fun st1 => (if (decide (st1 < (a0.l.length : Int))) = true then ((elt a0 st1).bind fun y3 => ((subS a0 0 st1).bind fun y4 => ((dS_ y4 y3.Name).bind fun y5 => (if y5.2 = true then (some (.inr (.inr false))) else (some (.inl (w4 (st1 + 1)))))))) else (some (.inr (.inl ()))))) 0).bind fun y2 => (Sum.elim (fun y2 => (some true)) (fun y2 => (some y2)) y2)))))
theorem ik_ (a0 : (Sl ac_)) (r : Bool) (h : ee_ a0 = some r) : d7_ a0 = some r := by
 unfold ee_ at h
 refine k_W ok_71 E_bool_inj h (fun σ0 => ?_)
 refine t_RN ?_
 refine t_RU 4 ?_
 refine aL_ 10 (fun hc1 => ?_) fun hc1 => ?_
 ·refine t_N ?_
  refine t_cT rfl ?_
  refine t_RN ?_
  exact k_eW (rT rN) E_bool_p
 refine t_U 1 ?_
 refine ar_ fun y1 hy1 => ?_
 refine t_N ?_
 refine t_if (fun hc2 => ?_) fun hc2 => ?_
 ·refine t_RN ?_
  exact k_eW (rT rN) E_bool_p
 refine t_RN ?_
 refine aU_ (fun st1 fr => Sub [(0, a0.t), (15, a0.t), (16, i4 (a0.l.length : Int)), (17, i4 st1)] fr.s ∧ Heap σ0 fr.σ []) (fun y2 e fr => (Sum.elim (fun y => e = (.exit 0) ∧ Sub [] fr.s ∧ Heap σ0 fr.σ []) (fun y => e = .ret ∧ endW Try.prog (Try.f71.results.toList) σ0 (E_bool y) .ret fr)) y2) (fun hS hH => ⟨(af_ hS (by kernel_rfl)), hH⟩) (fun st1 x fr h HI => ?_) fun y2 e fr h HF => ?_
 ·obtain ⟨s, σ⟩ := fr; obtain ⟨hS, hH⟩ := HI
  refine t_bk h hS hH ?_
  refine t_RN ?_
  refine t_if (fun hc3 => ?_) fun hc3 => ?_
  ·refine t_RU 1 ?_
   refine bz_ fun y3 rest1 hy3 => ?_
   refine t_U 1 ?_
   refine c5_ fun b1 => ?_
   refine t_U 1 ?_
   refine ch_ 0 ?_
   refine t_N ?_
   refine a6_ [(10, RN)] ext_x fun mb σs hn0 hlt hlto => ?_
   refine t_U 2 ?_
   refine qX_ fun y4 hy4 => ?_
   refine t_U 1 ?_
   refine ag_ 0 ?_ (hlt := by exact (Or.inl (by kernel_rfl)))
   refine ar_ fun y5 hy5 => ?_
   refine t_U 3 ?_
   refine lB_ (by exact hn0) fun b2 hwr_b2 => ?_
   refine ch_ 0 ?_ (hwr := by exact fun _ => Or.inl hwr_b2)
   refine t_N ?_
   refine t_RN ?_
   refine t_if (fun hc4 => ?_) fun hc4 => ?_
   ·refine t_RN ?_
    exact t_e fun he hS hH => he ▸ ⟨rfl, (eW hS hH (rT rN) E_bool_p)⟩
   refine t_RN ?_
   exact t_e fun he hS hH => he ▸ ⟨(af_ hS (by kernel_rfl)), (Heap.sel hH [] rfl (by kernel_rfl))⟩
  exact t_e fun he hS hH => he ▸ ⟨rfl, (af_ hS (by kernel_rfl)), hH⟩
 obtain ⟨s, σ⟩ := fr
 rcases y2 with y2 | y2
 ·have h := el_l h
  obtain ⟨rfl, hS, hH⟩ := HF
  refine t_bx h hS hH ?_
  refine t_RN ?_
  exact k_eW (rT rN) E_bool_p
 have h := el_r h
 obtain ⟨rfl, HE⟩ := HF
 obtain rfl := si_1 h; exact HE
noncomputable def eL_ (a0 : ac_) (a1 : ac_) : Option Bool := (if (!decide (a0.Name = a1.Name)) = true then (some false) else ((bg_ a0.Pattern a1.Pattern).bind fun y1 => (if (!y1) = true then (some false) else (some true))))
theorem iq_ (a0 : ac_) (a1 : ac_) (r : Bool) (h : eL_ a0 a1 = some r) : eR_ a0 a1 = some r := by
 unfold eL_ at h
 refine k_W ok_73 E_bool_inj h (fun σ0 => ?_)
 refine t_R ?_
 refine bX_ (fun b1 => ?_)
 refine bX_ (fun b2 => ?_)
 refine t_N ?_
 refine t_RU 1 ?_
 refine ag_ 1 ?_
 refine t_U 1 ?_
 refine ag_ 0 ?_
 refine t_N ?_
 refine t_if (fun hc1 => ?_) fun hc1 => ?_
 ·refine t_RN ?_
  exact k_eW (rT rN) E_bool_p
 refine t_RU 1 ?_
 refine ag_ 1 ?_
 refine t_U 1 ?_
 refine ag_ 0 ?_
 refine ar_ fun y1 hy1 => ?_
 refine t_N ?_
 refine t_if (fun hc2 => ?_) fun hc2 => ?_
 ·refine t_RN ?_
  exact k_eW (rT rN) E_bool_p
 refine t_RN ?_
 exact k_eW (rT rN) E_bool_p
noncomputable def cM_ (a0 : DPattern) : Option Bool := ((aC_ a0 0).bind fun y1 => (some (decide (y1 ≤ 60))))
theorem gb_ (a0 : DPattern) (r : Bool) (h : cM_ a0 = some r) : bU_ a0 = some r := by
 unfold cM_ at h
 refine k_W ok_78 E_bool_inj h (fun σ0 => ?_)
 refine t_R ?_
 refine bX_ (fun b1 => ?_)
 refine t_N ?_
 refine t_R ?_
 refine ag_ 0 ?_
 refine ar_ fun y1 hy1 => ?_
 refine t_N ?_
 exact k_eW (rT rN) E_bool_p
noncomputable def fu_ (a0 : (Sl ac_)) (a1 : DPattern) (a2 : ByteArray) (a3 : Int) : Option Int := ((ef_ a0).bind fun y1 => (if (!y1) = true then (some 1) else ((bV_ a1).bind fun y2 => (if (!y2) = true then (some 1) else (if (decide (200 < (a2.size : Int))) = true then (some 1) else ((bP_ a3 0 20000).bind fun y3 => (if (!y3) = true then (some 3) else (some 0))))))))
theorem i9_ (a0 : (Sl ac_)) (a1 : DPattern) (a2 : ByteArray) (a3 : Int) (r : Int) (h : fu_ a0 a1 a2 a3 = some r) : fk_ a0 a1 a2 a3 = some r := by
 unfold fu_ at h
 refine k_W ok_84 E_i64_inj h (fun σ0 => ?_)
 refine t_R ?_
 refine bX_ (fun b1 => ?_)
 refine t_N ?_
 refine t_RU 1 ?_
 refine ar_ fun y1 hy1 => ?_
 refine t_U 2 ?_
 refine aL_ 12 (fun hc1 => ?_) fun hc1 => ?_
 ·refine t_N ?_
  refine t_cT rfl ?_
  refine t_RN ?_
  exact k_eW (rT rN) E_i64_p
 refine ag_ 0 ?_
 refine ar_ fun y2 hy2 => ?_
 refine t_U 3 ?_
 refine aL_ 17 (fun hc2 => ?_) fun hc2 => ?_
 ·refine t_N ?_
  refine t_cT rfl ?_
  refine t_RN ?_
  exact k_eW (rT rN) E_i64_p
 refine t_N ?_
 refine t_if (fun hc3 => ?_) fun hc3 => ?_
 ·refine t_RN ?_
  exact k_eW (rT rN) E_i64_p
 refine t_RU 1 ?_
 refine ar_ fun y3 hy3 => ?_
 refine t_N ?_
 refine t_if (fun hc4 => ?_) fun hc4 => ?_
 ·refine t_RN ?_
  exact k_eW (rT rN) E_i64_p
 refine t_RN ?_
 exact k_eW (rT rN) E_i64_p
noncomputable def fD_ (a0 : Int) (a1 : Int) (a2 : Int) : Option Bool := (if (decide (a1 ≤ a0)) = true then (some (decide (a0 ≤ a2))) else (some false))
theorem kd_ (a0 : Int) (a1 : Int) (a2 : Int) (r : Bool) (h : fD_ a0 a1 a2 = some r) : bP_ a0 a1 a2 = some r := by
 unfold fD_ at h
 refine k_W ok_85 E_bool_inj h (fun σ0 => ?_)
 refine t_RN ?_
 refine t_RU 4 ?_
 refine aL_ 10 (fun hc1 => ?_) fun hc1 => ?_
 ·refine t_N ?_
  exact k_eW (rT rN) E_bool_p
 refine t_N ?_
 exact k_eW (rT rN) E_bool_p
end Go.Am
