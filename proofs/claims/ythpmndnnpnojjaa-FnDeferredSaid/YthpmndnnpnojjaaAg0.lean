/- Functions of the program. -/
import Derived.Test.YthpmndnnpnojjaaAd0
set_option maxRecDepth 100000
set_option maxHeartbeats 4000000
set_option linter.unusedVariables false
set_option linter.unusedSimpArgs false
namespace Go.Am
open Go.Proofs
noncomputable def dl_ (a0 : (Sl (Iv .u8))) : Option Bool := (if (decide (1048576 < (a0.l.length : Int))) = true then (some true) else ((fQ_ a0).bind fun y1 => ((fu_ 1 a0).bind fun y2 => ((dJ_ y2).bind fun y3 => ((gj_ a0 2 2).bind fun y4 => ((aA_ (S := Int) (R := (Unit ⊕ Bool)) (fun st1 => (if (decide (st1 < (y1.l.length : Int))) = true then ((elt y1 st1).bind fun y6 => ((c0_ y1 y6.Name).bind fun y7 => (if (!y7.2) = true then (some (.inr (.inr false))) else ((elt y1 st1).bind fun y8 => ((cf_ y7.1 y8.Pattern).bind fun y9 => (if (!y9) = true then (some (.inr (.inr false))) else ((cz_ y1 y7.1 y3 (decide (y4 = 0)) 1000).bind fun y10 => ((elt y1 st1).bind fun y11 => ((eY_ 24 y11.Name ⟨true, []⟩).bind fun y12 => ((cz_ y1 y12 y3 (decide (y4 = 0)) 1100).bind fun y13 => (if (!decide (y10.2 = 7)) = true then (if (!decide (y10.2 = y13.2)) = true then (some (.inr (.inr false))) else ((cU_ y10.1 y13.1).bind fun y14 => (if (!y14) = true then (some (.inr (.inr false))) else (some (.inl (w4 (st1 + 1))))))) else (some (.inl (w4 (st1 + 1))))))))))))))) else (some (.inr (.inl ()))))) 0).bind fun y5 => (Sum.elim (fun y5 => (some true)) (fun y5 => (some y5)) y5)))))))
theorem g8_ (a0 : (Sl (Iv .u8))) (r : Bool) (h : dl_ a0 = some r) : eK_ a0 = some r := by
 unfold dl_ at h
 refine k_W ok_14 E_bool_inj h (fun σ0 => ?_)
 refine t_RN ?_
 refine t_RN ?_
 refine t_if (fun hc1 => ?_) fun hc1 => ?_
 ·refine t_RN ?_
  exact k_eW (rT rN) E_bool_p
 refine t_RU 1 ?_
 refine aw_ fun y1 hy1 => ?_
 refine t_N ?_
 refine t_RU 1 ?_
 refine aw_ fun y2 hy2 => ?_
 refine aw_ fun y3 hy3 => ?_
 refine t_N ?_
 refine t_RU 1 ?_
 refine aw_ fun y4 hy4 => ?_
 refine t_N ?_
 refine t_RN ?_
 refine a8_ (fun st1 fr => Sub [(3, y1.t), (4, .str y3), (5, .bool (decide (y4 = 0))), (6, i4 st1)] fr.s ∧ Heap σ0 fr.σ []) (fun y5 e fr => (Sum.elim (fun y => e = (.exit 0) ∧ Sub [] fr.s ∧ Heap σ0 fr.σ []) (fun y => e = .ret ∧ endW Try.prog (Try.f14.results.toList) σ0 (E_bool y) .ret fr)) y5) (fun hS hH => ⟨(ad_ hS (by kernel_rfl)), hH⟩) (fun st1 x fr h HI => ?_) fun y5 e fr h HF => ?_
 ·obtain ⟨s, σ⟩ := fr; obtain ⟨hS, hH⟩ := HI
  refine t_bk h hS hH ?_
  refine t_RN ?_
  refine t_if (fun hc2 => ?_) fun hc2 => ?_
  ·refine t_RU 3 ?_
   refine bM_ fun y6 rest1 hy6 => ?_
   refine t_U 2 ?_
   refine aw_ fun y7 hy7 => ?_
   refine t_U 3 ?_
   refine bL_ fun b1 => ?_
   refine aS_ 0 ?_
   refine t_N ?_
   refine t_D fun mb => ?_
   refine t_U 3 ?_
   refine aK_ 42 (fun hc3 => ?_) fun hc3 => ?_
   ·refine t_N ?_
    refine t_cT rfl ?_
    refine t_RN ?_
    exact t_e fun he hS hH => he ▸ ⟨rfl, (eW hS hH (rT rN) E_bool_p)⟩
   refine ae_ 0 ?_
   refine t_U 2 ?_
   refine bM_ fun y8 rest2 hy8 => ?_
   refine t_U 2 ?_
   refine aw_ fun y9 hy9 => ?_
   refine t_N ?_
   refine t_if (fun hc4 => ?_) fun hc4 => ?_
   ·refine t_RN ?_
    exact t_e fun he hS hH => he ▸ ⟨rfl, (eW hS hH (rT rN) E_bool_p)⟩
   refine t_RU 1 ?_
   refine ae_ 0 ?_
   refine t_U 2 ?_
   refine aw_ fun y10 hy10 => ?_
   refine t_N ?_
   refine t_RU 3 ?_
   refine bM_ fun y11 rest3 hy11 => ?_
   refine t_U 2 ?_
   refine aw_ fun y12 hy12 => ?_
   refine t_U 2 ?_
   refine aw_ fun y13 hy13 => ?_
   refine t_N ?_
   refine t_RU 3 ?_
   refine aK_ 75 (fun hc5 => ?_) fun hc5 => ?_
   ·refine t_U 4 ?_
    refine aK_ 79 (fun hc6 => ?_) fun hc6 => ?_
    ·refine t_N ?_
     refine t_cT rfl ?_
     refine t_RN ?_
     exact t_e fun he hS hH => he ▸ ⟨rfl, (eW hS hH (rT rN) E_bool_p)⟩
    refine t_U 2 ?_
    refine aw_ fun y14 hy14 => ?_
    refine t_N ?_
    refine t_if (fun hc7 => ?_) fun hc7 => ?_
    ·refine t_RN ?_
     exact t_e fun he hS hH => he ▸ ⟨rfl, (eW hS hH (rT rN) E_bool_p)⟩
    refine t_RN ?_
    exact t_e fun he hS hH => he ▸ ⟨(ad_ hS (by kernel_rfl)), (Heap.sel hH [] rfl (by kernel_rfl))⟩
   refine t_N ?_
   refine t_cF ff_ne ?_
   refine t_RN ?_
   exact t_e fun he hS hH => he ▸ ⟨(ad_ hS (by kernel_rfl)), (Heap.sel hH [] rfl (by kernel_rfl))⟩
  exact t_e fun he hS hH => he ▸ ⟨rfl, (ad_ hS (by kernel_rfl)), hH⟩
 obtain ⟨s, σ⟩ := fr
 rcases y5 with y5 | y5
 ·have h := el_l h
  obtain ⟨rfl, hS, hH⟩ := HF
  refine t_bx h hS hH ?_
  refine t_RN ?_
  exact k_eW (rT rN) E_bool_p
 have h := el_r h
 obtain ⟨rfl, HE⟩ := HF
 obtain rfl := si_1 h; exact HE
noncomputable def c6_ (a0 : (Sl DNamed)) (a1 : ByteArray) : Option (DPattern × Bool) := ((c1_ a0 a1).bind fun y1 => (if (!y1.2) = true then (some ((⟨0, 0, ⟨#[]⟩, ⟨true, []⟩⟩ : DPattern), false)) else ((c4_ a0).bind fun y2 => (if (!y2) = true then (some ((⟨0, 0, ⟨#[]⟩, ⟨true, []⟩⟩ : DPattern), false)) else ((bG_ y1.1).bind fun y3 => (some (y3, true)))))))
theorem gE_ (a0 : (Sl DNamed)) (a1 : ByteArray) (r : (DPattern × Bool)) (h : c6_ a0 a1 = some r) : c0_ a0 a1 = some r := by
 unfold c6_ at h
 refine k_W ok_29 E_t2_DPattern_bool_inj h (fun σ0 => ?_)
 refine t_R ?_
 refine bL_ fun b1 => ?_
 refine t_N ?_
 refine t_RU 2 ?_
 refine aw_ fun y1 hy1 => ?_
 refine t_U 3 ?_
 refine bL_ fun b2 => ?_
 refine aS_ 0 ?_
 refine t_N ?_
 refine t_RU 3 ?_
 refine aK_ 16 (fun hc1 => ?_) fun hc1 => ?_
 ·refine t_N ?_
  refine t_cT rfl ?_
  refine t_RU 1 ?_
  refine aS_ 1 ?_
  refine t_N ?_
  exact k_eW (rC 0 (rT rN)) E_t2_DPattern_bool_p
 refine t_U 1 ?_
 refine aw_ fun y2 hy2 => ?_
 refine t_N ?_
 refine t_if (fun hc2 => ?_) fun hc2 => ?_
 ·refine t_RU 1 ?_
  refine aS_ 1 ?_
  refine t_N ?_
  exact k_eW (rC 0 (rT rN)) E_t2_DPattern_bool_p
 refine t_R ?_
 refine ae_ 0 ?_
 refine ht_ (fun y3 t1 hy3 ht1 => ?_)
 refine aS_ 2 ?_ (h1 := by simp [ht1.1, ht1.2])
 refine t_N ?_
 intro h s σ hS hH
 obtain rfl := si_1 h
 have hH := hH.up1
 exact oy_ (ents := [.own true 4 t1 y3.Kids.t]) (z := false) hH (fH_ (v := .agg [i4 y3.Kind, i4 y3.Num, .str y3.Text, t1]) hS (hH.at 1 rfl) rfl (by kernel_rfl) (bk_ (v := .bool true) hS rfl r_nil)) (HL.tup (es1 := [.own true 4 t1 y3.Kids.t]) (es2 := []) (HL.agg (es1 := [.own true 4 t1 y3.Kids.t]) (es2 := []) (HLi (HLi (HLs (HL.own rfl HL.nil)))) (HLb HL.nil)) HL.nil) (by simp [pureT, pureL, E_t2_DPattern_bool])
noncomputable def fG_ (a0 : Int) (a1 : (Sl (Iv .u8))) : Option (Sl (Iv .u8)) := ((appS 1 ((⟨false, [⟨(IntKind.u8.wrap a0)⟩]⟩ : Sl (Iv .u8))) a1).bind fun y1 => (some y1))
theorem j0_ (a0 : Int) (a1 : (Sl (Iv .u8))) (r : (Sl (Iv .u8))) (h : fG_ a0 a1 = some r) : fu_ a0 a1 = some r := by
 unfold fG_ at h
 refine k_W ok_33 E_sl_u8_inj h (fun σ0 => ?_)
 refine t_RN ?_
 refine t_RU 2 ?_
 refine k_bs (z := true) (⟨false, [⟨(IntKind.u8.wrap a0)⟩]⟩ : Sl (Iv .u8)) (fun t1 ht1 => ?_)
 refine t_U 1 ?_
 refine oV_ 0 (fun y1 t2 hy1 ht2 => ?_)
 refine t_N ?_
 intro h s σ hS hH
 obtain rfl := si_1 h
 exact oy_ (ents := [.own true 1 t2 y1.t]) (z := false) hH (bk_ (v := t2) hS rfl r_nil) (HL.own rfl HL.nil) (by simp [pureT, pureL, E_sl_u8])
noncomputable def cO_ (a0 : DPattern) (a1 : DPattern) : Option Bool := (if (decide (a0.Kind = a1.Kind)) = true then (if (decide (a0.Num = a1.Num)) = true then (if (decide (a0.Text = a1.Text)) = true then ((bE_ a0.Kids a1.Kids (T.fn 36 [] [])).bind fun y1 => (some y1)) else (some false)) else (some false)) else (some false))
theorem gy_ (a0 : DPattern) (a1 : DPattern) (r : Bool) (h : cO_ a0 a1 = some r) : cf_ a0 a1 = some r := by
 unfold cO_ at h
 refine k_W ok_36 E_bool_inj h (fun σ0 => ?_)
 refine t_R ?_
 refine cK_ (fun b1 => ?_)
 refine cK_ (fun b2 => ?_)
 refine t_N ?_
 refine t_RU 1 ?_
 refine ae_ 1 ?_
 refine t_U 1 ?_
 refine ae_ 0 ?_
 refine t_U 2 ?_
 refine aK_ 10 (fun hc1 => ?_) fun hc1 => ?_
 ·refine t_U 1 ?_
  refine ae_ 1 ?_
  refine t_U 1 ?_
  refine ae_ 0 ?_
  refine t_U 3 ?_
  refine aK_ 17 (fun hc2 => ?_) fun hc2 => ?_
  ·refine t_U 1 ?_
   refine ae_ 1 ?_
   refine t_U 1 ?_
   refine ae_ 0 ?_
   refine t_U 3 ?_
   refine aK_ 24 (fun hc3 => ?_) fun hc3 => ?_
   ·refine t_U 1 ?_
    refine ae_ 1 ?_
    refine t_U 1 ?_
    refine ae_ 0 ?_
    refine aw_ fun y1 hy1 => ?_
    refine t_N ?_
    exact k_eW (rT rN) E_bool_p
   refine t_N ?_
   exact k_eW (rT rN) E_bool_p
  refine t_N ?_
  exact k_eW (rT rN) E_bool_p
 refine t_N ?_
 exact k_eW (rT rN) E_bool_p
noncomputable def bn_ (a0 : ag_) : Option (Int × ag_) := (((if (decide (a0.at_ < (a0.code_.l.length : Int))) = true then ((elt a0.code_ a0.at_).bind fun y2 => (some (w4 y2.v))) else (some 0)) : Option Int).bind fun y1 => (if ((decide ((w4 (a0.at_ + 1)) ≤ (a0.code_.l.length : Int)))) = true then (some (y1, (⟨a0.code_, (w4 (a0.at_ + 1)), (IntKind.u64.wrap ((IntKind.u64.wrap ((IntKind.u64.wrap (a0.seed_ * 6364136223846793005)) + (IntKind.u64.wrap y1))) + 1442695040888963407))⟩ : ag_))) else (some ((w4 ((andI .u64 ((((IntKind.u64.wrap ((IntKind.u64.wrap ((IntKind.u64.wrap (a0.seed_ * 6364136223846793005)) + (IntKind.u64.wrap y1))) + 1442695040888963407))).fdiv (2 ^ 40))) 255))), (⟨a0.code_, (w4 (a0.at_ + 1)), (IntKind.u64.wrap ((IntKind.u64.wrap ((IntKind.u64.wrap (a0.seed_ * 6364136223846793005)) + (IntKind.u64.wrap y1))) + 1442695040888963407))⟩ : ag_)))))
theorem ey_ (a0 : ag_) (r : (Int × ag_)) (h : bn_ a0 = some r) (bp0 : Nat) : RawS Try.prog md ext 120 [.ptr bp0 0 0 3] 0 (fun hs => E_i64 r.1) [.box bp0 (ag_.cells a0)] (fun hs => [.box bp0 (ag_.cells r.2)]) := by
 unfold bn_ at h
 refine b3_ rfl rfl ok_120 rfl ?_
 intro σ0 σ F σk s hS hH
 have hS := ad_ (L' := [(0, .ptr bp0 0 0 3)]) hS (by kernel_rfl)
 refine t_go h hS hH ?_
 refine t_RN ?_
 refine t_RN ?_
 refine t_D fun mb => ?_
 refine t_U 3 ?_
 refine ae_ 0 ?_
 refine t_U 3 ?_
 refine ae_ 0 ?_
 refine t_N ?_
 refine eJ_ 0 (fun y1 e fr => e = .normal ∧ Sub [(0, .ptr bp0 0 0 3), (3, i4 y1)] fr.s ∧ Heap σ0 fr.σ [.box bp0 (ag_.cells a0), .keep F σk]) (fun y1 e fr h HF => ?_) fun y1 => ?_
 ·obtain ⟨s, σ⟩ := fr
  obtain ⟨rfl, hS, hH⟩ := HF
  refine t_bx h hS hH ?_
  refine t_RU 3 ?_
  refine ae_ 0 ?_
  refine t_U 3 ?_
  refine aI_ 0 ?_
  refine t_N ?_
  refine t_RU 4 ?_
  refine ae_ 0 ?_
  refine t_U 7 ?_
  refine aI_ 0 ?_
  refine t_N ?_
  refine t_D fun mb => ?_
  refine t_U 3 ?_
  refine ae_ 0 ?_
  refine t_U 3 ?_
  refine ae_ 0 ?_
  refine t_N ?_
  refine t_if (fun hc1 => ?_) fun hc1 => ?_
  ·refine t_RN ?_
   intro h s σ hS hH
   obtain rfl := si_1 h
   exact aP_ [] (bk_ (v := i4 y1) hS rfl r_nil) rfl rfl hH
  refine t_RU 3 ?_
  refine ae_ 0 ?_
  refine t_N ?_
  intro h s σ hS hH
  obtain rfl := si_1 h
  exact aP_ [] (bk_ (v := i4 ((w4 ((andI .u64 ((((IntKind.u64.wrap ((IntKind.u64.wrap ((IntKind.u64.wrap (a0.seed_ * 6364136223846793005)) + (IntKind.u64.wrap y1))) + 1442695040888963407))).fdiv (2 ^ 40))) 255))))) hS rfl r_nil) rfl rfl hH
 refine t_if (fun hc2 => ?_) fun hc2 => ?_
 ·refine t_D fun mb => ?_
  refine t_U 3 ?_
  refine ae_ 0 ?_
  refine t_U 3 ?_
  refine ae_ 0 ?_
  refine bM_ fun y2 rest1 hy2 => ?_
  refine t_N ?_
  exact t_e fun he hS hH => he ▸ ⟨rfl, (ad_ hS (by kernel_rfl)), hH⟩
 exact t_e fun he hS hH => he ▸ ⟨rfl, (ad_ hS (by kernel_rfl)), hH⟩
noncomputable def aN_ (a0 : ag_) (a1 : Int) : Option (Int × ag_) := (if (decide (a1 ≤ 1)) = true then (some (0, a0)) else ((bn_ a0).bind fun y1 => (if (decide (200 < a1)) = true then ((bn_ y1.2).bind fun y2 => ((remI (w4 ((w4 (y1.1 * 256)) + y2.1)) a1).bind fun y3 => (some (y3, y2.2)))) else ((remI y1.1 a1).bind fun y4 => (some (y4, y1.2))))))
theorem bm_ (a0 : ag_) (a1 : Int) (r : (Int × ag_)) (h : aN_ a0 a1 = some r) (bp0 : Nat) : RawS Try.prog md ext 77 [.ptr bp0 0 0 3, i4 a1] 0 (fun hs => E_i64 r.1) [.box bp0 (ag_.cells a0)] (fun hs => [.box bp0 (ag_.cells r.2)]) := by
 unfold aN_ at h
 refine b3_ rfl rfl ok_77 rfl ?_
 intro σ0 σ F σk s hS hH
 have hS := ad_ (L' := [(0, .ptr bp0 0 0 3), (1, i4 a1)]) hS (by kernel_rfl)
 refine t_go h hS hH ?_
 refine t_RN ?_
 refine t_RN ?_
 refine t_if (fun hc1 => ?_) fun hc1 => ?_
 ·refine t_RN ?_
  intro h s σ hS hH
  obtain rfl := si_1 h
  exact aP_ [] (bk_ (v := i4 0) hS rfl r_nil) rfl rfl hH
 refine t_RU 1 ?_
 refine aJ_ (fun y1 hs hy1 hl => ?_) (hr := by exact fun y1 hy1 => ey_ _ y1 hy1 bp0)
 obtain rfl := len0 hl
 refine bf_ ?_
 refine t_N ?_
 refine t_RN ?_
 refine t_if (fun hc2 => ?_) fun hc2 => ?_
 ·refine t_RU 3 ?_
  refine aJ_ (fun y2 hs hy2 hl => ?_) (hr := by exact fun y2 hy2 => ey_ _ y2 hy2 bp0)
  obtain rfl := len0 hl
  refine bf_ ?_
  refine t_N ?_
  refine t_RU 2 ?_
  intro h s σ hS hH
  obtain ⟨y3, hy3, h⟩ := bind_some h
  refine iD_ rfl hS rfl rfl hy3 ?_; intro s hS
  refine t_bk h hS hH ?_
  refine t_N ?_
  intro h s σ hS hH
  obtain rfl := si_1 h
  exact aP_ [] (bk_ (v := i4 y3) hS rfl r_nil) rfl rfl hH
 refine t_RU 2 ?_
 intro h s σ hS hH
 obtain ⟨y4, hy4, h⟩ := bind_some h
 refine iD_ rfl hS rfl rfl hy4 ?_; intro s hS
 refine t_bk h hS hH ?_
 refine t_N ?_
 intro h s σ hS hH
 obtain rfl := si_1 h
 exact aP_ [] (bk_ (v := i4 y4) hS rfl r_nil) rfl rfl hH
noncomputable def a5_ (a0 : ag_) (a1 : (Sl ByteArray)) : Option (ByteArray × ag_ × (Sl ByteArray)) := ((aN_ a0 (a1.l.length : Int)).bind fun y1 => ((elt a1 y1.1).bind fun y2 => (some (y2, y1.2, a1))))
theorem cR_ (a0 : ag_) (a1 : (Sl ByteArray)) (r : (ByteArray × ag_ × (Sl ByteArray))) (h : a5_ a0 a1 = some r) (bp0 : Nat) (wp1_1 : Nat) (p1_1 : T) : RawS Try.prog md ext 126 [.ptr bp0 0 0 3, p1_1] 0 (fun hs => E_str r.1) [.box bp0 (ag_.cells a0), .own true wp1_1 p1_1 a1.t] (fun hs => [.box bp0 (ag_.cells r.2.1), .own true wp1_1 p1_1 r.2.2.t]) := by
 unfold a5_ at h
 refine b3_ rfl rfl ok_126 rfl ?_
 intro σ0 σ F σk s hS hH
 have hp1_1 : as_ p1_1 := Heap.one (hH.at 1 rfl)
 have hS := ad_ (L' := [(0, .ptr bp0 0 0 3), (1, p1_1)]) hS (by kernel_rfl)
 refine t_go h hS hH ?_
 refine t_RN ?_
 refine t_RU 3 ?_
 refine km_ (a := a1) 1 ?_
 refine aJ_ (fun y1 hs hy1 hl => ?_) (hr := by exact fun y1 hy1 => bm_ _ _ y1 hy1 bp0)
 obtain rfl := len0 hl
 refine bf_ ?_
 refine nN_ 1 (fun hb1 hb1e y2 hy2 hl_hb1 => ?_)
 refine kz_ 1 0 hl_hb1 hy2 ?_
 refine t_N ?_
 intro h s σ hS hH
 obtain rfl := si_1 h
 exact aP_ [] (bk_ (v := .str y2) hS rfl r_nil) rfl rfl hH
noncomputable def bv_ (a0 : ag_) : Option (ByteArray × ag_) := ((a5_ a0 (⟨false, [⟨#[97]⟩, ⟨#[98]⟩, ⟨#[97, 98]⟩, ⟨#[98, 97]⟩, ⟨#[97, 98, 99]⟩, ⟨#[40]⟩, ⟨#[41]⟩, ⟨#[40, 41]⟩, ⟨#[120]⟩, ⟨#[97, 97]⟩, ⟨#[99]⟩, ⟨#[34]⟩, ⟨#[97, 34, 98]⟩, ⟨#[0]⟩, ⟨#[120, 121]⟩, ⟨#[98, 99]⟩]⟩)).bind fun y1 => (some (y1.1, y1.2.1)))
theorem fy_ (a0 : ag_) (r : (ByteArray × ag_)) (h : bv_ a0 = some r) (bp0 : Nat) : RawS Try.prog md ext 93 [.ptr bp0 0 0 3] 0 (fun hs => E_str r.1) [.box bp0 (ag_.cells a0)] (fun hs => [.box bp0 (ag_.cells r.2)]) := by
 unfold bv_ at h
 refine b3_ rfl rfl ok_93 rfl ?_
 intro σ0 σ F σk s hS hH
 have hS := ad_ (L' := [(0, .ptr bp0 0 0 3)]) hS (by kernel_rfl)
 refine t_go h hS hH ?_
 refine t_RN ?_
 refine t_RU 1 ?_
 refine k_bs (z := true) (⟨false, [⟨#[97]⟩, ⟨#[98]⟩, ⟨#[97, 98]⟩, ⟨#[98, 97]⟩, ⟨#[97, 98, 99]⟩, ⟨#[40]⟩, ⟨#[41]⟩, ⟨#[40, 41]⟩, ⟨#[120]⟩, ⟨#[97, 97]⟩, ⟨#[99]⟩, ⟨#[34]⟩, ⟨#[97, 34, 98]⟩, ⟨#[0]⟩, ⟨#[120, 121]⟩, ⟨#[98, 99]⟩]⟩ : Sl ByteArray) (fun t1 ht1 => ?_)
 refine t_h Heap.up1 ?_
 refine aJ_ (fun y1 hs hy1 hl => ?_) (hr := by exact fun y1 hy1 => cR_ _ _ y1 hy1 bp0 1 t1)
 obtain rfl := len0 hl
 refine bf_ ?_
 refine t_N ?_
 intro h s σ hS hH
 obtain rfl := si_1 h
 exact aP_ [] (bk_ (v := .str y1.1) hS rfl r_nil) rfl rfl (Heap.sel hH [0, 2] rfl (by kernel_rfl))
noncomputable def aZ_ (a0 : ag_) (a1 : Int) : Option (Bool × ag_) := ((aN_ a0 a1).bind fun y1 => (some ((decide (y1.1 = 0)), y1.2)))
theorem cr_ (a0 : ag_) (a1 : Int) (r : (Bool × ag_)) (h : aZ_ a0 a1 = some r) (bp0 : Nat) : RawS Try.prog md ext 115 [.ptr bp0 0 0 3, i4 a1] 0 (fun hs => E_bool r.1) [.box bp0 (ag_.cells a0)] (fun hs => [.box bp0 (ag_.cells r.2)]) := by
 unfold aZ_ at h
 refine b3_ rfl rfl ok_115 rfl ?_
 intro σ0 σ F σk s hS hH
 have hS := ad_ (L' := [(0, .ptr bp0 0 0 3), (1, i4 a1)]) hS (by kernel_rfl)
 refine t_go h hS hH ?_
 refine t_RN ?_
 refine t_RU 2 ?_
 refine aJ_ (fun y1 hs hy1 hl => ?_) (hr := by exact fun y1 hy1 => bm_ _ _ y1 hy1 bp0)
 obtain rfl := len0 hl
 refine bf_ ?_
 refine t_N ?_
 intro h s σ hS hH
 obtain rfl := si_1 h
 exact aP_ [] (bk_ (v := .bool (decide (y1.1 = 0))) hS rfl r_nil) rfl rfl hH
noncomputable def bN_ (a0 : ag_) : Option (ByteArray × ag_) := ((aZ_ a0 4).bind fun y1 => (if y1.1 = true then ((a5_ y1.2 (⟨false, [⟨#[]⟩, ⟨#[97]⟩, ⟨#[97, 98]⟩, ⟨#[40, 97, 41, 40, 98, 41]⟩, ⟨#[40, 40, 97, 41, 98, 41]⟩, ⟨#[97, 97, 97, 97]⟩, ⟨#[97, 98, 99, 97, 98, 99]⟩, ⟨#[120, 40, 121]⟩, ⟨#[41, 40]⟩, ⟨#[97, 98, 34, 99]⟩]⟩)).bind fun y2 => (some (y2.1, y2.2.1))) else ((aN_ y1.2 6).bind fun y3 => ((aA_ (S := (ByteArray × Int × (Sl (Iv .u8)) × Int × Int)) (R := (ByteArray × (Sl (Iv .u8)) × Int × Int)) (fun st1 => (if (decide (0 < st1.2.1)) = true then ((bv_ (⟨st1.2.2.1, st1.2.2.2.1, st1.2.2.2.2⟩ : ag_)).bind fun y5 => ((catB st1.1 y5.1).bind fun y6 => (some (.inl (y6, (w4 (st1.2.1 - 1)), y5.2.code_, y5.2.at_, y5.2.seed_))))) else (some (.inr (st1.1, st1.2.2.1, st1.2.2.2.1, st1.2.2.2.2))))) (⟨#[]⟩, y3.1, y3.2.code_, y3.2.at_, y3.2.seed_)).bind fun y4 => (some (y4.1, (⟨y4.2.1, y4.2.2.1, y4.2.2.2⟩ : ag_)))))))
theorem gY_ (a0 : ag_) (r : (ByteArray × ag_)) (h : bN_ a0 = some r) (bp0 : Nat) : RawS Try.prog md ext 92 [.ptr bp0 0 0 3] 0 (fun hs => E_str r.1) [.box bp0 (ag_.cells a0)] (fun hs => [.box bp0 (ag_.cells r.2)]) := by
 unfold bN_ at h
 refine b3_ rfl rfl ok_92 rfl ?_
 intro σ0 σ F σk s hS hH
 have hS := ad_ (L' := [(0, .ptr bp0 0 0 3)]) hS (by kernel_rfl)
 refine t_go h hS hH ?_
 refine t_RN ?_
 refine t_RU 1 ?_
 refine aJ_ (fun y1 hs hy1 hl => ?_) (hr := by exact fun y1 hy1 => cr_ _ _ y1 hy1 bp0)
 obtain rfl := len0 hl
 refine bf_ ?_
 refine t_N ?_
 refine t_if (fun hc1 => ?_) fun hc1 => ?_
 ·refine t_RU 1 ?_
  refine k_bs (z := true) (⟨false, [⟨#[]⟩, ⟨#[97]⟩, ⟨#[97, 98]⟩, ⟨#[40, 97, 41, 40, 98, 41]⟩, ⟨#[40, 40, 97, 41, 98, 41]⟩, ⟨#[97, 97, 97, 97]⟩, ⟨#[97, 98, 99, 97, 98, 99]⟩, ⟨#[120, 40, 121]⟩, ⟨#[41, 40]⟩, ⟨#[97, 98, 34, 99]⟩]⟩ : Sl ByteArray) (fun t1 ht1 => ?_)
  refine t_h Heap.up1 ?_
  refine aJ_ (fun y2 hs hy2 hl => ?_) (hr := by exact fun y2 hy2 => cR_ _ _ y2 hy2 bp0 1 t1)
  obtain rfl := len0 hl
  refine bf_ ?_
  refine t_N ?_
  intro h s σ hS hH
  obtain rfl := si_1 h
  exact aP_ [] (bk_ (v := .str y2.1) hS rfl r_nil) rfl rfl (Heap.sel hH [0, 2] rfl (by kernel_rfl))
 refine t_RN ?_
 refine t_RU 1 ?_
 refine aJ_ (fun y3 hs hy3 hl => ?_) (hr := by exact fun y3 hy3 => bm_ _ _ y3 hy3 bp0)
 obtain rfl := len0 hl
 refine bf_ ?_
 refine t_N ?_
 refine a8_ (fun st1 fr => Sub [(0, .ptr bp0 0 0 3), (3, .str st1.1), (4, i4 st1.2.1)] fr.s ∧ Heap σ0 fr.σ [.box bp0 [st1.2.2.1.t, i4 st1.2.2.2.1, .int .u64 st1.2.2.2.2], .keep F σk]) (fun y4 e fr => e = (.exit 0) ∧ Sub [(3, .str y4.1)] fr.s ∧ Heap σ0 fr.σ [.box bp0 [y4.2.1.t, i4 y4.2.2.1, .int .u64 y4.2.2.2], .keep F σk]) (fun hS hH => ⟨(ad_ hS (by kernel_rfl)), hH⟩) (fun st1 x fr h HI => ?_) fun y4 e fr h HF => ?_
 ·obtain ⟨s, σ⟩ := fr; obtain ⟨hS, hH⟩ := HI
  refine t_bk h hS hH ?_
  refine t_RN ?_
  refine t_if (fun hc2 => ?_) fun hc2 => ?_
  ·refine t_RU 2 ?_
   refine aJ_ (fun y5 hs hy5 hl => ?_) (hr := by exact fun y5 hy5 => fy_ _ y5 hy5 bp0)
   obtain rfl := len0 hl
   refine bf_ ?_
   refine rD_ fun y6 hy6 => ?_
   refine t_N ?_
   refine t_RN ?_
   exact t_e fun he hS hH => he ▸ ⟨(ad_ hS (by kernel_rfl)), hH⟩
  exact t_e fun he hS hH => he ▸ ⟨rfl, (ad_ hS (by kernel_rfl)), hH⟩
 obtain ⟨s, σ⟩ := fr
 obtain ⟨rfl, hS, hH⟩ := HF
 refine t_bx h hS hH ?_
 refine t_RN ?_
 intro h s σ hS hH
 obtain rfl := si_1 h
 exact aP_ [] (bk_ (v := .str y4.1) hS rfl r_nil) rfl rfl hH
noncomputable def dK_ (a0 : (Sl (Iv .u8))) : Option ByteArray := ((bN_ (⟨a0, 0, 0⟩ : ag_)).bind fun y1 => (some y1.1))
theorem hk_ (a0 : (Sl (Iv .u8))) (r : ByteArray) (h : dK_ a0 = some r) : dJ_ a0 = some r := by
 unfold dK_ at h
 refine k_W ok_48 E_str_inj h (fun σ0 => ?_)
 refine t_RN ?_
 refine t_RU 1 ?_
 refine eq_ ok_74 ?_
 refine t_RN ?_
 refine t_RU 2 ?_
 refine cK_ (fun b1 => ?_)
 refine t_N ?_
 refine k_eI (rT rN) ?_
 refine t_N ?_
 refine t_RU 1 ?_
 refine aJ_ (fun y1 hs hy1 hl => ?_) (hr := by exact fun y1 hy1 => gY_ _ y1 hy1 b1)
 obtain rfl := len0 hl
 refine bf_ ?_
 refine t_N ?_
 exact k_eW (rT rN) E_str_p
noncomputable def gu_ (a0 : Int) (a1 : ByteArray) (a2 : (Sl DPattern)) : Option DPattern := (some (⟨a0, 0, a1, a2⟩ : DPattern))
theorem jo_ (a0 : Int) (a1 : ByteArray) (a2 : (Sl DPattern)) (r : DPattern) (h : gu_ a0 a1 a2 = some r) : eY_ a0 a1 a2 = some r := by
 unfold gu_ at h
 refine k_W ok_50 E_DPattern_inj h (fun σ0 => ?_)
 refine t_R ?_
 refine bL_ fun b1 => ?_
 refine t_N ?_
 refine t_RU 4 ?_
 refine aS_ 0 ?_
 refine t_N ?_
 exact k_eW (rC 0 rN) E_DPattern_p
noncomputable def e1_ (a0 : (Sl (Iv .u8))) (a1 : Int) (a2 : Int) : Option Int := (if (decide (a2 ≤ 1)) = true then (some 0) else (if (decide ((a0.l.length : Int) = 0)) = true then ((remI (w4 (a1 * 7)) a2).bind fun y1 => (some y1)) else ((remI a1 (a0.l.length : Int)).bind fun y2 => ((elt a0 y2).bind fun y3 => ((remI (w4 (a1 + 1)) (a0.l.length : Int)).bind fun y4 => ((elt a0 y4).bind fun y5 => ((quoI .i64 a1 (a0.l.length : Int)).bind fun y6 => ((remI ((w4 ((w4 ((w4 ((w4 y3.v) * 31)) + (w4 y5.v))) + y6))) a2).bind fun y7 => (some y7)))))))))
theorem kM_ (a0 : (Sl (Iv .u8))) (a1 : Int) (a2 : Int) (r : Int) (h : e1_ a0 a1 a2 = some r) : gj_ a0 a1 a2 = some r := by
 unfold e1_ at h
 refine k_W ok_52 E_i64_inj h (fun σ0 => ?_)
 refine t_RN ?_
 refine t_RN ?_
 refine t_if (fun hc1 => ?_) fun hc1 => ?_
 ·refine t_RN ?_
  exact k_eW (rT rN) E_i64_p
 refine t_RN ?_
 refine t_if (fun hc2 => ?_) fun hc2 => ?_
 ·refine t_RU 3 ?_
  intro h s σ hS hH
  obtain ⟨y1, hy1, h⟩ := bind_some h
  refine iD_ rfl hS rfl rfl hy1 ?_; intro s hS
  refine t_bk h hS hH ?_
  refine t_N ?_
  exact k_eW (rT rN) E_i64_p
 refine t_RN ?_
 refine t_D fun mb => ?_
 refine t_U 3 ?_
 intro h s σ hS hH
 obtain ⟨y2, hy2, h⟩ := bind_some h
 refine iD_ rfl hS rfl rfl hy2 ?_; intro s hS
 refine t_bk h hS hH ?_
 refine bM_ fun y3 rest1 hy3 => ?_
 refine t_U 7 ?_
 intro h s σ hS hH
 obtain ⟨y4, hy4, h⟩ := bind_some h
 refine iD_ rfl hS rfl rfl hy4 ?_; intro s hS
 refine t_bk h hS hH ?_
 refine bM_ fun y5 rest2 hy5 => ?_
 refine t_U 5 ?_
 intro h s σ hS hH
 obtain ⟨y6, hy6, h⟩ := bind_some h
 refine rU_ rfl hS rfl rfl hy6 ?_; intro s hS
 refine t_bk h hS hH ?_
 refine t_U 2 ?_
 intro h s σ hS hH
 obtain ⟨y7, hy7, h⟩ := bind_some h
 refine iD_ rfl hS rfl rfl hy7 ?_; intro s hS
 refine t_bk h hS hH ?_
 refine t_N ?_
 exact k_eW (rT rN) E_i64_p
noncomputable def be_ (a0 : ag_) (a1 : (Sl (Iv .i64))) : Option (Int × ag_ × (Sl (Iv .i64))) := ((aN_ a0 (a1.l.length : Int)).bind fun y1 => ((elt a1 y1.1).bind fun y2 => (some (y2.v, y1.2, a1))))
theorem ed_ (a0 : ag_) (a1 : (Sl (Iv .i64))) (r : (Int × ag_ × (Sl (Iv .i64)))) (h : be_ a0 a1 = some r) (bp0 : Nat) (wp1_1 : Nat) (p1_1 : T) : RawS Try.prog md ext 117 [.ptr bp0 0 0 3, p1_1] 0 (fun hs => E_i64 r.1) [.box bp0 (ag_.cells a0), .own true wp1_1 p1_1 a1.t] (fun hs => [.box bp0 (ag_.cells r.2.1), .own true wp1_1 p1_1 r.2.2.t]) := by
 unfold be_ at h
 refine b3_ rfl rfl ok_117 rfl ?_
 intro σ0 σ F σk s hS hH
 have hp1_1 : as_ p1_1 := Heap.one (hH.at 1 rfl)
 have hS := ad_ (L' := [(0, .ptr bp0 0 0 3), (1, p1_1)]) hS (by kernel_rfl)
 refine t_go h hS hH ?_
 refine t_RN ?_
 refine t_RU 3 ?_
 refine km_ (a := a1) 1 ?_
 refine aJ_ (fun y1 hs hy1 hl => ?_) (hr := by exact fun y1 hy1 => bm_ _ _ y1 hy1 bp0)
 obtain rfl := len0 hl
 refine bf_ ?_
 refine nN_ 1 (fun hb1 hb1e y2 hy2 hl_hb1 => ?_)
 refine kz_ 1 0 hl_hb1 hy2 ?_
 refine t_N ?_
 intro h s σ hS hH
 obtain rfl := si_1 h
 exact aP_ [] (bk_ (v := i4 y2.v) hS rfl r_nil) rfl rfl hH
noncomputable def ca_ (a0 : ag_) : Option (ByteArray × ag_) := ((a5_ a0 (⟨false, [⟨#[120]⟩, ⟨#[121]⟩, ⟨#[122]⟩, ⟨#[80, 97, 116]⟩, ⟨#[97, 95, 49]⟩]⟩)).bind fun y1 => (some (y1.1, y1.2.1)))
theorem gb_ (a0 : ag_) (r : (ByteArray × ag_)) (h : ca_ a0 = some r) (bp0 : Nat) : RawS Try.prog md ext 119 [.ptr bp0 0 0 3] 0 (fun hs => E_str r.1) [.box bp0 (ag_.cells a0)] (fun hs => [.box bp0 (ag_.cells r.2)]) := by
 unfold ca_ at h
 refine b3_ rfl rfl ok_119 rfl ?_
 intro σ0 σ F σk s hS hH
 have hS := ad_ (L' := [(0, .ptr bp0 0 0 3)]) hS (by kernel_rfl)
 refine t_go h hS hH ?_
 refine t_RN ?_
 refine t_RU 1 ?_
 refine k_bs (z := true) (⟨false, [⟨#[120]⟩, ⟨#[121]⟩, ⟨#[122]⟩, ⟨#[80, 97, 116]⟩, ⟨#[97, 95, 49]⟩]⟩ : Sl ByteArray) (fun t1 ht1 => ?_)
 refine t_h Heap.up1 ?_
 refine aJ_ (fun y1 hs hy1 hl => ?_) (hr := by exact fun y1 hy1 => cR_ _ _ y1 hy1 bp0 1 t1)
 obtain rfl := len0 hl
 refine bf_ ?_
 refine t_N ?_
 intro h s σ hS hH
 obtain rfl := si_1 h
 exact aP_ [] (bk_ (v := .str y1.1) hS rfl r_nil) rfl rfl (Heap.sel hH [0, 2] rfl (by kernel_rfl))
noncomputable def b7_ (a0 : ag_) : Option (DPattern × ag_) := ((be_ a0 (⟨false, [⟨1⟩, ⟨1⟩, ⟨1⟩, ⟨2⟩, ⟨3⟩, ⟨4⟩, ⟨5⟩, ⟨6⟩, ⟨6⟩, ⟨7⟩, ⟨8⟩, ⟨9⟩, ⟨10⟩, ⟨11⟩, ⟨12⟩, ⟨12⟩, ⟨13⟩, ⟨14⟩, ⟨15⟩, ⟨16⟩, ⟨17⟩, ⟨23⟩, ⟨24⟩, ⟨24⟩]⟩)).bind fun y1 => ((b6_ y1.1).bind fun y2 => (if (decide (y2.2 = (⟨#[115]⟩ : ByteArray))) = true then ((bv_ y1.2.1).bind fun y3 => (((if (decide (y1.1 = 1)) = true then ((aZ_ y3.2 4).bind fun y5 => (some (y5.1, y5.2.code_, y5.2.at_, y5.2.seed_))) else (some (false, y3.2.code_, y3.2.at_, y3.2.seed_))) : Option (Bool × (Sl (Iv .u8)) × Int × Int)).bind fun y4 => (if y4.1 = true then (some ((⟨y1.1, 0, ⟨#[]⟩, ⟨true, []⟩⟩ : DPattern), (⟨y4.2.1, y4.2.2.1, y4.2.2.2⟩ : ag_))) else (some ((⟨y1.1, 0, y3.1, ⟨true, []⟩⟩ : DPattern), (⟨y4.2.1, y4.2.2.1, y4.2.2.2⟩ : ag_)))))) else (if (decide (y2.2 = (⟨#[110]⟩ : ByteArray))) = true then ((aN_ y1.2.1 4).bind fun y6 => (some ((⟨y1.1, y6.1, ⟨#[]⟩, ⟨true, []⟩⟩ : DPattern), y6.2))) else (if (decide (y2.2 = (⟨#[120]⟩ : ByteArray))) = true then ((ca_ y1.2.1).bind fun y7 => (some ((⟨y1.1, 0, y7.1, ⟨true, []⟩⟩ : DPattern), y7.2))) else (some ((⟨y1.1, 0, ⟨#[]⟩, ⟨true, []⟩⟩ : DPattern), y1.2.1)))))))
theorem f5_ (a0 : ag_) (r : (DPattern × ag_)) (h : b7_ a0 = some r) (bp0 : Nat) : RawS Try.prog md ext 116 [.ptr bp0 0 0 3] Sh_DPattern.n (fun hs => Sh_DPattern.tree hs r.1) [.box bp0 (ag_.cells a0)] (fun hs => Sh_DPattern.en hs r.1 ++ [.box bp0 (ag_.cells r.2)]) := by
 unfold b7_ at h
 refine b3_ rfl rfl ok_116 rfl ?_
 intro σ0 σ F σk s hS hH
 have hS := ad_ (L' := [(0, .ptr bp0 0 0 3)]) hS (by kernel_rfl)
 refine t_go h hS hH ?_
 refine t_R ?_
 refine bL_ fun b1 => ?_
 refine t_N ?_
 refine t_RU 1 ?_
 refine k_bs (z := true) (⟨false, [⟨1⟩, ⟨1⟩, ⟨1⟩, ⟨2⟩, ⟨3⟩, ⟨4⟩, ⟨5⟩, ⟨6⟩, ⟨6⟩, ⟨7⟩, ⟨8⟩, ⟨9⟩, ⟨10⟩, ⟨11⟩, ⟨12⟩, ⟨12⟩, ⟨13⟩, ⟨14⟩, ⟨15⟩, ⟨16⟩, ⟨17⟩, ⟨23⟩, ⟨24⟩, ⟨24⟩]⟩ : Sl (Iv .i64)) (fun t1 ht1 => ?_)
 refine t_h Heap.up2 ?_
 refine aJ_ (fun y1 hs hy1 hl => ?_) (hr := by exact fun y1 hy1 => ed_ _ _ y1 hy1 bp0 1 t1)
 obtain rfl := len0 hl
 refine bf_ ?_
 refine t_N ?_
 refine t_RU 2 ?_
 refine bL_ fun b2 => ?_
 refine aS_ 0 ?_
 refine t_N ?_
 refine t_RU 1 ?_
 refine aw_ fun y2 hy2 => ?_
 refine t_N ?_
 refine t_RN ?_
 refine t_RN ?_
 refine t_if (fun hc1 => ?_) fun hc1 => ?_
 ·refine t_RU 1 ?_
  refine t_h Heap.up1 ?_
  refine aJ_ (fun y3 hs hy3 hl => ?_) (hr := by exact fun y3 hy3 => fy_ _ y3 hy3 bp0)
  obtain rfl := len0 hl
  refine bf_ ?_
  refine t_U 1 ?_
  refine aI_ 1 ?_
  refine t_N ?_
  refine eJ_ 0 (fun y4 e fr => e = .normal ∧ Sub [(2, .ptr b1 0 0 4), (4, .ptr b2 0 0 4), (28, .bool y4.1)] fr.s ∧ Heap σ0 fr.σ [.box b2 [i4 y1.1, i4 0, .str y3.1, (nt DPattern)], .box bp0 [y4.2.1.t, i4 y4.2.2.1, .int .u64 y4.2.2.2], .box b1 [i4 0, i4 0, .str ⟨#[]⟩, (nt DPattern)], .keep F σk]) (fun y4 e fr h HF => ?_) fun y4 => ?_
  ·obtain ⟨s, σ⟩ := fr
   obtain ⟨rfl, hS, hH⟩ := HF
   refine t_bx h hS hH ?_
   refine t_if (fun hc2 => ?_) fun hc2 => ?_
   ·refine t_RU 1 ?_
    refine aI_ 0 ?_
    refine t_N ?_
    refine t_R ?_
    refine ae_ 0 ?_
    refine aS_ 2 ?_
    refine t_N ?_
    intro h s σ hS hH
    obtain rfl := si_1 h
    have hH := Heap.addNil hH true 4
    exact aP_ [(T.row true 0 [])] (fH_ (v := .agg [i4 y1.1, i4 0, .str ⟨#[]⟩, (nt DPattern)]) hS (hH.at 1 rfl) rfl (by kernel_rfl) r_nil) rfl rfl (Heap.sel hH [0, 3, 4] rfl (by kernel_rfl))
   refine t_R ?_
   refine ae_ 0 ?_
   refine aS_ 2 ?_
   refine t_N ?_
   intro h s σ hS hH
   obtain rfl := si_1 h
   have hH := Heap.addNil hH true 4
   exact aP_ [(T.row true 0 [])] (fH_ (v := .agg [i4 y1.1, i4 0, .str y3.1, (nt DPattern)]) hS (hH.at 1 rfl) rfl (by kernel_rfl) r_nil) rfl rfl (Heap.sel hH [0, 3, 4] rfl (by kernel_rfl))
  refine t_RU 3 ?_
  refine aK_ 25 (fun hc3 => ?_) fun hc3 => ?_
  ·refine t_U 1 ?_
   refine t_h Heap.up1 ?_
   refine aJ_ (fun y5 hs hy5 hl => ?_) (hr := by exact fun y5 hy5 => cr_ _ _ y5 hy5 bp0)
   obtain rfl := len0 hl
   refine bf_ ?_
   refine t_N ?_
   exact t_e fun he hS hH => he ▸ ⟨rfl, (ad_ hS (by kernel_rfl)), (Heap.sel hH [1, 0, 3, 4] rfl (by kernel_rfl))⟩
  refine t_N ?_
  exact t_e fun he hS hH => he ▸ ⟨rfl, (ad_ hS (by kernel_rfl)), (Heap.sel hH [0, 1, 3, 4] rfl (by kernel_rfl))⟩
 refine t_RN ?_
 refine t_if (fun hc4 => ?_) fun hc4 => ?_
 ·refine t_RU 1 ?_
  refine t_h Heap.up1 ?_
  refine aJ_ (fun y6 hs hy6 hl => ?_) (hr := by exact fun y6 hy6 => bm_ _ _ y6 hy6 bp0)
  obtain rfl := len0 hl
  refine bf_ ?_
  refine t_U 1 ?_
  refine aI_ 1 ?_
  refine t_N ?_
  refine t_R ?_
  refine ae_ 0 ?_
  refine aS_ 3 ?_
  refine t_N ?_
  intro h s σ hS hH
  obtain rfl := si_1 h
  have hH := Heap.addNil hH true 4
  exact aP_ [(T.row true 0 [])] (fH_ (v := .agg [i4 y1.1, i4 y6.1, .str ⟨#[]⟩, (nt DPattern)]) hS (hH.at 1 rfl) rfl (by kernel_rfl) r_nil) rfl rfl (Heap.sel hH [0, 3, 5] rfl (by kernel_rfl))
 refine t_RN ?_
 refine t_if (fun hc5 => ?_) fun hc5 => ?_
 ·refine t_RU 1 ?_
  refine t_h Heap.up1 ?_
  refine aJ_ (fun y7 hs hy7 hl => ?_) (hr := by exact fun y7 hy7 => gb_ _ y7 hy7 bp0)
  obtain rfl := len0 hl
  refine bf_ ?_
  refine t_U 1 ?_
  refine aI_ 1 ?_
  refine t_N ?_
  refine t_R ?_
  refine ae_ 0 ?_
  refine aS_ 3 ?_
  refine t_N ?_
  intro h s σ hS hH
  obtain rfl := si_1 h
  have hH := Heap.addNil hH true 4
  exact aP_ [(T.row true 0 [])] (fH_ (v := .agg [i4 y1.1, i4 0, .str y7.1, (nt DPattern)]) hS (hH.at 1 rfl) rfl (by kernel_rfl) r_nil) rfl rfl (Heap.sel hH [0, 3, 5] rfl (by kernel_rfl))
 refine t_R ?_
 refine ae_ 0 ?_
 refine aS_ 3 ?_
 refine t_N ?_
 intro h s σ hS hH
 obtain rfl := si_1 h
 have hH := Heap.addNil hH true 4
 exact aP_ [(T.row true 0 [])] (fH_ (v := .agg [i4 y1.1, i4 0, .str ⟨#[]⟩, (nt DPattern)]) hS (hH.at 1 rfl) rfl (by kernel_rfl) r_nil) rfl rfl (Heap.sel hH [0, 3, 5] rfl (by kernel_rfl))
def d7_ (R : ag_ → Int → Option (DPattern × ag_)) : Prop := ∀ (a0 : ag_) (a1 : Int) (r : (DPattern × ag_)), R a0 a1 = some r → ∀ (bp0 : Nat), RawS Try.prog md ext 76 [.ptr bp0 0 0 3, i4 a1] Sh_DPattern.n (fun hs => Sh_DPattern.tree hs r.1) [.box bp0 (ag_.cells a0)] (fun hs => Sh_DPattern.en hs r.1 ++ [.box bp0 (ag_.cells r.2)])
noncomputable def bz_ (R_76 : ag_ → Int → Option (DPattern × ag_)) (a0 : ag_) (a1 : Int) : Option (DPattern × ag_) := (if (decide (a1 ≤ 0)) = true then ((b7_ a0).bind fun y1 => (some (y1.1, y1.2))) else ((aZ_ a0 4).bind fun y2 => (if y2.1 = true then ((b7_ y2.2).bind fun y3 => (some (y3.1, y3.2))) else ((be_ y2.2 (⟨false, [⟨18⟩, ⟨18⟩, ⟨19⟩, ⟨19⟩, ⟨19⟩, ⟨20⟩, ⟨21⟩, ⟨22⟩]⟩)).bind fun y4 => ((b6_ y4.1).bind fun y5 => ((aA_ (S := (Int × (Sl (Iv .u8)) × Int × Int × (Sl DPattern))) (R := ((Sl (Iv .u8)) × Int × Int × (Sl DPattern))) (fun st1 => (if (decide (st1.1 < y5.1)) = true then ((R_76 (⟨st1.2.1, st1.2.2.1, st1.2.2.2.1⟩ : ag_) (w4 (a1 - 1))).bind fun y7 => ((appS 56 st1.2.2.2.2 (⟨false, [y7.1]⟩ : Sl DPattern)).bind fun y8 => (some (.inl ((w4 (st1.1 + 1)), y7.2.code_, y7.2.at_, y7.2.seed_, y8))))) else (some (.inr (st1.2.1, st1.2.2.1, st1.2.2.2.1, st1.2.2.2.2))))) (0, y4.2.1.code_, y4.2.1.at_, y4.2.1.seed_, (⟨true, []⟩ : Sl DPattern))).bind fun y6 => (if (decide (y5.2 = (⟨#[120]⟩ : ByteArray))) = true then ((ca_ (⟨y6.1, y6.2.1, y6.2.2.1⟩ : ag_)).bind fun y9 => (some ((⟨y4.1, 0, y9.1, y6.2.2.2⟩ : DPattern), y9.2))) else (some ((⟨y4.1, 0, ⟨#[]⟩, y6.2.2.2⟩ : DPattern), (⟨y6.1, y6.2.1, y6.2.2.1⟩ : ag_))))))))))
theorem h8_ (R_76 : ag_ → Int → Option (DPattern × ag_)) (hR_76 : d7_ R_76) : d7_ (bz_ R_76) := by
 intro a0 a1 r h bp0
 unfold bz_ at h
 refine b3_ rfl rfl ok_76 rfl ?_
 intro σ0 σ F σk s hS hH
 have hS := ad_ (L' := [(0, .ptr bp0 0 0 3), (1, i4 a1)]) hS (by kernel_rfl)
 refine t_go h hS hH ?_
 refine t_R ?_
 refine bL_ fun b1 => ?_
 refine t_N ?_
 refine t_RU 3 ?_
 refine aK_ 12 (fun hc1 => ?_) fun hc1 => ?_
 ·refine t_N ?_
  refine t_cT rfl ?_
  refine t_RU 1 ?_
  refine t_h Heap.up1 ?_
  refine aJ_ (fun y1 hs hy1 hl => ?_) (hr := by exact fun y1 hy1 => f5_ _ y1 hy1 bp0)
  obtain ⟨t1, rfl⟩ := len1 hl
  refine bf_ ?_
  refine av_ 0 fun ht1 => ?_
  refine aS_ 2 ?_ (h1 := by simp [ht1.1, ht1.2])
  refine t_N ?_
  intro h s σ hS hH
  obtain rfl := si_1 h
  exact aP_ [t1] (fH_ (v := .agg [i4 y1.1.Kind, i4 y1.1.Num, .str y1.1.Text, t1]) hS hH rfl (by kernel_rfl) r_nil) rfl rfl (Heap.sel hH [1, 2, 3] rfl (by kernel_rfl))
 refine t_U 1 ?_
 refine t_h Heap.up1 ?_
 refine aJ_ (fun y2 hs hy2 hl => ?_) (hr := by exact fun y2 hy2 => cr_ _ _ y2 hy2 bp0)
 obtain rfl := len0 hl
 refine bf_ ?_
 refine t_N ?_
 refine t_if (fun hc2 => ?_) fun hc2 => ?_
 ·refine t_RU 1 ?_
  refine aJ_ (fun y3 hs hy3 hl => ?_) (hr := by exact fun y3 hy3 => f5_ _ y3 hy3 bp0)
  obtain ⟨t2, rfl⟩ := len1 hl
  refine bf_ ?_
  refine av_ 0 fun ht2 => ?_
  refine aS_ 2 ?_ (h1 := by simp [ht2.1, ht2.2])
  refine t_N ?_
  intro h s σ hS hH
  obtain rfl := si_1 h
  exact aP_ [t2] (fH_ (v := .agg [i4 y3.1.Kind, i4 y3.1.Num, .str y3.1.Text, t2]) hS hH rfl (by kernel_rfl) r_nil) rfl rfl (Heap.sel hH [1, 2, 3] rfl (by kernel_rfl))
 refine t_RU 1 ?_
 refine k_bs (z := true) (⟨false, [⟨18⟩, ⟨18⟩, ⟨19⟩, ⟨19⟩, ⟨19⟩, ⟨20⟩, ⟨21⟩, ⟨22⟩]⟩ : Sl (Iv .i64)) (fun t3 ht3 => ?_)
 refine t_h Heap.up1 ?_
 refine aJ_ (fun y4 hs hy4 hl => ?_) (hr := by exact fun y4 hy4 => ed_ _ _ y4 hy4 bp0 1 t3)
 obtain rfl := len0 hl
 refine bf_ ?_
 refine t_N ?_
 refine t_RU 2 ?_
 refine bL_ fun b2 => ?_
 refine aS_ 0 ?_
 refine t_N ?_
 refine t_RU 1 ?_
 refine aw_ fun y5 hy5 => ?_
 refine t_N ?_
 refine t_RN ?_
 refine t_h (Heap.addNil · true 4) ?_
 refine a8_ (fun st1 fr => ∃ t5, as_ t5 ∧ Sub [(0, .ptr bp0 0 0 3), (1, i4 a1), (4, .ptr b1 0 0 4), (6, .ptr b2 0 0 4), (7, i4 y5.1), (8, .str y5.2), (9, i4 st1.1)] fr.s ∧ Heap σ0 fr.σ [.box b2 [i4 y4.1, i4 0, .str ⟨#[]⟩, t5], .box bp0 [st1.2.1.t, i4 st1.2.2.1, .int .u64 st1.2.2.2.1], .box b1 [i4 0, i4 0, .str ⟨#[]⟩, (nt DPattern)], .own true 4 t5 st1.2.2.2.2.t, .keep F σk]) (fun y6 e fr => ∃ t6, as_ t6 ∧ e = (.exit 0) ∧ Sub [(0, .ptr bp0 0 0 3), (4, .ptr b1 0 0 4), (6, .ptr b2 0 0 4), (8, .str y5.2)] fr.s ∧ Heap σ0 fr.σ [.box b2 [i4 y4.1, i4 0, .str ⟨#[]⟩, t6], .box bp0 [y6.1.t, i4 y6.2.1, .int .u64 y6.2.2.1], .box b1 [i4 0, i4 0, .str ⟨#[]⟩, (nt DPattern)], .own true 4 t6 y6.2.2.2.t, .keep F σk]) (fun hS hH => ⟨(T.row true 0 []), ⟨rfl, rfl⟩, (ad_ hS (by kernel_rfl)), (Heap.sel hH [1, 2, 4, 0, 5] rfl (by kernel_rfl))⟩) (fun st1 x fr h HI => ?_) fun y6 e fr h HF => ?_
 ·obtain ⟨s, σ⟩ := fr; obtain ⟨t5, ht5, ⟨hS, hH⟩⟩ := HI
  refine t_bk h hS hH ?_
  refine t_RN ?_
  refine t_if (fun hc3 => ?_) fun hc3 => ?_
  ·refine bh_ [(5, (RB b2 RN)), (7, RN), (9, RN)] ext_x fun mb σs hn0 hlt hlto => ?_
   have hlt_b2 : b2 < mb := hlt b2 _ (List.Mem.head _)
   refine t_U 1 ?_
   refine ae_ 0 ?_ (hlt := by exact (Or.inr ⟨hlt_b2, (Wc.cons (.inr (Or.inl rfl)) (Wc.cons (.inl (by kernel_rfl)) (Wc.cons (.inl (by kernel_rfl)) Wc.nil)))⟩))
   refine t_U 3 ?_
   refine t_h Heap.up1 ?_
   refine dS_ (RB b2 RN) ext_x (Stay.box (List.Mem.head _) Stay.nil) (by exact fun x hx => Or.inr ⟨5, by kernel_rfl, hx⟩) (fun y7 hs hy7 hl => ?_) (hr := by exact fun y7 hy7 => hR_76 _ _ y7 hy7 bp0)
   obtain ⟨t7, rfl⟩ := len1 hl
   refine bf_ ?_
   refine av_ 0 fun ht7 => ?_
   refine k_bs (z := true) (⟨false, [y7.1]⟩ : Sl DPattern) (fun t8 ht8 => ?_) (hb := by exact hn0) (h1 := by simp [ht7.1, ht7.2])
   refine l8_ 4 0 (fun y8 t9 hy8 ht9 => ?_) (hb := by exact hn0) (hwr := by exact fun hH b e o n h0 => Or.inr ⟨7, by kernel_rfl, fun h => h⟩)
   refine t_U 1 ?_
   refine bY_ 2 ht9 ?_ (hwr := by exact fun hH => Or.inr ⟨9, by kernel_rfl, fun h => h⟩)
   refine t_N ?_
   refine t_RN ?_
   exact t_e fun he hS hH => he ▸ ⟨t9, ht9, (ad_ hS (by kernel_rfl)), (Heap.sel hH [0, 2, 3, 1, 4] rfl (by kernel_rfl))⟩
  exact t_e fun he hS hH => he ▸ ⟨t5, ht5, rfl, (ad_ hS (by kernel_rfl)), hH⟩
 obtain ⟨s, σ⟩ := fr
 obtain ⟨t6, ht6, ⟨rfl, hS, hH⟩⟩ := HF
 refine t_bx h hS hH ?_
 refine t_RN ?_
 refine t_if (fun hc4 => ?_) fun hc4 => ?_
 ·refine t_RU 1 ?_
  refine t_h Heap.up1 ?_
  refine aJ_ (fun y9 hs hy9 hl => ?_) (hr := by exact fun y9 hy9 => gb_ _ y9 hy9 bp0)
  obtain rfl := len0 hl
  refine bf_ ?_
  refine t_U 1 ?_
  refine aI_ 1 ?_
  refine t_N ?_
  refine t_R ?_
  refine ae_ 0 ?_
  refine aS_ 2 ?_ (h1 := by simp [ht6.1, ht6.2])
  refine t_N ?_
  intro h s σ hS hH
  obtain rfl := si_1 h
  exact aP_ [t6] (fH_ (v := .agg [i4 y4.1, i4 0, .str y9.1, t6]) hS hH rfl (by kernel_rfl) r_nil) rfl rfl (Heap.sel hH [3, 2, 4] rfl (by kernel_rfl))
 refine t_R ?_
 refine ae_ 0 ?_
 refine aS_ 2 ?_ (h1 := by simp [ht6.1, ht6.2])
 refine t_N ?_
 intro h s σ hS hH
 obtain rfl := si_1 h
 exact aP_ [t6] (fH_ (v := .agg [i4 y4.1, i4 0, .str ⟨#[]⟩, t6]) hS hH rfl (by kernel_rfl) r_nil) rfl rfl (Heap.sel hH [3, 2, 4] rfl (by kernel_rfl))
noncomputable def BG_spec_l11Draw : Nat → (ag_ → Int → Option (DPattern × ag_))
 | 0 => (fun _ _ => none)
 | n + 1 => bz_ (BG_spec_l11Draw n)
theorem uBG_spec_l11Draw : ∀ n, d7_ ((BG_spec_l11Draw n))
 | 0 => (by intro _ _ r h; have h : none = some r := h; cases h)
 | n + 1 => h8_ (BG_spec_l11Draw n) (uBG_spec_l11Draw n)
noncomputable def dt_ (a0 : ag_) (a1 : Int) : Option (DPattern × ag_) := (BG_spec_l11Draw bigN) a0 a1
theorem in_ (a0 : ag_) (a1 : Int) (r : (DPattern × ag_)) (h : dt_ a0 a1 = some r) (bp0 : Nat) : RawS Try.prog md ext 76 [.ptr bp0 0 0 3, i4 a1] Sh_DPattern.n (fun hs => Sh_DPattern.tree hs r.1) [.box bp0 (ag_.cells a0)] (fun hs => Sh_DPattern.en hs r.1 ++ [.box bp0 (ag_.cells r.2)]) := (uBG_spec_l11Draw bigN) a0 a1 r h bp0
noncomputable def c5_ (a0 : ag_) : Option ((Sl DNamed) × ag_) := ((aA_ (S := (Int × (Sl (Iv .u8)) × Int × Int × (Sl DNamed))) (R := ((Sl (Iv .u8)) × Int × Int × (Sl DNamed))) (fun st1 => (if (decide (st1.1 < 5)) = true then ((aZ_ (⟨st1.2.1, st1.2.2.1, st1.2.2.2.1⟩ : ag_) 3).bind fun y2 => (if (!y2.1) = true then ((elt (⟨false, [⟨#[120]⟩, ⟨#[121]⟩, ⟨#[122]⟩, ⟨#[80, 97, 116]⟩, ⟨#[97, 95, 49]⟩]⟩ : Sl ByteArray) st1.1).bind fun y3 => ((aN_ y2.2 4).bind fun y4 => ((dt_ y4.2 y4.1).bind fun y5 => ((appS 72 st1.2.2.2.2 (⟨false, [(⟨y3, y5.1⟩ : DNamed)]⟩ : Sl DNamed)).bind fun y6 => (some (.inl ((w4 (st1.1 + 1)), y5.2.code_, y5.2.at_, y5.2.seed_, y6))))))) else (some (.inl ((w4 (st1.1 + 1)), y2.2.code_, y2.2.at_, y2.2.seed_, st1.2.2.2.2))))) else (some (.inr (st1.2.1, st1.2.2.1, st1.2.2.2.1, st1.2.2.2.2))))) (0, a0.code_, a0.at_, a0.seed_, (⟨false, []⟩ : Sl DNamed))).bind fun y1 => (some (y1.2.2.2, (⟨y1.1, y1.2.1, y1.2.2.1⟩ : ag_))))
theorem jA_ (a0 : ag_) (r : ((Sl DNamed) × ag_)) (h : c5_ a0 = some r) (bp0 : Nat) : RawS Try.prog md ext 100 [.ptr bp0 0 0 3] Sh_sl_DNamed.n (fun hs => Sh_sl_DNamed.tree hs r.1) [.box bp0 (ag_.cells a0)] (fun hs => Sh_sl_DNamed.en hs r.1 ++ [.box bp0 (ag_.cells r.2)]) := by
 unfold c5_ at h
 refine b3_ rfl rfl ok_100 rfl ?_
 intro σ0 σ F σk s hS hH
 have hS := ad_ (L' := [(0, .ptr bp0 0 0 3)]) hS (by kernel_rfl)
 refine t_go h hS hH ?_
 refine t_RN ?_
 refine t_R ?_
 refine ps_ (α := DNamed) (fun t1 ht1 => ?_)
 refine t_N ?_
 refine t_R ?_
 refine k_bs (z := true) (⟨false, [⟨#[120]⟩, ⟨#[121]⟩, ⟨#[122]⟩, ⟨#[80, 97, 116]⟩, ⟨#[97, 95, 49]⟩]⟩ : Sl ByteArray) (fun t2 ht2 => ?_)
 refine t_N ?_
 refine t_RN ?_
 refine a8_ (fun st1 fr => ∃ t4, as_ t4 ∧ Sub [(0, .ptr bp0 0 0 3), (3, t4), (4, t2), (5, i4 st1.1)] fr.s ∧ Heap σ0 fr.σ [.box bp0 [st1.2.1.t, i4 st1.2.2.1, .int .u64 st1.2.2.2.1], .own true 5 t4 st1.2.2.2.2.t, .own true 1 t2 (Sl.t (⟨false, [⟨#[120]⟩, ⟨#[121]⟩, ⟨#[122]⟩, ⟨#[80, 97, 116]⟩, ⟨#[97, 95, 49]⟩]⟩ : Sl ByteArray)), .keep F σk]) (fun y1 e fr => ∃ t5, as_ t5 ∧ e = (.exit 0) ∧ Sub [(3, t5)] fr.s ∧ Heap σ0 fr.σ [.box bp0 [y1.1.t, i4 y1.2.1, .int .u64 y1.2.2.1], .own true 5 t5 y1.2.2.2.t, .keep F σk]) (fun hS hH => ⟨t1, ht1, (ad_ hS (by kernel_rfl)), (Heap.sel hH [2, 1, 0, 3] rfl (by kernel_rfl))⟩) (fun st1 x fr h HI => ?_) fun y1 e fr h HF => ?_
 ·obtain ⟨s, σ⟩ := fr; obtain ⟨t4, ht4, ⟨hS, hH⟩⟩ := HI
  refine t_bk h hS hH ?_
  refine t_RN ?_
  refine t_if (fun hc1 => ?_) fun hc1 => ?_
  ·refine t_RU 1 ?_
   refine aJ_ (fun y2 hs hy2 hl => ?_) (hr := by exact fun y2 hy2 => cr_ _ _ y2 hy2 bp0)
   obtain rfl := len0 hl
   refine bf_ ?_
   refine t_N ?_
   refine t_if (fun hc2 => ?_) fun hc2 => ?_
   ·refine bh_ [(7, (RT t2 RN)), (8, (RT t2 RN)), (11, RN)] ext_x fun mb σs hn0 hlt hlto => ?_
    have hlt_t2 : ∀ b e o n, t2 = .ref b e o n → b < mb := fun b e o n h => hlto _ _ _ _ (List.Mem.tail _ (List.Mem.tail _ (List.Mem.head _))) b e o n h
    refine t_U 3 ?_
    refine nN_ 2 (fun hb1 hb1e y3 hy3 hl_hb1 => ?_) (hlt := by exact (fun b e o n h => Or.inr ⟨hlt_t2 b e o n h, (Wc.cons (.inr (Or.inl ⟨_, _, _, h⟩)) (Wc.cons (.inr (Or.inl ⟨_, _, _, h⟩)) (Wc.cons (.inl (by kernel_rfl)) Wc.nil)))⟩))
    refine kz_ 2 0 hl_hb1 hy3 ?_ (hlt := by exact (fun b e o n h => Or.inr ⟨hlt_t2 b e o n h, (Wc.cons (.inr (Or.inl ⟨_, _, _, h⟩)) (Wc.cons (.inr (Or.inl ⟨_, _, _, h⟩)) (Wc.cons (.inl (by kernel_rfl)) Wc.nil)))⟩))
    refine t_U 2 ?_
    refine dS_ (RT t2 RN) ext_x (Stay.own (List.Mem.tail _ (List.Mem.head _)) Stay.nil) (by exact fun x hx => Or.inr ⟨7, by kernel_rfl, hx⟩) (fun y4 hs hy4 hl => ?_) (hr := by exact fun y4 hy4 => bm_ _ _ y4 hy4 bp0)
    obtain rfl := len0 hl
    refine bf_ ?_
    refine dS_ (RT t2 RN) ext_x (Stay.own (List.Mem.tail _ (List.Mem.head _)) Stay.nil) (by exact fun x hx => Or.inr ⟨8, by kernel_rfl, hx⟩) (fun y5 hs hy5 hl => ?_) (hr := by exact fun y5 hy5 => in_ _ _ y5 hy5 bp0)
    obtain ⟨t6, rfl⟩ := len1 hl
    refine bf_ ?_
    refine av_ 0 fun ht6 => ?_
    intro h s σ hS hH
    refine kT_ (qs := [(0, .str y3), (1, .agg [i4 y5.1.Kind, i4 y5.1.Num, .str y5.1.Text, t6])]) (z := [.str ⟨#[]⟩, i4 0, i4 0, .str ⟨#[]⟩, (nt DPattern)]) (r := [.str y3, i4 y5.1.Kind, i4 y5.1.Num, .str y5.1.Text, t6]) [[.str y3], [i4 y5.1.Kind, i4 y5.1.Num, .str y5.1.Text, t6]] rfl hS rfl (by kernel_rfl) (by kernel_rfl) (⟨rfl, (by kernel_rfl), rfl, (by simp [ht6.1, ht6.2]), trivial⟩) (by kernel_rfl) ?_; intro s hS
    refine t_bk h hS hH ?_
    refine k_bs (z := true) (⟨false, [(⟨y3, y5.1⟩ : DNamed)]⟩ : Sl DNamed) (fun t7 ht7 => ?_) (hb := by exact hn0) (h1 := by simp [ht6.1, ht6.2])
    refine l8_ 2 0 (fun y6 t8 hy6 ht8 => ?_) (hb := by exact hn0) (hwr := by exact fun hH b e o n h0 => Or.inr ⟨11, by kernel_rfl, fun h => h⟩)
    refine t_N ?_
    refine t_RN ?_
    exact t_e fun he hS hH => he ▸ ⟨t8, ht8, (ad_ hS (by kernel_rfl)), (Heap.sel hH [1, 0, 2, 3] rfl (by kernel_rfl))⟩
   refine t_RN ?_
   exact t_e fun he hS hH => he ▸ ⟨t4, ht4, (ad_ hS (by kernel_rfl)), hH⟩
  exact t_e fun he hS hH => he ▸ ⟨t4, ht4, rfl, (ad_ hS (by kernel_rfl)), (Heap.sel hH [0, 1, 3] rfl (by kernel_rfl))⟩
 obtain ⟨s, σ⟩ := fr
 obtain ⟨t5, ht5, ⟨rfl, hS, hH⟩⟩ := HF
 refine t_bx h hS hH ?_
 refine t_RN ?_
 intro h s σ hS hH
 obtain rfl := si_1 h
 exact aP_ [t5] (bk_ (v := t5) hS rfl r_nil) rfl rfl (Heap.sel hH [1, 0, 2] rfl (by kernel_rfl))
noncomputable def fC_ (a0 : (Sl (Iv .u8))) : Option (Sl DNamed) := ((c5_ (⟨a0, 0, 0⟩ : ag_)).bind fun y1 => (some y1.1))
theorem ks_ (a0 : (Sl (Iv .u8))) (r : (Sl DNamed)) (h : fC_ a0 = some r) : fQ_ a0 = some r := by
 unfold fC_ at h
 refine k_W ok_57 E_sl_DNamed_inj h (fun σ0 => ?_)
 refine t_RN ?_
 refine t_RU 1 ?_
 refine eq_ ok_74 ?_
 refine t_RN ?_
 refine t_RU 2 ?_
 refine cK_ (fun b1 => ?_)
 refine t_N ?_
 refine k_eI (rT rN) ?_
 refine t_N ?_
 refine t_RU 1 ?_
 refine aJ_ (fun y1 hs hy1 hl => ?_) (hr := by exact fun y1 hy1 => jA_ _ y1 hy1 b1)
 obtain ⟨t1, rfl⟩ := len1 hl
 refine bf_ ?_
 refine av_ 0 fun ht1 => ?_
 refine t_N ?_
 intro h s σ hS hH
 obtain rfl := si_1 h
 exact oy_ (ents := [.own true 5 t1 y1.1.t]) (z := false) hH (bk_ (v := t1) hS rfl r_nil) (HL.own rfl HL.nil) (by simp [pureT, pureL, E_sl_DNamed])
noncomputable def dD_ (a0 : (Sl DNamed)) (a1 : DPattern) (a2 : ByteArray) (a3 : Bool) (a4 : Int) : Option ((Sl DMatch) × Int) := ((dc_ a0 a1 a2 a4).bind fun y1 => (if (!decide (y1 = 0)) = true then (some (⟨true, []⟩, y1)) else ((cS_ a2 a3).bind fun y2 => ((ce_ a0 a1 a2 y2 a4).bind fun y3 => (some (y3.1, y3.2))))))
theorem hn_ (a0 : (Sl DNamed)) (a1 : DPattern) (a2 : ByteArray) (a3 : Bool) (a4 : Int) (r : ((Sl DMatch) × Int)) (h : dD_ a0 a1 a2 a3 a4 = some r) : cz_ a0 a1 a2 a3 a4 = some r := by
 unfold dD_ at h
 refine k_W ok_59 E_t2_sl_DMatch_i64_inj h (fun σ0 => ?_)
 refine t_R ?_
 refine cK_ (fun b1 => ?_)
 refine t_N ?_
 refine t_RU 1 ?_
 refine ae_ 0 ?_
 refine t_U 2 ?_
 refine aw_ fun y1 hy1 => ?_
 refine t_N ?_
 refine t_RN ?_
 refine t_if (fun hc1 => ?_) fun hc1 => ?_
 ·refine t_RN ?_
  exact k_eW (rT (rT rN)) E_t2_sl_DMatch_i64_p
 refine bh_ [] ext_x fun mb σs hn0 hlt hlto => ?_
 have hlt_b1 : b1 < mb := hlt b1 _ (List.Mem.head _)
 refine t_U 1 ?_
 refine ae_ 0 ?_ (hlt := by exact (Or.inr ⟨hlt_b1, Wc.nil⟩))
 refine t_U 3 ?_
 refine ht_ (fun y2 t1 hy2 ht1 => ?_)
 refine t_U 1 ?_
 refine ht_ (fun y3 t2 hy3 ht2 => ?_)
 refine t_N ?_
 intro h s σ hS hH
 obtain rfl := si_1 h
 exact oy_ (ents := [.own true 3 t2 y3.1.t]) (z := false) hH (bk_ (v := t2) hS rfl (bk_ (v := i4 y3.2) hS rfl r_nil)) (HL.tup (es1 := [.own true 3 t2 y3.1.t]) (es2 := []) (HL.own rfl (HLi HL.nil)) HL.nil) (by simp [pureT, pureL, E_t2_sl_DMatch_i64])
noncomputable def cY_ (a0 : (Sl DMatch)) (a1 : (Sl DMatch)) : Option Bool := ((bQ_ a0 a1 (T.fn 103 [] [])).bind fun y1 => (some y1))
theorem gF_ (a0 : (Sl DMatch)) (a1 : (Sl DMatch)) (r : Bool) (h : cY_ a0 a1 = some r) : cU_ a0 a1 = some r := by
 unfold cY_ at h
 refine k_W ok_60 E_bool_inj h (fun σ0 => ?_)
 refine t_RN ?_
 refine t_RU 2 ?_
 refine aw_ fun y1 hy1 => ?_
 refine t_N ?_
 exact k_eW (rT rN) E_bool_p
noncomputable def b8_ (a0 : (Sl DNamed)) (a1 : ByteArray) : Option Int := ((aA_ (S := Int) (R := (Unit ⊕ Int)) (fun st1 => (if (decide (st1 < (a0.l.length : Int))) = true then ((elt a0 st1).bind fun y2 => (if (decide (y2.Name = a1)) = true then (some (.inr (.inr st1))) else (some (.inl (w4 (st1 + 1)))))) else (some (.inr (.inl ()))))) 0).bind fun y1 => (Sum.elim (fun y1 => (some (-1))) (fun y1 => (some y1)) y1))
theorem ds_ (a0 : (Sl DNamed)) (a1 : ByteArray) (r : Int) (h : b8_ a0 a1 = some r) : b9_ a0 a1 = some r := by
 unfold b8_ at h
 refine k_W ok_66 E_i64_inj h (fun σ0 => ?_)
 refine t_RN ?_
 refine t_RN ?_
 refine a8_ (fun st1 fr => Sub [(0, a0.t), (1, .str a1), (5, i4 st1)] fr.s ∧ Heap σ0 fr.σ []) (fun y1 e fr => (Sum.elim (fun y => e = (.exit 0) ∧ Sub [] fr.s ∧ Heap σ0 fr.σ []) (fun y => e = .ret ∧ endW Try.prog (Try.f66.results.toList) σ0 (E_i64 y) .ret fr)) y1) (fun hS hH => ⟨(ad_ hS (by kernel_rfl)), hH⟩) (fun st1 x fr h HI => ?_) fun y1 e fr h HF => ?_
 ·obtain ⟨s, σ⟩ := fr; obtain ⟨hS, hH⟩ := HI
  refine t_bk h hS hH ?_
  refine t_RN ?_
  refine t_if (fun hc1 => ?_) fun hc1 => ?_
  ·refine t_RU 2 ?_
   refine bM_ fun y2 rest1 hy2 => ?_
   refine t_N ?_
   refine t_if (fun hc2 => ?_) fun hc2 => ?_
   ·refine t_RN ?_
    exact t_e fun he hS hH => he ▸ ⟨rfl, (eW hS hH (rT rN) E_i64_p)⟩
   refine t_RN ?_
   exact t_e fun he hS hH => he ▸ ⟨(ad_ hS (by kernel_rfl)), hH⟩
  exact t_e fun he hS hH => he ▸ ⟨rfl, (ad_ hS (by kernel_rfl)), hH⟩
 obtain ⟨s, σ⟩ := fr
 rcases y1 with y1 | y1
 ·have h := el_l h
  obtain ⟨rfl, hS, hH⟩ := HF
  refine t_bx h hS hH ?_
  refine t_RN ?_
  exact k_eW (rT rN) E_i64_p
 have h := el_r h
 obtain ⟨rfl, HE⟩ := HF
 obtain rfl := si_1 h; exact HE
noncomputable def d2_ (a0 : (Sl DNamed)) : Option Bool := (if (decide (40 < (a0.l.length : Int))) = true then (some false) else ((aA_ (S := Int) (R := (Unit ⊕ Bool)) (fun st1 => (if (decide (st1 < (a0.l.length : Int))) = true then ((elt a0 st1).bind fun y2 => ((dX_ y2.Name).bind fun y3 => (if (!y3) = true then (some (.inr (.inr false))) else ((elt a0 st1).bind fun y4 => ((bZ_ y4.Pattern).bind fun y5 => (if (!y5) = true then (some (.inr (.inr false))) else ((aA_ (S := Int) (R := (Unit ⊕ Bool)) (fun st2 => (if (decide (st2 < st1)) = true then ((elt a0 st2).bind fun y7 => ((elt a0 st1).bind fun y8 => (if (decide (y7.Name = y8.Name)) = true then (some (.inr (.inr false))) else (some (.inl (w4 (st2 + 1))))))) else (some (.inr (.inl ()))))) 0).bind fun y6 => (Sum.elim (fun y6 => (some (.inl (w4 (st1 + 1))))) (fun y6 => (some (.inr (.inr y6)))) y6)))))))) else (some (.inr (.inl ()))))) 0).bind fun y1 => (Sum.elim (fun y1 => (some true)) (fun y1 => (some y1)) y1)))
theorem h7_ (a0 : (Sl DNamed)) (r : Bool) (h : d2_ a0 = some r) : d3_ a0 = some r := by
 unfold d2_ at h
 refine k_W ok_67 E_bool_inj h (fun σ0 => ?_)
 refine t_RN ?_
 refine t_RN ?_
 refine t_if (fun hc1 => ?_) fun hc1 => ?_
 ·refine t_RN ?_
  exact k_eW (rT rN) E_bool_p
 refine t_RN ?_
 refine a8_ (fun st1 fr => Sub [(0, a0.t), (3, i4 st1)] fr.s ∧ Heap σ0 fr.σ []) (fun y1 e fr => (Sum.elim (fun y => e = (.exit 0) ∧ Sub [] fr.s ∧ Heap σ0 fr.σ []) (fun y => e = .ret ∧ endW Try.prog (Try.f67.results.toList) σ0 (E_bool y) .ret fr)) y1) (fun hS hH => ⟨(ad_ hS (by kernel_rfl)), hH⟩) (fun st1 x fr h HI => ?_) fun y1 e fr h HF => ?_
 ·obtain ⟨s, σ⟩ := fr; obtain ⟨hS, hH⟩ := HI
  refine t_bk h hS hH ?_
  refine t_RN ?_
  refine t_if (fun hc2 => ?_) fun hc2 => ?_
  ·refine t_RU 2 ?_
   refine bM_ fun y2 rest1 hy2 => ?_
   refine t_U 2 ?_
   refine aw_ fun y3 hy3 => ?_
   refine t_U 2 ?_
   refine aK_ 21 (fun hc3 => ?_) fun hc3 => ?_
   ·refine t_N ?_
    refine t_cT rfl ?_
    refine t_RN ?_
    exact t_e fun he hS hH => he ▸ ⟨rfl, (eW hS hH (rT rN) E_bool_p)⟩
   refine t_U 2 ?_
   refine bM_ fun y4 rest2 hy4 => ?_
   refine t_U 2 ?_
   refine aw_ fun y5 hy5 => ?_
   refine t_N ?_
   refine t_if (fun hc4 => ?_) fun hc4 => ?_
   ·refine t_RN ?_
    exact t_e fun he hS hH => he ▸ ⟨rfl, (eW hS hH (rT rN) E_bool_p)⟩
   refine t_RN ?_
   refine a8_ (fun st2 fr => Sub [(0, a0.t), (3, i4 st1), (4, i4 st2)] fr.s ∧ Heap σ0 fr.σ []) (fun y6 e fr => (Sum.elim (fun y => e = (.exit 2) ∧ Sub [(0, a0.t), (3, i4 st1)] fr.s ∧ Heap σ0 fr.σ []) (fun y => e = .ret ∧ endW Try.prog (Try.f67.results.toList) σ0 (E_bool y) .ret fr)) y6) (fun hS hH => ⟨(ad_ hS (by kernel_rfl)), hH⟩) (fun st2 x fr h HI => ?_) fun y6 e fr h HF => ?_
   ·obtain ⟨s, σ⟩ := fr; obtain ⟨hS, hH⟩ := HI
    refine t_bk h hS hH ?_
    refine t_RN ?_
    refine t_if (fun hc5 => ?_) fun hc5 => ?_
    ·refine t_D fun mb => ?_
     refine t_U 2 ?_
     refine bM_ fun y7 rest3 hy7 => ?_
     refine t_U 4 ?_
     refine bM_ fun y8 rest4 hy8 => ?_
     refine t_N ?_
     refine t_if (fun hc6 => ?_) fun hc6 => ?_
     ·refine t_RN ?_
      exact t_e fun he hS hH => he ▸ ⟨rfl, (eW hS hH (rT rN) E_bool_p)⟩
     refine t_RN ?_
     exact t_e fun he hS hH => he ▸ ⟨(ad_ hS (by kernel_rfl)), hH⟩
    exact t_e fun he hS hH => he ▸ ⟨rfl, (ad_ hS (by kernel_rfl)), hH⟩
   obtain ⟨s, σ⟩ := fr
   rcases y6 with y6 | y6
   ·have h := el_l h
    obtain ⟨rfl, hS, hH⟩ := HF
    refine t_bx h hS hH ?_
    refine t_RN ?_
    exact t_e fun he hS hH => he ▸ ⟨(ad_ hS (by kernel_rfl)), hH⟩
   have h := el_r h
   obtain ⟨rfl, HE⟩ := HF
   obtain rfl := si_1 h; exact ⟨rfl, HE⟩
  exact t_e fun he hS hH => he ▸ ⟨rfl, (ad_ hS (by kernel_rfl)), hH⟩
 obtain ⟨s, σ⟩ := fr
 rcases y1 with y1 | y1
 ·have h := el_l h
  obtain ⟨rfl, hS, hH⟩ := HF
  refine t_bx h hS hH ?_
  refine t_RN ?_
  exact k_eW (rT rN) E_bool_p
 have h := el_r h
 obtain ⟨rfl, HE⟩ := HF
 obtain rfl := si_1 h; exact HE
noncomputable def dQ_ (a0 : (Sl DNamed)) (a1 : ByteArray) : Option (DPattern × Bool) := ((((aA_ (S := Int) (R := (Unit ⊕ Int)) (fun st1 => (if (decide (st1 < (a0.l.length : Int))) = true then ((elt a0 st1).bind fun y3 => (if (decide (y3.Name = a1)) = true then (some (.inr (.inr st1))) else (some (.inl (w4 (st1 + 1)))))) else (some (.inr (.inl ()))))) 0).bind fun y2 => (Sum.elim (fun y2 => (some (-1))) (fun y2 => (some y2)) y2)) : Option Int).bind fun y1 => (if (decide (y1 < 0)) = true then (some ((⟨0, 0, ⟨#[]⟩, ⟨true, []⟩⟩ : DPattern), false)) else ((elt a0 y1).bind fun y4 => (some (y4.Pattern, true)))))
theorem gG_ (a0 : (Sl DNamed)) (a1 : ByteArray) (r : (DPattern × Bool)) (h : dQ_ a0 a1 = some r) : c1_ a0 a1 = some r := by
 unfold dQ_ at h
 refine k_W ok_70 E_t2_DPattern_bool_inj h (fun σ0 => ?_)
 refine t_R ?_
 refine cK_ (fun b1 => ?_)
 refine bL_ fun b2 => ?_
 refine t_N ?_
 refine t_RU 2 ?_
 refine eN_ (fun y1 s σ => Sub [(0, a0.t), (4, .ptr b2 0 0 4), (9, i4 y1)] s ∧ Heap σ0 σ [.box b2 [i4 0, i4 0, .str ⟨#[]⟩, (nt DPattern)]]) ok_110 (fun y1 => ?_) fun y1 s σ HF h => ?_
 ·refine t_RN ?_
  refine t_RN ?_
  refine a8_ (fun st1 fr => Sub [(0, a0.t), (1, T.fn 111 [] [.ptr b1 0 0 1]), (7, i4 (a0.l.length : Int)), (8, i4 st1)] fr.s ∧ Heap σ0 fr.σ [.box b2 [i4 0, i4 0, .str ⟨#[]⟩, (nt DPattern)], .box b1 [.str a1]]) (fun y2 e fr => (Sum.elim (fun y => e = (.exit 0) ∧ Sub [] fr.s ∧ Heap σ0 fr.σ [.box b2 [i4 0, i4 0, .str ⟨#[]⟩, (nt DPattern)]]) (fun y => e = .ret ∧ Sub [(4, i4 y)] fr.s ∧ Heap σ0 fr.σ [.box b2 [i4 0, i4 0, .str ⟨#[]⟩, (nt DPattern)]])) y2) (fun hS hH => ⟨(ad_ hS (by kernel_rfl)), hH⟩) (fun st1 x fr h HI => ?_) fun y2 e fr h HF => ?_
  ·obtain ⟨s, σ⟩ := fr; obtain ⟨hS, hH⟩ := HI
   refine t_bk h hS hH ?_
   refine t_RN ?_
   refine t_if (fun hc1 => ?_) fun hc1 => ?_
   ·refine t_RN ?_
    refine t_RU 3 ?_
    refine bM_ fun y3 rest1 hy3 => ?_
    refine t_U 1 ?_
    refine eq_ ok_111 ?_
    refine t_R ?_
    refine cK_ (fun b3 => ?_)
    refine t_N ?_
    refine t_RU 1 ?_
    refine ae_ 0 ?_
    refine ae_ 2 ?_
    refine t_N ?_
    refine k_eI (rT rN) ?_
    refine t_N ?_
    refine t_if (fun hc2 => ?_) fun hc2 => ?_
    ·refine t_RN ?_
     exact t_e fun he hS hH => he ▸ ⟨rfl, (ad_ hS (by kernel_rfl)), (Heap.sel hH [1] rfl (by kernel_rfl))⟩
    refine t_RN ?_
    exact t_e fun he hS hH => he ▸ ⟨(ad_ hS (by kernel_rfl)), (Heap.sel hH [1, 2] rfl (by kernel_rfl))⟩
   exact t_e fun he hS hH => he ▸ ⟨rfl, (ad_ hS (by kernel_rfl)), (Heap.sel hH [0] rfl (by kernel_rfl))⟩
  obtain ⟨s, σ⟩ := fr
  rcases y2 with y2 | y2
  ·have h := el_l h
   obtain ⟨rfl, hS, hH⟩ := HF
   refine t_bx h hS hH ?_
   refine t_RN ?_
   exact cj_ (rT rN) fun he hS hH => he ▸ ⟨(ad_ hS (by kernel_rfl)), hH⟩
  have h := el_r h
  obtain ⟨rfl, hS, hH⟩ := HF
  refine t_bx h hS hH ?_
  exact cj_ (rT rN) fun he hS hH => he ▸ ⟨(ad_ hS (by kernel_rfl)), hH⟩
 obtain ⟨hS, hH⟩ := HF
 refine t_bk h hS hH ?_
 refine t_N ?_
 refine t_RN ?_
 refine t_if (fun hc3 => ?_) fun hc3 => ?_
 ·refine t_RU 1 ?_
  refine aS_ 0 ?_
  refine t_N ?_
  exact k_eW (rC 0 (rT rN)) E_t2_DPattern_bool_p
 refine t_RU 2 ?_
 refine bM_ fun y4 rest2 hy4 => ?_
 refine t_U 2 ?_
 refine aS_ 0 ?_
 refine t_N ?_
 exact k_eW (rC 0 (rT rN)) E_t2_DPattern_bool_p
noncomputable def d9_ (a0 : (Sl DNamed)) : Option Bool := (if (decide (40 < (a0.l.length : Int))) = true then (some false) else ((cH_ a0 (T.fn 113 [] [])).bind fun y1 => (if (!y1) = true then (some false) else ((aA_ (S := Int) (R := (Unit ⊕ Bool)) (fun st1 => (if (decide (st1 < (a0.l.length : Int))) = true then ((elt a0 st1).bind fun y3 => ((subS a0 0 st1).bind fun y4 => ((c1_ y4 y3.Name).bind fun y5 => (if y5.2 = true then (some (.inr (.inr false))) else (some (.inl (w4 (st1 + 1)))))))) else (some (.inr (.inl ()))))) 0).bind fun y2 => (Sum.elim (fun y2 => (some true)) (fun y2 => (some y2)) y2)))))
theorem hX_ (a0 : (Sl DNamed)) (r : Bool) (h : d9_ a0 = some r) : c4_ a0 = some r := by
 unfold d9_ at h
 refine k_W ok_71 E_bool_inj h (fun σ0 => ?_)
 refine t_RN ?_
 refine t_RU 4 ?_
 refine aK_ 10 (fun hc1 => ?_) fun hc1 => ?_
 ·refine t_N ?_
  refine t_cT rfl ?_
  refine t_RN ?_
  exact k_eW (rT rN) E_bool_p
 refine t_U 1 ?_
 refine aw_ fun y1 hy1 => ?_
 refine t_N ?_
 refine t_if (fun hc2 => ?_) fun hc2 => ?_
 ·refine t_RN ?_
  exact k_eW (rT rN) E_bool_p
 refine t_RN ?_
 refine a8_ (fun st1 fr => Sub [(0, a0.t), (15, a0.t), (16, i4 (a0.l.length : Int)), (17, i4 st1)] fr.s ∧ Heap σ0 fr.σ []) (fun y2 e fr => (Sum.elim (fun y => e = (.exit 0) ∧ Sub [] fr.s ∧ Heap σ0 fr.σ []) (fun y => e = .ret ∧ endW Try.prog (Try.f71.results.toList) σ0 (E_bool y) .ret fr)) y2) (fun hS hH => ⟨(ad_ hS (by kernel_rfl)), hH⟩) (fun st1 x fr h HI => ?_) fun y2 e fr h HF => ?_
 ·obtain ⟨s, σ⟩ := fr; obtain ⟨hS, hH⟩ := HI
  refine t_bk h hS hH ?_
  refine t_RN ?_
  refine t_if (fun hc3 => ?_) fun hc3 => ?_
  ·refine t_RU 1 ?_
   refine bM_ fun y3 rest1 hy3 => ?_
   refine t_U 1 ?_
   refine bL_ fun b1 => ?_
   refine t_U 1 ?_
   refine aS_ 0 ?_
   refine t_N ?_
   refine bh_ [(10, RN)] ext_x fun mb σs hn0 hlt hlto => ?_
   refine t_U 2 ?_
   refine r3_ fun y4 hy4 => ?_
   refine t_U 1 ?_
   refine ae_ 0 ?_ (hlt := by exact (Or.inl (by kernel_rfl)))
   refine aw_ fun y5 hy5 => ?_
   refine t_U 3 ?_
   refine lG_ (by exact hn0) fun b2 hwr_b2 => ?_
   refine aS_ 0 ?_ (hwr := by exact fun _ => Or.inl hwr_b2)
   refine t_N ?_
   refine t_RN ?_
   refine t_if (fun hc4 => ?_) fun hc4 => ?_
   ·refine t_RN ?_
    exact t_e fun he hS hH => he ▸ ⟨rfl, (eW hS hH (rT rN) E_bool_p)⟩
   refine t_RN ?_
   exact t_e fun he hS hH => he ▸ ⟨(ad_ hS (by kernel_rfl)), (Heap.sel hH [] rfl (by kernel_rfl))⟩
  exact t_e fun he hS hH => he ▸ ⟨rfl, (ad_ hS (by kernel_rfl)), hH⟩
 obtain ⟨s, σ⟩ := fr
 rcases y2 with y2 | y2
 ·have h := el_l h
  obtain ⟨rfl, hS, hH⟩ := HF
  refine t_bx h hS hH ?_
  refine t_RN ?_
  exact k_eW (rT rN) E_bool_p
 have h := el_r h
 obtain ⟨rfl, HE⟩ := HF
 obtain rfl := si_1 h; exact HE
noncomputable def ch_ (a0 : DPattern) : Option DPattern := ((aA_ (S := (Int × (Sl DPattern))) (R := (Sl DPattern)) (fun st1 => (if (decide (st1.1 < (a0.Kids.l.length : Int))) = true then ((elt a0.Kids st1.1).bind fun y2 => ((bG_ y2).bind fun y3 => ((appS 56 st1.2 (⟨false, [y3]⟩ : Sl DPattern)).bind fun y4 => (some (.inl ((w4 (st1.1 + 1)), y4)))))) else (some (.inr st1.2)))) (0, (⟨false, []⟩ : Sl DPattern))).bind fun y1 => (some (⟨a0.Kind, a0.Num, a0.Text, y1⟩ : DPattern)))
theorem fN_ (a0 : DPattern) (r : DPattern) (h : ch_ a0 = some r) : bG_ a0 = some r := by
 unfold ch_ at h
 refine k_O ok_72 h (fun σ0 => ?_)
 refine t_R ?_
 refine cK_ (fun b1 => ?_)
 refine bL_ fun b2 => ?_
 refine t_N ?_
 refine t_R ?_
 refine ps_ (α := DPattern) (fun t1 ht1 => ?_)
 refine t_N ?_
 refine t_RU 1 ?_
 refine ae_ 2 ?_
 refine t_N ?_
 refine a8_ (fun st1 fr => ∃ t3, as_ t3 ∧ Sub [(1, .ptr b1 0 0 4), (2, .ptr b2 0 0 4), (3, t3), (8, a0.Kids.t), (9, i4 (a0.Kids.l.length : Int)), (10, i4 st1.1)] fr.s ∧ Heap σ0 fr.σ [.box b2 [i4 0, i4 0, .str ⟨#[]⟩, (nt DPattern)], .box b1 [i4 a0.Kind, i4 a0.Num, .str a0.Text, a0.Kids.t], .own true 4 t3 st1.2.t]) (fun y1 e fr => ∃ t4, as_ t4 ∧ e = (.exit 0) ∧ Sub [(1, .ptr b1 0 0 4), (2, .ptr b2 0 0 4), (3, t4)] fr.s ∧ Heap σ0 fr.σ [.box b2 [i4 0, i4 0, .str ⟨#[]⟩, (nt DPattern)], .box b1 [i4 a0.Kind, i4 a0.Num, .str a0.Text, a0.Kids.t], .own true 4 t4 y1.t]) (fun hS hH => ⟨t1, ht1, (ad_ hS (by kernel_rfl)), (Heap.sel hH [1, 2, 0] rfl (by kernel_rfl))⟩) (fun st1 x fr h HI => ?_) fun y1 e fr h HF => ?_
 ·obtain ⟨s, σ⟩ := fr; obtain ⟨t3, ht3, ⟨hS, hH⟩⟩ := HI
  refine t_bk h hS hH ?_
  refine t_RN ?_
  refine t_if (fun hc1 => ?_) fun hc1 => ?_
  ·refine t_R ?_
   refine bM_ fun y2 rest1 hy2 => ?_
   refine t_U 1 ?_
   refine bL_ fun b3 => ?_
   refine aS_ 0 ?_
   refine t_N ?_
   refine t_RU 1 ?_
   refine ae_ 0 ?_
   refine ht_ (fun y3 t5 hy3 ht5 => ?_)
   refine k_bs (z := true) (⟨false, [y3]⟩ : Sl DPattern) (fun t6 ht6 => ?_) (h1 := by simp [ht5.1, ht5.2])
   refine l8_ 4 0 (fun y4 t7 hy4 ht7 => ?_)
   refine t_N ?_
   refine t_RN ?_
   exact t_e fun he hS hH => he ▸ ⟨t7, ht7, (ad_ hS (by kernel_rfl)), (Heap.sel hH [2, 3, 0] rfl (by kernel_rfl))⟩
  exact t_e fun he hS hH => he ▸ ⟨t3, ht3, rfl, (ad_ hS (by kernel_rfl)), hH⟩
 obtain ⟨s, σ⟩ := fr
 obtain ⟨t4, ht4, ⟨rfl, hS, hH⟩⟩ := HF
 refine t_bx h hS hH ?_
 refine t_RU 2 ?_
 refine bY_ 1 ht4 ?_
 refine t_N ?_
 refine t_R ?_
 refine ae_ 0 ?_
 refine aS_ 1 ?_ (h1 := by simp [ht4.1, ht4.2])
 refine t_N ?_
 refine t_h Heap.up2 ?_
 exact k_eO [t4] (rC 1 rN)
noncomputable def cC_ (a0 : DPattern) : Option Bool := ((aC_ a0 0).bind fun y1 => (some (decide (y1 ≤ 60))))
theorem gs_ (a0 : DPattern) (r : Bool) (h : cC_ a0 = some r) : b2_ a0 = some r := by
 unfold cC_ at h
 refine k_W ok_78 E_bool_inj h (fun σ0 => ?_)
 refine t_R ?_
 refine cK_ (fun b1 => ?_)
 refine t_N ?_
 refine t_R ?_
 refine ae_ 0 ?_
 refine aw_ fun y1 hy1 => ?_
 refine t_N ?_
 exact k_eW (rT rN) E_bool_p
noncomputable def bF_ (a0 : (Sl DPattern)) (a1 : (Sl DPattern)) (a2 : T) : Option Bool := (if flat1 a2 = true then (if ((!decide ((a0.l.length : Int) = (a1.l.length : Int)))) = true then (some false) else ((aA_ (S := Int) (R := (Unit ⊕ Bool)) (fun st1 => (if (decide (st1 < (a0.l.length : Int))) = true then ((elt a0 st1).bind fun y2 => ((elt a1 st1).bind fun y3 => ((ha_ Try.prog md ext E_bool a2 [.agg [i4 y2.Kind, i4 y2.Num, .str y2.Text, y2.Kids.t], .agg [i4 y3.Kind, i4 y3.Num, .str y3.Text, y3.Kids.t]]).bind fun y4 => (if (!y4) = true then (some (.inr (.inr false))) else (some (.inl (w4 (st1 + 1)))))))) else (some (.inr (.inl ()))))) 0).bind fun y1 => (Sum.elim (fun y1 => (some true)) (fun y1 => (some y1)) y1))) else none)
theorem en_ (a0 : (Sl DPattern)) (a1 : (Sl DPattern)) (a2 : T) (r : Bool) (h : bF_ a0 a1 a2 = some r) : bE_ a0 a1 a2 = some r := by
 unfold bF_ at h
 obtain ⟨hf_a2, h⟩ := gZ_ h
 refine k_W ok_80 E_bool_inj h (fun σ0 => ?_) (hf := (all_cons (by kernel_rfl) (all_cons (by kernel_rfl) (all_cons (hy_ hf_a2) all_nil))))
 refine t_RN ?_
 refine t_RN ?_
 refine t_if (fun hc1 => ?_) fun hc1 => ?_
 ·refine t_RN ?_
  exact k_eW (rT rN) E_bool_p
 refine t_RN ?_
 refine a8_ (fun st1 fr => Sub [(1, a1.t), (2, a2), (15, a0.t), (16, i4 (a0.l.length : Int)), (17, i4 st1)] fr.s ∧ Heap σ0 fr.σ []) (fun y1 e fr => (Sum.elim (fun y => e = (.exit 0) ∧ Sub [] fr.s ∧ Heap σ0 fr.σ []) (fun y => e = .ret ∧ endW Try.prog (Try.f80.results.toList) σ0 (E_bool y) .ret fr)) y1) (fun hS hH => ⟨(ad_ hS (by kernel_rfl)), hH⟩) (fun st1 x fr h HI => ?_) fun y1 e fr h HF => ?_
 ·obtain ⟨s, σ⟩ := fr; obtain ⟨hS, hH⟩ := HI
  refine t_bk h hS hH ?_
  refine t_RN ?_
  refine t_if (fun hc2 => ?_) fun hc2 => ?_
  ·refine t_RU 1 ?_
   refine bM_ fun y2 rest1 hy2 => ?_
   refine t_U 1 ?_
   refine bL_ fun b1 => ?_
   refine t_U 1 ?_
   refine aS_ 0 ?_
   refine t_N ?_
   refine t_RU 2 ?_
   refine bM_ fun y3 rest2 hy3 => ?_
   refine t_U 1 ?_
   refine bL_ fun b2 => ?_
   refine aS_ 0 ?_
   refine t_N ?_
   refine t_RU 1 ?_
   refine ae_ 1 ?_
   refine ae_ 0 ?_
   refine jg_ fun y4 hy4 => ?_
   refine t_N ?_
   refine t_if (fun hc3 => ?_) fun hc3 => ?_
   ·refine t_RN ?_
    exact t_e fun he hS hH => he ▸ ⟨rfl, (eW hS hH (rT rN) E_bool_p)⟩
   refine t_RN ?_
   exact t_e fun he hS hH => he ▸ ⟨(ad_ hS (by kernel_rfl)), (Heap.sel hH [] rfl (by kernel_rfl))⟩
  exact t_e fun he hS hH => he ▸ ⟨rfl, (ad_ hS (by kernel_rfl)), hH⟩
 obtain ⟨s, σ⟩ := fr
 rcases y1 with y1 | y1
 ·have h := el_l h
  obtain ⟨rfl, hS, hH⟩ := HF
  refine t_bx h hS hH ?_
  refine t_RN ?_
  exact k_eW (rT rN) E_bool_p
 have h := el_r h
 obtain ⟨rfl, HE⟩ := HF
 obtain rfl := si_1 h; exact HE
noncomputable def fn_ (a0 : (Sl DNamed)) (a1 : DPattern) (a2 : ByteArray) (a3 : Int) : Option Int := ((d3_ a0).bind fun y1 => (if (!y1) = true then (some 1) else ((bZ_ a1).bind fun y2 => (if (!y2) = true then (some 1) else (if (decide (200 < (a2.size : Int))) = true then (some 1) else ((cg_ a3 0 20000).bind fun y3 => (if (!y3) = true then (some 3) else (some 0))))))))
theorem jf_ (a0 : (Sl DNamed)) (a1 : DPattern) (a2 : ByteArray) (a3 : Int) (r : Int) (h : fn_ a0 a1 a2 a3 = some r) : gz_ a0 a1 a2 a3 = some r := by
 unfold fn_ at h
 refine k_W ok_84 E_i64_inj h (fun σ0 => ?_)
 refine t_R ?_
 refine cK_ (fun b1 => ?_)
 refine t_N ?_
 refine t_RU 1 ?_
 refine aw_ fun y1 hy1 => ?_
 refine t_U 2 ?_
 refine aK_ 12 (fun hc1 => ?_) fun hc1 => ?_
 ·refine t_N ?_
  refine t_cT rfl ?_
  refine t_RN ?_
  exact k_eW (rT rN) E_i64_p
 refine ae_ 0 ?_
 refine aw_ fun y2 hy2 => ?_
 refine t_U 3 ?_
 refine aK_ 17 (fun hc2 => ?_) fun hc2 => ?_
 ·refine t_N ?_
  refine t_cT rfl ?_
  refine t_RN ?_
  exact k_eW (rT rN) E_i64_p
 refine t_N ?_
 refine t_if (fun hc3 => ?_) fun hc3 => ?_
 ·refine t_RN ?_
  exact k_eW (rT rN) E_i64_p
 refine t_RU 1 ?_
 refine aw_ fun y3 hy3 => ?_
 refine t_N ?_
 refine t_if (fun hc4 => ?_) fun hc4 => ?_
 ·refine t_RN ?_
  exact k_eW (rT rN) E_i64_p
 refine t_RN ?_
 exact k_eW (rT rN) E_i64_p
noncomputable def fx_ (a0 : Int) (a1 : Int) (a2 : Int) : Option Bool := (if (decide (a1 ≤ a0)) = true then (some (decide (a0 ≤ a2))) else (some false))
theorem ky_ (a0 : Int) (a1 : Int) (a2 : Int) (r : Bool) (h : fx_ a0 a1 a2 = some r) : cg_ a0 a1 a2 = some r := by
 unfold fx_ at h
 refine k_W ok_85 E_bool_inj h (fun σ0 => ?_)
 refine t_RN ?_
 refine t_RU 4 ?_
 refine aK_ 10 (fun hc1 => ?_) fun hc1 => ?_
 ·refine t_N ?_
  exact k_eW (rT rN) E_bool_p
 refine t_N ?_
 exact k_eW (rT rN) E_bool_p
noncomputable def fF_ (a0 : (Sl (Iv .i64))) : Option Int := ((aA_ (S := Int) (R := (Unit ⊕ Int)) (fun st1 => (if (decide (st1 < (a0.l.length : Int))) = true then ((elt a0 st1).bind fun y2 => (if (!decide (y2.v = 0)) = true then (some (.inr (.inr y2.v))) else (some (.inl (w4 (st1 + 1)))))) else (some (.inr (.inl ()))))) 0).bind fun y1 => (Sum.elim (fun y1 => (some 0)) (fun y1 => (some y1)) y1))
theorem jS_ (a0 : (Sl (Iv .i64))) (r : Int) (h : fF_ a0 = some r) : fI_ a0 = some r := by
 unfold fF_ at h
 refine k_W ok_87 E_i64_inj h (fun σ0 => ?_)
 refine t_RN ?_
 refine t_RN ?_
 refine a8_ (fun st1 fr => Sub [(5, a0.t), (6, i4 (a0.l.length : Int)), (7, i4 st1)] fr.s ∧ Heap σ0 fr.σ []) (fun y1 e fr => (Sum.elim (fun y => e = (.exit 0) ∧ Sub [] fr.s ∧ Heap σ0 fr.σ []) (fun y => e = .ret ∧ endW Try.prog (Try.f87.results.toList) σ0 (E_i64 y) .ret fr)) y1) (fun hS hH => ⟨(ad_ hS (by kernel_rfl)), hH⟩) (fun st1 x fr h HI => ?_) fun y1 e fr h HF => ?_
 ·obtain ⟨s, σ⟩ := fr; obtain ⟨hS, hH⟩ := HI
  refine t_bk h hS hH ?_
  refine t_RN ?_
  refine t_if (fun hc1 => ?_) fun hc1 => ?_
  ·refine t_R ?_
   refine bM_ fun y2 rest1 hy2 => ?_
   refine t_N ?_
   refine t_RN ?_
   refine t_if (fun hc2 => ?_) fun hc2 => ?_
   ·refine t_RN ?_
    exact t_e fun he hS hH => he ▸ ⟨rfl, (eW hS hH (rT rN) E_i64_p)⟩
   refine t_RN ?_
   exact t_e fun he hS hH => he ▸ ⟨(ad_ hS (by kernel_rfl)), hH⟩
  exact t_e fun he hS hH => he ▸ ⟨rfl, (ad_ hS (by kernel_rfl)), hH⟩
 obtain ⟨s, σ⟩ := fr
 rcases y1 with y1 | y1
 ·have h := el_l h
  obtain ⟨rfl, hS, hH⟩ := HF
  refine t_bx h hS hH ?_
  refine t_RN ?_
  exact k_eW (rT rN) E_i64_p
 have h := el_r h
 obtain ⟨rfl, HE⟩ := HF
 obtain rfl := si_1 h; exact HE
noncomputable def do_ (a0 : (Sl DNamed)) (a1 : DPattern) (a2 : ByteArray) (a3 : Int) : Option Int := ((((c4_ a0).bind fun y6 => (if y6 = true then ((b2_ a1).bind fun y7 => (if y7 = true then ((cx_ a2).bind fun y8 => (some y8)) else (some false))) else (some false))) : Option Bool).bind fun y1 => ((dO_ y1 1).bind fun y2 => ((bH_ a3 0 20000).bind fun y3 => ((dO_ y3 3).bind fun y4 => ((fI_ (⟨false, [⟨y2⟩, ⟨y4⟩]⟩)).bind fun y5 => (some y5))))))
theorem hg_ (a0 : (Sl DNamed)) (a1 : DPattern) (a2 : ByteArray) (a3 : Int) (r : Int) (h : do_ a0 a1 a2 a3 = some r) : dc_ a0 a1 a2 a3 = some r := by
 unfold do_ at h
 refine k_W ok_88 E_i64_inj h (fun σ0 => ?_)
 refine t_R ?_
 refine cK_ (fun b1 => ?_)
 refine t_N ?_
 refine eJ_ 0 (fun y1 e fr => e = .normal ∧ Sub [(3, i4 a3), (9, .bool y1)] fr.s ∧ Heap σ0 fr.σ []) (fun y1 e fr h HF => ?_) fun y1 => ?_
 ·obtain ⟨s, σ⟩ := fr
  obtain ⟨rfl, hS, hH⟩ := HF
  refine t_bx h hS hH ?_
  refine t_RU 1 ?_
  refine aw_ fun y2 hy2 => ?_
  refine t_U 1 ?_
  refine aw_ fun y3 hy3 => ?_
  refine aw_ fun y4 hy4 => ?_
  refine k_bs (z := true) (⟨false, [⟨y2⟩, ⟨y4⟩]⟩ : Sl (Iv .i64)) (fun t1 ht1 => ?_)
  refine mV_ (fun y5 hy5 => ?_)
  refine t_N ?_
  exact k_eW (rT rN) E_i64_p
 refine t_RU 1 ?_
 refine aw_ fun y6 hy6 => ?_
 refine t_U 1 ?_
 refine aK_ 12 (fun hc1 => ?_) fun hc1 => ?_
 ·refine ae_ 0 ?_
  refine aw_ fun y7 hy7 => ?_
  refine t_U 2 ?_
  refine aK_ 16 (fun hc2 => ?_) fun hc2 => ?_
  ·refine t_U 1 ?_
   refine aw_ fun y8 hy8 => ?_
   refine t_N ?_
   exact t_e fun he hS hH => he ▸ ⟨rfl, (ad_ hS (by kernel_rfl)), (Heap.sel hH [] rfl (by kernel_rfl))⟩
  refine t_N ?_
  exact t_e fun he hS hH => he ▸ ⟨rfl, (ad_ hS (by kernel_rfl)), (Heap.sel hH [] rfl (by kernel_rfl))⟩
 refine t_N ?_
 exact t_e fun he hS hH => he ▸ ⟨rfl, (ad_ hS (by kernel_rfl)), (Heap.sel hH [] rfl (by kernel_rfl))⟩
noncomputable def e3_ (a0 : Bool) (a1 : Int) : Option Int := (if a0 = true then (some 0) else (some a1))
theorem iW_ (a0 : Bool) (a1 : Int) (r : Int) (h : e3_ a0 a1 = some r) : dO_ a0 a1 = some r := by
 unfold e3_ at h
 refine k_W ok_89 E_i64_inj h (fun σ0 => ?_)
 refine t_RN ?_
 refine t_RN ?_
 refine t_if (fun hc1 => ?_) fun hc1 => ?_
 ·refine t_RN ?_
  exact k_eW (rT rN) E_i64_p
 refine t_RN ?_
 exact k_eW (rT rN) E_i64_p
noncomputable def e5_ (a0 : Int) (a1 : Int) (a2 : Int) : Option Bool := (if (decide (a1 ≤ a0)) = true then (some (decide (a0 ≤ a2))) else (some false))
theorem jh_ (a0 : Int) (a1 : Int) (a2 : Int) (r : Bool) (h : e5_ a0 a1 a2 = some r) : bH_ a0 a1 a2 = some r := by
 unfold e5_ at h
 refine k_W ok_90 E_bool_inj h (fun σ0 => ?_)
 refine t_RN ?_
 refine t_RU 4 ?_
 refine aK_ 10 (fun hc1 => ?_) fun hc1 => ?_
 ·refine t_N ?_
  exact k_eW (rT rN) E_bool_p
 refine t_N ?_
 exact k_eW (rT rN) E_bool_p
end Go.Am
