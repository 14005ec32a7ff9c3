/- Functions of the program. -/
import Derived.Test.YtilalopohkdmdaaGreatAd0
set_option maxRecDepth 100000
set_option maxHeartbeats 4000000
set_option linter.unusedVariables false
set_option linter.unusedSimpArgs false
namespace Go.Am
open Go.Proofs
noncomputable def et_ (a0 : (Sl (Iv .u8))) : Option Bool := (if (decide (1048576 < (a0.l.length : Int))) = true then (some true) else ((dV_ a0).bind fun y1 => ((eM_ 1 a0).bind fun y2 => ((ft_ y2).bind fun y3 => ((eM_ 2 a0).bind fun y4 => ((dO_ y4).bind fun y5 => ((dT_ y1 y3 y5 false 3000).bind fun y6 => (if (!y6.2.2) = true then (some false) else (if (!decide (y6.2.1 = 0)) = true then (some true) else ((aD_ (S := (Int × Int)) (R := (Int ⊕ Bool)) (fun st1 => (if (decide (st1.2 ≤ (y5.size : Int))) = true then ((cy_ y1 y3 y5 st1.2 3000).bind fun y8 => (if (!decide (y8.2 = 0)) = true then (some (.inr (.inr false))) else ((aD_ (S := (Int × Int)) (R := (Int ⊕ Bool)) (fun st2 => (if (decide (st2.2 < (y8.1.l.length : Int))) = true then (if (decide ((y6.1.l.length : Int) ≤ st2.1)) = true then (some (.inr (.inr false))) else ((elt y6.1 st2.1).bind fun y10 => (if (!decide (y10.Start = st1.2)) = true then (some (.inr (.inr false))) else ((elt y6.1 st2.1).bind fun y11 => ((elt y8.1 st2.2).bind fun y12 => (if (!decide (y11.End = y12.v)) = true then (some (.inr (.inr false))) else (some (.inl ((w4 (st2.1 + 1)), (w4 (st2.2 + 1))))))))))) else (some (.inr (.inl st2.1))))) (st1.1, 0)).bind fun y9 => (Sum.elim (fun y9 => (some (.inl (y9, (w4 (st1.2 + 1)))))) (fun y9 => (some (.inr (.inr y9)))) y9)))) else (some (.inr (.inl st1.1))))) (0, 0)).bind fun y7 => (Sum.elim (fun y7 => (some (decide (y7 = (y6.1.l.length : Int))))) (fun y7 => (some y7)) y7)))))))))))
theorem ie_ (a0 : (Sl (Iv .u8))) (r : Bool) (h : et_ a0 = some r) : fX_ a0 = some r := by
 unfold et_ at h
 refine k_W ok_6 E_bool_inj h (fun σ0 => ?_)
 refine t_RN ?_
 refine t_RN ?_
 refine t_if (fun hc1 => ?_) fun hc1 => ?_
 ·refine t_RN ?_
  exact k_eW (rT rN) E_bool_p
 refine t_RU 1 ?_
 refine az_ fun y1 hy1 => ?_
 refine t_N ?_
 refine t_RU 1 ?_
 refine az_ fun y2 hy2 => ?_
 refine az_ fun y3 hy3 => ?_
 refine cD_ fun b1 => ?_
 refine a6_ 0 ?_
 refine t_N ?_
 refine t_RU 1 ?_
 refine az_ fun y4 hy4 => ?_
 refine az_ fun y5 hy5 => ?_
 refine t_N ?_
 refine t_RU 1 ?_
 refine ae_ 0 ?_
 refine t_U 1 ?_
 refine az_ fun y6 hy6 => ?_
 refine t_N ?_
 refine t_RN ?_
 refine t_if (fun hc2 => ?_) fun hc2 => ?_
 ·refine t_RN ?_
  exact k_eW (rT rN) E_bool_p
 refine t_RN ?_
 refine t_if (fun hc3 => ?_) fun hc3 => ?_
 ·refine t_RN ?_
  exact k_eW (rT rN) E_bool_p
 refine t_RN ?_
 refine t_RN ?_
 refine a8_ (fun st1 fr => Sub [(3, y1.t), (4, .ptr b1 0 0 4), (5, .str y5), (6, y6.1.t), (9, i4 st1.1), (10, i4 st1.2)] fr.s ∧ Heap σ0 fr.σ [.box b1 [i4 y3.Kind, i4 y3.Num, .str y3.Text, y3.Kids.t]]) (fun y7 e fr => (Sum.elim (fun y => e = (.exit 0) ∧ Sub [(6, y6.1.t), (9, i4 y)] fr.s ∧ Heap σ0 fr.σ []) (fun y => e = .ret ∧ endW Tryz.prog (Tryz.f6.results.toList) σ0 (E_bool y) .ret fr)) y7) (fun hS hH => ⟨(ad_ hS (by kernel_rfl)), hH⟩) (fun st1 x fr h HI => ?_) fun y7 e fr h HF => ?_
 ·obtain ⟨s, σ⟩ := fr; obtain ⟨hS, hH⟩ := HI
  refine t_bk h hS hH ?_
  refine t_RN ?_
  refine t_if (fun hc4 => ?_) fun hc4 => ?_
  ·refine t_RU 1 ?_
   refine ae_ 0 ?_
   refine t_U 2 ?_
   refine az_ fun y8 hy8 => ?_
   refine t_N ?_
   refine t_RN ?_
   refine t_if (fun hc5 => ?_) fun hc5 => ?_
   ·refine t_RN ?_
    exact t_e fun he hS hH => he ▸ ⟨rfl, (eW hS hH (rT rN) E_bool_p)⟩
   refine t_RN ?_
   refine a8_ (fun st2 fr => Sub [(3, y1.t), (4, .ptr b1 0 0 4), (5, .str y5), (6, y6.1.t), (9, i4 st2.1), (10, i4 st1.2), (11, y8.1.t), (13, i4 st2.2)] fr.s ∧ Heap σ0 fr.σ [.box b1 [i4 y3.Kind, i4 y3.Num, .str y3.Text, y3.Kids.t]]) (fun y9 e fr => (Sum.elim (fun y => e = (.exit 2) ∧ Sub [(3, y1.t), (4, .ptr b1 0 0 4), (5, .str y5), (6, y6.1.t), (9, i4 y), (10, i4 st1.2)] fr.s ∧ Heap σ0 fr.σ [.box b1 [i4 y3.Kind, i4 y3.Num, .str y3.Text, y3.Kids.t]]) (fun y => e = .ret ∧ endW Tryz.prog (Tryz.f6.results.toList) σ0 (E_bool y) .ret fr)) y9) (fun hS hH => ⟨(ad_ hS (by kernel_rfl)), hH⟩) (fun st2 x fr h HI => ?_) fun y9 e fr h HF => ?_
   ·obtain ⟨s, σ⟩ := fr; obtain ⟨hS, hH⟩ := HI
    refine t_bk h hS hH ?_
    refine t_RN ?_
    refine t_if (fun hc6 => ?_) fun hc6 => ?_
    ·refine t_D fun mb => ?_
     refine t_U 5 ?_
     refine aO_ 63 (fun hc7 => ?_) fun hc7 => ?_
     ·refine t_N ?_
      refine t_cT rfl ?_
      refine t_RN ?_
      exact t_e fun he hS hH => he ▸ ⟨rfl, (eW hS hH (rT rN) E_bool_p)⟩
     refine t_U 2 ?_
     refine bX_ fun y10 rest1 hy10 => ?_
     refine t_U 6 ?_
     refine aO_ 72 (fun hc8 => ?_) fun hc8 => ?_
     ·refine t_N ?_
      refine t_cT rfl ?_
      refine t_RN ?_
      exact t_e fun he hS hH => he ▸ ⟨rfl, (eW hS hH (rT rN) E_bool_p)⟩
     refine t_U 2 ?_
     refine bX_ fun y11 rest2 hy11 => ?_
     refine t_U 4 ?_
     refine bX_ fun y12 rest3 hy12 => ?_
     refine t_N ?_
     refine t_if (fun hc9 => ?_) fun hc9 => ?_
     ·refine t_RN ?_
      exact t_e fun he hS hH => he ▸ ⟨rfl, (eW hS hH (rT rN) E_bool_p)⟩
     refine t_RN ?_
     refine t_RN ?_
     exact t_e fun he hS hH => he ▸ ⟨(ad_ hS (by kernel_rfl)), hH⟩
    exact t_e fun he hS hH => he ▸ ⟨rfl, (ad_ hS (by kernel_rfl)), hH⟩
   obtain ⟨s, σ⟩ := fr
   rcases y9 with y9 | y9
   ·have h := el_l h
    obtain ⟨rfl, hS, hH⟩ := HF
    refine t_bx h hS hH ?_
    refine t_RN ?_
    exact t_e fun he hS hH => he ▸ ⟨(ad_ hS (by kernel_rfl)), hH⟩
   have h := el_r h
   obtain ⟨rfl, HE⟩ := HF
   obtain rfl := si_1 h; exact ⟨rfl, HE⟩
  exact t_e fun he hS hH => he ▸ ⟨rfl, (ad_ hS (by kernel_rfl)), (Heap.sel hH [] rfl (by kernel_rfl))⟩
 obtain ⟨s, σ⟩ := fr
 rcases y7 with y7 | y7
 ·have h := el_l h
  obtain ⟨rfl, hS, hH⟩ := HF
  refine t_bx h hS hH ?_
  refine t_RN ?_
  exact k_eW (rT rN) E_bool_p
 have h := el_r h
 obtain ⟨rfl, HE⟩ := HF
 obtain rfl := si_1 h; exact HE
noncomputable def fO_ (a0 : Int) (a1 : (Sl (Iv .u8))) : Option (Sl (Iv .u8)) := ((appS 1 ((⟨false, [⟨(IntKind.u8.wrap a0)⟩]⟩ : Sl (Iv .u8))) a1).bind fun y1 => (some y1))
theorem ky_ (a0 : Int) (a1 : (Sl (Iv .u8))) (r : (Sl (Iv .u8))) (h : fO_ a0 a1 = some r) : eM_ a0 a1 = some r := by
 unfold fO_ at h
 refine k_W ok_12 E_sl_u8_inj h (fun σ0 => ?_)
 refine t_RN ?_
 refine t_RU 2 ?_
 refine k_bs (z := true) (⟨false, [⟨(IntKind.u8.wrap a0)⟩]⟩ : Sl (Iv .u8)) (fun t1 ht1 => ?_)
 refine t_U 1 ?_
 refine ph_ 0 (fun y1 t2 hy1 ht2 => ?_)
 refine t_N ?_
 intro h s σ hS hH
 obtain rfl := si_1 h
 exact mR_ (ents := [.own true 1 t2 y1.t]) (z := false) hH (bq_ (v := t2) hS rfl r_nil) (HL.own rfl HL.nil) (by simp [pureT, pureL, E_sl_u8])
noncomputable def br_ (a0 : ah_) : Option (Int × ah_) := (((if (decide (a0.at_ < (a0.code_.l.length : Int))) = true then ((elt a0.code_ a0.at_).bind fun y2 => (some (w4 y2.v))) else (some 0)) : Option Int).bind fun y1 => (if ((decide ((w4 (a0.at_ + 1)) ≤ (a0.code_.l.length : Int)))) = true then (some (y1, (⟨a0.code_, (w4 (a0.at_ + 1)), (IntKind.u64.wrap ((IntKind.u64.wrap ((IntKind.u64.wrap (a0.seed_ * 6364136223846793005)) + (IntKind.u64.wrap y1))) + 1442695040888963407))⟩ : ah_))) else (some ((w4 ((andI .u64 ((((IntKind.u64.wrap ((IntKind.u64.wrap ((IntKind.u64.wrap (a0.seed_ * 6364136223846793005)) + (IntKind.u64.wrap y1))) + 1442695040888963407))).fdiv (2 ^ 40))) 255))), (⟨a0.code_, (w4 (a0.at_ + 1)), (IntKind.u64.wrap ((IntKind.u64.wrap ((IntKind.u64.wrap (a0.seed_ * 6364136223846793005)) + (IntKind.u64.wrap y1))) + 1442695040888963407))⟩ : ah_)))))
theorem eH_ (a0 : ah_) (r : (Int × ah_)) (h : br_ a0 = some r) (bp0 : Nat) : RawS Tryz.prog md ext 59 [.ptr bp0 0 0 3] 0 (fun hs => E_i64 r.1) [.box bp0 (ah_.cells a0)] (fun hs => [.box bp0 (ah_.cells r.2)]) := by
 unfold br_ at h
 refine ce_ rfl rfl ok_59 rfl ?_
 intro σ0 σ F σk s hS hH
 have hS := ad_ (L' := [(0, .ptr bp0 0 0 3)]) hS (by kernel_rfl)
 refine t_go h hS hH ?_
 refine t_RN ?_
 refine t_RN ?_
 refine t_D fun mb => ?_
 refine t_U 3 ?_
 refine ae_ 0 ?_
 refine t_U 3 ?_
 refine ae_ 0 ?_
 refine t_N ?_
 refine en_ 0 (fun y1 e fr => e = .normal ∧ Sub [(0, .ptr bp0 0 0 3), (3, i4 y1)] fr.s ∧ Heap σ0 fr.σ [.box bp0 (ah_.cells a0), .keep F σk]) (fun y1 e fr h HF => ?_) fun y1 => ?_
 ·obtain ⟨s, σ⟩ := fr
  obtain ⟨rfl, hS, hH⟩ := HF
  refine t_bx h hS hH ?_
  refine t_RU 3 ?_
  refine ae_ 0 ?_
  refine t_U 3 ?_
  refine aJ_ 0 ?_
  refine t_N ?_
  refine t_RU 4 ?_
  refine ae_ 0 ?_
  refine t_U 7 ?_
  refine aJ_ 0 ?_
  refine t_N ?_
  refine t_D fun mb => ?_
  refine t_U 3 ?_
  refine ae_ 0 ?_
  refine t_U 3 ?_
  refine ae_ 0 ?_
  refine t_N ?_
  refine t_if (fun hc1 => ?_) fun hc1 => ?_
  ·refine t_RN ?_
   intro h s σ hS hH
   obtain rfl := si_1 h
   exact aS_ [] (bq_ (v := i4 y1) hS rfl r_nil) rfl rfl hH
  refine t_RU 3 ?_
  refine ae_ 0 ?_
  refine t_N ?_
  intro h s σ hS hH
  obtain rfl := si_1 h
  exact aS_ [] (bq_ (v := i4 ((w4 ((andI .u64 ((((IntKind.u64.wrap ((IntKind.u64.wrap ((IntKind.u64.wrap (a0.seed_ * 6364136223846793005)) + (IntKind.u64.wrap y1))) + 1442695040888963407))).fdiv (2 ^ 40))) 255))))) hS rfl r_nil) rfl rfl hH
 refine t_if (fun hc2 => ?_) fun hc2 => ?_
 ·refine t_D fun mb => ?_
  refine t_U 3 ?_
  refine ae_ 0 ?_
  refine t_U 3 ?_
  refine ae_ 0 ?_
  refine bX_ fun y2 rest1 hy2 => ?_
  refine t_N ?_
  exact t_e fun he hS hH => he ▸ ⟨rfl, (ad_ hS (by kernel_rfl)), hH⟩
 exact t_e fun he hS hH => he ▸ ⟨rfl, (ad_ hS (by kernel_rfl)), hH⟩
noncomputable def aI_ (a0 : ah_) (a1 : Int) : Option (Int × ah_) := (if (decide (a1 ≤ 1)) = true then (some (0, a0)) else ((br_ a0).bind fun y1 => (if (decide (200 < a1)) = true then ((br_ y1.2).bind fun y2 => ((remI (w4 ((w4 (y1.1 * 256)) + y2.1)) a1).bind fun y3 => (some (y3, y2.2)))) else ((remI y1.1 a1).bind fun y4 => (some (y4, y1.2))))))
theorem bc_ (a0 : ah_) (a1 : Int) (r : (Int × ah_)) (h : aI_ a0 a1 = some r) (bp0 : Nat) : RawS Tryz.prog md ext 37 [.ptr bp0 0 0 3, i4 a1] 0 (fun hs => E_i64 r.1) [.box bp0 (ah_.cells a0)] (fun hs => [.box bp0 (ah_.cells r.2)]) := by
 unfold aI_ at h
 refine ce_ rfl rfl ok_37 rfl ?_
 intro σ0 σ F σk s hS hH
 have hS := ad_ (L' := [(0, .ptr bp0 0 0 3), (1, i4 a1)]) hS (by kernel_rfl)
 refine t_go h hS hH ?_
 refine t_RN ?_
 refine t_RN ?_
 refine t_if (fun hc1 => ?_) fun hc1 => ?_
 ·refine t_RN ?_
  intro h s σ hS hH
  obtain rfl := si_1 h
  exact aS_ [] (bq_ (v := i4 0) hS rfl r_nil) rfl rfl hH
 refine t_RU 1 ?_
 refine aN_ (fun y1 hs hy1 hl => ?_) (hr := by exact fun y1 hy1 => eH_ _ y1 hy1 bp0)
 obtain rfl := len0 hl
 refine bj_ ?_
 refine t_N ?_
 refine t_RN ?_
 refine t_if (fun hc2 => ?_) fun hc2 => ?_
 ·refine t_RU 3 ?_
  refine aN_ (fun y2 hs hy2 hl => ?_) (hr := by exact fun y2 hy2 => eH_ _ y2 hy2 bp0)
  obtain rfl := len0 hl
  refine bj_ ?_
  refine t_N ?_
  refine t_RU 2 ?_
  intro h s σ hS hH
  obtain ⟨y3, hy3, h⟩ := bind_some h
  refine px_ rfl hS rfl rfl hy3 ?_; intro s hS
  refine t_bk h hS hH ?_
  refine t_N ?_
  intro h s σ hS hH
  obtain rfl := si_1 h
  exact aS_ [] (bq_ (v := i4 y3) hS rfl r_nil) rfl rfl hH
 refine t_RU 2 ?_
 intro h s σ hS hH
 obtain ⟨y4, hy4, h⟩ := bind_some h
 refine px_ rfl hS rfl rfl hy4 ?_; intro s hS
 refine t_bk h hS hH ?_
 refine t_N ?_
 intro h s σ hS hH
 obtain rfl := si_1 h
 exact aS_ [] (bq_ (v := i4 y4) hS rfl r_nil) rfl rfl hH
noncomputable def a4_ (a0 : ah_) (a1 : (Sl ByteArray)) : Option (ByteArray × ah_ × (Sl ByteArray)) := ((aI_ a0 (a1.l.length : Int)).bind fun y1 => ((elt a1 y1.1).bind fun y2 => (some (y2, y1.2, a1))))
theorem c9_ (a0 : ah_) (a1 : (Sl ByteArray)) (r : (ByteArray × ah_ × (Sl ByteArray))) (h : a4_ a0 a1 = some r) (bp0 : Nat) (wp1_1 : Nat) (p1_1 : T) : RawS Tryz.prog md ext 60 [.ptr bp0 0 0 3, p1_1] 0 (fun hs => E_str r.1) [.box bp0 (ah_.cells a0), .own true wp1_1 p1_1 a1.t] (fun hs => [.box bp0 (ah_.cells r.2.1), .own true wp1_1 p1_1 r.2.2.t]) := by
 unfold a4_ at h
 refine ce_ rfl rfl ok_60 rfl ?_
 intro σ0 σ F σk s hS hH
 have hp1_1 : as_ p1_1 := Heap.one (hH.at 1 rfl)
 have hS := ad_ (L' := [(0, .ptr bp0 0 0 3), (1, p1_1)]) hS (by kernel_rfl)
 refine t_go h hS hH ?_
 refine t_RN ?_
 refine t_RU 3 ?_
 refine h5_ (a := a1) 1 ?_
 refine aN_ (fun y1 hs hy1 hl => ?_) (hr := by exact fun y1 hy1 => bc_ _ _ y1 hy1 bp0)
 obtain rfl := len0 hl
 refine bj_ ?_
 refine lB_ 1 (fun hb1 hb1e y2 hy2 hl_hb1 => ?_)
 refine k9_ 1 0 hl_hb1 hy2 ?_
 refine t_N ?_
 intro h s σ hS hH
 obtain rfl := si_1 h
 exact aS_ [] (bq_ (v := .str y2) hS rfl r_nil) rfl rfl hH
noncomputable def bF_ (a0 : ah_) : Option (ByteArray × ah_) := ((a4_ a0 (⟨false, [⟨#[97]⟩, ⟨#[98]⟩, ⟨#[97, 98]⟩, ⟨#[98, 97]⟩, ⟨#[97, 98, 99]⟩, ⟨#[40]⟩, ⟨#[41]⟩, ⟨#[40, 41]⟩, ⟨#[120]⟩, ⟨#[97, 97]⟩, ⟨#[99]⟩, ⟨#[34]⟩, ⟨#[97, 34, 98]⟩, ⟨#[0]⟩, ⟨#[120, 121]⟩, ⟨#[98, 99]⟩]⟩)).bind fun y1 => (some (y1.1, y1.2.1)))
theorem fQ_ (a0 : ah_) (r : (ByteArray × ah_)) (h : bF_ a0 = some r) (bp0 : Nat) : RawS Tryz.prog md ext 50 [.ptr bp0 0 0 3] 0 (fun hs => E_str r.1) [.box bp0 (ah_.cells a0)] (fun hs => [.box bp0 (ah_.cells r.2)]) := by
 unfold bF_ at h
 refine ce_ rfl rfl ok_50 rfl ?_
 intro σ0 σ F σk s hS hH
 have hS := ad_ (L' := [(0, .ptr bp0 0 0 3)]) hS (by kernel_rfl)
 refine t_go h hS hH ?_
 refine t_RN ?_
 refine t_RU 1 ?_
 refine k_bs (z := true) (⟨false, [⟨#[97]⟩, ⟨#[98]⟩, ⟨#[97, 98]⟩, ⟨#[98, 97]⟩, ⟨#[97, 98, 99]⟩, ⟨#[40]⟩, ⟨#[41]⟩, ⟨#[40, 41]⟩, ⟨#[120]⟩, ⟨#[97, 97]⟩, ⟨#[99]⟩, ⟨#[34]⟩, ⟨#[97, 34, 98]⟩, ⟨#[0]⟩, ⟨#[120, 121]⟩, ⟨#[98, 99]⟩]⟩ : Sl ByteArray) (fun t1 ht1 => ?_)
 refine t_h Heap.up1 ?_
 refine aN_ (fun y1 hs hy1 hl => ?_) (hr := by exact fun y1 hy1 => c9_ _ _ y1 hy1 bp0 1 t1)
 obtain rfl := len0 hl
 refine bj_ ?_
 refine t_N ?_
 intro h s σ hS hH
 obtain rfl := si_1 h
 exact aS_ [] (bq_ (v := .str y1.1) hS rfl r_nil) rfl rfl (Heap.sel hH [0, 2] rfl (by kernel_rfl))
noncomputable def bk_ (a0 : ah_) (a1 : Int) : Option (Bool × ah_) := ((aI_ a0 a1).bind fun y1 => (some ((decide (y1.1 = 0)), y1.2)))
theorem dp_ (a0 : ah_) (a1 : Int) (r : (Bool × ah_)) (h : bk_ a0 a1 = some r) (bp0 : Nat) : RawS Tryz.prog md ext 53 [.ptr bp0 0 0 3, i4 a1] 0 (fun hs => E_bool r.1) [.box bp0 (ah_.cells a0)] (fun hs => [.box bp0 (ah_.cells r.2)]) := by
 unfold bk_ at h
 refine ce_ rfl rfl ok_53 rfl ?_
 intro σ0 σ F σk s hS hH
 have hS := ad_ (L' := [(0, .ptr bp0 0 0 3), (1, i4 a1)]) hS (by kernel_rfl)
 refine t_go h hS hH ?_
 refine t_RN ?_
 refine t_RU 2 ?_
 refine aN_ (fun y1 hs hy1 hl => ?_) (hr := by exact fun y1 hy1 => bc_ _ _ y1 hy1 bp0)
 obtain rfl := len0 hl
 refine bj_ ?_
 refine t_N ?_
 intro h s σ hS hH
 obtain rfl := si_1 h
 exact aS_ [] (bq_ (v := .bool (decide (y1.1 = 0))) hS rfl r_nil) rfl rfl hH
noncomputable def bR_ (a0 : ah_) : Option (ByteArray × ah_) := ((bk_ a0 4).bind fun y1 => (if y1.1 = true then ((a4_ y1.2 (⟨false, [⟨#[]⟩, ⟨#[97]⟩, ⟨#[97, 98]⟩, ⟨#[40, 97, 41, 40, 98, 41]⟩, ⟨#[40, 40, 97, 41, 98, 41]⟩, ⟨#[97, 97, 97, 97]⟩, ⟨#[97, 98, 99, 97, 98, 99]⟩, ⟨#[120, 40, 121]⟩, ⟨#[41, 40]⟩, ⟨#[97, 98, 34, 99]⟩]⟩)).bind fun y2 => (some (y2.1, y2.2.1))) else ((aI_ y1.2 6).bind fun y3 => ((aD_ (S := (ByteArray × Int × (Sl (Iv .u8)) × Int × Int)) (R := (ByteArray × (Sl (Iv .u8)) × Int × Int)) (fun st1 => (if (decide (0 < st1.2.1)) = true then ((bF_ (⟨st1.2.2.1, st1.2.2.2.1, st1.2.2.2.2⟩ : ah_)).bind fun y5 => ((catB st1.1 y5.1).bind fun y6 => (some (.inl (y6, (w4 (st1.2.1 - 1)), y5.2.code_, y5.2.at_, y5.2.seed_))))) else (some (.inr (st1.1, st1.2.2.1, st1.2.2.2.1, st1.2.2.2.2))))) (⟨#[]⟩, y3.1, y3.2.code_, y3.2.at_, y3.2.seed_)).bind fun y4 => (some (y4.1, (⟨y4.2.1, y4.2.2.1, y4.2.2.2⟩ : ah_)))))))
theorem g2_ (a0 : ah_) (r : (ByteArray × ah_)) (h : bR_ a0 = some r) (bp0 : Nat) : RawS Tryz.prog md ext 38 [.ptr bp0 0 0 3] 0 (fun hs => E_str r.1) [.box bp0 (ah_.cells a0)] (fun hs => [.box bp0 (ah_.cells r.2)]) := by
 unfold bR_ at h
 refine ce_ rfl rfl ok_38 rfl ?_
 intro σ0 σ F σk s hS hH
 have hS := ad_ (L' := [(0, .ptr bp0 0 0 3)]) hS (by kernel_rfl)
 refine t_go h hS hH ?_
 refine t_RN ?_
 refine t_RU 1 ?_
 refine aN_ (fun y1 hs hy1 hl => ?_) (hr := by exact fun y1 hy1 => dp_ _ _ y1 hy1 bp0)
 obtain rfl := len0 hl
 refine bj_ ?_
 refine t_N ?_
 refine t_if (fun hc1 => ?_) fun hc1 => ?_
 ·refine t_RU 1 ?_
  refine k_bs (z := true) (⟨false, [⟨#[]⟩, ⟨#[97]⟩, ⟨#[97, 98]⟩, ⟨#[40, 97, 41, 40, 98, 41]⟩, ⟨#[40, 40, 97, 41, 98, 41]⟩, ⟨#[97, 97, 97, 97]⟩, ⟨#[97, 98, 99, 97, 98, 99]⟩, ⟨#[120, 40, 121]⟩, ⟨#[41, 40]⟩, ⟨#[97, 98, 34, 99]⟩]⟩ : Sl ByteArray) (fun t1 ht1 => ?_)
  refine t_h Heap.up1 ?_
  refine aN_ (fun y2 hs hy2 hl => ?_) (hr := by exact fun y2 hy2 => c9_ _ _ y2 hy2 bp0 1 t1)
  obtain rfl := len0 hl
  refine bj_ ?_
  refine t_N ?_
  intro h s σ hS hH
  obtain rfl := si_1 h
  exact aS_ [] (bq_ (v := .str y2.1) hS rfl r_nil) rfl rfl (Heap.sel hH [0, 2] rfl (by kernel_rfl))
 refine t_RN ?_
 refine t_RU 1 ?_
 refine aN_ (fun y3 hs hy3 hl => ?_) (hr := by exact fun y3 hy3 => bc_ _ _ y3 hy3 bp0)
 obtain rfl := len0 hl
 refine bj_ ?_
 refine t_N ?_
 refine a8_ (fun st1 fr => Sub [(0, .ptr bp0 0 0 3), (3, .str st1.1), (4, i4 st1.2.1)] fr.s ∧ Heap σ0 fr.σ [.box bp0 [st1.2.2.1.t, i4 st1.2.2.2.1, .int .u64 st1.2.2.2.2], .keep F σk]) (fun y4 e fr => e = (.exit 0) ∧ Sub [(3, .str y4.1)] fr.s ∧ Heap σ0 fr.σ [.box bp0 [y4.2.1.t, i4 y4.2.2.1, .int .u64 y4.2.2.2], .keep F σk]) (fun hS hH => ⟨(ad_ hS (by kernel_rfl)), hH⟩) (fun st1 x fr h HI => ?_) fun y4 e fr h HF => ?_
 ·obtain ⟨s, σ⟩ := fr; obtain ⟨hS, hH⟩ := HI
  refine t_bk h hS hH ?_
  refine t_RN ?_
  refine t_if (fun hc2 => ?_) fun hc2 => ?_
  ·refine t_RU 2 ?_
   refine aN_ (fun y5 hs hy5 hl => ?_) (hr := by exact fun y5 hy5 => fQ_ _ y5 hy5 bp0)
   obtain rfl := len0 hl
   refine bj_ ?_
   refine rc_ fun y6 hy6 => ?_
   refine t_N ?_
   refine t_RN ?_
   exact t_e fun he hS hH => he ▸ ⟨(ad_ hS (by kernel_rfl)), hH⟩
  exact t_e fun he hS hH => he ▸ ⟨rfl, (ad_ hS (by kernel_rfl)), hH⟩
 obtain ⟨s, σ⟩ := fr
 obtain ⟨rfl, hS, hH⟩ := HF
 refine t_bx h hS hH ?_
 refine t_RN ?_
 intro h s σ hS hH
 obtain rfl := si_1 h
 exact aS_ [] (bq_ (v := .str y4.1) hS rfl r_nil) rfl rfl hH
noncomputable def dR_ (a0 : (Sl (Iv .u8))) : Option ByteArray := ((bR_ (⟨a0, 0, 0⟩ : ah_)).bind fun y1 => (some y1.1))
theorem hw_ (a0 : (Sl (Iv .u8))) (r : ByteArray) (h : dR_ a0 = some r) : dO_ a0 = some r := by
 unfold dR_ at h
 refine k_W ok_13 E_str_inj h (fun σ0 => ?_)
 refine t_RN ?_
 refine t_RU 1 ?_
 refine dG_ ok_33 ?_
 refine t_RN ?_
 refine t_RU 2 ?_
 refine ch_ (fun b1 => ?_)
 refine t_N ?_
 refine k_eI (rT rN) ?_
 refine t_N ?_
 refine t_RU 1 ?_
 refine aN_ (fun y1 hs hy1 hl => ?_) (hr := by exact fun y1 hy1 => g2_ _ y1 hy1 b1)
 obtain rfl := len0 hl
 refine bj_ ?_
 refine t_N ?_
 exact k_eW (rT rN) E_str_p
noncomputable def d9_ (a0 : (Sl DNamed)) (a1 : DPattern) (a2 : ByteArray) (a3 : Int) (a4 : Int) : Option ((Sl (Iv .i64)) × Int) := ((cu_ a0 a1 a2 a4).bind fun y1 => ((bv_ a3 0 (a2.size : Int)).bind fun y2 => ((c5_ y2 3).bind fun y3 => ((eL_ (⟨false, [⟨y1⟩, ⟨y3⟩]⟩)).bind fun y4 => (if (!decide (y4 = 0)) = true then (some (⟨true, []⟩, y4)) else ((bd_ a0 a1 a2 (⟨false, [⟨a3⟩]⟩) a4).bind fun y5 => (if (!decide (y5.2 = 0)) = true then (some (⟨true, []⟩, y5.2)) else ((aD_ (S := (Int × (Sl (Iv .i64)))) (R := (Sl (Iv .i64))) (fun st1 => (if (decide (st1.1 < (y5.1.l.length : Int))) = true then ((elt y5.1 st1.1).bind fun y7 => ((appS 8 st1.2 (⟨false, [⟨y7.End⟩]⟩ : Sl (Iv .i64))).bind fun y8 => (some (.inl ((w4 (st1.1 + 1)), y8))))) else (some (.inr st1.2)))) (0, (⟨false, []⟩ : Sl (Iv .i64)))).bind fun y6 => (some (y6, 0))))))))))
theorem jo_ (a0 : (Sl DNamed)) (a1 : DPattern) (a2 : ByteArray) (a3 : Int) (a4 : Int) (r : ((Sl (Iv .i64)) × Int)) (h : d9_ a0 a1 a2 a3 a4 = some r) : cy_ a0 a1 a2 a3 a4 = some r := by
 unfold d9_ at h
 refine k_W ok_19 E_t2_sl_i64_i64_inj h (fun σ0 => ?_)
 refine t_R ?_
 refine ch_ (fun b1 => ?_)
 refine t_N ?_
 refine t_RU 1 ?_
 refine ae_ 0 ?_
 refine t_U 2 ?_
 refine az_ fun y1 hy1 => ?_
 refine t_U 3 ?_
 refine az_ fun y2 hy2 => ?_
 refine az_ fun y3 hy3 => ?_
 refine k_bs (z := true) (⟨false, [⟨y1⟩, ⟨y3⟩]⟩ : Sl (Iv .i64)) (fun t1 ht1 => ?_)
 refine jm_ (fun y4 hy4 => ?_)
 refine t_N ?_
 refine t_RN ?_
 refine t_if (fun hc1 => ?_) fun hc1 => ?_
 ·refine t_RN ?_
  exact k_eW (rT (rT rN)) E_t2_sl_i64_i64_p
 refine t_RU 1 ?_
 refine ae_ 1 ?_
 refine t_U 2 ?_
 refine k_bs (z := true) (⟨false, [⟨a3⟩]⟩ : Sl (Iv .i64)) (fun t2 ht2 => ?_)
 refine t_U 1 ?_
 refine dZ_ (fun y5 t3 hy5 ht3 => ?_)
 refine t_N ?_
 refine t_RN ?_
 refine t_if (fun hc2 => ?_) fun hc2 => ?_
 ·refine t_RN ?_
  exact k_eW (rT (rT rN)) E_t2_sl_i64_i64_p
 refine t_R ?_
 refine lc_ (α := (Iv .i64)) (fun t4 ht4 => ?_)
 refine t_N ?_
 refine t_RU 1 ?_
 refine h5_ (a := y5.1) 1 ?_
 refine t_N ?_
 refine a8_ (fun st1 fr => ∃ t6, as_ t6 ∧ Sub [(15, t6), (47, t3), (48, i4 (y5.1.l.length : Int)), (49, i4 st1.1)] fr.s ∧ Heap σ0 fr.σ [.own true 1 t6 st1.2.t, .own true 3 t3 y5.1.t]) (fun y6 e fr => ∃ t7, as_ t7 ∧ e = (.exit 0) ∧ Sub [(15, t7)] fr.s ∧ Heap σ0 fr.σ [.own true 1 t7 y6.t]) (fun hS hH => ⟨t4, ht4, (ad_ hS (by kernel_rfl)), (Heap.sel hH [0, 1] rfl (by kernel_rfl))⟩) (fun st1 x fr h HI => ?_) fun y6 e fr h HF => ?_
 ·obtain ⟨s, σ⟩ := fr; obtain ⟨t6, ht6, ⟨hS, hH⟩⟩ := HI
  refine t_bk h hS hH ?_
  refine t_RN ?_
  refine t_if (fun hc3 => ?_) fun hc3 => ?_
  ·refine t_R ?_
   refine lB_ 1 (fun hb1 hb1e y7 hy7 hl_hb1 => ?_)
   refine t_h Heap.up1 ?_
   intro h s σ hS hH
   refine oK_ (a := y5.1) (j := st1.1) (y := y7) (off := 2) (c := [i4 y7.Start, i4 y7.End, y7.Captures.t]) (q := (y7.Captures : Sl DCapture)) (fun _ _ _ _ _ => trivial) rfl hS hH hl_hb1 rfl hy7 rfl (by kernel_rfl) (by kernel_rfl) rfl (by kernel_rfl) (by kernel_rfl) (by kernel_rfl) ?_; intro F1 σk1 t8 s ht8 hH hcl1 hcl1s hcl1p hcl1k hcl1f hS
   refine t_bk h hS hH ?_
   refine cD_ fun b2 => ?_
   refine a6_ 0 ?_ (h1 := by simp [ht8.1, ht8.2])
   refine t_h (·.up2.up2) ?_
   intro h s σ hS hH
   have hH := hcl1s _ _ hH
   have hH : Heap σ0 σ [.own true 3 t3 y5.1.t, .box b2 [i4 y7.Start, i4 y7.End, t8], .own true 1 t6 st1.2.t] := hH
   refine t_bk h hS hH ?_
   refine t_N ?_
   refine t_RU 2 ?_
   refine ae_ 1 ?_
   refine k_bs (z := true) (⟨false, [⟨y7.End⟩]⟩ : Sl (Iv .i64)) (fun t9 ht9 => ?_)
   refine jz_ 3 0 (fun y8 t10 hy8 ht10 => ?_)
   refine t_N ?_
   refine t_RN ?_
   exact t_e fun he hS hH => he ▸ ⟨t10, ht10, (ad_ hS (by kernel_rfl)), (Heap.sel hH [0, 1] rfl (by kernel_rfl))⟩
  exact t_e fun he hS hH => he ▸ ⟨t6, ht6, rfl, (ad_ hS (by kernel_rfl)), (Heap.sel hH [0] rfl (by kernel_rfl))⟩
 obtain ⟨s, σ⟩ := fr
 obtain ⟨t7, ht7, ⟨rfl, hS, hH⟩⟩ := HF
 refine t_bx h hS hH ?_
 refine t_RN ?_
 intro h s σ hS hH
 obtain rfl := si_1 h
 exact mR_ (ents := [.own true 1 t7 y6.t]) (z := false) hH (bq_ (v := t7) hS rfl (bq_ (v := i4 0) hS rfl r_nil)) (HL.tup (es1 := [.own true 1 t7 y6.t]) (es2 := []) (HL.own rfl (HLi HL.nil)) HL.nil) (by simp [pureT, pureL, E_t2_sl_i64_i64])
noncomputable def bl_ (a0 : ah_) (a1 : (Sl (Iv .i64))) : Option (Int × ah_ × (Sl (Iv .i64))) := ((aI_ a0 (a1.l.length : Int)).bind fun y1 => ((elt a1 y1.1).bind fun y2 => (some (y2.v, y1.2, a1))))
theorem ed_ (a0 : ah_) (a1 : (Sl (Iv .i64))) (r : (Int × ah_ × (Sl (Iv .i64)))) (h : bl_ a0 a1 = some r) (bp0 : Nat) (wp1_1 : Nat) (p1_1 : T) : RawS Tryz.prog md ext 56 [.ptr bp0 0 0 3, p1_1] 0 (fun hs => E_i64 r.1) [.box bp0 (ah_.cells a0), .own true wp1_1 p1_1 a1.t] (fun hs => [.box bp0 (ah_.cells r.2.1), .own true wp1_1 p1_1 r.2.2.t]) := by
 unfold bl_ at h
 refine ce_ rfl rfl ok_56 rfl ?_
 intro σ0 σ F σk s hS hH
 have hp1_1 : as_ p1_1 := Heap.one (hH.at 1 rfl)
 have hS := ad_ (L' := [(0, .ptr bp0 0 0 3), (1, p1_1)]) hS (by kernel_rfl)
 refine t_go h hS hH ?_
 refine t_RN ?_
 refine t_RU 3 ?_
 refine h5_ (a := a1) 1 ?_
 refine aN_ (fun y1 hs hy1 hl => ?_) (hr := by exact fun y1 hy1 => bc_ _ _ y1 hy1 bp0)
 obtain rfl := len0 hl
 refine bj_ ?_
 refine lB_ 1 (fun hb1 hb1e y2 hy2 hl_hb1 => ?_)
 refine k9_ 1 0 hl_hb1 hy2 ?_
 refine t_N ?_
 intro h s σ hS hH
 obtain rfl := si_1 h
 exact aS_ [] (bq_ (v := i4 y2.v) hS rfl r_nil) rfl rfl hH
noncomputable def cb_ (a0 : ah_) : Option (ByteArray × ah_) := ((a4_ a0 (⟨false, [⟨#[120]⟩, ⟨#[121]⟩, ⟨#[122]⟩, ⟨#[80, 97, 116]⟩, ⟨#[97, 95, 49]⟩]⟩)).bind fun y1 => (some (y1.1, y1.2.1)))
theorem gd_ (a0 : ah_) (r : (ByteArray × ah_)) (h : cb_ a0 = some r) (bp0 : Nat) : RawS Tryz.prog md ext 58 [.ptr bp0 0 0 3] 0 (fun hs => E_str r.1) [.box bp0 (ah_.cells a0)] (fun hs => [.box bp0 (ah_.cells r.2)]) := by
 unfold cb_ at h
 refine ce_ rfl rfl ok_58 rfl ?_
 intro σ0 σ F σk s hS hH
 have hS := ad_ (L' := [(0, .ptr bp0 0 0 3)]) hS (by kernel_rfl)
 refine t_go h hS hH ?_
 refine t_RN ?_
 refine t_RU 1 ?_
 refine k_bs (z := true) (⟨false, [⟨#[120]⟩, ⟨#[121]⟩, ⟨#[122]⟩, ⟨#[80, 97, 116]⟩, ⟨#[97, 95, 49]⟩]⟩ : Sl ByteArray) (fun t1 ht1 => ?_)
 refine t_h Heap.up1 ?_
 refine aN_ (fun y1 hs hy1 hl => ?_) (hr := by exact fun y1 hy1 => c9_ _ _ y1 hy1 bp0 1 t1)
 obtain rfl := len0 hl
 refine bj_ ?_
 refine t_N ?_
 intro h s σ hS hH
 obtain rfl := si_1 h
 exact aS_ [] (bq_ (v := .str y1.1) hS rfl r_nil) rfl rfl (Heap.sel hH [0, 2] rfl (by kernel_rfl))
noncomputable def ca_ (a0 : ah_) : Option (DPattern × ah_) := ((bl_ a0 (⟨false, [⟨1⟩, ⟨1⟩, ⟨1⟩, ⟨2⟩, ⟨3⟩, ⟨4⟩, ⟨5⟩, ⟨6⟩, ⟨6⟩, ⟨7⟩, ⟨8⟩, ⟨9⟩, ⟨10⟩, ⟨11⟩, ⟨12⟩, ⟨12⟩, ⟨13⟩, ⟨14⟩, ⟨15⟩, ⟨16⟩, ⟨17⟩, ⟨23⟩, ⟨24⟩, ⟨24⟩]⟩)).bind fun y1 => ((b7_ y1.1).bind fun y2 => (if (decide (y2.2 = (⟨#[115]⟩ : ByteArray))) = true then ((bF_ y1.2.1).bind fun y3 => (((if (decide (y1.1 = 1)) = true then ((bk_ y3.2 4).bind fun y5 => (some (y5.1, y5.2.code_, y5.2.at_, y5.2.seed_))) else (some (false, y3.2.code_, y3.2.at_, y3.2.seed_))) : Option (Bool × (Sl (Iv .u8)) × Int × Int)).bind fun y4 => (if y4.1 = true then (some ((⟨y1.1, 0, ⟨#[]⟩, ⟨true, []⟩⟩ : DPattern), (⟨y4.2.1, y4.2.2.1, y4.2.2.2⟩ : ah_))) else (some ((⟨y1.1, 0, y3.1, ⟨true, []⟩⟩ : DPattern), (⟨y4.2.1, y4.2.2.1, y4.2.2.2⟩ : ah_)))))) else (if (decide (y2.2 = (⟨#[110]⟩ : ByteArray))) = true then ((aI_ y1.2.1 4).bind fun y6 => (some ((⟨y1.1, y6.1, ⟨#[]⟩, ⟨true, []⟩⟩ : DPattern), y6.2))) else (if (decide (y2.2 = (⟨#[120]⟩ : ByteArray))) = true then ((cb_ y1.2.1).bind fun y7 => (some ((⟨y1.1, 0, y7.1, ⟨true, []⟩⟩ : DPattern), y7.2))) else (some ((⟨y1.1, 0, ⟨#[]⟩, ⟨true, []⟩⟩ : DPattern), y1.2.1)))))))
theorem gj_ (a0 : ah_) (r : (DPattern × ah_)) (h : ca_ a0 = some r) (bp0 : Nat) : RawS Tryz.prog md ext 55 [.ptr bp0 0 0 3] Sh_DPattern.n (fun hs => Sh_DPattern.tree hs r.1) [.box bp0 (ah_.cells a0)] (fun hs => Sh_DPattern.en hs r.1 ++ [.box bp0 (ah_.cells r.2)]) := by
 unfold ca_ at h
 refine ce_ rfl rfl ok_55 rfl ?_
 intro σ0 σ F σk s hS hH
 have hS := ad_ (L' := [(0, .ptr bp0 0 0 3)]) hS (by kernel_rfl)
 refine t_go h hS hH ?_
 refine t_R ?_
 refine cD_ fun b1 => ?_
 refine t_N ?_
 refine t_RU 1 ?_
 refine k_bs (z := true) (⟨false, [⟨1⟩, ⟨1⟩, ⟨1⟩, ⟨2⟩, ⟨3⟩, ⟨4⟩, ⟨5⟩, ⟨6⟩, ⟨6⟩, ⟨7⟩, ⟨8⟩, ⟨9⟩, ⟨10⟩, ⟨11⟩, ⟨12⟩, ⟨12⟩, ⟨13⟩, ⟨14⟩, ⟨15⟩, ⟨16⟩, ⟨17⟩, ⟨23⟩, ⟨24⟩, ⟨24⟩]⟩ : Sl (Iv .i64)) (fun t1 ht1 => ?_)
 refine t_h Heap.up2 ?_
 refine aN_ (fun y1 hs hy1 hl => ?_) (hr := by exact fun y1 hy1 => ed_ _ _ y1 hy1 bp0 1 t1)
 obtain rfl := len0 hl
 refine bj_ ?_
 refine t_N ?_
 refine t_RU 2 ?_
 refine cD_ fun b2 => ?_
 refine a6_ 0 ?_
 refine t_N ?_
 refine t_RU 1 ?_
 refine az_ fun y2 hy2 => ?_
 refine t_N ?_
 refine t_RN ?_
 refine t_RN ?_
 refine t_if (fun hc1 => ?_) fun hc1 => ?_
 ·refine t_RU 1 ?_
  refine t_h Heap.up1 ?_
  refine aN_ (fun y3 hs hy3 hl => ?_) (hr := by exact fun y3 hy3 => fQ_ _ y3 hy3 bp0)
  obtain rfl := len0 hl
  refine bj_ ?_
  refine t_U 1 ?_
  refine aJ_ 1 ?_
  refine t_N ?_
  refine en_ 0 (fun y4 e fr => e = .normal ∧ Sub [(2, .ptr b1 0 0 4), (4, .ptr b2 0 0 4), (28, .bool y4.1)] fr.s ∧ Heap σ0 fr.σ [.box b2 [i4 y1.1, i4 0, .str y3.1, (nt DPattern)], .box bp0 [y4.2.1.t, i4 y4.2.2.1, .int .u64 y4.2.2.2], .box b1 [i4 0, i4 0, .str ⟨#[]⟩, (nt DPattern)], .keep F σk]) (fun y4 e fr h HF => ?_) fun y4 => ?_
  ·obtain ⟨s, σ⟩ := fr
   obtain ⟨rfl, hS, hH⟩ := HF
   refine t_bx h hS hH ?_
   refine t_if (fun hc2 => ?_) fun hc2 => ?_
   ·refine t_RU 1 ?_
    refine aJ_ 0 ?_
    refine t_N ?_
    refine t_R ?_
    refine ae_ 0 ?_
    refine a6_ 2 ?_
    refine t_N ?_
    intro h s σ hS hH
    obtain rfl := si_1 h
    have hH := Heap.addNil hH true 4
    exact aS_ [(T.row true 0 [])] (fJ_ (v := .agg [i4 y1.1, i4 0, .str ⟨#[]⟩, (nt DPattern)]) hS (hH.at 1 rfl) rfl (by kernel_rfl) r_nil) rfl rfl (Heap.sel hH [0, 3, 4] rfl (by kernel_rfl))
   refine t_R ?_
   refine ae_ 0 ?_
   refine a6_ 2 ?_
   refine t_N ?_
   intro h s σ hS hH
   obtain rfl := si_1 h
   have hH := Heap.addNil hH true 4
   exact aS_ [(T.row true 0 [])] (fJ_ (v := .agg [i4 y1.1, i4 0, .str y3.1, (nt DPattern)]) hS (hH.at 1 rfl) rfl (by kernel_rfl) r_nil) rfl rfl (Heap.sel hH [0, 3, 4] rfl (by kernel_rfl))
  refine t_RU 3 ?_
  refine aO_ 25 (fun hc3 => ?_) fun hc3 => ?_
  ·refine t_U 1 ?_
   refine t_h Heap.up1 ?_
   refine aN_ (fun y5 hs hy5 hl => ?_) (hr := by exact fun y5 hy5 => dp_ _ _ y5 hy5 bp0)
   obtain rfl := len0 hl
   refine bj_ ?_
   refine t_N ?_
   exact t_e fun he hS hH => he ▸ ⟨rfl, (ad_ hS (by kernel_rfl)), (Heap.sel hH [1, 0, 3, 4] rfl (by kernel_rfl))⟩
  refine t_N ?_
  exact t_e fun he hS hH => he ▸ ⟨rfl, (ad_ hS (by kernel_rfl)), (Heap.sel hH [0, 1, 3, 4] rfl (by kernel_rfl))⟩
 refine t_RN ?_
 refine t_if (fun hc4 => ?_) fun hc4 => ?_
 ·refine t_RU 1 ?_
  refine t_h Heap.up1 ?_
  refine aN_ (fun y6 hs hy6 hl => ?_) (hr := by exact fun y6 hy6 => bc_ _ _ y6 hy6 bp0)
  obtain rfl := len0 hl
  refine bj_ ?_
  refine t_U 1 ?_
  refine aJ_ 1 ?_
  refine t_N ?_
  refine t_R ?_
  refine ae_ 0 ?_
  refine a6_ 3 ?_
  refine t_N ?_
  intro h s σ hS hH
  obtain rfl := si_1 h
  have hH := Heap.addNil hH true 4
  exact aS_ [(T.row true 0 [])] (fJ_ (v := .agg [i4 y1.1, i4 y6.1, .str ⟨#[]⟩, (nt DPattern)]) hS (hH.at 1 rfl) rfl (by kernel_rfl) r_nil) rfl rfl (Heap.sel hH [0, 3, 5] rfl (by kernel_rfl))
 refine t_RN ?_
 refine t_if (fun hc5 => ?_) fun hc5 => ?_
 ·refine t_RU 1 ?_
  refine t_h Heap.up1 ?_
  refine aN_ (fun y7 hs hy7 hl => ?_) (hr := by exact fun y7 hy7 => gd_ _ y7 hy7 bp0)
  obtain rfl := len0 hl
  refine bj_ ?_
  refine t_U 1 ?_
  refine aJ_ 1 ?_
  refine t_N ?_
  refine t_R ?_
  refine ae_ 0 ?_
  refine a6_ 3 ?_
  refine t_N ?_
  intro h s σ hS hH
  obtain rfl := si_1 h
  have hH := Heap.addNil hH true 4
  exact aS_ [(T.row true 0 [])] (fJ_ (v := .agg [i4 y1.1, i4 0, .str y7.1, (nt DPattern)]) hS (hH.at 1 rfl) rfl (by kernel_rfl) r_nil) rfl rfl (Heap.sel hH [0, 3, 5] rfl (by kernel_rfl))
 refine t_R ?_
 refine ae_ 0 ?_
 refine a6_ 3 ?_
 refine t_N ?_
 intro h s σ hS hH
 obtain rfl := si_1 h
 have hH := Heap.addNil hH true 4
 exact aS_ [(T.row true 0 [])] (fJ_ (v := .agg [i4 y1.1, i4 0, .str ⟨#[]⟩, (nt DPattern)]) hS (hH.at 1 rfl) rfl (by kernel_rfl) r_nil) rfl rfl (Heap.sel hH [0, 3, 5] rfl (by kernel_rfl))
def el_ (R : ah_ → Int → Option (DPattern × ah_)) : Prop := ∀ (a0 : ah_) (a1 : Int) (r : (DPattern × ah_)), R a0 a1 = some r → ∀ (bp0 : Nat), RawS Tryz.prog md ext 36 [.ptr bp0 0 0 3, i4 a1] Sh_DPattern.n (fun hs => Sh_DPattern.tree hs r.1) [.box bp0 (ah_.cells a0)] (fun hs => Sh_DPattern.en hs r.1 ++ [.box bp0 (ah_.cells r.2)])
noncomputable def bJ_ (R_36 : ah_ → Int → Option (DPattern × ah_)) (a0 : ah_) (a1 : Int) : Option (DPattern × ah_) := (if (decide (a1 ≤ 0)) = true then ((ca_ a0).bind fun y1 => (some (y1.1, y1.2))) else ((bk_ a0 4).bind fun y2 => (if y2.1 = true then ((ca_ y2.2).bind fun y3 => (some (y3.1, y3.2))) else ((bl_ y2.2 (⟨false, [⟨18⟩, ⟨18⟩, ⟨19⟩, ⟨19⟩, ⟨19⟩, ⟨20⟩, ⟨21⟩, ⟨22⟩]⟩)).bind fun y4 => ((b7_ y4.1).bind fun y5 => ((aD_ (S := (Int × (Sl (Iv .u8)) × Int × Int × (Sl DPattern))) (R := ((Sl (Iv .u8)) × Int × Int × (Sl DPattern))) (fun st1 => (if (decide (st1.1 < y5.1)) = true then ((R_36 (⟨st1.2.1, st1.2.2.1, st1.2.2.2.1⟩ : ah_) (w4 (a1 - 1))).bind fun y7 => ((appS 56 st1.2.2.2.2 (⟨false, [y7.1]⟩ : Sl DPattern)).bind fun y8 => (some (.inl ((w4 (st1.1 + 1)), y7.2.code_, y7.2.at_, y7.2.seed_, y8))))) else (some (.inr (st1.2.1, st1.2.2.1, st1.2.2.2.1, st1.2.2.2.2))))) (0, y4.2.1.code_, y4.2.1.at_, y4.2.1.seed_, (⟨true, []⟩ : Sl DPattern))).bind fun y6 => (if (decide (y5.2 = (⟨#[120]⟩ : ByteArray))) = true then ((cb_ (⟨y6.1, y6.2.1, y6.2.2.1⟩ : ah_)).bind fun y9 => (some ((⟨y4.1, 0, y9.1, y6.2.2.2⟩ : DPattern), y9.2))) else (some ((⟨y4.1, 0, ⟨#[]⟩, y6.2.2.2⟩ : DPattern), (⟨y6.1, y6.2.1, y6.2.2.1⟩ : ah_))))))))))
theorem ia_ (R_36 : ah_ → Int → Option (DPattern × ah_)) (hR_36 : el_ R_36) : el_ (bJ_ R_36) := by
 intro a0 a1 r h bp0
 unfold bJ_ at h
 refine ce_ rfl rfl ok_36 rfl ?_
 intro σ0 σ F σk s hS hH
 have hS := ad_ (L' := [(0, .ptr bp0 0 0 3), (1, i4 a1)]) hS (by kernel_rfl)
 refine t_go h hS hH ?_
 refine t_R ?_
 refine cD_ fun b1 => ?_
 refine t_N ?_
 refine t_RU 3 ?_
 refine aO_ 12 (fun hc1 => ?_) fun hc1 => ?_
 ·refine t_N ?_
  refine t_cT rfl ?_
  refine t_RU 1 ?_
  refine t_h Heap.up1 ?_
  refine aN_ (fun y1 hs hy1 hl => ?_) (hr := by exact fun y1 hy1 => gj_ _ y1 hy1 bp0)
  obtain ⟨t1, rfl⟩ := len1 hl
  refine bj_ ?_
  refine ax_ 0 fun ht1 => ?_
  refine a6_ 2 ?_ (h1 := by simp [ht1.1, ht1.2])
  refine t_N ?_
  intro h s σ hS hH
  obtain rfl := si_1 h
  exact aS_ [t1] (fJ_ (v := .agg [i4 y1.1.Kind, i4 y1.1.Num, .str y1.1.Text, t1]) hS hH rfl (by kernel_rfl) r_nil) rfl rfl (Heap.sel hH [1, 2, 3] rfl (by kernel_rfl))
 refine t_U 1 ?_
 refine t_h Heap.up1 ?_
 refine aN_ (fun y2 hs hy2 hl => ?_) (hr := by exact fun y2 hy2 => dp_ _ _ y2 hy2 bp0)
 obtain rfl := len0 hl
 refine bj_ ?_
 refine t_N ?_
 refine t_if (fun hc2 => ?_) fun hc2 => ?_
 ·refine t_RU 1 ?_
  refine aN_ (fun y3 hs hy3 hl => ?_) (hr := by exact fun y3 hy3 => gj_ _ y3 hy3 bp0)
  obtain ⟨t2, rfl⟩ := len1 hl
  refine bj_ ?_
  refine ax_ 0 fun ht2 => ?_
  refine a6_ 2 ?_ (h1 := by simp [ht2.1, ht2.2])
  refine t_N ?_
  intro h s σ hS hH
  obtain rfl := si_1 h
  exact aS_ [t2] (fJ_ (v := .agg [i4 y3.1.Kind, i4 y3.1.Num, .str y3.1.Text, t2]) hS hH rfl (by kernel_rfl) r_nil) rfl rfl (Heap.sel hH [1, 2, 3] rfl (by kernel_rfl))
 refine t_RU 1 ?_
 refine k_bs (z := true) (⟨false, [⟨18⟩, ⟨18⟩, ⟨19⟩, ⟨19⟩, ⟨19⟩, ⟨20⟩, ⟨21⟩, ⟨22⟩]⟩ : Sl (Iv .i64)) (fun t3 ht3 => ?_)
 refine t_h Heap.up1 ?_
 refine aN_ (fun y4 hs hy4 hl => ?_) (hr := by exact fun y4 hy4 => ed_ _ _ y4 hy4 bp0 1 t3)
 obtain rfl := len0 hl
 refine bj_ ?_
 refine t_N ?_
 refine t_RU 2 ?_
 refine cD_ fun b2 => ?_
 refine a6_ 0 ?_
 refine t_N ?_
 refine t_RU 1 ?_
 refine az_ fun y5 hy5 => ?_
 refine t_N ?_
 refine t_RN ?_
 refine t_h (Heap.addNil · true 4) ?_
 refine a8_ (fun st1 fr => ∃ t5, as_ t5 ∧ Sub [(0, .ptr bp0 0 0 3), (1, i4 a1), (4, .ptr b1 0 0 4), (6, .ptr b2 0 0 4), (7, i4 y5.1), (8, .str y5.2), (9, i4 st1.1)] fr.s ∧ Heap σ0 fr.σ [.box b2 [i4 y4.1, i4 0, .str ⟨#[]⟩, t5], .box bp0 [st1.2.1.t, i4 st1.2.2.1, .int .u64 st1.2.2.2.1], .box b1 [i4 0, i4 0, .str ⟨#[]⟩, (nt DPattern)], .own true 4 t5 st1.2.2.2.2.t, .keep F σk]) (fun y6 e fr => ∃ t6, as_ t6 ∧ e = (.exit 0) ∧ Sub [(0, .ptr bp0 0 0 3), (4, .ptr b1 0 0 4), (6, .ptr b2 0 0 4), (8, .str y5.2)] fr.s ∧ Heap σ0 fr.σ [.box b2 [i4 y4.1, i4 0, .str ⟨#[]⟩, t6], .box bp0 [y6.1.t, i4 y6.2.1, .int .u64 y6.2.2.1], .box b1 [i4 0, i4 0, .str ⟨#[]⟩, (nt DPattern)], .own true 4 t6 y6.2.2.2.t, .keep F σk]) (fun hS hH => ⟨(T.row true 0 []), ⟨rfl, rfl⟩, (ad_ hS (by kernel_rfl)), (Heap.sel hH [1, 2, 4, 0, 5] rfl (by kernel_rfl))⟩) (fun st1 x fr h HI => ?_) fun y6 e fr h HF => ?_
 ·obtain ⟨s, σ⟩ := fr; obtain ⟨t5, ht5, ⟨hS, hH⟩⟩ := HI
  refine t_bk h hS hH ?_
  refine t_RN ?_
  refine t_if (fun hc3 => ?_) fun hc3 => ?_
  ·refine a9_ [(5, (RB b2 RN)), (7, RN), (9, RN)] ext_x fun mb σs hn0 hlt hlto => ?_
   have hlt_b2 : b2 < mb := hlt b2 _ (List.Mem.head _)
   refine t_U 1 ?_
   refine ae_ 0 ?_ (hlt := by exact (Or.inr ⟨hlt_b2, (Wc.cons (.inr (Or.inl rfl)) (Wc.cons (.inl (by kernel_rfl)) (Wc.cons (.inl (by kernel_rfl)) Wc.nil)))⟩))
   refine t_U 3 ?_
   refine t_h Heap.up1 ?_
   refine dv_ (RB b2 RN) ext_x (Stay.box (List.Mem.head _) Stay.nil) (by exact fun x hx => Or.inr ⟨5, by kernel_rfl, hx⟩) (fun y7 hs hy7 hl => ?_) (hr := by exact fun y7 hy7 => hR_36 _ _ y7 hy7 bp0)
   obtain ⟨t7, rfl⟩ := len1 hl
   refine bj_ ?_
   refine ax_ 0 fun ht7 => ?_
   refine k_bs (z := true) (⟨false, [y7.1]⟩ : Sl DPattern) (fun t8 ht8 => ?_) (hb := by exact hn0) (h1 := by simp [ht7.1, ht7.2])
   refine jz_ 4 0 (fun y8 t9 hy8 ht9 => ?_) (hb := by exact hn0) (hwr := by exact fun hH b e o n h0 => Or.inr ⟨7, by kernel_rfl, fun h => h⟩)
   refine t_U 1 ?_
   refine bO_ 2 ht9 ?_ (hwr := by exact fun hH => Or.inr ⟨9, by kernel_rfl, fun h => h⟩)
   refine t_N ?_
   refine t_RN ?_
   exact t_e fun he hS hH => he ▸ ⟨t9, ht9, (ad_ hS (by kernel_rfl)), (Heap.sel hH [0, 2, 3, 1, 4] rfl (by kernel_rfl))⟩
  exact t_e fun he hS hH => he ▸ ⟨t5, ht5, rfl, (ad_ hS (by kernel_rfl)), hH⟩
 obtain ⟨s, σ⟩ := fr
 obtain ⟨t6, ht6, ⟨rfl, hS, hH⟩⟩ := HF
 refine t_bx h hS hH ?_
 refine t_RN ?_
 refine t_if (fun hc4 => ?_) fun hc4 => ?_
 ·refine t_RU 1 ?_
  refine t_h Heap.up1 ?_
  refine aN_ (fun y9 hs hy9 hl => ?_) (hr := by exact fun y9 hy9 => gd_ _ y9 hy9 bp0)
  obtain rfl := len0 hl
  refine bj_ ?_
  refine t_U 1 ?_
  refine aJ_ 1 ?_
  refine t_N ?_
  refine t_R ?_
  refine ae_ 0 ?_
  refine a6_ 2 ?_ (h1 := by simp [ht6.1, ht6.2])
  refine t_N ?_
  intro h s σ hS hH
  obtain rfl := si_1 h
  exact aS_ [t6] (fJ_ (v := .agg [i4 y4.1, i4 0, .str y9.1, t6]) hS hH rfl (by kernel_rfl) r_nil) rfl rfl (Heap.sel hH [3, 2, 4] rfl (by kernel_rfl))
 refine t_R ?_
 refine ae_ 0 ?_
 refine a6_ 2 ?_ (h1 := by simp [ht6.1, ht6.2])
 refine t_N ?_
 intro h s σ hS hH
 obtain rfl := si_1 h
 exact aS_ [t6] (fJ_ (v := .agg [i4 y4.1, i4 0, .str ⟨#[]⟩, t6]) hS hH rfl (by kernel_rfl) r_nil) rfl rfl (Heap.sel hH [3, 2, 4] rfl (by kernel_rfl))
noncomputable def BG_spec_l11Draw : Nat → (ah_ → Int → Option (DPattern × ah_))
 | 0 => (fun _ _ => none)
 | n + 1 => bJ_ (BG_spec_l11Draw n)
theorem uBG_spec_l11Draw : ∀ n, el_ ((BG_spec_l11Draw n))
 | 0 => (by intro _ _ r h; have h : none = some r := h; cases h)
 | n + 1 => ia_ (BG_spec_l11Draw n) (uBG_spec_l11Draw n)
noncomputable def cF_ (a0 : ah_) (a1 : Int) : Option (DPattern × ah_) := (BG_spec_l11Draw bigN) a0 a1
theorem gh_ (a0 : ah_) (a1 : Int) (r : (DPattern × ah_)) (h : cF_ a0 a1 = some r) (bp0 : Nat) : RawS Tryz.prog md ext 36 [.ptr bp0 0 0 3, i4 a1] Sh_DPattern.n (fun hs => Sh_DPattern.tree hs r.1) [.box bp0 (ah_.cells a0)] (fun hs => Sh_DPattern.en hs r.1 ++ [.box bp0 (ah_.cells r.2)]) := (uBG_spec_l11Draw bigN) a0 a1 r h bp0
noncomputable def dJ_ (a0 : (Sl (Iv .u8))) : Option (Sl DNamed) := ((aD_ (S := (Int × (Sl (Iv .u8)) × Int × Int × (Sl DNamed))) (R := (Sl DNamed)) (fun st1 => (if (decide (st1.1 < ((⟨false, [⟨#[120]⟩, ⟨#[121]⟩, ⟨#[122]⟩, ⟨#[80, 97, 116]⟩, ⟨#[97, 95, 49]⟩]⟩ : Sl ByteArray).l.length : Int))) = true then ((elt (⟨false, [⟨#[120]⟩, ⟨#[121]⟩, ⟨#[122]⟩, ⟨#[80, 97, 116]⟩, ⟨#[97, 95, 49]⟩]⟩ : Sl ByteArray) st1.1).bind fun y2 => ((aI_ (⟨st1.2.1, st1.2.2.1, st1.2.2.2.1⟩ : ah_) 3).bind fun y3 => ((cF_ y3.2 y3.1).bind fun y4 => ((a7_ y4.1).bind fun y5 => ((appS 72 st1.2.2.2.2 (⟨false, [(⟨y2, y5⟩ : DNamed)]⟩ : Sl DNamed)).bind fun y6 => (some (.inl ((w4 (st1.1 + 1)), y4.2.code_, y4.2.at_, y4.2.seed_, y6)))))))) else (some (.inr st1.2.2.2.2)))) (0, a0, 0, 0, (⟨false, []⟩ : Sl DNamed))).bind fun y1 => (some y1))
theorem hx_ (a0 : (Sl (Iv .u8))) (r : (Sl DNamed)) (h : dJ_ a0 = some r) : dV_ a0 = some r := by
 unfold dJ_ at h
 refine k_W ok_21 E_sl_DNamed_inj h (fun σ0 => ?_)
 refine t_RN ?_
 refine t_RU 1 ?_
 refine dG_ ok_33 ?_
 refine t_RN ?_
 refine t_RU 2 ?_
 refine ch_ (fun b1 => ?_)
 refine t_N ?_
 refine k_eI (rT rN) ?_
 refine t_N ?_
 refine t_R ?_
 refine lc_ (α := DNamed) (fun t1 ht1 => ?_)
 refine t_N ?_
 refine t_R ?_
 refine k_bs (z := true) (⟨false, [⟨#[120]⟩, ⟨#[121]⟩, ⟨#[122]⟩, ⟨#[80, 97, 116]⟩, ⟨#[97, 95, 49]⟩]⟩ : Sl ByteArray) (fun t2 ht2 => ?_)
 refine t_N ?_
 refine t_RN ?_
 refine a8_ (fun st1 fr => ∃ t4, as_ t4 ∧ Sub [(3, .ptr b1 0 0 3), (4, t4), (5, t2), (6, i4 st1.1)] fr.s ∧ Heap σ0 fr.σ [.box b1 [st1.2.1.t, i4 st1.2.2.1, .int .u64 st1.2.2.2.1], .own true 5 t4 st1.2.2.2.2.t, .own true 1 t2 (Sl.t (⟨false, [⟨#[120]⟩, ⟨#[121]⟩, ⟨#[122]⟩, ⟨#[80, 97, 116]⟩, ⟨#[97, 95, 49]⟩]⟩ : Sl ByteArray))]) (fun y1 e fr => ∃ t5, as_ t5 ∧ e = (.exit 0) ∧ Sub [(4, t5)] fr.s ∧ Heap σ0 fr.σ [.own true 5 t5 y1.t]) (fun hS hH => ⟨t1, ht1, (ad_ hS (by kernel_rfl)), (Heap.sel hH [2, 1, 0] rfl (by kernel_rfl))⟩) (fun st1 x fr h HI => ?_) fun y1 e fr h HF => ?_
 ·obtain ⟨s, σ⟩ := fr; obtain ⟨t4, ht4, ⟨hS, hH⟩⟩ := HI
  refine t_bk h hS hH ?_
  refine t_RU 2 ?_
  refine h5_ (a := (⟨false, [⟨#[120]⟩, ⟨#[121]⟩, ⟨#[122]⟩, ⟨#[80, 97, 116]⟩, ⟨#[97, 95, 49]⟩]⟩ : Sl ByteArray)) 2 ?_
  refine t_N ?_
  refine t_if (fun hc1 => ?_) fun hc1 => ?_
  ·refine a9_ [(7, (RT t2 RN)), (8, (RT t2 RN)), (12, RN)] ext_x fun mb σs hn0 hlt hlto => ?_
   have hlt_t2 : ∀ b e o n, t2 = .ref b e o n → b < mb := fun b e o n h => hlto _ _ _ _ (List.Mem.tail _ (List.Mem.tail _ (List.Mem.head _))) b e o n h
   refine t_U 3 ?_
   refine lB_ 2 (fun hb1 hb1e y2 hy2 hl_hb1 => ?_) (hlt := by exact (fun b e o n h => Or.inr ⟨hlt_t2 b e o n h, (Wc.cons (.inr (Or.inl ⟨_, _, _, h⟩)) (Wc.cons (.inr (Or.inl ⟨_, _, _, h⟩)) (Wc.cons (.inl (by kernel_rfl)) Wc.nil)))⟩))
   refine k9_ 2 0 hl_hb1 hy2 ?_ (hlt := by exact (fun b e o n h => Or.inr ⟨hlt_t2 b e o n h, (Wc.cons (.inr (Or.inl ⟨_, _, _, h⟩)) (Wc.cons (.inr (Or.inl ⟨_, _, _, h⟩)) (Wc.cons (.inl (by kernel_rfl)) Wc.nil)))⟩))
   refine t_U 2 ?_
   refine dv_ (RT t2 RN) ext_x (Stay.own (List.Mem.tail _ (List.Mem.head _)) Stay.nil) (by exact fun x hx => Or.inr ⟨7, by kernel_rfl, hx⟩) (fun y3 hs hy3 hl => ?_) (hr := by exact fun y3 hy3 => bc_ _ _ y3 hy3 b1)
   obtain rfl := len0 hl
   refine bj_ ?_
   refine dv_ (RT t2 RN) ext_x (Stay.own (List.Mem.tail _ (List.Mem.head _)) Stay.nil) (by exact fun x hx => Or.inr ⟨8, by kernel_rfl, hx⟩) (fun y4 hs hy4 hl => ?_) (hr := by exact fun y4 hy4 => gh_ _ _ y4 hy4 b1)
   obtain ⟨t6, rfl⟩ := len1 hl
   refine bj_ ?_
   refine ax_ 0 fun ht6 => ?_
   refine dZ_ (fun y5 t7 hy5 ht7 => ?_)
   intro h s σ hS hH
   refine k1_ (qs := [(0, .str y2), (1, .agg [i4 y5.Kind, i4 y5.Num, .str y5.Text, t7])]) (z := [.str ⟨#[]⟩, i4 0, i4 0, .str ⟨#[]⟩, (nt DPattern)]) (r := [.str y2, i4 y5.Kind, i4 y5.Num, .str y5.Text, t7]) [[.str y2], [i4 y5.Kind, i4 y5.Num, .str y5.Text, t7]] rfl hS rfl (by kernel_rfl) (by kernel_rfl) (⟨rfl, (by kernel_rfl), rfl, (by simp [ht7.1, ht7.2]), trivial⟩) (by kernel_rfl) ?_; intro s hS
   refine t_bk h hS hH ?_
   refine k_bs (z := true) (⟨false, [(⟨y2, y5⟩ : DNamed)]⟩ : Sl DNamed) (fun t8 ht8 => ?_) (hb := by exact hn0) (h1 := by simp [ht7.1, ht7.2])
   refine jz_ 3 0 (fun y6 t9 hy6 ht9 => ?_) (hb := by exact hn0) (hwr := by exact fun hH b e o n h0 => Or.inr ⟨12, by kernel_rfl, fun h => h⟩)
   refine t_N ?_
   refine t_RN ?_
   exact t_e fun he hS hH => he ▸ ⟨t9, ht9, (ad_ hS (by kernel_rfl)), (Heap.sel hH [2, 0, 3] rfl (by kernel_rfl))⟩
  exact t_e fun he hS hH => he ▸ ⟨t4, ht4, rfl, (ad_ hS (by kernel_rfl)), (Heap.sel hH [1] rfl (by kernel_rfl))⟩
 obtain ⟨s, σ⟩ := fr
 obtain ⟨t5, ht5, ⟨rfl, hS, hH⟩⟩ := HF
 refine t_bx h hS hH ?_
 refine t_RN ?_
 intro h s σ hS hH
 obtain rfl := si_1 h
 exact mR_ (ents := [.own true 5 t5 y1.t]) (z := false) hH (bq_ (v := t5) hS rfl r_nil) (HL.own rfl HL.nil) (by simp [pureT, pureL, E_sl_DNamed])
noncomputable def fe_ (a0 : (Sl (Iv .u8))) : Option DPattern := ((aI_ (⟨a0, 0, 0⟩ : ah_) 4).bind fun y1 => ((cF_ y1.2 y1.1).bind fun y2 => ((a7_ y2.1).bind fun y3 => (some y3))))
theorem ju_ (a0 : (Sl (Iv .u8))) (r : DPattern) (h : fe_ a0 = some r) : ft_ a0 = some r := by
 unfold fe_ at h
 refine k_W ok_22 E_DPattern_inj h (fun σ0 => ?_)
 refine t_R ?_
 refine cD_ fun b1 => ?_
 refine t_N ?_
 refine t_RU 1 ?_
 refine dG_ ok_33 ?_
 refine t_RN ?_
 refine t_RU 2 ?_
 refine ch_ (fun b2 => ?_)
 refine t_N ?_
 refine k_eI (rT rN) ?_
 refine t_N ?_
 refine t_RU 2 ?_
 refine aN_ (fun y1 hs hy1 hl => ?_) (hr := by exact fun y1 hy1 => bc_ _ _ y1 hy1 b2)
 obtain rfl := len0 hl
 refine bj_ ?_
 refine aN_ (fun y2 hs hy2 hl => ?_) (hr := by exact fun y2 hy2 => gh_ _ _ y2 hy2 b2)
 obtain ⟨t1, rfl⟩ := len1 hl
 refine bj_ ?_
 refine ax_ 0 fun ht1 => ?_
 refine dZ_ (fun y3 t2 hy3 ht2 => ?_)
 refine a6_ 3 ?_ (h1 := by simp [ht2.1, ht2.2])
 refine t_N ?_
 intro h s σ hS hH
 obtain rfl := si_1 h
 have hH := hH.up1
 exact mR_ (ents := [.own true 4 t2 y3.Kids.t]) (z := false) hH (fJ_ (v := .agg [i4 y3.Kind, i4 y3.Num, .str y3.Text, t2]) hS (hH.at 1 rfl) rfl (by kernel_rfl) r_nil) (HL.agg (es1 := [.own true 4 t2 y3.Kids.t]) (es2 := []) (HLi (HLi (HLs (HL.own rfl HL.nil)))) HL.nil) (by simp [pureT, pureL, E_DPattern])
noncomputable def dP_ (a0 : (Sl DNamed)) (a1 : DPattern) (a2 : ByteArray) (a3 : Bool) (a4 : Int) : Option ((Sl DMatch) × Int × Bool) := ((cJ_ a0 a1 a2 a3 a4).bind fun y1 => ((dU_ a0 a1 a2 a3 a4).bind fun y2 => (if (decide (y1.2 = y2.2)) = true then ((c2_ y1.1 y2.1).bind fun y3 => (some (y1.1, y1.2, y3))) else (some (y1.1, y1.2, false)))))
theorem hu_ (a0 : (Sl DNamed)) (a1 : DPattern) (a2 : ByteArray) (a3 : Bool) (a4 : Int) (r : ((Sl DMatch) × Int × Bool)) (h : dP_ a0 a1 a2 a3 a4 = some r) : dT_ a0 a1 a2 a3 a4 = some r := by
 unfold dP_ at h
 refine k_W ok_23 E_t3_sl_DMatch_i64_bool_inj h (fun σ0 => ?_)
 refine t_R ?_
 refine ch_ (fun b1 => ?_)
 refine t_N ?_
 refine t_RU 1 ?_
 refine ae_ 0 ?_
 refine t_U 3 ?_
 refine az_ fun y1 hy1 => ?_
 refine t_N ?_
 refine t_RU 1 ?_
 refine ae_ 0 ?_
 refine t_U 3 ?_
 refine dZ_ (fun y2 t1 hy2 ht1 => ?_)
 refine t_N ?_
 refine t_RU 6 ?_
 refine aO_ 40 (fun hc1 => ?_) fun hc1 => ?_
 ·refine t_U 2 ?_
  refine jm_ (fun y3 hy3 => ?_)
  refine t_N ?_
  exact k_eW (rT (rT (rT rN))) E_t3_sl_DMatch_i64_bool_p
 refine t_N ?_
 exact k_eW (rT (rT (rT rN))) E_t3_sl_DMatch_i64_bool_p
noncomputable def fT_ (a0 : (Sl (Iv .i64))) : Option Int := ((aD_ (S := Int) (R := (Unit ⊕ Int)) (fun st1 => (if (decide (st1 < (a0.l.length : Int))) = true then ((elt a0 st1).bind fun y2 => (if (!decide (y2.v = 0)) = true then (some (.inr (.inr y2.v))) else (some (.inl (w4 (st1 + 1)))))) else (some (.inr (.inl ()))))) 0).bind fun y1 => (Sum.elim (fun y1 => (some 0)) (fun y1 => (some y1)) y1))
theorem kL_ (a0 : (Sl (Iv .i64))) (r : Int) (h : fT_ a0 = some r) : eL_ a0 = some r := by
 unfold fT_ at h
 refine k_W ok_40 E_i64_inj h (fun σ0 => ?_)
 refine t_RN ?_
 refine t_RN ?_
 refine a8_ (fun st1 fr => Sub [(5, a0.t), (6, i4 (a0.l.length : Int)), (7, i4 st1)] fr.s ∧ Heap σ0 fr.σ []) (fun y1 e fr => (Sum.elim (fun y => e = (.exit 0) ∧ Sub [] fr.s ∧ Heap σ0 fr.σ []) (fun y => e = .ret ∧ endW Tryz.prog (Tryz.f40.results.toList) σ0 (E_i64 y) .ret fr)) y1) (fun hS hH => ⟨(ad_ hS (by kernel_rfl)), hH⟩) (fun st1 x fr h HI => ?_) fun y1 e fr h HF => ?_
 ·obtain ⟨s, σ⟩ := fr; obtain ⟨hS, hH⟩ := HI
  refine t_bk h hS hH ?_
  refine t_RN ?_
  refine t_if (fun hc1 => ?_) fun hc1 => ?_
  ·refine t_R ?_
   refine bX_ fun y2 rest1 hy2 => ?_
   refine t_N ?_
   refine t_RN ?_
   refine t_if (fun hc2 => ?_) fun hc2 => ?_
   ·refine t_RN ?_
    exact t_e fun he hS hH => he ▸ ⟨rfl, (eW hS hH (rT rN) E_i64_p)⟩
   refine t_RN ?_
   exact t_e fun he hS hH => he ▸ ⟨(ad_ hS (by kernel_rfl)), hH⟩
  exact t_e fun he hS hH => he ▸ ⟨rfl, (ad_ hS (by kernel_rfl)), hH⟩
 obtain ⟨s, σ⟩ := fr
 rcases y1 with y1 | y1
 ·have h := el_l h
  obtain ⟨rfl, hS, hH⟩ := HF
  refine t_bx h hS hH ?_
  refine t_RN ?_
  exact k_eW (rT rN) E_i64_p
 have h := el_r h
 obtain ⟨rfl, HE⟩ := HF
 obtain rfl := si_1 h; exact HE
noncomputable def dm_ (a0 : (Sl DNamed)) (a1 : DPattern) (a2 : ByteArray) (a3 : Int) : Option Int := ((((ej_ a0).bind fun y6 => (if y6 = true then ((bZ_ a1).bind fun y7 => (if y7 = true then ((cG_ a2).bind fun y8 => (some y8)) else (some false))) else (some false))) : Option Bool).bind fun y1 => ((c5_ y1 1).bind fun y2 => ((bv_ a3 0 20000).bind fun y3 => ((c5_ y3 3).bind fun y4 => ((eL_ (⟨false, [⟨y2⟩, ⟨y4⟩]⟩)).bind fun y5 => (some y5))))))
theorem hd_ (a0 : (Sl DNamed)) (a1 : DPattern) (a2 : ByteArray) (a3 : Int) (r : Int) (h : dm_ a0 a1 a2 a3 = some r) : cu_ a0 a1 a2 a3 = some r := by
 unfold dm_ at h
 refine k_W ok_41 E_i64_inj h (fun σ0 => ?_)
 refine t_R ?_
 refine ch_ (fun b1 => ?_)
 refine t_N ?_
 refine en_ 0 (fun y1 e fr => e = .normal ∧ Sub [(3, i4 a3), (9, .bool y1)] fr.s ∧ Heap σ0 fr.σ []) (fun y1 e fr h HF => ?_) fun y1 => ?_
 ·obtain ⟨s, σ⟩ := fr
  obtain ⟨rfl, hS, hH⟩ := HF
  refine t_bx h hS hH ?_
  refine t_RU 1 ?_
  refine az_ fun y2 hy2 => ?_
  refine t_U 1 ?_
  refine az_ fun y3 hy3 => ?_
  refine az_ fun y4 hy4 => ?_
  refine k_bs (z := true) (⟨false, [⟨y2⟩, ⟨y4⟩]⟩ : Sl (Iv .i64)) (fun t1 ht1 => ?_)
  refine jm_ (fun y5 hy5 => ?_)
  refine t_N ?_
  exact k_eW (rT rN) E_i64_p
 refine t_RU 1 ?_
 refine az_ fun y6 hy6 => ?_
 refine t_U 1 ?_
 refine aO_ 12 (fun hc1 => ?_) fun hc1 => ?_
 ·refine ae_ 0 ?_
  refine az_ fun y7 hy7 => ?_
  refine t_U 2 ?_
  refine aO_ 16 (fun hc2 => ?_) fun hc2 => ?_
  ·refine t_U 1 ?_
   refine az_ fun y8 hy8 => ?_
   refine t_N ?_
   exact t_e fun he hS hH => he ▸ ⟨rfl, (ad_ hS (by kernel_rfl)), (Heap.sel hH [] rfl (by kernel_rfl))⟩
  refine t_N ?_
  exact t_e fun he hS hH => he ▸ ⟨rfl, (ad_ hS (by kernel_rfl)), (Heap.sel hH [] rfl (by kernel_rfl))⟩
 refine t_N ?_
 exact t_e fun he hS hH => he ▸ ⟨rfl, (ad_ hS (by kernel_rfl)), (Heap.sel hH [] rfl (by kernel_rfl))⟩
noncomputable def fw_ (a0 : Bool) (a1 : Int) : Option Int := (if a0 = true then (some 0) else (some a1))
theorem jx_ (a0 : Bool) (a1 : Int) (r : Int) (h : fw_ a0 a1 = some r) : c5_ a0 a1 = some r := by
 unfold fw_ at h
 refine k_W ok_42 E_i64_inj h (fun σ0 => ?_)
 refine t_RN ?_
 refine t_RN ?_
 refine t_if (fun hc1 => ?_) fun hc1 => ?_
 ·refine t_RN ?_
  exact k_eW (rT rN) E_i64_p
 refine t_RN ?_
 exact k_eW (rT rN) E_i64_p
noncomputable def fc_ (a0 : Int) (a1 : Int) (a2 : Int) : Option Bool := (if (decide (a1 ≤ a0)) = true then (some (decide (a0 ≤ a2))) else (some false))
theorem ji_ (a0 : Int) (a1 : Int) (a2 : Int) (r : Bool) (h : fc_ a0 a1 a2 = some r) : bv_ a0 a1 a2 = some r := by
 unfold fc_ at h
 refine k_W ok_43 E_bool_inj h (fun σ0 => ?_)
 refine t_RN ?_
 refine t_RU 4 ?_
 refine aO_ 10 (fun hc1 => ?_) fun hc1 => ?_
 ·refine t_N ?_
  exact k_eW (rT rN) E_bool_p
 refine t_N ?_
 exact k_eW (rT rN) E_bool_p
end Go.Am
