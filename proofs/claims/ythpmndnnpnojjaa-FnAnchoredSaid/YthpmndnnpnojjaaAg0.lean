/- Functions of the program. -/
import Derived.Test.YthpmndnnpnojjaaAd0
set_option maxRecDepth 100000
set_option maxHeartbeats 4000000
set_option linter.unusedVariables false
set_option linter.unusedSimpArgs false
namespace Go.Am
open Go.Proofs
noncomputable def c5_ (a0 : (Sl (Iv .u8))) : Option Bool := (if (decide (1048576 < (a0.l.length : Int))) = true then (some true) else ((fp_ a0).bind fun y1 => ((eo_ 1 a0).bind fun y2 => ((dC_ y2).bind fun y3 => ((eo_ 2 a0).bind fun y4 => ((dD_ y4).bind fun y5 => ((cx_ y1 y3 y5 true 2000).bind fun y6 => ((cx_ y1 y3 y5 false 2000).bind fun y7 => (if (!decide (y6.2 = 0)) = true then (some true) else (if (!decide (y7.2 = 0)) = true then (some true) else ((aG_ (S := Int) (R := (Unit ⊕ Bool)) (fun st1 => (if (decide (st1 < (y7.1.l.length : Int))) = true then ((elt y7.1 st1).bind fun y9 => (if ((!((decide (y9.Start = 0)) == (decide (st1 < (y6.1.l.length : Int)))))) = true then (some (.inr (.inr false))) else (some (.inl (w4 (st1 + 1)))))) else (some (.inr (.inl ()))))) 0).bind fun y8 => (Sum.elim (fun y8 => (if ((decide ((y6.1.l.length : Int) ≤ (y7.1.l.length : Int)))) = true then ((subS y7.1 0 (y6.1.l.length : Int)).bind fun y10 => ((cX_ y6.1 y10).bind fun y11 => (some y11))) else (some false))) (fun y8 => (some y8)) y8))))))))))))
theorem gY_ (a0 : (Sl (Iv .u8))) (r : Bool) (h : c5_ a0 = some r) : eQ_ a0 = some r := by
 unfold c5_ at h
 refine k_W ok_13 E_bool_inj h (fun σ0 => ?_)
 refine t_RN ?_
 refine t_RN ?_
 refine t_if (fun hc1 => ?_) fun hc1 => ?_
 ·refine t_RN ?_
  exact k_eW (rT rN) E_bool_p
 refine t_RU 1 ?_
 refine ay_ fun y1 hy1 => ?_
 refine t_N ?_
 refine t_RU 1 ?_
 refine ay_ fun y2 hy2 => ?_
 refine ay_ fun y3 hy3 => ?_
 refine cC_ fun b1 => ?_
 refine a6_ 0 ?_
 refine t_N ?_
 refine t_RU 1 ?_
 refine ay_ fun y4 hy4 => ?_
 refine ay_ fun y5 hy5 => ?_
 refine t_N ?_
 refine t_RU 1 ?_
 refine af_ 0 ?_
 refine t_U 1 ?_
 refine ay_ fun y6 hy6 => ?_
 refine t_N ?_
 refine t_RU 1 ?_
 refine af_ 0 ?_
 refine t_U 1 ?_
 refine ay_ fun y7 hy7 => ?_
 refine t_N ?_
 refine t_RU 3 ?_
 refine aR_ 38 (fun hc2 => ?_) fun hc2 => ?_
 ·refine t_N ?_
  refine t_cT rfl ?_
  refine t_RN ?_
  exact k_eW (rT rN) E_bool_p
 refine t_N ?_
 refine t_if (fun hc3 => ?_) fun hc3 => ?_
 ·refine t_RN ?_
  exact k_eW (rT rN) E_bool_p
 refine t_RN ?_
 refine ba_ (fun st1 fr => Sub [(6, y6.1.t), (8, y7.1.t), (10, i4 st1)] fr.s ∧ Heap σ0 fr.σ []) (fun y8 e fr => (Sum.elim (fun y => e = (.exit 0) ∧ Sub [(6, y6.1.t), (8, y7.1.t)] fr.s ∧ Heap σ0 fr.σ []) (fun y => e = .ret ∧ endW Try.prog (Try.f13.results.toList) σ0 (E_bool y) .ret fr)) y8) (fun hS hH => ⟨(ae_ hS (by kernel_rfl)), (Heap.sel hH [] rfl (by kernel_rfl))⟩) (fun st1 x fr h HI => ?_) fun y8 e fr h HF => ?_
 ·obtain ⟨s, σ⟩ := fr; obtain ⟨hS, hH⟩ := HI
  refine t_bk h hS hH ?_
  refine t_RN ?_
  refine t_if (fun hc4 => ?_) fun hc4 => ?_
  ·refine t_RU 2 ?_
   refine cl_ fun y9 rest1 hy9 => ?_
   refine t_N ?_
   refine t_if (fun hc5 => ?_) fun hc5 => ?_
   ·refine t_RN ?_
    exact t_e fun he hS hH => he ▸ ⟨rfl, (eW hS hH (rT rN) E_bool_p)⟩
   refine t_RN ?_
   exact t_e fun he hS hH => he ▸ ⟨(ae_ hS (by kernel_rfl)), hH⟩
  exact t_e fun he hS hH => he ▸ ⟨rfl, (ae_ hS (by kernel_rfl)), hH⟩
 obtain ⟨s, σ⟩ := fr
 rcases y8 with y8 | y8
 ·have h := el_l h
  obtain ⟨rfl, hS, hH⟩ := HF
  refine t_bx h hS hH ?_
  refine t_RU 6 ?_
  refine aR_ 64 (fun hc6 => ?_) fun hc6 => ?_
  ·refine t_U 4 ?_
   refine oy_ fun y10 hy10 => ?_
   refine ay_ fun y11 hy11 => ?_
   refine t_N ?_
   exact k_eW (rT rN) E_bool_p
  refine t_N ?_
  exact k_eW (rT rN) E_bool_p
 have h := el_r h
 obtain ⟨rfl, HE⟩ := HF
 obtain rfl := si_1 h; exact HE
noncomputable def fy_ (a0 : Int) (a1 : (Sl (Iv .u8))) : Option (Sl (Iv .u8)) := ((appS 1 ((⟨false, [⟨(IntKind.u8.wrap a0)⟩]⟩ : Sl (Iv .u8))) a1).bind fun y1 => (some y1))
theorem j3_ (a0 : Int) (a1 : (Sl (Iv .u8))) (r : (Sl (Iv .u8))) (h : fy_ a0 a1 = some r) : eo_ a0 a1 = some r := by
 unfold fy_ at h
 refine k_W ok_33 E_sl_u8_inj h (fun σ0 => ?_)
 refine t_RN ?_
 refine t_RU 2 ?_
 refine k_bs (z := true) (⟨false, [⟨(IntKind.u8.wrap a0)⟩]⟩ : Sl (Iv .u8)) (fun t1 ht1 => ?_)
 refine t_U 1 ?_
 refine oC_ 0 (fun y1 t2 hy1 ht2 => ?_)
 refine t_N ?_
 intro h s σ hS hH
 obtain rfl := si_1 h
 exact nG_ (ents := [.own true 1 t2 y1.t]) (z := false) hH (bo_ (v := t2) hS rfl r_nil) (HL.own rfl HL.nil) (by simp [pureT, pureL, E_sl_u8])
noncomputable def bm_ (a0 : ah_) : Option (Int × ah_) := (((if (decide (a0.at_ < (a0.code_.l.length : Int))) = true then ((elt a0.code_ a0.at_).bind fun y2 => (some (w4 y2.v))) else (some 0)) : Option Int).bind fun y1 => (if ((decide ((w4 (a0.at_ + 1)) ≤ (a0.code_.l.length : Int)))) = true then (some (y1, (⟨a0.code_, (w4 (a0.at_ + 1)), (IntKind.u64.wrap ((IntKind.u64.wrap ((IntKind.u64.wrap (a0.seed_ * 6364136223846793005)) + (IntKind.u64.wrap y1))) + 1442695040888963407))⟩ : ah_))) else (some ((w4 ((andI .u64 ((((IntKind.u64.wrap ((IntKind.u64.wrap ((IntKind.u64.wrap (a0.seed_ * 6364136223846793005)) + (IntKind.u64.wrap y1))) + 1442695040888963407))).fdiv (2 ^ 40))) 255))), (⟨a0.code_, (w4 (a0.at_ + 1)), (IntKind.u64.wrap ((IntKind.u64.wrap ((IntKind.u64.wrap (a0.seed_ * 6364136223846793005)) + (IntKind.u64.wrap y1))) + 1442695040888963407))⟩ : ah_)))))
theorem et_ (a0 : ah_) (r : (Int × ah_)) (h : bm_ a0 = some r) (bp0 : Nat) : RawS Try.prog md ext 120 [.ptr bp0 0 0 3] 0 (fun hs => E_i64 r.1) [.box bp0 (ah_.cells a0)] (fun hs => [.box bp0 (ah_.cells r.2)]) := by
 unfold bm_ at h
 refine bS_ rfl rfl ok_120 rfl ?_
 intro σ0 σ F σk s hS hH
 have hS := ae_ (L' := [(0, .ptr bp0 0 0 3)]) hS (by kernel_rfl)
 refine t_go h hS hH ?_
 refine t_RN ?_
 refine t_RN ?_
 refine t_D fun mb => ?_
 refine t_U 3 ?_
 refine af_ 0 ?_
 refine t_U 3 ?_
 refine af_ 0 ?_
 refine t_N ?_
 refine eE_ 0 (fun y1 e fr => e = .normal ∧ Sub [(0, .ptr bp0 0 0 3), (3, i4 y1)] fr.s ∧ Heap σ0 fr.σ [.box bp0 (ah_.cells a0), .keep F σk]) (fun y1 e fr h HF => ?_) fun y1 => ?_
 ·obtain ⟨s, σ⟩ := fr
  obtain ⟨rfl, hS, hH⟩ := HF
  refine t_bx h hS hH ?_
  refine t_RU 3 ?_
  refine af_ 0 ?_
  refine t_U 3 ?_
  refine aM_ 0 ?_
  refine t_N ?_
  refine t_RU 4 ?_
  refine af_ 0 ?_
  refine t_U 7 ?_
  refine aM_ 0 ?_
  refine t_N ?_
  refine t_D fun mb => ?_
  refine t_U 3 ?_
  refine af_ 0 ?_
  refine t_U 3 ?_
  refine af_ 0 ?_
  refine t_N ?_
  refine t_if (fun hc1 => ?_) fun hc1 => ?_
  ·refine t_RN ?_
   intro h s σ hS hH
   obtain rfl := si_1 h
   exact aS_ [] (bo_ (v := i4 y1) hS rfl r_nil) rfl rfl hH
  refine t_RU 3 ?_
  refine af_ 0 ?_
  refine t_N ?_
  intro h s σ hS hH
  obtain rfl := si_1 h
  exact aS_ [] (bo_ (v := i4 ((w4 ((andI .u64 ((((IntKind.u64.wrap ((IntKind.u64.wrap ((IntKind.u64.wrap (a0.seed_ * 6364136223846793005)) + (IntKind.u64.wrap y1))) + 1442695040888963407))).fdiv (2 ^ 40))) 255))))) hS rfl r_nil) rfl rfl hH
 refine t_if (fun hc2 => ?_) fun hc2 => ?_
 ·refine t_D fun mb => ?_
  refine t_U 3 ?_
  refine af_ 0 ?_
  refine t_U 3 ?_
  refine af_ 0 ?_
  refine cl_ fun y2 rest1 hy2 => ?_
  refine t_N ?_
  exact t_e fun he hS hH => he ▸ ⟨rfl, (ae_ hS (by kernel_rfl)), hH⟩
 exact t_e fun he hS hH => he ▸ ⟨rfl, (ae_ hS (by kernel_rfl)), hH⟩
noncomputable def aH_ (a0 : ah_) (a1 : Int) : Option (Int × ah_) := (if (decide (a1 ≤ 1)) = true then (some (0, a0)) else ((bm_ a0).bind fun y1 => (if (decide (200 < a1)) = true then ((bm_ y1.2).bind fun y2 => ((remI (w4 ((w4 (y1.1 * 256)) + y2.1)) a1).bind fun y3 => (some (y3, y2.2)))) else ((remI y1.1 a1).bind fun y4 => (some (y4, y1.2))))))
theorem a9_ (a0 : ah_) (a1 : Int) (r : (Int × ah_)) (h : aH_ a0 a1 = some r) (bp0 : Nat) : RawS Try.prog md ext 77 [.ptr bp0 0 0 3, i4 a1] 0 (fun hs => E_i64 r.1) [.box bp0 (ah_.cells a0)] (fun hs => [.box bp0 (ah_.cells r.2)]) := by
 unfold aH_ at h
 refine bS_ rfl rfl ok_77 rfl ?_
 intro σ0 σ F σk s hS hH
 have hS := ae_ (L' := [(0, .ptr bp0 0 0 3), (1, i4 a1)]) hS (by kernel_rfl)
 refine t_go h hS hH ?_
 refine t_RN ?_
 refine t_RN ?_
 refine t_if (fun hc1 => ?_) fun hc1 => ?_
 ·refine t_RN ?_
  intro h s σ hS hH
  obtain rfl := si_1 h
  exact aS_ [] (bo_ (v := i4 0) hS rfl r_nil) rfl rfl hH
 refine t_RU 1 ?_
 refine aI_ (fun y1 hs hy1 hl => ?_) (hr := by exact fun y1 hy1 => et_ _ y1 hy1 bp0)
 obtain rfl := len0 hl
 refine bf_ ?_
 refine t_N ?_
 refine t_RN ?_
 refine t_if (fun hc2 => ?_) fun hc2 => ?_
 ·refine t_RU 3 ?_
  refine aI_ (fun y2 hs hy2 hl => ?_) (hr := by exact fun y2 hy2 => et_ _ y2 hy2 bp0)
  obtain rfl := len0 hl
  refine bf_ ?_
  refine t_N ?_
  refine t_RU 2 ?_
  intro h s σ hS hH
  obtain ⟨y3, hy3, h⟩ := bind_some h
  refine oo_ rfl hS rfl rfl hy3 ?_; intro s hS
  refine t_bk h hS hH ?_
  refine t_N ?_
  intro h s σ hS hH
  obtain rfl := si_1 h
  exact aS_ [] (bo_ (v := i4 y3) hS rfl r_nil) rfl rfl hH
 refine t_RU 2 ?_
 intro h s σ hS hH
 obtain ⟨y4, hy4, h⟩ := bind_some h
 refine oo_ rfl hS rfl rfl hy4 ?_; intro s hS
 refine t_bk h hS hH ?_
 refine t_N ?_
 intro h s σ hS hH
 obtain rfl := si_1 h
 exact aS_ [] (bo_ (v := i4 y4) hS rfl r_nil) rfl rfl hH
noncomputable def a4_ (a0 : ah_) (a1 : (Sl ByteArray)) : Option (ByteArray × ah_ × (Sl ByteArray)) := ((aH_ a0 (a1.l.length : Int)).bind fun y1 => ((elt a1 y1.1).bind fun y2 => (some (y2, y1.2, a1))))
theorem cT_ (a0 : ah_) (a1 : (Sl ByteArray)) (r : (ByteArray × ah_ × (Sl ByteArray))) (h : a4_ a0 a1 = some r) (bp0 : Nat) (wp1_1 : Nat) (p1_1 : T) : RawS Try.prog md ext 126 [.ptr bp0 0 0 3, p1_1] 0 (fun hs => E_str r.1) [.box bp0 (ah_.cells a0), .own true wp1_1 p1_1 a1.t] (fun hs => [.box bp0 (ah_.cells r.2.1), .own true wp1_1 p1_1 r.2.2.t]) := by
 unfold a4_ at h
 refine bS_ rfl rfl ok_126 rfl ?_
 intro σ0 σ F σk s hS hH
 have hp1_1 : aq_ p1_1 := Heap.one (hH.at 1 rfl)
 have hS := ae_ (L' := [(0, .ptr bp0 0 0 3), (1, p1_1)]) hS (by kernel_rfl)
 refine t_go h hS hH ?_
 refine t_RN ?_
 refine t_RU 3 ?_
 refine jy_ (a := a1) 1 ?_
 refine aI_ (fun y1 hs hy1 hl => ?_) (hr := by exact fun y1 hy1 => a9_ _ _ y1 hy1 bp0)
 obtain rfl := len0 hl
 refine bf_ ?_
 refine l8_ 1 (fun hb1 hb1e y2 hy2 hl_hb1 => ?_)
 refine kr_ 1 0 hl_hb1 hy2 ?_
 refine t_N ?_
 intro h s σ hS hH
 obtain rfl := si_1 h
 exact aS_ [] (bo_ (v := .str y2) hS rfl r_nil) rfl rfl hH
noncomputable def bA_ (a0 : ah_) : Option (ByteArray × ah_) := ((a4_ a0 (⟨false, [⟨#[97]⟩, ⟨#[98]⟩, ⟨#[97, 98]⟩, ⟨#[98, 97]⟩, ⟨#[97, 98, 99]⟩, ⟨#[40]⟩, ⟨#[41]⟩, ⟨#[40, 41]⟩, ⟨#[120]⟩, ⟨#[97, 97]⟩, ⟨#[99]⟩, ⟨#[34]⟩, ⟨#[97, 34, 98]⟩, ⟨#[0]⟩, ⟨#[120, 121]⟩, ⟨#[98, 99]⟩]⟩)).bind fun y1 => (some (y1.1, y1.2.1)))
theorem fo_ (a0 : ah_) (r : (ByteArray × ah_)) (h : bA_ a0 = some r) (bp0 : Nat) : RawS Try.prog md ext 93 [.ptr bp0 0 0 3] 0 (fun hs => E_str r.1) [.box bp0 (ah_.cells a0)] (fun hs => [.box bp0 (ah_.cells r.2)]) := by
 unfold bA_ at h
 refine bS_ rfl rfl ok_93 rfl ?_
 intro σ0 σ F σk s hS hH
 have hS := ae_ (L' := [(0, .ptr bp0 0 0 3)]) hS (by kernel_rfl)
 refine t_go h hS hH ?_
 refine t_RN ?_
 refine t_RU 1 ?_
 refine k_bs (z := true) (⟨false, [⟨#[97]⟩, ⟨#[98]⟩, ⟨#[97, 98]⟩, ⟨#[98, 97]⟩, ⟨#[97, 98, 99]⟩, ⟨#[40]⟩, ⟨#[41]⟩, ⟨#[40, 41]⟩, ⟨#[120]⟩, ⟨#[97, 97]⟩, ⟨#[99]⟩, ⟨#[34]⟩, ⟨#[97, 34, 98]⟩, ⟨#[0]⟩, ⟨#[120, 121]⟩, ⟨#[98, 99]⟩]⟩ : Sl ByteArray) (fun t1 ht1 => ?_)
 refine t_h Heap.up1 ?_
 refine aI_ (fun y1 hs hy1 hl => ?_) (hr := by exact fun y1 hy1 => cT_ _ _ y1 hy1 bp0 1 t1)
 obtain rfl := len0 hl
 refine bf_ ?_
 refine t_N ?_
 intro h s σ hS hH
 obtain rfl := si_1 h
 exact aS_ [] (bo_ (v := .str y1.1) hS rfl r_nil) rfl rfl (Heap.sel hH [0, 2] rfl (by kernel_rfl))
noncomputable def a1_ (a0 : ah_) (a1 : Int) : Option (Bool × ah_) := ((aH_ a0 a1).bind fun y1 => (some ((decide (y1.1 = 0)), y1.2)))
theorem cj_ (a0 : ah_) (a1 : Int) (r : (Bool × ah_)) (h : a1_ a0 a1 = some r) (bp0 : Nat) : RawS Try.prog md ext 115 [.ptr bp0 0 0 3, i4 a1] 0 (fun hs => E_bool r.1) [.box bp0 (ah_.cells a0)] (fun hs => [.box bp0 (ah_.cells r.2)]) := by
 unfold a1_ at h
 refine bS_ rfl rfl ok_115 rfl ?_
 intro σ0 σ F σk s hS hH
 have hS := ae_ (L' := [(0, .ptr bp0 0 0 3), (1, i4 a1)]) hS (by kernel_rfl)
 refine t_go h hS hH ?_
 refine t_RN ?_
 refine t_RU 2 ?_
 refine aI_ (fun y1 hs hy1 hl => ?_) (hr := by exact fun y1 hy1 => a9_ _ _ y1 hy1 bp0)
 obtain rfl := len0 hl
 refine bf_ ?_
 refine t_N ?_
 intro h s σ hS hH
 obtain rfl := si_1 h
 exact aS_ [] (bo_ (v := .bool (decide (y1.1 = 0))) hS rfl r_nil) rfl rfl hH
noncomputable def bK_ (a0 : ah_) : Option (ByteArray × ah_) := ((a1_ a0 4).bind fun y1 => (if y1.1 = true then ((a4_ y1.2 (⟨false, [⟨#[]⟩, ⟨#[97]⟩, ⟨#[97, 98]⟩, ⟨#[40, 97, 41, 40, 98, 41]⟩, ⟨#[40, 40, 97, 41, 98, 41]⟩, ⟨#[97, 97, 97, 97]⟩, ⟨#[97, 98, 99, 97, 98, 99]⟩, ⟨#[120, 40, 121]⟩, ⟨#[41, 40]⟩, ⟨#[97, 98, 34, 99]⟩]⟩)).bind fun y2 => (some (y2.1, y2.2.1))) else ((aH_ y1.2 6).bind fun y3 => ((aG_ (S := (ByteArray × Int × (Sl (Iv .u8)) × Int × Int)) (R := (ByteArray × (Sl (Iv .u8)) × Int × Int)) (fun st1 => (if (decide (0 < st1.2.1)) = true then ((bA_ (⟨st1.2.2.1, st1.2.2.2.1, st1.2.2.2.2⟩ : ah_)).bind fun y5 => ((catB st1.1 y5.1).bind fun y6 => (some (.inl (y6, (w4 (st1.2.1 - 1)), y5.2.code_, y5.2.at_, y5.2.seed_))))) else (some (.inr (st1.1, st1.2.2.1, st1.2.2.2.1, st1.2.2.2.2))))) (⟨#[]⟩, y3.1, y3.2.code_, y3.2.at_, y3.2.seed_)).bind fun y4 => (some (y4.1, (⟨y4.2.1, y4.2.2.1, y4.2.2.2⟩ : ah_)))))))
theorem gG_ (a0 : ah_) (r : (ByteArray × ah_)) (h : bK_ a0 = some r) (bp0 : Nat) : RawS Try.prog md ext 92 [.ptr bp0 0 0 3] 0 (fun hs => E_str r.1) [.box bp0 (ah_.cells a0)] (fun hs => [.box bp0 (ah_.cells r.2)]) := by
 unfold bK_ at h
 refine bS_ rfl rfl ok_92 rfl ?_
 intro σ0 σ F σk s hS hH
 have hS := ae_ (L' := [(0, .ptr bp0 0 0 3)]) hS (by kernel_rfl)
 refine t_go h hS hH ?_
 refine t_RN ?_
 refine t_RU 1 ?_
 refine aI_ (fun y1 hs hy1 hl => ?_) (hr := by exact fun y1 hy1 => cj_ _ _ y1 hy1 bp0)
 obtain rfl := len0 hl
 refine bf_ ?_
 refine t_N ?_
 refine t_if (fun hc1 => ?_) fun hc1 => ?_
 ·refine t_RU 1 ?_
  refine k_bs (z := true) (⟨false, [⟨#[]⟩, ⟨#[97]⟩, ⟨#[97, 98]⟩, ⟨#[40, 97, 41, 40, 98, 41]⟩, ⟨#[40, 40, 97, 41, 98, 41]⟩, ⟨#[97, 97, 97, 97]⟩, ⟨#[97, 98, 99, 97, 98, 99]⟩, ⟨#[120, 40, 121]⟩, ⟨#[41, 40]⟩, ⟨#[97, 98, 34, 99]⟩]⟩ : Sl ByteArray) (fun t1 ht1 => ?_)
  refine t_h Heap.up1 ?_
  refine aI_ (fun y2 hs hy2 hl => ?_) (hr := by exact fun y2 hy2 => cT_ _ _ y2 hy2 bp0 1 t1)
  obtain rfl := len0 hl
  refine bf_ ?_
  refine t_N ?_
  intro h s σ hS hH
  obtain rfl := si_1 h
  exact aS_ [] (bo_ (v := .str y2.1) hS rfl r_nil) rfl rfl (Heap.sel hH [0, 2] rfl (by kernel_rfl))
 refine t_RN ?_
 refine t_RU 1 ?_
 refine aI_ (fun y3 hs hy3 hl => ?_) (hr := by exact fun y3 hy3 => a9_ _ _ y3 hy3 bp0)
 obtain rfl := len0 hl
 refine bf_ ?_
 refine t_N ?_
 refine ba_ (fun st1 fr => Sub [(0, .ptr bp0 0 0 3), (3, .str st1.1), (4, i4 st1.2.1)] fr.s ∧ Heap σ0 fr.σ [.box bp0 [st1.2.2.1.t, i4 st1.2.2.2.1, .int .u64 st1.2.2.2.2], .keep F σk]) (fun y4 e fr => e = (.exit 0) ∧ Sub [(3, .str y4.1)] fr.s ∧ Heap σ0 fr.σ [.box bp0 [y4.2.1.t, i4 y4.2.2.1, .int .u64 y4.2.2.2], .keep F σk]) (fun hS hH => ⟨(ae_ hS (by kernel_rfl)), hH⟩) (fun st1 x fr h HI => ?_) fun y4 e fr h HF => ?_
 ·obtain ⟨s, σ⟩ := fr; obtain ⟨hS, hH⟩ := HI
  refine t_bk h hS hH ?_
  refine t_RN ?_
  refine t_if (fun hc2 => ?_) fun hc2 => ?_
  ·refine t_RU 2 ?_
   refine aI_ (fun y5 hs hy5 hl => ?_) (hr := by exact fun y5 hy5 => fo_ _ y5 hy5 bp0)
   obtain rfl := len0 hl
   refine bf_ ?_
   refine qF_ fun y6 hy6 => ?_
   refine t_N ?_
   refine t_RN ?_
   exact t_e fun he hS hH => he ▸ ⟨(ae_ hS (by kernel_rfl)), hH⟩
  exact t_e fun he hS hH => he ▸ ⟨rfl, (ae_ hS (by kernel_rfl)), hH⟩
 obtain ⟨s, σ⟩ := fr
 obtain ⟨rfl, hS, hH⟩ := HF
 refine t_bx h hS hH ?_
 refine t_RN ?_
 intro h s σ hS hH
 obtain rfl := si_1 h
 exact aS_ [] (bo_ (v := .str y4.1) hS rfl r_nil) rfl rfl hH
noncomputable def dt_ (a0 : (Sl (Iv .u8))) : Option ByteArray := ((bK_ (⟨a0, 0, 0⟩ : ah_)).bind fun y1 => (some y1.1))
theorem g6_ (a0 : (Sl (Iv .u8))) (r : ByteArray) (h : dt_ a0 = some r) : dD_ a0 = some r := by
 unfold dt_ at h
 refine k_W ok_48 E_str_inj h (fun σ0 => ?_)
 refine t_RN ?_
 refine t_RU 1 ?_
 refine ea_ ok_74 ?_
 refine t_RN ?_
 refine t_RU 2 ?_
 refine cO_ (fun b1 => ?_)
 refine t_N ?_
 refine k_eI (rT rN) ?_
 refine t_N ?_
 refine t_RU 1 ?_
 refine aI_ (fun y1 hs hy1 hl => ?_) (hr := by exact fun y1 hy1 => gG_ _ y1 hy1 b1)
 obtain rfl := len0 hl
 refine bf_ ?_
 refine t_N ?_
 exact k_eW (rT rN) E_str_p
noncomputable def bg_ (a0 : ah_) (a1 : (Sl (Iv .i64))) : Option (Int × ah_ × (Sl (Iv .i64))) := ((aH_ a0 (a1.l.length : Int)).bind fun y1 => ((elt a1 y1.1).bind fun y2 => (some (y2.v, y1.2, a1))))
theorem ec_ (a0 : ah_) (a1 : (Sl (Iv .i64))) (r : (Int × ah_ × (Sl (Iv .i64)))) (h : bg_ a0 a1 = some r) (bp0 : Nat) (wp1_1 : Nat) (p1_1 : T) : RawS Try.prog md ext 117 [.ptr bp0 0 0 3, p1_1] 0 (fun hs => E_i64 r.1) [.box bp0 (ah_.cells a0), .own true wp1_1 p1_1 a1.t] (fun hs => [.box bp0 (ah_.cells r.2.1), .own true wp1_1 p1_1 r.2.2.t]) := by
 unfold bg_ at h
 refine bS_ rfl rfl ok_117 rfl ?_
 intro σ0 σ F σk s hS hH
 have hp1_1 : aq_ p1_1 := Heap.one (hH.at 1 rfl)
 have hS := ae_ (L' := [(0, .ptr bp0 0 0 3), (1, p1_1)]) hS (by kernel_rfl)
 refine t_go h hS hH ?_
 refine t_RN ?_
 refine t_RU 3 ?_
 refine jy_ (a := a1) 1 ?_
 refine aI_ (fun y1 hs hy1 hl => ?_) (hr := by exact fun y1 hy1 => a9_ _ _ y1 hy1 bp0)
 obtain rfl := len0 hl
 refine bf_ ?_
 refine l8_ 1 (fun hb1 hb1e y2 hy2 hl_hb1 => ?_)
 refine kr_ 1 0 hl_hb1 hy2 ?_
 refine t_N ?_
 intro h s σ hS hH
 obtain rfl := si_1 h
 exact aS_ [] (bo_ (v := i4 y2.v) hS rfl r_nil) rfl rfl hH
noncomputable def b3_ (a0 : ah_) : Option (ByteArray × ah_) := ((a4_ a0 (⟨false, [⟨#[120]⟩, ⟨#[121]⟩, ⟨#[122]⟩, ⟨#[80, 97, 116]⟩, ⟨#[97, 95, 49]⟩]⟩)).bind fun y1 => (some (y1.1, y1.2.1)))
theorem fZ_ (a0 : ah_) (r : (ByteArray × ah_)) (h : b3_ a0 = some r) (bp0 : Nat) : RawS Try.prog md ext 119 [.ptr bp0 0 0 3] 0 (fun hs => E_str r.1) [.box bp0 (ah_.cells a0)] (fun hs => [.box bp0 (ah_.cells r.2)]) := by
 unfold b3_ at h
 refine bS_ rfl rfl ok_119 rfl ?_
 intro σ0 σ F σk s hS hH
 have hS := ae_ (L' := [(0, .ptr bp0 0 0 3)]) hS (by kernel_rfl)
 refine t_go h hS hH ?_
 refine t_RN ?_
 refine t_RU 1 ?_
 refine k_bs (z := true) (⟨false, [⟨#[120]⟩, ⟨#[121]⟩, ⟨#[122]⟩, ⟨#[80, 97, 116]⟩, ⟨#[97, 95, 49]⟩]⟩ : Sl ByteArray) (fun t1 ht1 => ?_)
 refine t_h Heap.up1 ?_
 refine aI_ (fun y1 hs hy1 hl => ?_) (hr := by exact fun y1 hy1 => cT_ _ _ y1 hy1 bp0 1 t1)
 obtain rfl := len0 hl
 refine bf_ ?_
 refine t_N ?_
 intro h s σ hS hH
 obtain rfl := si_1 h
 exact aS_ [] (bo_ (v := .str y1.1) hS rfl r_nil) rfl rfl (Heap.sel hH [0, 2] rfl (by kernel_rfl))
noncomputable def b2_ (a0 : ah_) : Option (DPattern × ah_) := ((bg_ a0 (⟨false, [⟨1⟩, ⟨1⟩, ⟨1⟩, ⟨2⟩, ⟨3⟩, ⟨4⟩, ⟨5⟩, ⟨6⟩, ⟨6⟩, ⟨7⟩, ⟨8⟩, ⟨9⟩, ⟨10⟩, ⟨11⟩, ⟨12⟩, ⟨12⟩, ⟨13⟩, ⟨14⟩, ⟨15⟩, ⟨16⟩, ⟨17⟩, ⟨23⟩, ⟨24⟩, ⟨24⟩]⟩)).bind fun y1 => ((b1_ y1.1).bind fun y2 => (if (decide (y2.2 = (⟨#[115]⟩ : ByteArray))) = true then ((bA_ y1.2.1).bind fun y3 => (((if (decide (y1.1 = 1)) = true then ((a1_ y3.2 4).bind fun y5 => (some (y5.1, y5.2.code_, y5.2.at_, y5.2.seed_))) else (some (false, y3.2.code_, y3.2.at_, y3.2.seed_))) : Option (Bool × (Sl (Iv .u8)) × Int × Int)).bind fun y4 => (if y4.1 = true then (some ((⟨y1.1, 0, ⟨#[]⟩, ⟨true, []⟩⟩ : DPattern), (⟨y4.2.1, y4.2.2.1, y4.2.2.2⟩ : ah_))) else (some ((⟨y1.1, 0, y3.1, ⟨true, []⟩⟩ : DPattern), (⟨y4.2.1, y4.2.2.1, y4.2.2.2⟩ : ah_)))))) else (if (decide (y2.2 = (⟨#[110]⟩ : ByteArray))) = true then ((aH_ y1.2.1 4).bind fun y6 => (some ((⟨y1.1, y6.1, ⟨#[]⟩, ⟨true, []⟩⟩ : DPattern), y6.2))) else (if (decide (y2.2 = (⟨#[120]⟩ : ByteArray))) = true then ((b3_ y1.2.1).bind fun y7 => (some ((⟨y1.1, 0, y7.1, ⟨true, []⟩⟩ : DPattern), y7.2))) else (some ((⟨y1.1, 0, ⟨#[]⟩, ⟨true, []⟩⟩ : DPattern), y1.2.1)))))))
theorem f2_ (a0 : ah_) (r : (DPattern × ah_)) (h : b2_ a0 = some r) (bp0 : Nat) : RawS Try.prog md ext 116 [.ptr bp0 0 0 3] Sh_DPattern.n (fun hs => Sh_DPattern.tree hs r.1) [.box bp0 (ah_.cells a0)] (fun hs => Sh_DPattern.en hs r.1 ++ [.box bp0 (ah_.cells r.2)]) := by
 unfold b2_ at h
 refine bS_ rfl rfl ok_116 rfl ?_
 intro σ0 σ F σk s hS hH
 have hS := ae_ (L' := [(0, .ptr bp0 0 0 3)]) hS (by kernel_rfl)
 refine t_go h hS hH ?_
 refine t_R ?_
 refine cC_ fun b1 => ?_
 refine t_N ?_
 refine t_RU 1 ?_
 refine k_bs (z := true) (⟨false, [⟨1⟩, ⟨1⟩, ⟨1⟩, ⟨2⟩, ⟨3⟩, ⟨4⟩, ⟨5⟩, ⟨6⟩, ⟨6⟩, ⟨7⟩, ⟨8⟩, ⟨9⟩, ⟨10⟩, ⟨11⟩, ⟨12⟩, ⟨12⟩, ⟨13⟩, ⟨14⟩, ⟨15⟩, ⟨16⟩, ⟨17⟩, ⟨23⟩, ⟨24⟩, ⟨24⟩]⟩ : Sl (Iv .i64)) (fun t1 ht1 => ?_)
 refine t_h Heap.up2 ?_
 refine aI_ (fun y1 hs hy1 hl => ?_) (hr := by exact fun y1 hy1 => ec_ _ _ y1 hy1 bp0 1 t1)
 obtain rfl := len0 hl
 refine bf_ ?_
 refine t_N ?_
 refine t_RU 2 ?_
 refine cC_ fun b2 => ?_
 refine a6_ 0 ?_
 refine t_N ?_
 refine t_RU 1 ?_
 refine ay_ fun y2 hy2 => ?_
 refine t_N ?_
 refine t_RN ?_
 refine t_RN ?_
 refine t_if (fun hc1 => ?_) fun hc1 => ?_
 ·refine t_RU 1 ?_
  refine t_h Heap.up1 ?_
  refine aI_ (fun y3 hs hy3 hl => ?_) (hr := by exact fun y3 hy3 => fo_ _ y3 hy3 bp0)
  obtain rfl := len0 hl
  refine bf_ ?_
  refine t_U 1 ?_
  refine aM_ 1 ?_
  refine t_N ?_
  refine eE_ 0 (fun y4 e fr => e = .normal ∧ Sub [(2, .ptr b1 0 0 4), (4, .ptr b2 0 0 4), (28, .bool y4.1)] fr.s ∧ Heap σ0 fr.σ [.box b2 [i4 y1.1, i4 0, .str y3.1, (nt DPattern)], .box bp0 [y4.2.1.t, i4 y4.2.2.1, .int .u64 y4.2.2.2], .box b1 [i4 0, i4 0, .str ⟨#[]⟩, (nt DPattern)], .keep F σk]) (fun y4 e fr h HF => ?_) fun y4 => ?_
  ·obtain ⟨s, σ⟩ := fr
   obtain ⟨rfl, hS, hH⟩ := HF
   refine t_bx h hS hH ?_
   refine t_if (fun hc2 => ?_) fun hc2 => ?_
   ·refine t_RU 1 ?_
    refine aM_ 0 ?_
    refine t_N ?_
    refine t_R ?_
    refine af_ 0 ?_
    refine a6_ 2 ?_
    refine t_N ?_
    intro h s σ hS hH
    obtain rfl := si_1 h
    have hH := Heap.addNil hH true 4
    exact aS_ [(T.row true 0 [])] (fx_ (v := .agg [i4 y1.1, i4 0, .str ⟨#[]⟩, (nt DPattern)]) hS (hH.at 1 rfl) rfl (by kernel_rfl) r_nil) rfl rfl (Heap.sel hH [0, 3, 4] rfl (by kernel_rfl))
   refine t_R ?_
   refine af_ 0 ?_
   refine a6_ 2 ?_
   refine t_N ?_
   intro h s σ hS hH
   obtain rfl := si_1 h
   have hH := Heap.addNil hH true 4
   exact aS_ [(T.row true 0 [])] (fx_ (v := .agg [i4 y1.1, i4 0, .str y3.1, (nt DPattern)]) hS (hH.at 1 rfl) rfl (by kernel_rfl) r_nil) rfl rfl (Heap.sel hH [0, 3, 4] rfl (by kernel_rfl))
  refine t_RU 3 ?_
  refine aR_ 25 (fun hc3 => ?_) fun hc3 => ?_
  ·refine t_U 1 ?_
   refine t_h Heap.up1 ?_
   refine aI_ (fun y5 hs hy5 hl => ?_) (hr := by exact fun y5 hy5 => cj_ _ _ y5 hy5 bp0)
   obtain rfl := len0 hl
   refine bf_ ?_
   refine t_N ?_
   exact t_e fun he hS hH => he ▸ ⟨rfl, (ae_ hS (by kernel_rfl)), (Heap.sel hH [1, 0, 3, 4] rfl (by kernel_rfl))⟩
  refine t_N ?_
  exact t_e fun he hS hH => he ▸ ⟨rfl, (ae_ hS (by kernel_rfl)), (Heap.sel hH [0, 1, 3, 4] rfl (by kernel_rfl))⟩
 refine t_RN ?_
 refine t_if (fun hc4 => ?_) fun hc4 => ?_
 ·refine t_RU 1 ?_
  refine t_h Heap.up1 ?_
  refine aI_ (fun y6 hs hy6 hl => ?_) (hr := by exact fun y6 hy6 => a9_ _ _ y6 hy6 bp0)
  obtain rfl := len0 hl
  refine bf_ ?_
  refine t_U 1 ?_
  refine aM_ 1 ?_
  refine t_N ?_
  refine t_R ?_
  refine af_ 0 ?_
  refine a6_ 3 ?_
  refine t_N ?_
  intro h s σ hS hH
  obtain rfl := si_1 h
  have hH := Heap.addNil hH true 4
  exact aS_ [(T.row true 0 [])] (fx_ (v := .agg [i4 y1.1, i4 y6.1, .str ⟨#[]⟩, (nt DPattern)]) hS (hH.at 1 rfl) rfl (by kernel_rfl) r_nil) rfl rfl (Heap.sel hH [0, 3, 5] rfl (by kernel_rfl))
 refine t_RN ?_
 refine t_if (fun hc5 => ?_) fun hc5 => ?_
 ·refine t_RU 1 ?_
  refine t_h Heap.up1 ?_
  refine aI_ (fun y7 hs hy7 hl => ?_) (hr := by exact fun y7 hy7 => fZ_ _ y7 hy7 bp0)
  obtain rfl := len0 hl
  refine bf_ ?_
  refine t_U 1 ?_
  refine aM_ 1 ?_
  refine t_N ?_
  refine t_R ?_
  refine af_ 0 ?_
  refine a6_ 3 ?_
  refine t_N ?_
  intro h s σ hS hH
  obtain rfl := si_1 h
  have hH := Heap.addNil hH true 4
  exact aS_ [(T.row true 0 [])] (fx_ (v := .agg [i4 y1.1, i4 0, .str y7.1, (nt DPattern)]) hS (hH.at 1 rfl) rfl (by kernel_rfl) r_nil) rfl rfl (Heap.sel hH [0, 3, 5] rfl (by kernel_rfl))
 refine t_R ?_
 refine af_ 0 ?_
 refine a6_ 3 ?_
 refine t_N ?_
 intro h s σ hS hH
 obtain rfl := si_1 h
 have hH := Heap.addNil hH true 4
 exact aS_ [(T.row true 0 [])] (fx_ (v := .agg [i4 y1.1, i4 0, .str ⟨#[]⟩, (nt DPattern)]) hS (hH.at 1 rfl) rfl (by kernel_rfl) r_nil) rfl rfl (Heap.sel hH [0, 3, 5] rfl (by kernel_rfl))
def dY_ (R : ah_ → Int → Option (DPattern × ah_)) : Prop := ∀ (a0 : ah_) (a1 : Int) (r : (DPattern × ah_)), R a0 a1 = some r → ∀ (bp0 : Nat), RawS Try.prog md ext 76 [.ptr bp0 0 0 3, i4 a1] Sh_DPattern.n (fun hs => Sh_DPattern.tree hs r.1) [.box bp0 (ah_.cells a0)] (fun hs => Sh_DPattern.en hs r.1 ++ [.box bp0 (ah_.cells r.2)])
noncomputable def bv_ (R_76 : ah_ → Int → Option (DPattern × ah_)) (a0 : ah_) (a1 : Int) : Option (DPattern × ah_) := (if (decide (a1 ≤ 0)) = true then ((b2_ a0).bind fun y1 => (some (y1.1, y1.2))) else ((a1_ a0 4).bind fun y2 => (if y2.1 = true then ((b2_ y2.2).bind fun y3 => (some (y3.1, y3.2))) else ((bg_ y2.2 (⟨false, [⟨18⟩, ⟨18⟩, ⟨19⟩, ⟨19⟩, ⟨19⟩, ⟨20⟩, ⟨21⟩, ⟨22⟩]⟩)).bind fun y4 => ((b1_ y4.1).bind fun y5 => ((aG_ (S := (Int × (Sl (Iv .u8)) × Int × Int × (Sl DPattern))) (R := ((Sl (Iv .u8)) × Int × Int × (Sl DPattern))) (fun st1 => (if (decide (st1.1 < y5.1)) = true then ((R_76 (⟨st1.2.1, st1.2.2.1, st1.2.2.2.1⟩ : ah_) (w4 (a1 - 1))).bind fun y7 => ((appS 56 st1.2.2.2.2 (⟨false, [y7.1]⟩ : Sl DPattern)).bind fun y8 => (some (.inl ((w4 (st1.1 + 1)), y7.2.code_, y7.2.at_, y7.2.seed_, y8))))) else (some (.inr (st1.2.1, st1.2.2.1, st1.2.2.2.1, st1.2.2.2.2))))) (0, y4.2.1.code_, y4.2.1.at_, y4.2.1.seed_, (⟨true, []⟩ : Sl DPattern))).bind fun y6 => (if (decide (y5.2 = (⟨#[120]⟩ : ByteArray))) = true then ((b3_ (⟨y6.1, y6.2.1, y6.2.2.1⟩ : ah_)).bind fun y9 => (some ((⟨y4.1, 0, y9.1, y6.2.2.2⟩ : DPattern), y9.2))) else (some ((⟨y4.1, 0, ⟨#[]⟩, y6.2.2.2⟩ : DPattern), (⟨y6.1, y6.2.1, y6.2.2.1⟩ : ah_))))))))))
theorem hQ_ (R_76 : ah_ → Int → Option (DPattern × ah_)) (hR_76 : dY_ R_76) : dY_ (bv_ R_76) := by
 intro a0 a1 r h bp0
 unfold bv_ at h
 refine bS_ rfl rfl ok_76 rfl ?_
 intro σ0 σ F σk s hS hH
 have hS := ae_ (L' := [(0, .ptr bp0 0 0 3), (1, i4 a1)]) hS (by kernel_rfl)
 refine t_go h hS hH ?_
 refine t_R ?_
 refine cC_ fun b1 => ?_
 refine t_N ?_
 refine t_RU 3 ?_
 refine aR_ 12 (fun hc1 => ?_) fun hc1 => ?_
 ·refine t_N ?_
  refine t_cT rfl ?_
  refine t_RU 1 ?_
  refine t_h Heap.up1 ?_
  refine aI_ (fun y1 hs hy1 hl => ?_) (hr := by exact fun y1 hy1 => f2_ _ y1 hy1 bp0)
  obtain ⟨t1, rfl⟩ := len1 hl
  refine bf_ ?_
  refine av_ 0 fun ht1 => ?_
  refine a6_ 2 ?_ (h1 := by simp [ht1.1, ht1.2])
  refine t_N ?_
  intro h s σ hS hH
  obtain rfl := si_1 h
  exact aS_ [t1] (fx_ (v := .agg [i4 y1.1.Kind, i4 y1.1.Num, .str y1.1.Text, t1]) hS hH rfl (by kernel_rfl) r_nil) rfl rfl (Heap.sel hH [1, 2, 3] rfl (by kernel_rfl))
 refine t_U 1 ?_
 refine t_h Heap.up1 ?_
 refine aI_ (fun y2 hs hy2 hl => ?_) (hr := by exact fun y2 hy2 => cj_ _ _ y2 hy2 bp0)
 obtain rfl := len0 hl
 refine bf_ ?_
 refine t_N ?_
 refine t_if (fun hc2 => ?_) fun hc2 => ?_
 ·refine t_RU 1 ?_
  refine aI_ (fun y3 hs hy3 hl => ?_) (hr := by exact fun y3 hy3 => f2_ _ y3 hy3 bp0)
  obtain ⟨t2, rfl⟩ := len1 hl
  refine bf_ ?_
  refine av_ 0 fun ht2 => ?_
  refine a6_ 2 ?_ (h1 := by simp [ht2.1, ht2.2])
  refine t_N ?_
  intro h s σ hS hH
  obtain rfl := si_1 h
  exact aS_ [t2] (fx_ (v := .agg [i4 y3.1.Kind, i4 y3.1.Num, .str y3.1.Text, t2]) hS hH rfl (by kernel_rfl) r_nil) rfl rfl (Heap.sel hH [1, 2, 3] rfl (by kernel_rfl))
 refine t_RU 1 ?_
 refine k_bs (z := true) (⟨false, [⟨18⟩, ⟨18⟩, ⟨19⟩, ⟨19⟩, ⟨19⟩, ⟨20⟩, ⟨21⟩, ⟨22⟩]⟩ : Sl (Iv .i64)) (fun t3 ht3 => ?_)
 refine t_h Heap.up1 ?_
 refine aI_ (fun y4 hs hy4 hl => ?_) (hr := by exact fun y4 hy4 => ec_ _ _ y4 hy4 bp0 1 t3)
 obtain rfl := len0 hl
 refine bf_ ?_
 refine t_N ?_
 refine t_RU 2 ?_
 refine cC_ fun b2 => ?_
 refine a6_ 0 ?_
 refine t_N ?_
 refine t_RU 1 ?_
 refine ay_ fun y5 hy5 => ?_
 refine t_N ?_
 refine t_RN ?_
 refine t_h (Heap.addNil · true 4) ?_
 refine ba_ (fun st1 fr => ∃ t5, aq_ t5 ∧ Sub [(0, .ptr bp0 0 0 3), (1, i4 a1), (4, .ptr b1 0 0 4), (6, .ptr b2 0 0 4), (7, i4 y5.1), (8, .str y5.2), (9, i4 st1.1)] fr.s ∧ Heap σ0 fr.σ [.box b2 [i4 y4.1, i4 0, .str ⟨#[]⟩, t5], .box bp0 [st1.2.1.t, i4 st1.2.2.1, .int .u64 st1.2.2.2.1], .box b1 [i4 0, i4 0, .str ⟨#[]⟩, (nt DPattern)], .own true 4 t5 st1.2.2.2.2.t, .keep F σk]) (fun y6 e fr => ∃ t6, aq_ t6 ∧ e = (.exit 0) ∧ Sub [(0, .ptr bp0 0 0 3), (4, .ptr b1 0 0 4), (6, .ptr b2 0 0 4), (8, .str y5.2)] fr.s ∧ Heap σ0 fr.σ [.box b2 [i4 y4.1, i4 0, .str ⟨#[]⟩, t6], .box bp0 [y6.1.t, i4 y6.2.1, .int .u64 y6.2.2.1], .box b1 [i4 0, i4 0, .str ⟨#[]⟩, (nt DPattern)], .own true 4 t6 y6.2.2.2.t, .keep F σk]) (fun hS hH => ⟨(T.row true 0 []), ⟨rfl, rfl⟩, (ae_ hS (by kernel_rfl)), (Heap.sel hH [1, 2, 4, 0, 5] rfl (by kernel_rfl))⟩) (fun st1 x fr h HI => ?_) fun y6 e fr h HF => ?_
 ·obtain ⟨s, σ⟩ := fr; obtain ⟨t5, ht5, ⟨hS, hH⟩⟩ := HI
  refine t_bk h hS hH ?_
  refine t_RN ?_
  refine t_if (fun hc3 => ?_) fun hc3 => ?_
  ·refine bk_ [(5, (RB b2 RN)), (7, RN), (9, RN)] ext_x fun mb σs hn0 hlt hlto => ?_
   have hlt_b2 : b2 < mb := hlt b2 _ (List.Mem.head _)
   refine t_U 1 ?_
   refine af_ 0 ?_ (hlt := by exact (Or.inr ⟨hlt_b2, (Wc.cons (.inr (Or.inl rfl)) (Wc.cons (.inl (by kernel_rfl)) (Wc.cons (.inl (by kernel_rfl)) Wc.nil)))⟩))
   refine t_U 3 ?_
   refine t_h Heap.up1 ?_
   refine dQ_ (RB b2 RN) ext_x (Stay.box (List.Mem.head _) Stay.nil) (by exact fun x hx => Or.inr ⟨5, by kernel_rfl, hx⟩) (fun y7 hs hy7 hl => ?_) (hr := by exact fun y7 hy7 => hR_76 _ _ y7 hy7 bp0)
   obtain ⟨t7, rfl⟩ := len1 hl
   refine bf_ ?_
   refine av_ 0 fun ht7 => ?_
   refine k_bs (z := true) (⟨false, [y7.1]⟩ : Sl DPattern) (fun t8 ht8 => ?_) (hb := by exact hn0) (h1 := by simp [ht7.1, ht7.2])
   refine lM_ 4 0 (fun y8 t9 hy8 ht9 => ?_) (hb := by exact hn0) (hwr := by exact fun hH b e o n h0 => Or.inr ⟨7, by kernel_rfl, fun h => h⟩)
   refine t_U 1 ?_
   refine b9_ 2 ht9 ?_ (hwr := by exact fun hH => Or.inr ⟨9, by kernel_rfl, fun h => h⟩)
   refine t_N ?_
   refine t_RN ?_
   exact t_e fun he hS hH => he ▸ ⟨t9, ht9, (ae_ hS (by kernel_rfl)), (Heap.sel hH [0, 2, 3, 1, 4] rfl (by kernel_rfl))⟩
  exact t_e fun he hS hH => he ▸ ⟨t5, ht5, rfl, (ae_ hS (by kernel_rfl)), hH⟩
 obtain ⟨s, σ⟩ := fr
 obtain ⟨t6, ht6, ⟨rfl, hS, hH⟩⟩ := HF
 refine t_bx h hS hH ?_
 refine t_RN ?_
 refine t_if (fun hc4 => ?_) fun hc4 => ?_
 ·refine t_RU 1 ?_
  refine t_h Heap.up1 ?_
  refine aI_ (fun y9 hs hy9 hl => ?_) (hr := by exact fun y9 hy9 => fZ_ _ y9 hy9 bp0)
  obtain rfl := len0 hl
  refine bf_ ?_
  refine t_U 1 ?_
  refine aM_ 1 ?_
  refine t_N ?_
  refine t_R ?_
  refine af_ 0 ?_
  refine a6_ 2 ?_ (h1 := by simp [ht6.1, ht6.2])
  refine t_N ?_
  intro h s σ hS hH
  obtain rfl := si_1 h
  exact aS_ [t6] (fx_ (v := .agg [i4 y4.1, i4 0, .str y9.1, t6]) hS hH rfl (by kernel_rfl) r_nil) rfl rfl (Heap.sel hH [3, 2, 4] rfl (by kernel_rfl))
 refine t_R ?_
 refine af_ 0 ?_
 refine a6_ 2 ?_ (h1 := by simp [ht6.1, ht6.2])
 refine t_N ?_
 intro h s σ hS hH
 obtain rfl := si_1 h
 exact aS_ [t6] (fx_ (v := .agg [i4 y4.1, i4 0, .str ⟨#[]⟩, t6]) hS hH rfl (by kernel_rfl) r_nil) rfl rfl (Heap.sel hH [3, 2, 4] rfl (by kernel_rfl))
noncomputable def BG_spec_l11Draw : Nat → (ah_ → Int → Option (DPattern × ah_))
 | 0 => (fun _ _ => none)
 | n + 1 => bv_ (BG_spec_l11Draw n)
theorem uBG_spec_l11Draw : ∀ n, dY_ ((BG_spec_l11Draw n))
 | 0 => (by intro _ _ r h; have h : none = some r := h; cases h)
 | n + 1 => hQ_ (BG_spec_l11Draw n) (uBG_spec_l11Draw n)
noncomputable def cv_ (a0 : ah_) (a1 : Int) : Option (DPattern × ah_) := (BG_spec_l11Draw bigN) a0 a1
theorem fY_ (a0 : ah_) (a1 : Int) (r : (DPattern × ah_)) (h : cv_ a0 a1 = some r) (bp0 : Nat) : RawS Try.prog md ext 76 [.ptr bp0 0 0 3, i4 a1] Sh_DPattern.n (fun hs => Sh_DPattern.tree hs r.1) [.box bp0 (ah_.cells a0)] (fun hs => Sh_DPattern.en hs r.1 ++ [.box bp0 (ah_.cells r.2)]) := (uBG_spec_l11Draw bigN) a0 a1 r h bp0
noncomputable def cQ_ (a0 : ah_) : Option ((Sl ak_) × ah_) := ((aG_ (S := (Int × (Sl (Iv .u8)) × Int × Int × (Sl ak_))) (R := ((Sl (Iv .u8)) × Int × Int × (Sl ak_))) (fun st1 => (if (decide (st1.1 < 5)) = true then ((a1_ (⟨st1.2.1, st1.2.2.1, st1.2.2.2.1⟩ : ah_) 3).bind fun y2 => (if (!y2.1) = true then ((elt (⟨false, [⟨#[120]⟩, ⟨#[121]⟩, ⟨#[122]⟩, ⟨#[80, 97, 116]⟩, ⟨#[97, 95, 49]⟩]⟩ : Sl ByteArray) st1.1).bind fun y3 => ((aH_ y2.2 4).bind fun y4 => ((cv_ y4.2 y4.1).bind fun y5 => ((appS 72 st1.2.2.2.2 (⟨false, [(⟨y3, y5.1⟩ : ak_)]⟩ : Sl ak_)).bind fun y6 => (some (.inl ((w4 (st1.1 + 1)), y5.2.code_, y5.2.at_, y5.2.seed_, y6))))))) else (some (.inl ((w4 (st1.1 + 1)), y2.2.code_, y2.2.at_, y2.2.seed_, st1.2.2.2.2))))) else (some (.inr (st1.2.1, st1.2.2.1, st1.2.2.2.1, st1.2.2.2.2))))) (0, a0.code_, a0.at_, a0.seed_, (⟨false, []⟩ : Sl ak_))).bind fun y1 => (some (y1.2.2.2, (⟨y1.1, y1.2.1, y1.2.2.1⟩ : ah_))))
theorem i8_ (a0 : ah_) (r : ((Sl ak_) × ah_)) (h : cQ_ a0 = some r) (bp0 : Nat) : RawS Try.prog md ext 100 [.ptr bp0 0 0 3] Sh_sl_DNamed.n (fun hs => Sh_sl_DNamed.tree hs r.1) [.box bp0 (ah_.cells a0)] (fun hs => Sh_sl_DNamed.en hs r.1 ++ [.box bp0 (ah_.cells r.2)]) := by
 unfold cQ_ at h
 refine bS_ rfl rfl ok_100 rfl ?_
 intro σ0 σ F σk s hS hH
 have hS := ae_ (L' := [(0, .ptr bp0 0 0 3)]) hS (by kernel_rfl)
 refine t_go h hS hH ?_
 refine t_RN ?_
 refine t_R ?_
 refine rH_ (α := ak_) (fun t1 ht1 => ?_)
 refine t_N ?_
 refine t_R ?_
 refine k_bs (z := true) (⟨false, [⟨#[120]⟩, ⟨#[121]⟩, ⟨#[122]⟩, ⟨#[80, 97, 116]⟩, ⟨#[97, 95, 49]⟩]⟩ : Sl ByteArray) (fun t2 ht2 => ?_)
 refine t_N ?_
 refine t_RN ?_
 refine ba_ (fun st1 fr => ∃ t4, aq_ t4 ∧ Sub [(0, .ptr bp0 0 0 3), (3, t4), (4, t2), (5, i4 st1.1)] fr.s ∧ Heap σ0 fr.σ [.box bp0 [st1.2.1.t, i4 st1.2.2.1, .int .u64 st1.2.2.2.1], .own true 5 t4 st1.2.2.2.2.t, .own true 1 t2 (Sl.t (⟨false, [⟨#[120]⟩, ⟨#[121]⟩, ⟨#[122]⟩, ⟨#[80, 97, 116]⟩, ⟨#[97, 95, 49]⟩]⟩ : Sl ByteArray)), .keep F σk]) (fun y1 e fr => ∃ t5, aq_ t5 ∧ e = (.exit 0) ∧ Sub [(3, t5)] fr.s ∧ Heap σ0 fr.σ [.box bp0 [y1.1.t, i4 y1.2.1, .int .u64 y1.2.2.1], .own true 5 t5 y1.2.2.2.t, .keep F σk]) (fun hS hH => ⟨t1, ht1, (ae_ hS (by kernel_rfl)), (Heap.sel hH [2, 1, 0, 3] rfl (by kernel_rfl))⟩) (fun st1 x fr h HI => ?_) fun y1 e fr h HF => ?_
 ·obtain ⟨s, σ⟩ := fr; obtain ⟨t4, ht4, ⟨hS, hH⟩⟩ := HI
  refine t_bk h hS hH ?_
  refine t_RN ?_
  refine t_if (fun hc1 => ?_) fun hc1 => ?_
  ·refine t_RU 1 ?_
   refine aI_ (fun y2 hs hy2 hl => ?_) (hr := by exact fun y2 hy2 => cj_ _ _ y2 hy2 bp0)
   obtain rfl := len0 hl
   refine bf_ ?_
   refine t_N ?_
   refine t_if (fun hc2 => ?_) fun hc2 => ?_
   ·refine bk_ [(7, (RT t2 RN)), (8, (RT t2 RN)), (11, RN)] ext_x fun mb σs hn0 hlt hlto => ?_
    have hlt_t2 : ∀ b e o n, t2 = .ref b e o n → b < mb := fun b e o n h => hlto _ _ _ _ (List.Mem.tail _ (List.Mem.tail _ (List.Mem.head _))) b e o n h
    refine t_U 3 ?_
    refine l8_ 2 (fun hb1 hb1e y3 hy3 hl_hb1 => ?_) (hlt := by exact (fun b e o n h => Or.inr ⟨hlt_t2 b e o n h, (Wc.cons (.inr (Or.inl ⟨_, _, _, h⟩)) (Wc.cons (.inr (Or.inl ⟨_, _, _, h⟩)) (Wc.cons (.inl (by kernel_rfl)) Wc.nil)))⟩))
    refine kr_ 2 0 hl_hb1 hy3 ?_ (hlt := by exact (fun b e o n h => Or.inr ⟨hlt_t2 b e o n h, (Wc.cons (.inr (Or.inl ⟨_, _, _, h⟩)) (Wc.cons (.inr (Or.inl ⟨_, _, _, h⟩)) (Wc.cons (.inl (by kernel_rfl)) Wc.nil)))⟩))
    refine t_U 2 ?_
    refine dQ_ (RT t2 RN) ext_x (Stay.own (List.Mem.tail _ (List.Mem.head _)) Stay.nil) (by exact fun x hx => Or.inr ⟨7, by kernel_rfl, hx⟩) (fun y4 hs hy4 hl => ?_) (hr := by exact fun y4 hy4 => a9_ _ _ y4 hy4 bp0)
    obtain rfl := len0 hl
    refine bf_ ?_
    refine dQ_ (RT t2 RN) ext_x (Stay.own (List.Mem.tail _ (List.Mem.head _)) Stay.nil) (by exact fun x hx => Or.inr ⟨8, by kernel_rfl, hx⟩) (fun y5 hs hy5 hl => ?_) (hr := by exact fun y5 hy5 => fY_ _ _ y5 hy5 bp0)
    obtain ⟨t6, rfl⟩ := len1 hl
    refine bf_ ?_
    refine av_ 0 fun ht6 => ?_
    intro h s σ hS hH
    refine kf_ (qs := [(0, .str y3), (1, .agg [i4 y5.1.Kind, i4 y5.1.Num, .str y5.1.Text, t6])]) (z := [.str ⟨#[]⟩, i4 0, i4 0, .str ⟨#[]⟩, (nt DPattern)]) (r := [.str y3, i4 y5.1.Kind, i4 y5.1.Num, .str y5.1.Text, t6]) [[.str y3], [i4 y5.1.Kind, i4 y5.1.Num, .str y5.1.Text, t6]] rfl hS rfl (by kernel_rfl) (by kernel_rfl) (⟨rfl, (by kernel_rfl), rfl, (by simp [ht6.1, ht6.2]), trivial⟩) (by kernel_rfl) ?_; intro s hS
    refine t_bk h hS hH ?_
    refine k_bs (z := true) (⟨false, [(⟨y3, y5.1⟩ : ak_)]⟩ : Sl ak_) (fun t7 ht7 => ?_) (hb := by exact hn0) (h1 := by simp [ht6.1, ht6.2])
    refine lM_ 2 0 (fun y6 t8 hy6 ht8 => ?_) (hb := by exact hn0) (hwr := by exact fun hH b e o n h0 => Or.inr ⟨11, by kernel_rfl, fun h => h⟩)
    refine t_N ?_
    refine t_RN ?_
    exact t_e fun he hS hH => he ▸ ⟨t8, ht8, (ae_ hS (by kernel_rfl)), (Heap.sel hH [1, 0, 2, 3] rfl (by kernel_rfl))⟩
   refine t_RN ?_
   exact t_e fun he hS hH => he ▸ ⟨t4, ht4, (ae_ hS (by kernel_rfl)), hH⟩
  exact t_e fun he hS hH => he ▸ ⟨t4, ht4, rfl, (ae_ hS (by kernel_rfl)), (Heap.sel hH [0, 1, 3] rfl (by kernel_rfl))⟩
 obtain ⟨s, σ⟩ := fr
 obtain ⟨t5, ht5, ⟨rfl, hS, hH⟩⟩ := HF
 refine t_bx h hS hH ?_
 refine t_RN ?_
 intro h s σ hS hH
 obtain rfl := si_1 h
 exact aS_ [t5] (bo_ (v := t5) hS rfl r_nil) rfl rfl (Heap.sel hH [1, 0, 2] rfl (by kernel_rfl))
noncomputable def fn_ (a0 : (Sl (Iv .u8))) : Option (Sl ak_) := ((cQ_ (⟨a0, 0, 0⟩ : ah_)).bind fun y1 => (some y1.1))
theorem jK_ (a0 : (Sl (Iv .u8))) (r : (Sl ak_)) (h : fn_ a0 = some r) : fp_ a0 = some r := by
 unfold fn_ at h
 refine k_W ok_57 E_sl_DNamed_inj h (fun σ0 => ?_)
 refine t_RN ?_
 refine t_RU 1 ?_
 refine ea_ ok_74 ?_
 refine t_RN ?_
 refine t_RU 2 ?_
 refine cO_ (fun b1 => ?_)
 refine t_N ?_
 refine k_eI (rT rN) ?_
 refine t_N ?_
 refine t_RU 1 ?_
 refine aI_ (fun y1 hs hy1 hl => ?_) (hr := by exact fun y1 hy1 => i8_ _ y1 hy1 b1)
 obtain ⟨t1, rfl⟩ := len1 hl
 refine bf_ ?_
 refine av_ 0 fun ht1 => ?_
 refine t_N ?_
 intro h s σ hS hH
 obtain rfl := si_1 h
 exact nG_ (ents := [.own true 5 t1 y1.1.t]) (z := false) hH (bo_ (v := t1) hS rfl r_nil) (HL.own rfl HL.nil) (by simp [pureT, pureL, E_sl_DNamed])
noncomputable def ds_ (a0 : (Sl (Iv .u8))) : Option DPattern := ((aH_ (⟨a0, 0, 0⟩ : ah_) 5).bind fun y1 => ((cv_ y1.2 y1.1).bind fun y2 => (some y2.1)))
theorem hc_ (a0 : (Sl (Iv .u8))) (r : DPattern) (h : ds_ a0 = some r) : dC_ a0 = some r := by
 unfold ds_ at h
 refine k_W ok_58 E_DPattern_inj h (fun σ0 => ?_)
 refine t_R ?_
 refine cC_ fun b1 => ?_
 refine t_N ?_
 refine t_RU 1 ?_
 refine ea_ ok_74 ?_
 refine t_RN ?_
 refine t_RU 2 ?_
 refine cO_ (fun b2 => ?_)
 refine t_N ?_
 refine k_eI (rT rN) ?_
 refine t_N ?_
 refine t_RU 2 ?_
 refine aI_ (fun y1 hs hy1 hl => ?_) (hr := by exact fun y1 hy1 => a9_ _ _ y1 hy1 b2)
 obtain rfl := len0 hl
 refine bf_ ?_
 refine aI_ (fun y2 hs hy2 hl => ?_) (hr := by exact fun y2 hy2 => fY_ _ _ y2 hy2 b2)
 obtain ⟨t1, rfl⟩ := len1 hl
 refine bf_ ?_
 refine av_ 0 fun ht1 => ?_
 refine a6_ 2 ?_ (h1 := by simp [ht1.1, ht1.2])
 refine t_N ?_
 intro h s σ hS hH
 obtain rfl := si_1 h
 have hH := hH.up1
 exact nG_ (ents := [.own true 4 t1 y2.1.Kids.t]) (z := false) hH (fx_ (v := .agg [i4 y2.1.Kind, i4 y2.1.Num, .str y2.1.Text, t1]) hS (hH.at 1 rfl) rfl (by kernel_rfl) r_nil) (HL.agg (es1 := [.own true 4 t1 y2.1.Kids.t]) (es2 := []) (HLi (HLi (HLs (HL.own rfl HL.nil)))) HL.nil) (by simp [pureT, pureL, E_DPattern])
noncomputable def dz_ (a0 : (Sl ak_)) (a1 : DPattern) (a2 : ByteArray) (a3 : Bool) (a4 : Int) : Option ((Sl aj_) × Int) := ((dd_ a0 a1 a2 a4).bind fun y1 => (if (!decide (y1 = 0)) = true then (some (⟨true, []⟩, y1)) else ((bJ_ a2 a3).bind fun y2 => ((b8_ a0 a1 a2 y2 a4).bind fun y3 => (some (y3.1, y3.2))))))
theorem g9_ (a0 : (Sl ak_)) (a1 : DPattern) (a2 : ByteArray) (a3 : Bool) (a4 : Int) (r : ((Sl aj_) × Int)) (h : dz_ a0 a1 a2 a3 a4 = some r) : cx_ a0 a1 a2 a3 a4 = some r := by
 unfold dz_ at h
 refine k_W ok_59 E_t2_sl_DMatch_i64_inj h (fun σ0 => ?_)
 refine t_R ?_
 refine cO_ (fun b1 => ?_)
 refine t_N ?_
 refine t_RU 1 ?_
 refine af_ 0 ?_
 refine t_U 2 ?_
 refine ay_ fun y1 hy1 => ?_
 refine t_N ?_
 refine t_RN ?_
 refine t_if (fun hc1 => ?_) fun hc1 => ?_
 ·refine t_RN ?_
  exact k_eW (rT (rT rN)) E_t2_sl_DMatch_i64_p
 refine bk_ [] ext_x fun mb σs hn0 hlt hlto => ?_
 have hlt_b1 : b1 < mb := hlt b1 _ (List.Mem.head _)
 refine t_U 1 ?_
 refine af_ 0 ?_ (hlt := by exact (Or.inr ⟨hlt_b1, Wc.nil⟩))
 refine t_U 3 ?_
 refine lg_ (fun y2 t1 hy2 ht1 => ?_)
 refine t_U 1 ?_
 refine lg_ (fun y3 t2 hy3 ht2 => ?_)
 refine t_N ?_
 intro h s σ hS hH
 obtain rfl := si_1 h
 exact nG_ (ents := [.own true 3 t2 y3.1.t]) (z := false) hH (bo_ (v := t2) hS rfl (bo_ (v := i4 y3.2) hS rfl r_nil)) (HL.tup (es1 := [.own true 3 t2 y3.1.t]) (es2 := []) (HL.own rfl (HLi HL.nil)) HL.nil) (by simp [pureT, pureL, E_t2_sl_DMatch_i64])
noncomputable def cN_ (a0 : (Sl aj_)) (a1 : (Sl aj_)) : Option Bool := ((bP_ a0 a1 (T.fn 103 [] [])).bind fun y1 => (some y1))
theorem gF_ (a0 : (Sl aj_)) (a1 : (Sl aj_)) (r : Bool) (h : cN_ a0 a1 = some r) : cX_ a0 a1 = some r := by
 unfold cN_ at h
 refine k_W ok_60 E_bool_inj h (fun σ0 => ?_)
 refine t_RN ?_
 refine t_RU 2 ?_
 refine ay_ fun y1 hy1 => ?_
 refine t_N ?_
 exact k_eW (rT rN) E_bool_p
noncomputable def b5_ (a0 : (Sl ak_)) (a1 : ByteArray) : Option Int := ((aG_ (S := Int) (R := (Unit ⊕ Int)) (fun st1 => (if (decide (st1 < (a0.l.length : Int))) = true then ((elt a0 st1).bind fun y2 => (if (decide (y2.Name = a1)) = true then (some (.inr (.inr st1))) else (some (.inl (w4 (st1 + 1)))))) else (some (.inr (.inl ()))))) 0).bind fun y1 => (Sum.elim (fun y1 => (some (-1))) (fun y1 => (some y1)) y1))
theorem dh_ (a0 : (Sl ak_)) (a1 : ByteArray) (r : Int) (h : b5_ a0 a1 = some r) : b4_ a0 a1 = some r := by
 unfold b5_ at h
 refine k_W ok_66 E_i64_inj h (fun σ0 => ?_)
 refine t_RN ?_
 refine t_RN ?_
 refine ba_ (fun st1 fr => Sub [(0, a0.t), (1, .str a1), (5, i4 st1)] fr.s ∧ Heap σ0 fr.σ []) (fun y1 e fr => (Sum.elim (fun y => e = (.exit 0) ∧ Sub [] fr.s ∧ Heap σ0 fr.σ []) (fun y => e = .ret ∧ endW Try.prog (Try.f66.results.toList) σ0 (E_i64 y) .ret fr)) y1) (fun hS hH => ⟨(ae_ hS (by kernel_rfl)), hH⟩) (fun st1 x fr h HI => ?_) fun y1 e fr h HF => ?_
 ·obtain ⟨s, σ⟩ := fr; obtain ⟨hS, hH⟩ := HI
  refine t_bk h hS hH ?_
  refine t_RN ?_
  refine t_if (fun hc1 => ?_) fun hc1 => ?_
  ·refine t_RU 2 ?_
   refine cl_ fun y2 rest1 hy2 => ?_
   refine t_N ?_
   refine t_if (fun hc2 => ?_) fun hc2 => ?_
   ·refine t_RN ?_
    exact t_e fun he hS hH => he ▸ ⟨rfl, (eW hS hH (rT rN) E_i64_p)⟩
   refine t_RN ?_
   exact t_e fun he hS hH => he ▸ ⟨(ae_ hS (by kernel_rfl)), hH⟩
  exact t_e fun he hS hH => he ▸ ⟨rfl, (ae_ hS (by kernel_rfl)), hH⟩
 obtain ⟨s, σ⟩ := fr
 rcases y1 with y1 | y1
 ·have h := el_l h
  obtain ⟨rfl, hS, hH⟩ := HF
  refine t_bx h hS hH ?_
  refine t_RN ?_
  exact k_eW (rT rN) E_i64_p
 have h := el_r h
 obtain ⟨rfl, HE⟩ := HF
 obtain rfl := si_1 h; exact HE
noncomputable def ee_ (a0 : (Sl ak_)) : Option Bool := (if (decide (40 < (a0.l.length : Int))) = true then (some false) else ((aG_ (S := Int) (R := (Unit ⊕ Bool)) (fun st1 => (if (decide (st1 < (a0.l.length : Int))) = true then ((elt a0 st1).bind fun y2 => ((dT_ y2.Name).bind fun y3 => (if (!y3) = true then (some (.inr (.inr false))) else ((elt a0 st1).bind fun y4 => ((bX_ y4.Pattern).bind fun y5 => (if (!y5) = true then (some (.inr (.inr false))) else ((aG_ (S := Int) (R := (Unit ⊕ Bool)) (fun st2 => (if (decide (st2 < st1)) = true then ((elt a0 st2).bind fun y7 => ((elt a0 st1).bind fun y8 => (if (decide (y7.Name = y8.Name)) = true then (some (.inr (.inr false))) else (some (.inl (w4 (st2 + 1))))))) else (some (.inr (.inl ()))))) 0).bind fun y6 => (Sum.elim (fun y6 => (some (.inl (w4 (st1 + 1))))) (fun y6 => (some (.inr (.inr y6)))) y6)))))))) else (some (.inr (.inl ()))))) 0).bind fun y1 => (Sum.elim (fun y1 => (some true)) (fun y1 => (some y1)) y1)))
theorem hW_ (a0 : (Sl ak_)) (r : Bool) (h : ee_ a0 = some r) : d3_ a0 = some r := by
 unfold ee_ at h
 refine k_W ok_67 E_bool_inj h (fun σ0 => ?_)
 refine t_RN ?_
 refine t_RN ?_
 refine t_if (fun hc1 => ?_) fun hc1 => ?_
 ·refine t_RN ?_
  exact k_eW (rT rN) E_bool_p
 refine t_RN ?_
 refine ba_ (fun st1 fr => Sub [(0, a0.t), (3, i4 st1)] fr.s ∧ Heap σ0 fr.σ []) (fun y1 e fr => (Sum.elim (fun y => e = (.exit 0) ∧ Sub [] fr.s ∧ Heap σ0 fr.σ []) (fun y => e = .ret ∧ endW Try.prog (Try.f67.results.toList) σ0 (E_bool y) .ret fr)) y1) (fun hS hH => ⟨(ae_ hS (by kernel_rfl)), hH⟩) (fun st1 x fr h HI => ?_) fun y1 e fr h HF => ?_
 ·obtain ⟨s, σ⟩ := fr; obtain ⟨hS, hH⟩ := HI
  refine t_bk h hS hH ?_
  refine t_RN ?_
  refine t_if (fun hc2 => ?_) fun hc2 => ?_
  ·refine t_RU 2 ?_
   refine cl_ fun y2 rest1 hy2 => ?_
   refine t_U 2 ?_
   refine ay_ fun y3 hy3 => ?_
   refine t_U 2 ?_
   refine aR_ 21 (fun hc3 => ?_) fun hc3 => ?_
   ·refine t_N ?_
    refine t_cT rfl ?_
    refine t_RN ?_
    exact t_e fun he hS hH => he ▸ ⟨rfl, (eW hS hH (rT rN) E_bool_p)⟩
   refine t_U 2 ?_
   refine cl_ fun y4 rest2 hy4 => ?_
   refine t_U 2 ?_
   refine ay_ fun y5 hy5 => ?_
   refine t_N ?_
   refine t_if (fun hc4 => ?_) fun hc4 => ?_
   ·refine t_RN ?_
    exact t_e fun he hS hH => he ▸ ⟨rfl, (eW hS hH (rT rN) E_bool_p)⟩
   refine t_RN ?_
   refine ba_ (fun st2 fr => Sub [(0, a0.t), (3, i4 st1), (4, i4 st2)] fr.s ∧ Heap σ0 fr.σ []) (fun y6 e fr => (Sum.elim (fun y => e = (.exit 2) ∧ Sub [(0, a0.t), (3, i4 st1)] fr.s ∧ Heap σ0 fr.σ []) (fun y => e = .ret ∧ endW Try.prog (Try.f67.results.toList) σ0 (E_bool y) .ret fr)) y6) (fun hS hH => ⟨(ae_ hS (by kernel_rfl)), hH⟩) (fun st2 x fr h HI => ?_) fun y6 e fr h HF => ?_
   ·obtain ⟨s, σ⟩ := fr; obtain ⟨hS, hH⟩ := HI
    refine t_bk h hS hH ?_
    refine t_RN ?_
    refine t_if (fun hc5 => ?_) fun hc5 => ?_
    ·refine t_D fun mb => ?_
     refine t_U 2 ?_
     refine cl_ fun y7 rest3 hy7 => ?_
     refine t_U 4 ?_
     refine cl_ fun y8 rest4 hy8 => ?_
     refine t_N ?_
     refine t_if (fun hc6 => ?_) fun hc6 => ?_
     ·refine t_RN ?_
      exact t_e fun he hS hH => he ▸ ⟨rfl, (eW hS hH (rT rN) E_bool_p)⟩
     refine t_RN ?_
     exact t_e fun he hS hH => he ▸ ⟨(ae_ hS (by kernel_rfl)), hH⟩
    exact t_e fun he hS hH => he ▸ ⟨rfl, (ae_ hS (by kernel_rfl)), hH⟩
   obtain ⟨s, σ⟩ := fr
   rcases y6 with y6 | y6
   ·have h := el_l h
    obtain ⟨rfl, hS, hH⟩ := HF
    refine t_bx h hS hH ?_
    refine t_RN ?_
    exact t_e fun he hS hH => he ▸ ⟨(ae_ hS (by kernel_rfl)), hH⟩
   have h := el_r h
   obtain ⟨rfl, HE⟩ := HF
   obtain rfl := si_1 h; exact ⟨rfl, HE⟩
  exact t_e fun he hS hH => he ▸ ⟨rfl, (ae_ hS (by kernel_rfl)), hH⟩
 obtain ⟨s, σ⟩ := fr
 rcases y1 with y1 | y1
 ·have h := el_l h
  obtain ⟨rfl, hS, hH⟩ := HF
  refine t_bx h hS hH ?_
  refine t_RN ?_
  exact k_eW (rT rN) E_bool_p
 have h := el_r h
 obtain ⟨rfl, HE⟩ := HF
 obtain rfl := si_1 h; exact HE
noncomputable def dK_ (a0 : (Sl ak_)) (a1 : ByteArray) : Option (DPattern × Bool) := ((((aG_ (S := Int) (R := (Unit ⊕ Int)) (fun st1 => (if (decide (st1 < (a0.l.length : Int))) = true then ((elt a0 st1).bind fun y3 => (if (decide (y3.Name = a1)) = true then (some (.inr (.inr st1))) else (some (.inl (w4 (st1 + 1)))))) else (some (.inr (.inl ()))))) 0).bind fun y2 => (Sum.elim (fun y2 => (some (-1))) (fun y2 => (some y2)) y2)) : Option Int).bind fun y1 => (if (decide (y1 < 0)) = true then (some ((⟨0, 0, ⟨#[]⟩, ⟨true, []⟩⟩ : DPattern), false)) else ((elt a0 y1).bind fun y4 => (some (y4.Pattern, true)))))
theorem go_ (a0 : (Sl ak_)) (a1 : ByteArray) (r : (DPattern × Bool)) (h : dK_ a0 a1 = some r) : dP_ a0 a1 = some r := by
 unfold dK_ at h
 refine k_W ok_70 E_t2_DPattern_bool_inj h (fun σ0 => ?_)
 refine t_R ?_
 refine cO_ (fun b1 => ?_)
 refine cC_ fun b2 => ?_
 refine t_N ?_
 refine t_RU 2 ?_
 refine eL_ (fun y1 s σ => Sub [(0, a0.t), (4, .ptr b2 0 0 4), (9, i4 y1)] s ∧ Heap σ0 σ [.box b2 [i4 0, i4 0, .str ⟨#[]⟩, (nt DPattern)]]) ok_110 (fun y1 => ?_) fun y1 s σ HF h => ?_
 ·refine t_RN ?_
  refine t_RN ?_
  refine ba_ (fun st1 fr => Sub [(0, a0.t), (1, T.fn 111 [] [.ptr b1 0 0 1]), (7, i4 (a0.l.length : Int)), (8, i4 st1)] fr.s ∧ Heap σ0 fr.σ [.box b2 [i4 0, i4 0, .str ⟨#[]⟩, (nt DPattern)], .box b1 [.str a1]]) (fun y2 e fr => (Sum.elim (fun y => e = (.exit 0) ∧ Sub [] fr.s ∧ Heap σ0 fr.σ [.box b2 [i4 0, i4 0, .str ⟨#[]⟩, (nt DPattern)]]) (fun y => e = .ret ∧ Sub [(4, i4 y)] fr.s ∧ Heap σ0 fr.σ [.box b2 [i4 0, i4 0, .str ⟨#[]⟩, (nt DPattern)]])) y2) (fun hS hH => ⟨(ae_ hS (by kernel_rfl)), hH⟩) (fun st1 x fr h HI => ?_) fun y2 e fr h HF => ?_
  ·obtain ⟨s, σ⟩ := fr; obtain ⟨hS, hH⟩ := HI
   refine t_bk h hS hH ?_
   refine t_RN ?_
   refine t_if (fun hc1 => ?_) fun hc1 => ?_
   ·refine t_RN ?_
    refine t_RU 3 ?_
    refine cl_ fun y3 rest1 hy3 => ?_
    refine t_U 1 ?_
    refine ea_ ok_111 ?_
    refine t_R ?_
    refine cO_ (fun b3 => ?_)
    refine t_N ?_
    refine t_RU 1 ?_
    refine af_ 0 ?_
    refine af_ 2 ?_
    refine t_N ?_
    refine k_eI (rT rN) ?_
    refine t_N ?_
    refine t_if (fun hc2 => ?_) fun hc2 => ?_
    ·refine t_RN ?_
     exact t_e fun he hS hH => he ▸ ⟨rfl, (ae_ hS (by kernel_rfl)), (Heap.sel hH [1] rfl (by kernel_rfl))⟩
    refine t_RN ?_
    exact t_e fun he hS hH => he ▸ ⟨(ae_ hS (by kernel_rfl)), (Heap.sel hH [1, 2] rfl (by kernel_rfl))⟩
   exact t_e fun he hS hH => he ▸ ⟨rfl, (ae_ hS (by kernel_rfl)), (Heap.sel hH [0] rfl (by kernel_rfl))⟩
  obtain ⟨s, σ⟩ := fr
  rcases y2 with y2 | y2
  ·have h := el_l h
   obtain ⟨rfl, hS, hH⟩ := HF
   refine t_bx h hS hH ?_
   refine t_RN ?_
   exact cb_ (rT rN) fun he hS hH => he ▸ ⟨(ae_ hS (by kernel_rfl)), hH⟩
  have h := el_r h
  obtain ⟨rfl, hS, hH⟩ := HF
  refine t_bx h hS hH ?_
  exact cb_ (rT rN) fun he hS hH => he ▸ ⟨(ae_ hS (by kernel_rfl)), hH⟩
 obtain ⟨hS, hH⟩ := HF
 refine t_bk h hS hH ?_
 refine t_N ?_
 refine t_RN ?_
 refine t_if (fun hc3 => ?_) fun hc3 => ?_
 ·refine t_RU 1 ?_
  refine a6_ 0 ?_
  refine t_N ?_
  exact k_eW (rC 0 (rT rN)) E_t2_DPattern_bool_p
 refine t_RU 2 ?_
 refine cl_ fun y4 rest2 hy4 => ?_
 refine t_U 2 ?_
 refine a6_ 0 ?_
 refine t_N ?_
 exact k_eW (rC 0 (rT rN)) E_t2_DPattern_bool_p
noncomputable def eh_ (a0 : (Sl ak_)) : Option Bool := (if (decide (40 < (a0.l.length : Int))) = true then (some false) else ((cI_ a0 (T.fn 113 [] [])).bind fun y1 => (if (!y1) = true then (some false) else ((aG_ (S := Int) (R := (Unit ⊕ Bool)) (fun st1 => (if (decide (st1 < (a0.l.length : Int))) = true then ((elt a0 st1).bind fun y3 => ((subS a0 0 st1).bind fun y4 => ((dP_ y4 y3.Name).bind fun y5 => (if y5.2 = true then (some (.inr (.inr false))) else (some (.inl (w4 (st1 + 1)))))))) else (some (.inr (.inl ()))))) 0).bind fun y2 => (Sum.elim (fun y2 => (some true)) (fun y2 => (some y2)) y2)))))
theorem hZ_ (a0 : (Sl ak_)) (r : Bool) (h : eh_ a0 = some r) : eg_ a0 = some r := by
 unfold eh_ at h
 refine k_W ok_71 E_bool_inj h (fun σ0 => ?_)
 refine t_RN ?_
 refine t_RU 4 ?_
 refine aR_ 10 (fun hc1 => ?_) fun hc1 => ?_
 ·refine t_N ?_
  refine t_cT rfl ?_
  refine t_RN ?_
  exact k_eW (rT rN) E_bool_p
 refine t_U 1 ?_
 refine ay_ fun y1 hy1 => ?_
 refine t_N ?_
 refine t_if (fun hc2 => ?_) fun hc2 => ?_
 ·refine t_RN ?_
  exact k_eW (rT rN) E_bool_p
 refine t_RN ?_
 refine ba_ (fun st1 fr => Sub [(0, a0.t), (15, a0.t), (16, i4 (a0.l.length : Int)), (17, i4 st1)] fr.s ∧ Heap σ0 fr.σ []) (fun y2 e fr => (Sum.elim (fun y => e = (.exit 0) ∧ Sub [] fr.s ∧ Heap σ0 fr.σ []) (fun y => e = .ret ∧ endW Try.prog (Try.f71.results.toList) σ0 (E_bool y) .ret fr)) y2) (fun hS hH => ⟨(ae_ hS (by kernel_rfl)), hH⟩) (fun st1 x fr h HI => ?_) fun y2 e fr h HF => ?_
 ·obtain ⟨s, σ⟩ := fr; obtain ⟨hS, hH⟩ := HI
  refine t_bk h hS hH ?_
  refine t_RN ?_
  refine t_if (fun hc3 => ?_) fun hc3 => ?_
  ·refine t_RU 1 ?_
   refine cl_ fun y3 rest1 hy3 => ?_
   refine t_U 1 ?_
   refine cC_ fun b1 => ?_
   refine t_U 1 ?_
   refine a6_ 0 ?_
   refine t_N ?_
   refine bk_ [(10, RN)] ext_x fun mb σs hn0 hlt hlto => ?_
   refine t_U 2 ?_
   refine oy_ fun y4 hy4 => ?_
   refine t_U 1 ?_
   refine af_ 0 ?_ (hlt := by exact (Or.inl (by kernel_rfl)))
   refine ay_ fun y5 hy5 => ?_
   refine t_U 3 ?_
   refine kY_ (by exact hn0) fun b2 hwr_b2 => ?_
   refine a6_ 0 ?_ (hwr := by exact fun _ => Or.inl hwr_b2)
   refine t_N ?_
   refine t_RN ?_
   refine t_if (fun hc4 => ?_) fun hc4 => ?_
   ·refine t_RN ?_
    exact t_e fun he hS hH => he ▸ ⟨rfl, (eW hS hH (rT rN) E_bool_p)⟩
   refine t_RN ?_
   exact t_e fun he hS hH => he ▸ ⟨(ae_ hS (by kernel_rfl)), (Heap.sel hH [] rfl (by kernel_rfl))⟩
  exact t_e fun he hS hH => he ▸ ⟨rfl, (ae_ hS (by kernel_rfl)), hH⟩
 obtain ⟨s, σ⟩ := fr
 rcases y2 with y2 | y2
 ·have h := el_l h
  obtain ⟨rfl, hS, hH⟩ := HF
  refine t_bx h hS hH ?_
  refine t_RN ?_
  exact k_eW (rT rN) E_bool_p
 have h := el_r h
 obtain ⟨rfl, HE⟩ := HF
 obtain rfl := si_1 h; exact HE
noncomputable def cF_ (a0 : DPattern) : Option Bool := ((aC_ a0 0).bind fun y1 => (some (decide (y1 ≤ 60))))
theorem f3_ (a0 : DPattern) (r : Bool) (h : cF_ a0 = some r) : bY_ a0 = some r := by
 unfold cF_ at h
 refine k_W ok_78 E_bool_inj h (fun σ0 => ?_)
 refine t_R ?_
 refine cO_ (fun b1 => ?_)
 refine t_N ?_
 refine t_R ?_
 refine af_ 0 ?_
 refine ay_ fun y1 hy1 => ?_
 refine t_N ?_
 exact k_eW (rT rN) E_bool_p
noncomputable def eV_ (a0 : (Sl ak_)) (a1 : DPattern) (a2 : ByteArray) (a3 : Int) : Option Int := ((d3_ a0).bind fun y1 => (if (!y1) = true then (some 1) else ((bX_ a1).bind fun y2 => (if (!y2) = true then (some 1) else (if (decide (200 < (a2.size : Int))) = true then (some 1) else ((cf_ a3 0 20000).bind fun y3 => (if (!y3) = true then (some 3) else (some 0))))))))
theorem iJ_ (a0 : (Sl ak_)) (a1 : DPattern) (a2 : ByteArray) (a3 : Int) (r : Int) (h : eV_ a0 a1 a2 a3 = some r) : gh_ a0 a1 a2 a3 = some r := by
 unfold eV_ at h
 refine k_W ok_84 E_i64_inj h (fun σ0 => ?_)
 refine t_R ?_
 refine cO_ (fun b1 => ?_)
 refine t_N ?_
 refine t_RU 1 ?_
 refine ay_ fun y1 hy1 => ?_
 refine t_U 2 ?_
 refine aR_ 12 (fun hc1 => ?_) fun hc1 => ?_
 ·refine t_N ?_
  refine t_cT rfl ?_
  refine t_RN ?_
  exact k_eW (rT rN) E_i64_p
 refine af_ 0 ?_
 refine ay_ fun y2 hy2 => ?_
 refine t_U 3 ?_
 refine aR_ 17 (fun hc2 => ?_) fun hc2 => ?_
 ·refine t_N ?_
  refine t_cT rfl ?_
  refine t_RN ?_
  exact k_eW (rT rN) E_i64_p
 refine t_N ?_
 refine t_if (fun hc3 => ?_) fun hc3 => ?_
 ·refine t_RN ?_
  exact k_eW (rT rN) E_i64_p
 refine t_RU 1 ?_
 refine ay_ fun y3 hy3 => ?_
 refine t_N ?_
 refine t_if (fun hc4 => ?_) fun hc4 => ?_
 ·refine t_RN ?_
  exact k_eW (rT rN) E_i64_p
 refine t_RN ?_
 exact k_eW (rT rN) E_i64_p
noncomputable def fs_ (a0 : Int) (a1 : Int) (a2 : Int) : Option Bool := (if (decide (a1 ≤ a0)) = true then (some (decide (a0 ≤ a2))) else (some false))
theorem jB_ (a0 : Int) (a1 : Int) (a2 : Int) (r : Bool) (h : fs_ a0 a1 a2 = some r) : cf_ a0 a1 a2 = some r := by
 unfold fs_ at h
 refine k_W ok_85 E_bool_inj h (fun σ0 => ?_)
 refine t_RN ?_
 refine t_RU 4 ?_
 refine aR_ 10 (fun hc1 => ?_) fun hc1 => ?_
 ·refine t_N ?_
  exact k_eW (rT rN) E_bool_p
 refine t_N ?_
 exact k_eW (rT rN) E_bool_p
noncomputable def fJ_ (a0 : (Sl (Iv .i64))) : Option Int := ((aG_ (S := Int) (R := (Unit ⊕ Int)) (fun st1 => (if (decide (st1 < (a0.l.length : Int))) = true then ((elt a0 st1).bind fun y2 => (if (!decide (y2.v = 0)) = true then (some (.inr (.inr y2.v))) else (some (.inl (w4 (st1 + 1)))))) else (some (.inr (.inl ()))))) 0).bind fun y1 => (Sum.elim (fun y1 => (some 0)) (fun y1 => (some y1)) y1))
theorem ju_ (a0 : (Sl (Iv .i64))) (r : Int) (h : fJ_ a0 = some r) : fI_ a0 = some r := by
 unfold fJ_ at h
 refine k_W ok_87 E_i64_inj h (fun σ0 => ?_)
 refine t_RN ?_
 refine t_RN ?_
 refine ba_ (fun st1 fr => Sub [(5, a0.t), (6, i4 (a0.l.length : Int)), (7, i4 st1)] fr.s ∧ Heap σ0 fr.σ []) (fun y1 e fr => (Sum.elim (fun y => e = (.exit 0) ∧ Sub [] fr.s ∧ Heap σ0 fr.σ []) (fun y => e = .ret ∧ endW Try.prog (Try.f87.results.toList) σ0 (E_i64 y) .ret fr)) y1) (fun hS hH => ⟨(ae_ hS (by kernel_rfl)), hH⟩) (fun st1 x fr h HI => ?_) fun y1 e fr h HF => ?_
 ·obtain ⟨s, σ⟩ := fr; obtain ⟨hS, hH⟩ := HI
  refine t_bk h hS hH ?_
  refine t_RN ?_
  refine t_if (fun hc1 => ?_) fun hc1 => ?_
  ·refine t_R ?_
   refine cl_ fun y2 rest1 hy2 => ?_
   refine t_N ?_
   refine t_RN ?_
   refine t_if (fun hc2 => ?_) fun hc2 => ?_
   ·refine t_RN ?_
    exact t_e fun he hS hH => he ▸ ⟨rfl, (eW hS hH (rT rN) E_i64_p)⟩
   refine t_RN ?_
   exact t_e fun he hS hH => he ▸ ⟨(ae_ hS (by kernel_rfl)), hH⟩
  exact t_e fun he hS hH => he ▸ ⟨rfl, (ae_ hS (by kernel_rfl)), hH⟩
 obtain ⟨s, σ⟩ := fr
 rcases y1 with y1 | y1
 ·have h := el_l h
  obtain ⟨rfl, hS, hH⟩ := HF
  refine t_bx h hS hH ?_
  refine t_RN ?_
  exact k_eW (rT rN) E_i64_p
 have h := el_r h
 obtain ⟨rfl, HE⟩ := HF
 obtain rfl := si_1 h; exact HE
noncomputable def df_ (a0 : (Sl ak_)) (a1 : DPattern) (a2 : ByteArray) (a3 : Int) : Option Int := ((((eg_ a0).bind fun y6 => (if y6 = true then ((bY_ a1).bind fun y7 => (if y7 = true then ((cu_ a2).bind fun y8 => (some y8)) else (some false))) else (some false))) : Option Bool).bind fun y1 => ((dI_ y1 1).bind fun y2 => ((bG_ a3 0 20000).bind fun y3 => ((dI_ y3 3).bind fun y4 => ((fI_ (⟨false, [⟨y2⟩, ⟨y4⟩]⟩)).bind fun y5 => (some y5))))))
theorem gI_ (a0 : (Sl ak_)) (a1 : DPattern) (a2 : ByteArray) (a3 : Int) (r : Int) (h : df_ a0 a1 a2 a3 = some r) : dd_ a0 a1 a2 a3 = some r := by
 unfold df_ at h
 refine k_W ok_88 E_i64_inj h (fun σ0 => ?_)
 refine t_R ?_
 refine cO_ (fun b1 => ?_)
 refine t_N ?_
 refine eE_ 0 (fun y1 e fr => e = .normal ∧ Sub [(3, i4 a3), (9, .bool y1)] fr.s ∧ Heap σ0 fr.σ []) (fun y1 e fr h HF => ?_) fun y1 => ?_
 ·obtain ⟨s, σ⟩ := fr
  obtain ⟨rfl, hS, hH⟩ := HF
  refine t_bx h hS hH ?_
  refine t_RU 1 ?_
  refine ay_ fun y2 hy2 => ?_
  refine t_U 1 ?_
  refine ay_ fun y3 hy3 => ?_
  refine ay_ fun y4 hy4 => ?_
  refine k_bs (z := true) (⟨false, [⟨y2⟩, ⟨y4⟩]⟩ : Sl (Iv .i64)) (fun t1 ht1 => ?_)
  refine mp_ (fun y5 hy5 => ?_)
  refine t_N ?_
  exact k_eW (rT rN) E_i64_p
 refine t_RU 1 ?_
 refine ay_ fun y6 hy6 => ?_
 refine t_U 1 ?_
 refine aR_ 12 (fun hc1 => ?_) fun hc1 => ?_
 ·refine af_ 0 ?_
  refine ay_ fun y7 hy7 => ?_
  refine t_U 2 ?_
  refine aR_ 16 (fun hc2 => ?_) fun hc2 => ?_
  ·refine t_U 1 ?_
   refine ay_ fun y8 hy8 => ?_
   refine t_N ?_
   exact t_e fun he hS hH => he ▸ ⟨rfl, (ae_ hS (by kernel_rfl)), (Heap.sel hH [] rfl (by kernel_rfl))⟩
  refine t_N ?_
  exact t_e fun he hS hH => he ▸ ⟨rfl, (ae_ hS (by kernel_rfl)), (Heap.sel hH [] rfl (by kernel_rfl))⟩
 refine t_N ?_
 exact t_e fun he hS hH => he ▸ ⟨rfl, (ae_ hS (by kernel_rfl)), (Heap.sel hH [] rfl (by kernel_rfl))⟩
noncomputable def e4_ (a0 : Bool) (a1 : Int) : Option Int := (if a0 = true then (some 0) else (some a1))
theorem iQ_ (a0 : Bool) (a1 : Int) (r : Int) (h : e4_ a0 a1 = some r) : dI_ a0 a1 = some r := by
 unfold e4_ at h
 refine k_W ok_89 E_i64_inj h (fun σ0 => ?_)
 refine t_RN ?_
 refine t_RN ?_
 refine t_if (fun hc1 => ?_) fun hc1 => ?_
 ·refine t_RN ?_
  exact k_eW (rT rN) E_i64_p
 refine t_RN ?_
 exact k_eW (rT rN) E_i64_p
noncomputable def e3_ (a0 : Int) (a1 : Int) (a2 : Int) : Option Bool := (if (decide (a1 ≤ a0)) = true then (some (decide (a0 ≤ a2))) else (some false))
theorem iK_ (a0 : Int) (a1 : Int) (a2 : Int) (r : Bool) (h : e3_ a0 a1 a2 = some r) : bG_ a0 a1 a2 = some r := by
 unfold e3_ at h
 refine k_W ok_90 E_bool_inj h (fun σ0 => ?_)
 refine t_RN ?_
 refine t_RU 4 ?_
 refine aR_ 10 (fun hc1 => ?_) fun hc1 => ?_
 ·refine t_N ?_
  exact k_eW (rT rN) E_bool_p
 refine t_N ?_
 exact k_eW (rT rN) E_bool_p
end Go.Am
