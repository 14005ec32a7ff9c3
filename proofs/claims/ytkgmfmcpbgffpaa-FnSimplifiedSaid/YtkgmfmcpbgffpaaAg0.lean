/- Functions of the program. -/
import Derived.Test.YtkgmfmcpbgffpaaAd0
set_option maxRecDepth 100000
set_option maxHeartbeats 4000000
set_option linter.unusedVariables false
set_option linter.unusedSimpArgs false
namespace Go.Am
open Go.Proofs
noncomputable def cV_ (a0 : (Sl (Iv .u8))) : Option Bool := (if (decide (1048576 < (a0.l.length : Int))) = true then (some true) else ((gc_ a0).bind fun y1 => ((eO_ 1 a0).bind fun y2 => ((e2_ y2).bind fun y3 => ((eO_ 2 a0).bind fun y4 => ((dN_ y4).bind fun y5 => ((gA_ a0 3 2).bind fun y6 => ((bT_ y3).bind fun y7 => ((a8_ y7).bind fun y8 => (if (!y8) = true then (some false) else ((bO_ y7).bind fun y9 => ((bO_ y3).bind fun y10 => (if (decide (y10 < y9)) = true then (some false) else ((bT_ y7).bind fun y11 => ((cu_ y11 y7).bind fun y12 => (if (!y12) = true then (some false) else ((b2_ y1 y3 y5 (decide (y6 = 0)) 400).bind fun y13 => ((b2_ y1 y7 y5 (decide (y6 = 0)) 20000).bind fun y14 => (if (!decide (y13.2 = 0)) = true then (if (!decide (y13.2 = 6)) = true then (some true) else (if (decide ((y13.1.l.length : Int) = 0)) = true then (some true) else (if (decide (y13.2 = y14.2)) = true then ((bA_ y13.1 y14.1).bind fun y15 => (some y15)) else (some false)))) else (if (decide (y13.2 = y14.2)) = true then ((bA_ y13.1 y14.1).bind fun y16 => (some y16)) else (some false)))))))))))))))))))))
theorem gI_ (a0 : (Sl (Iv .u8))) (r : Bool) (h : cV_ a0 = some r) : ec_ a0 = some r := by
 unfold cV_ at h
 refine k_W ok_11 E_bool_inj h (fun σ0 => ?_)
 refine t_RN ?_
 refine t_RN ?_
 refine t_if (fun hc1 => ?_) fun hc1 => ?_
 ·refine t_RN ?_
  exact k_eW (rT rN) E_bool_p
 refine t_RU 1 ?_
 refine ao_ fun y1 hy1 => ?_
 refine t_N ?_
 refine t_RU 1 ?_
 refine ao_ fun y2 hy2 => ?_
 refine ao_ fun y3 hy3 => ?_
 refine bE_ fun b1 => ?_
 refine af_ 0 ?_
 refine t_N ?_
 refine t_RU 1 ?_
 refine ao_ fun y4 hy4 => ?_
 refine ao_ fun y5 hy5 => ?_
 refine t_N ?_
 refine t_RU 1 ?_
 refine ao_ fun y6 hy6 => ?_
 refine t_N ?_
 refine t_R ?_
 refine ab_ 0 ?_
 refine ao_ fun y7 hy7 => ?_
 refine bE_ fun b2 => ?_
 refine af_ 0 ?_
 refine t_N ?_
 refine t_D fun mb => ?_
 refine ab_ 0 ?_
 refine ao_ fun y8 hy8 => ?_
 refine t_U 2 ?_
 refine ay_ 31 (fun hc2 => ?_) fun hc2 => ?_
 ·refine t_N ?_
  refine t_cT rfl ?_
  refine t_RN ?_
  exact k_eW (rT rN) E_bool_p
 refine ab_ 0 ?_
 refine ao_ fun y9 hy9 => ?_
 refine ab_ 1 ?_
 refine ao_ fun y10 hy10 => ?_
 refine t_U 3 ?_
 refine ay_ 38 (fun hc3 => ?_) fun hc3 => ?_
 ·refine t_N ?_
  refine t_cT rfl ?_
  refine t_RN ?_
  exact k_eW (rT rN) E_bool_p
 refine ab_ 0 ?_
 refine ao_ fun y11 hy11 => ?_
 refine ab_ 0 ?_
 refine ao_ fun y12 hy12 => ?_
 refine t_N ?_
 refine t_if (fun hc4 => ?_) fun hc4 => ?_
 ·refine t_RN ?_
  exact k_eW (rT rN) E_bool_p
 refine t_RU 1 ?_
 refine ab_ 1 ?_
 refine t_U 2 ?_
 refine ao_ fun y13 hy13 => ?_
 refine t_N ?_
 refine t_RU 1 ?_
 refine ab_ 0 ?_
 refine t_U 2 ?_
 refine ao_ fun y14 hy14 => ?_
 refine t_N ?_
 refine t_RU 3 ?_
 refine ay_ 63 (fun hc5 => ?_) fun hc5 => ?_
 ·refine t_U 3 ?_
  refine ay_ 66 (fun hc6 => ?_) fun hc6 => ?_
  ·refine t_N ?_
   exact k_eW (rT rN) E_bool_p
  refine t_U 6 ?_
  refine ay_ 72 (fun hc7 => ?_) fun hc7 => ?_
  ·refine t_N ?_
   exact k_eW (rT rN) E_bool_p
  refine t_U 4 ?_
  refine ay_ 76 (fun hc8 => ?_) fun hc8 => ?_
  ·refine t_U 2 ?_
   refine ao_ fun y15 hy15 => ?_
   refine t_N ?_
   exact k_eW (rT rN) E_bool_p
  refine t_N ?_
  exact k_eW (rT rN) E_bool_p
 refine t_U 13 ?_
 refine ay_ 76 (fun hc9 => ?_) fun hc9 => ?_
 ·refine t_U 2 ?_
  refine ao_ fun y16 hy16 => ?_
  refine t_N ?_
  exact k_eW (rT rN) E_bool_p
 refine t_N ?_
 exact k_eW (rT rN) E_bool_p
noncomputable def f7_ (a0 : Int) (a1 : (Sl (Iv .u8))) : Option (Sl (Iv .u8)) := ((appS 1 ((⟨false, [⟨(IntKind.u8.wrap a0)⟩]⟩ : Sl (Iv .u8))) a1).bind fun y1 => (some y1))
theorem ll_ (a0 : Int) (a1 : (Sl (Iv .u8))) (r : (Sl (Iv .u8))) (h : f7_ a0 a1 = some r) : eO_ a0 a1 = some r := by
 unfold f7_ at h
 refine k_W ok_16 E_sl_u8_inj h (fun σ0 => ?_)
 refine t_RN ?_
 refine t_RU 2 ?_
 refine k_bs (z := true) (⟨false, [⟨(IntKind.u8.wrap a0)⟩]⟩ : Sl (Iv .u8)) (fun t1 ht1 => ?_)
 refine t_U 1 ?_
 refine qF_ 0 (fun y1 t2 hy1 ht2 => ?_)
 refine t_N ?_
 intro h s σ hS hH
 obtain rfl := si_1 h
 exact l0_ (ents := [.own true 1 t2 y1.t]) (z := false) hH (bF_ (v := t2) hS rfl r_nil) (HL.own rfl HL.nil) (by simp [pureT, pureL, E_sl_u8])
noncomputable def dx_ (a0 : DPattern) : Option Int := ((aE_ (S := (Int × Int)) (R := Int) (fun st1 => (if (decide (st1.2 < (a0.Kids.l.length : Int))) = true then ((elt a0.Kids st1.2).bind fun y2 => ((bO_ y2).bind fun y3 => (some (.inl ((w4 (st1.1 + y3)), (w4 (st1.2 + 1))))))) else (some (.inr st1.1)))) (1, 0)).bind fun y1 => (some y1))
theorem hp_ (a0 : DPattern) (r : Int) (h : dx_ a0 = some r) : bO_ a0 = some r := by
 unfold dx_ at h
 refine k_W ok_17 E_i64_inj h (fun σ0 => ?_)
 refine t_R ?_
 refine cA_ (fun b1 => ?_)
 refine t_N ?_
 refine t_RN ?_
 refine t_RU 1 ?_
 refine ab_ 0 ?_
 refine t_N ?_
 refine br_ (fun st1 fr => Sub [(3, i4 st1.1), (7, a0.Kids.t), (8, i4 (a0.Kids.l.length : Int)), (9, i4 st1.2)] fr.s ∧ Heap σ0 fr.σ []) (fun y1 e fr => e = (.exit 0) ∧ Sub [(3, i4 y1)] fr.s ∧ Heap σ0 fr.σ []) (fun hS hH => ⟨(ad_ hS (by kernel_rfl)), (Heap.sel hH [] rfl (by kernel_rfl))⟩) (fun st1 x fr h HI => ?_) fun y1 e fr h HF => ?_
 ·obtain ⟨s, σ⟩ := fr; obtain ⟨hS, hH⟩ := HI
  refine t_bk h hS hH ?_
  refine t_RN ?_
  refine t_if (fun hc1 => ?_) fun hc1 => ?_
  ·refine t_R ?_
   refine co_ fun y2 rest1 hy2 => ?_
   refine t_U 1 ?_
   refine bE_ fun b2 => ?_
   refine af_ 0 ?_
   refine t_N ?_
   refine t_RU 1 ?_
   refine ab_ 0 ?_
   refine ao_ fun y3 hy3 => ?_
   refine t_N ?_
   refine t_RN ?_
   exact t_e fun he hS hH => he ▸ ⟨(ad_ hS (by kernel_rfl)), (Heap.sel hH [] rfl (by kernel_rfl))⟩
  exact t_e fun he hS hH => he ▸ ⟨rfl, (ad_ hS (by kernel_rfl)), hH⟩
 obtain ⟨s, σ⟩ := fr
 obtain ⟨rfl, hS, hH⟩ := HF
 refine t_bx h hS hH ?_
 refine t_RN ?_
 exact k_eW (rT rN) E_i64_p
noncomputable def c5_ (a0 : DPattern) (a1 : DPattern) : Option Bool := (if (decide (a0.Kind = a1.Kind)) = true then (if (decide (a0.Num = a1.Num)) = true then (if (decide (a0.Text = a1.Text)) = true then ((b1_ a0.Kids a1.Kids (T.fn 21 [] [])).bind fun y1 => (some y1)) else (some false)) else (some false)) else (some false))
theorem gS_ (a0 : DPattern) (a1 : DPattern) (r : Bool) (h : c5_ a0 a1 = some r) : cu_ a0 a1 = some r := by
 unfold c5_ at h
 refine k_W ok_21 E_bool_inj h (fun σ0 => ?_)
 refine t_R ?_
 refine cA_ (fun b1 => ?_)
 refine cA_ (fun b2 => ?_)
 refine t_N ?_
 refine t_RU 1 ?_
 refine ab_ 1 ?_
 refine t_U 1 ?_
 refine ab_ 0 ?_
 refine t_U 2 ?_
 refine ay_ 10 (fun hc1 => ?_) fun hc1 => ?_
 ·refine t_U 1 ?_
  refine ab_ 1 ?_
  refine t_U 1 ?_
  refine ab_ 0 ?_
  refine t_U 3 ?_
  refine ay_ 17 (fun hc2 => ?_) fun hc2 => ?_
  ·refine t_U 1 ?_
   refine ab_ 1 ?_
   refine t_U 1 ?_
   refine ab_ 0 ?_
   refine t_U 3 ?_
   refine ay_ 24 (fun hc3 => ?_) fun hc3 => ?_
   ·refine t_U 1 ?_
    refine ab_ 1 ?_
    refine t_U 1 ?_
    refine ab_ 0 ?_
    refine ao_ fun y1 hy1 => ?_
    refine t_N ?_
    exact k_eW (rT rN) E_bool_p
   refine t_N ?_
   exact k_eW (rT rN) E_bool_p
  refine t_N ?_
  exact k_eW (rT rN) E_bool_p
 refine t_N ?_
 exact k_eW (rT rN) E_bool_p
noncomputable def bv_ (a0 : ae_) : Option (Int × ae_) := (((if (decide (a0.at_ < (a0.code_.l.length : Int))) = true then ((elt a0.code_ a0.at_).bind fun y2 => (some (w4 y2.v))) else (some 0)) : Option Int).bind fun y1 => (if ((decide ((w4 (a0.at_ + 1)) ≤ (a0.code_.l.length : Int)))) = true then (some (y1, (⟨a0.code_, (w4 (a0.at_ + 1)), (IntKind.u64.wrap ((IntKind.u64.wrap ((IntKind.u64.wrap (a0.seed_ * 6364136223846793005)) + (IntKind.u64.wrap y1))) + 1442695040888963407))⟩ : ae_))) else (some ((w4 ((andI .u64 ((((IntKind.u64.wrap ((IntKind.u64.wrap ((IntKind.u64.wrap (a0.seed_ * 6364136223846793005)) + (IntKind.u64.wrap y1))) + 1442695040888963407))).fdiv (2 ^ 40))) 255))), (⟨a0.code_, (w4 (a0.at_ + 1)), (IntKind.u64.wrap ((IntKind.u64.wrap ((IntKind.u64.wrap (a0.seed_ * 6364136223846793005)) + (IntKind.u64.wrap y1))) + 1442695040888963407))⟩ : ae_)))))
theorem eI_ (a0 : ae_) (r : (Int × ae_)) (h : bv_ a0 = some r) (bp0 : Nat) : RawS Try.prog md ext 114 [.ptr bp0 0 0 3] 0 (fun hs => E_i64 r.1) [.box bp0 (ae_.cells a0)] (fun hs => [.box bp0 (ae_.cells r.2)]) := by
 unfold bv_ at h
 refine cs_ rfl rfl ok_114 rfl ?_
 intro σ0 σ F σk s hS hH
 have hS := ad_ (L' := [(0, .ptr bp0 0 0 3)]) hS (by kernel_rfl)
 refine t_go h hS hH ?_
 refine t_RN ?_
 refine t_RN ?_
 refine t_D fun mb => ?_
 refine t_U 3 ?_
 refine ab_ 0 ?_
 refine t_U 3 ?_
 refine ab_ 0 ?_
 refine t_N ?_
 refine d6_ 0 (fun y1 e fr => e = .normal ∧ Sub [(0, .ptr bp0 0 0 3), (3, i4 y1)] fr.s ∧ Heap σ0 fr.σ [.box bp0 (ae_.cells a0), .keep F σk]) (fun y1 e fr h HF => ?_) fun y1 => ?_
 ·obtain ⟨s, σ⟩ := fr
  obtain ⟨rfl, hS, hH⟩ := HF
  refine t_bx h hS hH ?_
  refine t_RU 3 ?_
  refine ab_ 0 ?_
  refine t_U 3 ?_
  refine a4_ 0 ?_
  refine t_N ?_
  refine t_RU 4 ?_
  refine ab_ 0 ?_
  refine t_U 7 ?_
  refine a4_ 0 ?_
  refine t_N ?_
  refine t_D fun mb => ?_
  refine t_U 3 ?_
  refine ab_ 0 ?_
  refine t_U 3 ?_
  refine ab_ 0 ?_
  refine t_N ?_
  refine t_if (fun hc1 => ?_) fun hc1 => ?_
  ·refine t_RN ?_
   intro h s σ hS hH
   obtain rfl := si_1 h
   exact a9_ [] (bF_ (v := i4 y1) hS rfl r_nil) rfl rfl hH
  refine t_RU 3 ?_
  refine ab_ 0 ?_
  refine t_N ?_
  intro h s σ hS hH
  obtain rfl := si_1 h
  exact a9_ [] (bF_ (v := i4 ((w4 ((andI .u64 ((((IntKind.u64.wrap ((IntKind.u64.wrap ((IntKind.u64.wrap (a0.seed_ * 6364136223846793005)) + (IntKind.u64.wrap y1))) + 1442695040888963407))).fdiv (2 ^ 40))) 255))))) hS rfl r_nil) rfl rfl hH
 refine t_if (fun hc2 => ?_) fun hc2 => ?_
 ·refine t_D fun mb => ?_
  refine t_U 3 ?_
  refine ab_ 0 ?_
  refine t_U 3 ?_
  refine ab_ 0 ?_
  refine co_ fun y2 rest1 hy2 => ?_
  refine t_N ?_
  exact t_e fun he hS hH => he ▸ ⟨rfl, (ad_ hS (by kernel_rfl)), hH⟩
 exact t_e fun he hS hH => he ▸ ⟨rfl, (ad_ hS (by kernel_rfl)), hH⟩
noncomputable def au_ (a0 : ae_) (a1 : Int) : Option (Int × ae_) := (if (decide (a1 ≤ 1)) = true then (some (0, a0)) else ((bv_ a0).bind fun y1 => (if (decide (200 < a1)) = true then ((bv_ y1.2).bind fun y2 => ((remI (w4 ((w4 (y1.1 * 256)) + y2.1)) a1).bind fun y3 => (some (y3, y2.2)))) else ((remI y1.1 a1).bind fun y4 => (some (y4, y1.2))))))
theorem a3_ (a0 : ae_) (a1 : Int) (r : (Int × ae_)) (h : au_ a0 a1 = some r) (bp0 : Nat) : RawS Try.prog md ext 65 [.ptr bp0 0 0 3, i4 a1] 0 (fun hs => E_i64 r.1) [.box bp0 (ae_.cells a0)] (fun hs => [.box bp0 (ae_.cells r.2)]) := by
 unfold au_ at h
 refine cs_ rfl rfl ok_65 rfl ?_
 intro σ0 σ F σk s hS hH
 have hS := ad_ (L' := [(0, .ptr bp0 0 0 3), (1, i4 a1)]) hS (by kernel_rfl)
 refine t_go h hS hH ?_
 refine t_RN ?_
 refine t_RN ?_
 refine t_if (fun hc1 => ?_) fun hc1 => ?_
 ·refine t_RN ?_
  intro h s σ hS hH
  obtain rfl := si_1 h
  exact a9_ [] (bF_ (v := i4 0) hS rfl r_nil) rfl rfl hH
 refine t_RU 1 ?_
 refine aQ_ (fun y1 hs hy1 hl => ?_) (hr := by exact fun y1 hy1 => eI_ _ y1 hy1 bp0)
 obtain rfl := len0 hl
 refine bW_ ?_
 refine t_N ?_
 refine t_RN ?_
 refine t_if (fun hc2 => ?_) fun hc2 => ?_
 ·refine t_RU 3 ?_
  refine aQ_ (fun y2 hs hy2 hl => ?_) (hr := by exact fun y2 hy2 => eI_ _ y2 hy2 bp0)
  obtain rfl := len0 hl
  refine bW_ ?_
  refine t_N ?_
  refine t_RU 2 ?_
  intro h s σ hS hH
  obtain ⟨y3, hy3, h⟩ := bind_some h
  refine jg_ rfl hS rfl rfl hy3 ?_; intro s hS
  refine t_bk h hS hH ?_
  refine t_N ?_
  intro h s σ hS hH
  obtain rfl := si_1 h
  exact a9_ [] (bF_ (v := i4 y3) hS rfl r_nil) rfl rfl hH
 refine t_RU 2 ?_
 intro h s σ hS hH
 obtain ⟨y4, hy4, h⟩ := bind_some h
 refine jg_ rfl hS rfl rfl hy4 ?_; intro s hS
 refine t_bk h hS hH ?_
 refine t_N ?_
 intro h s σ hS hH
 obtain rfl := si_1 h
 exact a9_ [] (bF_ (v := i4 y4) hS rfl r_nil) rfl rfl hH
noncomputable def aO_ (a0 : ae_) (a1 : (Sl ByteArray)) : Option (ByteArray × ae_ × (Sl ByteArray)) := ((au_ a0 (a1.l.length : Int)).bind fun y1 => ((elt a1 y1.1).bind fun y2 => (some (y2, y1.2, a1))))
theorem c7_ (a0 : ae_) (a1 : (Sl ByteArray)) (r : (ByteArray × ae_ × (Sl ByteArray))) (h : aO_ a0 a1 = some r) (bp0 : Nat) (wp1_1 : Nat) (p1_1 : T) : RawS Try.prog md ext 121 [.ptr bp0 0 0 3, p1_1] 0 (fun hs => E_str r.1) [.box bp0 (ae_.cells a0), .own true wp1_1 p1_1 a1.t] (fun hs => [.box bp0 (ae_.cells r.2.1), .own true wp1_1 p1_1 r.2.2.t]) := by
 unfold aO_ at h
 refine cs_ rfl rfl ok_121 rfl ?_
 intro σ0 σ F σk s hS hH
 have hp1_1 : aq_ p1_1 := Heap.one (hH.at 1 rfl)
 have hS := ad_ (L' := [(0, .ptr bp0 0 0 3), (1, p1_1)]) hS (by kernel_rfl)
 refine t_go h hS hH ?_
 refine t_RN ?_
 refine t_RU 3 ?_
 refine m0_ (a := a1) 1 ?_
 refine aQ_ (fun y1 hs hy1 hl => ?_) (hr := by exact fun y1 hy1 => a3_ _ _ y1 hy1 bp0)
 obtain rfl := len0 hl
 refine bW_ ?_
 refine nI_ 1 (fun hb1 hb1e y2 hy2 hl_hb1 => ?_)
 refine lQ_ 1 0 hl_hb1 hy2 ?_
 refine t_N ?_
 intro h s σ hS hH
 obtain rfl := si_1 h
 exact a9_ [] (bF_ (v := .str y2) hS rfl r_nil) rfl rfl hH
noncomputable def aU_ (a0 : ae_) : Option (ByteArray × ae_) := ((aO_ a0 (⟨false, [⟨#[97]⟩, ⟨#[98]⟩, ⟨#[97, 98]⟩, ⟨#[98, 97]⟩, ⟨#[97, 98, 99]⟩, ⟨#[40]⟩, ⟨#[41]⟩, ⟨#[40, 41]⟩, ⟨#[120]⟩, ⟨#[97, 97]⟩, ⟨#[99]⟩, ⟨#[34]⟩, ⟨#[97, 34, 98]⟩, ⟨#[0]⟩, ⟨#[120, 121]⟩, ⟨#[98, 99]⟩]⟩)).bind fun y1 => (some (y1.1, y1.2.1)))
theorem ef_ (a0 : ae_) (r : (ByteArray × ae_)) (h : aU_ a0 = some r) (bp0 : Nat) : RawS Try.prog md ext 73 [.ptr bp0 0 0 3] 0 (fun hs => E_str r.1) [.box bp0 (ae_.cells a0)] (fun hs => [.box bp0 (ae_.cells r.2)]) := by
 unfold aU_ at h
 refine cs_ rfl rfl ok_73 rfl ?_
 intro σ0 σ F σk s hS hH
 have hS := ad_ (L' := [(0, .ptr bp0 0 0 3)]) hS (by kernel_rfl)
 refine t_go h hS hH ?_
 refine t_RN ?_
 refine t_RU 1 ?_
 refine k_bs (z := true) (⟨false, [⟨#[97]⟩, ⟨#[98]⟩, ⟨#[97, 98]⟩, ⟨#[98, 97]⟩, ⟨#[97, 98, 99]⟩, ⟨#[40]⟩, ⟨#[41]⟩, ⟨#[40, 41]⟩, ⟨#[120]⟩, ⟨#[97, 97]⟩, ⟨#[99]⟩, ⟨#[34]⟩, ⟨#[97, 34, 98]⟩, ⟨#[0]⟩, ⟨#[120, 121]⟩, ⟨#[98, 99]⟩]⟩ : Sl ByteArray) (fun t1 ht1 => ?_)
 refine t_h Heap.up1 ?_
 refine aQ_ (fun y1 hs hy1 hl => ?_) (hr := by exact fun y1 hy1 => c7_ _ _ y1 hy1 bp0 1 t1)
 obtain rfl := len0 hl
 refine bW_ ?_
 refine t_N ?_
 intro h s σ hS hH
 obtain rfl := si_1 h
 exact a9_ [] (bF_ (v := .str y1.1) hS rfl r_nil) rfl rfl (Heap.sel hH [0, 2] rfl (by kernel_rfl))
noncomputable def aS_ (a0 : ae_) (a1 : Int) : Option (Bool × ae_) := ((au_ a0 a1).bind fun y1 => (some ((decide (y1.1 = 0)), y1.2)))
theorem cc_ (a0 : ae_) (a1 : Int) (r : (Bool × ae_)) (h : aS_ a0 a1 = some r) (bp0 : Nat) : RawS Try.prog md ext 109 [.ptr bp0 0 0 3, i4 a1] 0 (fun hs => E_bool r.1) [.box bp0 (ae_.cells a0)] (fun hs => [.box bp0 (ae_.cells r.2)]) := by
 unfold aS_ at h
 refine cs_ rfl rfl ok_109 rfl ?_
 intro σ0 σ F σk s hS hH
 have hS := ad_ (L' := [(0, .ptr bp0 0 0 3), (1, i4 a1)]) hS (by kernel_rfl)
 refine t_go h hS hH ?_
 refine t_RN ?_
 refine t_RU 2 ?_
 refine aQ_ (fun y1 hs hy1 hl => ?_) (hr := by exact fun y1 hy1 => a3_ _ _ y1 hy1 bp0)
 obtain rfl := len0 hl
 refine bW_ ?_
 refine t_N ?_
 intro h s σ hS hH
 obtain rfl := si_1 h
 exact a9_ [] (bF_ (v := .bool (decide (y1.1 = 0))) hS rfl r_nil) rfl rfl hH
noncomputable def ce_ (a0 : ae_) : Option (ByteArray × ae_) := ((aS_ a0 4).bind fun y1 => (if y1.1 = true then ((aO_ y1.2 (⟨false, [⟨#[]⟩, ⟨#[97]⟩, ⟨#[97, 98]⟩, ⟨#[40, 97, 41, 40, 98, 41]⟩, ⟨#[40, 40, 97, 41, 98, 41]⟩, ⟨#[97, 97, 97, 97]⟩, ⟨#[97, 98, 99, 97, 98, 99]⟩, ⟨#[120, 40, 121]⟩, ⟨#[41, 40]⟩, ⟨#[97, 98, 34, 99]⟩]⟩)).bind fun y2 => (some (y2.1, y2.2.1))) else ((au_ y1.2 6).bind fun y3 => ((aE_ (S := (ByteArray × Int × (Sl (Iv .u8)) × Int × Int)) (R := (ByteArray × (Sl (Iv .u8)) × Int × Int)) (fun st1 => (if (decide (0 < st1.2.1)) = true then ((aU_ (⟨st1.2.2.1, st1.2.2.2.1, st1.2.2.2.2⟩ : ae_)).bind fun y5 => ((catB st1.1 y5.1).bind fun y6 => (some (.inl (y6, (w4 (st1.2.1 - 1)), y5.2.code_, y5.2.at_, y5.2.seed_))))) else (some (.inr (st1.1, st1.2.2.1, st1.2.2.2.1, st1.2.2.2.2))))) (⟨#[]⟩, y3.1, y3.2.code_, y3.2.at_, y3.2.seed_)).bind fun y4 => (some (y4.1, (⟨y4.2.1, y4.2.2.1, y4.2.2.2⟩ : ae_)))))))
theorem hr_ (a0 : ae_) (r : (ByteArray × ae_)) (h : ce_ a0 = some r) (bp0 : Nat) : RawS Try.prog md ext 72 [.ptr bp0 0 0 3] 0 (fun hs => E_str r.1) [.box bp0 (ae_.cells a0)] (fun hs => [.box bp0 (ae_.cells r.2)]) := by
 unfold ce_ at h
 refine cs_ rfl rfl ok_72 rfl ?_
 intro σ0 σ F σk s hS hH
 have hS := ad_ (L' := [(0, .ptr bp0 0 0 3)]) hS (by kernel_rfl)
 refine t_go h hS hH ?_
 refine t_RN ?_
 refine t_RU 1 ?_
 refine aQ_ (fun y1 hs hy1 hl => ?_) (hr := by exact fun y1 hy1 => cc_ _ _ y1 hy1 bp0)
 obtain rfl := len0 hl
 refine bW_ ?_
 refine t_N ?_
 refine t_if (fun hc1 => ?_) fun hc1 => ?_
 ·refine t_RU 1 ?_
  refine k_bs (z := true) (⟨false, [⟨#[]⟩, ⟨#[97]⟩, ⟨#[97, 98]⟩, ⟨#[40, 97, 41, 40, 98, 41]⟩, ⟨#[40, 40, 97, 41, 98, 41]⟩, ⟨#[97, 97, 97, 97]⟩, ⟨#[97, 98, 99, 97, 98, 99]⟩, ⟨#[120, 40, 121]⟩, ⟨#[41, 40]⟩, ⟨#[97, 98, 34, 99]⟩]⟩ : Sl ByteArray) (fun t1 ht1 => ?_)
  refine t_h Heap.up1 ?_
  refine aQ_ (fun y2 hs hy2 hl => ?_) (hr := by exact fun y2 hy2 => c7_ _ _ y2 hy2 bp0 1 t1)
  obtain rfl := len0 hl
  refine bW_ ?_
  refine t_N ?_
  intro h s σ hS hH
  obtain rfl := si_1 h
  exact a9_ [] (bF_ (v := .str y2.1) hS rfl r_nil) rfl rfl (Heap.sel hH [0, 2] rfl (by kernel_rfl))
 refine t_RN ?_
 refine t_RU 1 ?_
 refine aQ_ (fun y3 hs hy3 hl => ?_) (hr := by exact fun y3 hy3 => a3_ _ _ y3 hy3 bp0)
 obtain rfl := len0 hl
 refine bW_ ?_
 refine t_N ?_
 refine br_ (fun st1 fr => Sub [(0, .ptr bp0 0 0 3), (3, .str st1.1), (4, i4 st1.2.1)] fr.s ∧ Heap σ0 fr.σ [.box bp0 [st1.2.2.1.t, i4 st1.2.2.2.1, .int .u64 st1.2.2.2.2], .keep F σk]) (fun y4 e fr => e = (.exit 0) ∧ Sub [(3, .str y4.1)] fr.s ∧ Heap σ0 fr.σ [.box bp0 [y4.2.1.t, i4 y4.2.2.1, .int .u64 y4.2.2.2], .keep F σk]) (fun hS hH => ⟨(ad_ hS (by kernel_rfl)), hH⟩) (fun st1 x fr h HI => ?_) fun y4 e fr h HF => ?_
 ·obtain ⟨s, σ⟩ := fr; obtain ⟨hS, hH⟩ := HI
  refine t_bk h hS hH ?_
  refine t_RN ?_
  refine t_if (fun hc2 => ?_) fun hc2 => ?_
  ·refine t_RU 2 ?_
   refine aQ_ (fun y5 hs hy5 hl => ?_) (hr := by exact fun y5 hy5 => ef_ _ y5 hy5 bp0)
   obtain rfl := len0 hl
   refine bW_ ?_
   refine nw_ fun y6 hy6 => ?_
   refine t_N ?_
   refine t_RN ?_
   exact t_e fun he hS hH => he ▸ ⟨(ad_ hS (by kernel_rfl)), hH⟩
  exact t_e fun he hS hH => he ▸ ⟨rfl, (ad_ hS (by kernel_rfl)), hH⟩
 obtain ⟨s, σ⟩ := fr
 obtain ⟨rfl, hS, hH⟩ := HF
 refine t_bx h hS hH ?_
 refine t_RN ?_
 intro h s σ hS hH
 obtain rfl := si_1 h
 exact a9_ [] (bF_ (v := .str y4.1) hS rfl r_nil) rfl rfl hH
noncomputable def dX_ (a0 : (Sl (Iv .u8))) : Option ByteArray := ((ce_ (⟨a0, 0, 0⟩ : ae_)).bind fun y1 => (some y1.1))
theorem hQ_ (a0 : (Sl (Iv .u8))) (r : ByteArray) (h : dX_ a0 = some r) : dN_ a0 = some r := by
 unfold dX_ at h
 refine k_W ok_31 E_str_inj h (fun σ0 => ?_)
 refine t_RN ?_
 refine t_RU 1 ?_
 refine fM_ ok_62 ?_
 refine t_RN ?_
 refine t_RU 2 ?_
 refine cA_ (fun b1 => ?_)
 refine t_N ?_
 refine k_eI (rT rN) ?_
 refine t_N ?_
 refine t_RU 1 ?_
 refine aQ_ (fun y1 hs hy1 hl => ?_) (hr := by exact fun y1 hy1 => hr_ _ y1 hy1 b1)
 obtain rfl := len0 hl
 refine bW_ ?_
 refine t_N ?_
 exact k_eW (rT rN) E_str_p
noncomputable def dR_ (a0 : (Sl DNamed)) (a1 : DPattern) (a2 : ByteArray) (a3 : Bool) (a4 : Int) : Option ((Sl DMatch) × Int) := ((du_ a0 a1 a2 a4).bind fun y1 => (if (!decide (y1 = 0)) = true then (some (⟨true, []⟩, y1)) else ((db_ a2 a3).bind fun y2 => ((cx_ a0 a1 a2 y2 a4).bind fun y3 => (some (y3.1, y3.2))))))
theorem hV_ (a0 : (Sl DNamed)) (a1 : DPattern) (a2 : ByteArray) (a3 : Bool) (a4 : Int) (r : ((Sl DMatch) × Int)) (h : dR_ a0 a1 a2 a3 a4 = some r) : b2_ a0 a1 a2 a3 a4 = some r := by
 unfold dR_ at h
 refine k_W ok_35 E_t2_sl_DMatch_i64_inj h (fun σ0 => ?_)
 refine t_R ?_
 refine cA_ (fun b1 => ?_)
 refine t_N ?_
 refine t_RU 1 ?_
 refine ab_ 0 ?_
 refine t_U 2 ?_
 refine ao_ fun y1 hy1 => ?_
 refine t_N ?_
 refine t_RN ?_
 refine t_if (fun hc1 => ?_) fun hc1 => ?_
 ·refine t_RN ?_
  exact k_eW (rT (rT rN)) E_t2_sl_DMatch_i64_p
 refine bQ_ [] ext_x fun mb σs hn0 hlt hlto => ?_
 have hlt_b1 : b1 < mb := hlt b1 _ (List.Mem.head _)
 refine t_U 1 ?_
 refine ab_ 0 ?_ (hlt := by exact (Or.inr ⟨hlt_b1, Wc.nil⟩))
 refine t_U 3 ?_
 refine mk_ (fun y2 t1 hy2 ht1 => ?_)
 refine t_U 1 ?_
 refine mk_ (fun y3 t2 hy3 ht2 => ?_)
 refine t_N ?_
 intro h s σ hS hH
 obtain rfl := si_1 h
 exact l0_ (ents := [.own true 3 t2 y3.1.t]) (z := false) hH (bF_ (v := t2) hS rfl (bF_ (v := i4 y3.2) hS rfl r_nil)) (HL.tup (es1 := [.own true 3 t2 y3.1.t]) (es2 := []) (HL.own rfl (HLi HL.nil)) HL.nil) (by simp [pureT, pureL, E_t2_sl_DMatch_i64])
noncomputable def fq_ (a0 : (Sl (Iv .u8))) (a1 : Int) (a2 : Int) : Option Int := (if (decide (a2 ≤ 1)) = true then (some 0) else (if (decide ((a0.l.length : Int) = 0)) = true then ((remI (w4 (a1 * 7)) a2).bind fun y1 => (some y1)) else ((remI a1 (a0.l.length : Int)).bind fun y2 => ((elt a0 y2).bind fun y3 => ((remI (w4 (a1 + 1)) (a0.l.length : Int)).bind fun y4 => ((elt a0 y4).bind fun y5 => ((quoI .i64 a1 (a0.l.length : Int)).bind fun y6 => ((remI ((w4 ((w4 ((w4 ((w4 y3.v) * 31)) + (w4 y5.v))) + y6))) a2).bind fun y7 => (some y7)))))))))
theorem l7_ (a0 : (Sl (Iv .u8))) (a1 : Int) (a2 : Int) (r : Int) (h : fq_ a0 a1 a2 = some r) : gA_ a0 a1 a2 = some r := by
 unfold fq_ at h
 refine k_W ok_43 E_i64_inj h (fun σ0 => ?_)
 refine t_RN ?_
 refine t_RN ?_
 refine t_if (fun hc1 => ?_) fun hc1 => ?_
 ·refine t_RN ?_
  exact k_eW (rT rN) E_i64_p
 refine t_RN ?_
 refine t_if (fun hc2 => ?_) fun hc2 => ?_
 ·refine t_RU 3 ?_
  intro h s σ hS hH
  obtain ⟨y1, hy1, h⟩ := bind_some h
  refine jg_ rfl hS rfl rfl hy1 ?_; intro s hS
  refine t_bk h hS hH ?_
  refine t_N ?_
  exact k_eW (rT rN) E_i64_p
 refine t_RN ?_
 refine t_D fun mb => ?_
 refine t_U 3 ?_
 intro h s σ hS hH
 obtain ⟨y2, hy2, h⟩ := bind_some h
 refine jg_ rfl hS rfl rfl hy2 ?_; intro s hS
 refine t_bk h hS hH ?_
 refine co_ fun y3 rest1 hy3 => ?_
 refine t_U 7 ?_
 intro h s σ hS hH
 obtain ⟨y4, hy4, h⟩ := bind_some h
 refine jg_ rfl hS rfl rfl hy4 ?_; intro s hS
 refine t_bk h hS hH ?_
 refine co_ fun y5 rest2 hy5 => ?_
 refine t_U 5 ?_
 intro h s σ hS hH
 obtain ⟨y6, hy6, h⟩ := bind_some h
 refine sT_ rfl hS rfl rfl hy6 ?_; intro s hS
 refine t_bk h hS hH ?_
 refine t_U 2 ?_
 intro h s σ hS hH
 obtain ⟨y7, hy7, h⟩ := bind_some h
 refine jg_ rfl hS rfl rfl hy7 ?_; intro s hS
 refine t_bk h hS hH ?_
 refine t_N ?_
 exact k_eW (rT rN) E_i64_p
noncomputable def cw_ (a0 : (Sl DMatch)) (a1 : (Sl DMatch)) : Option Bool := ((bz_ a0 a1 (T.fn 92 [] [])).bind fun y1 => (some y1))
theorem eC_ (a0 : (Sl DMatch)) (a1 : (Sl DMatch)) (r : Bool) (h : cw_ a0 a1 = some r) : bA_ a0 a1 = some r := by
 unfold cw_ at h
 refine k_W ok_45 E_bool_inj h (fun σ0 => ?_)
 refine t_RN ?_
 refine t_RU 2 ?_
 refine ao_ fun y1 hy1 => ?_
 refine t_N ?_
 exact k_eW (rT rN) E_bool_p
noncomputable def ba_ (a0 : ae_) (a1 : (Sl (Iv .i64))) : Option (Int × ae_ × (Sl (Iv .i64))) := ((au_ a0 (a1.l.length : Int)).bind fun y1 => ((elt a1 y1.1).bind fun y2 => (some (y2.v, y1.2, a1))))
theorem cN_ (a0 : ae_) (a1 : (Sl (Iv .i64))) (r : (Int × ae_ × (Sl (Iv .i64)))) (h : ba_ a0 a1 = some r) (bp0 : Nat) (wp1_1 : Nat) (p1_1 : T) : RawS Try.prog md ext 111 [.ptr bp0 0 0 3, p1_1] 0 (fun hs => E_i64 r.1) [.box bp0 (ae_.cells a0), .own true wp1_1 p1_1 a1.t] (fun hs => [.box bp0 (ae_.cells r.2.1), .own true wp1_1 p1_1 r.2.2.t]) := by
 unfold ba_ at h
 refine cs_ rfl rfl ok_111 rfl ?_
 intro σ0 σ F σk s hS hH
 have hp1_1 : aq_ p1_1 := Heap.one (hH.at 1 rfl)
 have hS := ad_ (L' := [(0, .ptr bp0 0 0 3), (1, p1_1)]) hS (by kernel_rfl)
 refine t_go h hS hH ?_
 refine t_RN ?_
 refine t_RU 3 ?_
 refine m0_ (a := a1) 1 ?_
 refine aQ_ (fun y1 hs hy1 hl => ?_) (hr := by exact fun y1 hy1 => a3_ _ _ y1 hy1 bp0)
 obtain rfl := len0 hl
 refine bW_ ?_
 refine nI_ 1 (fun hb1 hb1e y2 hy2 hl_hb1 => ?_)
 refine lQ_ 1 0 hl_hb1 hy2 ?_
 refine t_N ?_
 intro h s σ hS hH
 obtain rfl := si_1 h
 exact a9_ [] (bF_ (v := i4 y2.v) hS rfl r_nil) rfl rfl hH
noncomputable def bp_ (a0 : ae_) : Option (ByteArray × ae_) := ((aO_ a0 (⟨false, [⟨#[120]⟩, ⟨#[121]⟩, ⟨#[122]⟩, ⟨#[80, 97, 116]⟩, ⟨#[97, 95, 49]⟩]⟩)).bind fun y1 => (some (y1.1, y1.2.1)))
theorem e5_ (a0 : ae_) (r : (ByteArray × ae_)) (h : bp_ a0 = some r) (bp0 : Nat) : RawS Try.prog md ext 113 [.ptr bp0 0 0 3] 0 (fun hs => E_str r.1) [.box bp0 (ae_.cells a0)] (fun hs => [.box bp0 (ae_.cells r.2)]) := by
 unfold bp_ at h
 refine cs_ rfl rfl ok_113 rfl ?_
 intro σ0 σ F σk s hS hH
 have hS := ad_ (L' := [(0, .ptr bp0 0 0 3)]) hS (by kernel_rfl)
 refine t_go h hS hH ?_
 refine t_RN ?_
 refine t_RU 1 ?_
 refine k_bs (z := true) (⟨false, [⟨#[120]⟩, ⟨#[121]⟩, ⟨#[122]⟩, ⟨#[80, 97, 116]⟩, ⟨#[97, 95, 49]⟩]⟩ : Sl ByteArray) (fun t1 ht1 => ?_)
 refine t_h Heap.up1 ?_
 refine aQ_ (fun y1 hs hy1 hl => ?_) (hr := by exact fun y1 hy1 => c7_ _ _ y1 hy1 bp0 1 t1)
 obtain rfl := len0 hl
 refine bW_ ?_
 refine t_N ?_
 intro h s σ hS hH
 obtain rfl := si_1 h
 exact a9_ [] (bF_ (v := .str y1.1) hS rfl r_nil) rfl rfl (Heap.sel hH [0, 2] rfl (by kernel_rfl))
noncomputable def bd_ (a0 : ae_) : Option (DPattern × ae_) := ((ba_ a0 (⟨false, [⟨1⟩, ⟨1⟩, ⟨1⟩, ⟨2⟩, ⟨3⟩, ⟨4⟩, ⟨5⟩, ⟨6⟩, ⟨6⟩, ⟨7⟩, ⟨8⟩, ⟨9⟩, ⟨10⟩, ⟨11⟩, ⟨12⟩, ⟨12⟩, ⟨13⟩, ⟨14⟩, ⟨15⟩, ⟨16⟩, ⟨17⟩, ⟨23⟩, ⟨24⟩, ⟨24⟩]⟩)).bind fun y1 => ((b8_ y1.1).bind fun y2 => (if (decide (y2.2 = (⟨#[115]⟩ : ByteArray))) = true then ((aU_ y1.2.1).bind fun y3 => (((if (decide (y1.1 = 1)) = true then ((aS_ y3.2 4).bind fun y5 => (some (y5.1, y5.2.code_, y5.2.at_, y5.2.seed_))) else (some (false, y3.2.code_, y3.2.at_, y3.2.seed_))) : Option (Bool × (Sl (Iv .u8)) × Int × Int)).bind fun y4 => (if y4.1 = true then (some ((⟨y1.1, 0, ⟨#[]⟩, ⟨true, []⟩⟩ : DPattern), (⟨y4.2.1, y4.2.2.1, y4.2.2.2⟩ : ae_))) else (some ((⟨y1.1, 0, y3.1, ⟨true, []⟩⟩ : DPattern), (⟨y4.2.1, y4.2.2.1, y4.2.2.2⟩ : ae_)))))) else (if (decide (y2.2 = (⟨#[110]⟩ : ByteArray))) = true then ((au_ y1.2.1 4).bind fun y6 => (some ((⟨y1.1, y6.1, ⟨#[]⟩, ⟨true, []⟩⟩ : DPattern), y6.2))) else (if (decide (y2.2 = (⟨#[120]⟩ : ByteArray))) = true then ((bp_ y1.2.1).bind fun y7 => (some ((⟨y1.1, 0, y7.1, ⟨true, []⟩⟩ : DPattern), y7.2))) else (some ((⟨y1.1, 0, ⟨#[]⟩, ⟨true, []⟩⟩ : DPattern), y1.2.1)))))))
theorem e3_ (a0 : ae_) (r : (DPattern × ae_)) (h : bd_ a0 = some r) (bp0 : Nat) : RawS Try.prog md ext 110 [.ptr bp0 0 0 3] Sh_DPattern.n (fun hs => Sh_DPattern.tree hs r.1) [.box bp0 (ae_.cells a0)] (fun hs => Sh_DPattern.en hs r.1 ++ [.box bp0 (ae_.cells r.2)]) := by
 unfold bd_ at h
 refine cs_ rfl rfl ok_110 rfl ?_
 intro σ0 σ F σk s hS hH
 have hS := ad_ (L' := [(0, .ptr bp0 0 0 3)]) hS (by kernel_rfl)
 refine t_go h hS hH ?_
 refine t_R ?_
 refine bE_ fun b1 => ?_
 refine t_N ?_
 refine t_RU 1 ?_
 refine k_bs (z := true) (⟨false, [⟨1⟩, ⟨1⟩, ⟨1⟩, ⟨2⟩, ⟨3⟩, ⟨4⟩, ⟨5⟩, ⟨6⟩, ⟨6⟩, ⟨7⟩, ⟨8⟩, ⟨9⟩, ⟨10⟩, ⟨11⟩, ⟨12⟩, ⟨12⟩, ⟨13⟩, ⟨14⟩, ⟨15⟩, ⟨16⟩, ⟨17⟩, ⟨23⟩, ⟨24⟩, ⟨24⟩]⟩ : Sl (Iv .i64)) (fun t1 ht1 => ?_)
 refine t_h Heap.up2 ?_
 refine aQ_ (fun y1 hs hy1 hl => ?_) (hr := by exact fun y1 hy1 => cN_ _ _ y1 hy1 bp0 1 t1)
 obtain rfl := len0 hl
 refine bW_ ?_
 refine t_N ?_
 refine t_RU 2 ?_
 refine bE_ fun b2 => ?_
 refine af_ 0 ?_
 refine t_N ?_
 refine t_RU 1 ?_
 refine ao_ fun y2 hy2 => ?_
 refine t_N ?_
 refine t_RN ?_
 refine t_RN ?_
 refine t_if (fun hc1 => ?_) fun hc1 => ?_
 ·refine t_RU 1 ?_
  refine t_h Heap.up1 ?_
  refine aQ_ (fun y3 hs hy3 hl => ?_) (hr := by exact fun y3 hy3 => ef_ _ y3 hy3 bp0)
  obtain rfl := len0 hl
  refine bW_ ?_
  refine t_U 1 ?_
  refine a4_ 1 ?_
  refine t_N ?_
  refine d6_ 0 (fun y4 e fr => e = .normal ∧ Sub [(2, .ptr b1 0 0 4), (4, .ptr b2 0 0 4), (28, .bool y4.1)] fr.s ∧ Heap σ0 fr.σ [.box b2 [i4 y1.1, i4 0, .str y3.1, (nt DPattern)], .box bp0 [y4.2.1.t, i4 y4.2.2.1, .int .u64 y4.2.2.2], .box b1 [i4 0, i4 0, .str ⟨#[]⟩, (nt DPattern)], .keep F σk]) (fun y4 e fr h HF => ?_) fun y4 => ?_
  ·obtain ⟨s, σ⟩ := fr
   obtain ⟨rfl, hS, hH⟩ := HF
   refine t_bx h hS hH ?_
   refine t_if (fun hc2 => ?_) fun hc2 => ?_
   ·refine t_RU 1 ?_
    refine a4_ 0 ?_
    refine t_N ?_
    refine t_R ?_
    refine ab_ 0 ?_
    refine af_ 2 ?_
    refine t_N ?_
    intro h s σ hS hH
    obtain rfl := si_1 h
    have hH := Heap.addNil hH true 4
    exact a9_ [(T.row true 0 [])] (bw_ (v := .agg [i4 y1.1, i4 0, .str ⟨#[]⟩, (nt DPattern)]) hS (hH.at 1 rfl) rfl (by kernel_rfl) r_nil) rfl rfl (Heap.sel hH [0, 3, 4] rfl (by kernel_rfl))
   refine t_R ?_
   refine ab_ 0 ?_
   refine af_ 2 ?_
   refine t_N ?_
   intro h s σ hS hH
   obtain rfl := si_1 h
   have hH := Heap.addNil hH true 4
   exact a9_ [(T.row true 0 [])] (bw_ (v := .agg [i4 y1.1, i4 0, .str y3.1, (nt DPattern)]) hS (hH.at 1 rfl) rfl (by kernel_rfl) r_nil) rfl rfl (Heap.sel hH [0, 3, 4] rfl (by kernel_rfl))
  refine t_RU 3 ?_
  refine ay_ 25 (fun hc3 => ?_) fun hc3 => ?_
  ·refine t_U 1 ?_
   refine t_h Heap.up1 ?_
   refine aQ_ (fun y5 hs hy5 hl => ?_) (hr := by exact fun y5 hy5 => cc_ _ _ y5 hy5 bp0)
   obtain rfl := len0 hl
   refine bW_ ?_
   refine t_N ?_
   exact t_e fun he hS hH => he ▸ ⟨rfl, (ad_ hS (by kernel_rfl)), (Heap.sel hH [1, 0, 3, 4] rfl (by kernel_rfl))⟩
  refine t_N ?_
  exact t_e fun he hS hH => he ▸ ⟨rfl, (ad_ hS (by kernel_rfl)), (Heap.sel hH [0, 1, 3, 4] rfl (by kernel_rfl))⟩
 refine t_RN ?_
 refine t_if (fun hc4 => ?_) fun hc4 => ?_
 ·refine t_RU 1 ?_
  refine t_h Heap.up1 ?_
  refine aQ_ (fun y6 hs hy6 hl => ?_) (hr := by exact fun y6 hy6 => a3_ _ _ y6 hy6 bp0)
  obtain rfl := len0 hl
  refine bW_ ?_
  refine t_U 1 ?_
  refine a4_ 1 ?_
  refine t_N ?_
  refine t_R ?_
  refine ab_ 0 ?_
  refine af_ 3 ?_
  refine t_N ?_
  intro h s σ hS hH
  obtain rfl := si_1 h
  have hH := Heap.addNil hH true 4
  exact a9_ [(T.row true 0 [])] (bw_ (v := .agg [i4 y1.1, i4 y6.1, .str ⟨#[]⟩, (nt DPattern)]) hS (hH.at 1 rfl) rfl (by kernel_rfl) r_nil) rfl rfl (Heap.sel hH [0, 3, 5] rfl (by kernel_rfl))
 refine t_RN ?_
 refine t_if (fun hc5 => ?_) fun hc5 => ?_
 ·refine t_RU 1 ?_
  refine t_h Heap.up1 ?_
  refine aQ_ (fun y7 hs hy7 hl => ?_) (hr := by exact fun y7 hy7 => e5_ _ y7 hy7 bp0)
  obtain rfl := len0 hl
  refine bW_ ?_
  refine t_U 1 ?_
  refine a4_ 1 ?_
  refine t_N ?_
  refine t_R ?_
  refine ab_ 0 ?_
  refine af_ 3 ?_
  refine t_N ?_
  intro h s σ hS hH
  obtain rfl := si_1 h
  have hH := Heap.addNil hH true 4
  exact a9_ [(T.row true 0 [])] (bw_ (v := .agg [i4 y1.1, i4 0, .str y7.1, (nt DPattern)]) hS (hH.at 1 rfl) rfl (by kernel_rfl) r_nil) rfl rfl (Heap.sel hH [0, 3, 5] rfl (by kernel_rfl))
 refine t_R ?_
 refine ab_ 0 ?_
 refine af_ 3 ?_
 refine t_N ?_
 intro h s σ hS hH
 obtain rfl := si_1 h
 have hH := Heap.addNil hH true 4
 exact a9_ [(T.row true 0 [])] (bw_ (v := .agg [i4 y1.1, i4 0, .str ⟨#[]⟩, (nt DPattern)]) hS (hH.at 1 rfl) rfl (by kernel_rfl) r_nil) rfl rfl (Heap.sel hH [0, 3, 5] rfl (by kernel_rfl))
def es_ (R : ae_ → Int → Option (DPattern × ae_)) : Prop := ∀ (a0 : ae_) (a1 : Int) (r : (DPattern × ae_)), R a0 a1 = some r → ∀ (bp0 : Nat), RawS Try.prog md ext 64 [.ptr bp0 0 0 3, i4 a1] Sh_DPattern.n (fun hs => Sh_DPattern.tree hs r.1) [.box bp0 (ae_.cells a0)] (fun hs => Sh_DPattern.en hs r.1 ++ [.box bp0 (ae_.cells r.2)])
noncomputable def bf_ (R_64 : ae_ → Int → Option (DPattern × ae_)) (a0 : ae_) (a1 : Int) : Option (DPattern × ae_) := (if (decide (a1 ≤ 0)) = true then ((bd_ a0).bind fun y1 => (some (y1.1, y1.2))) else ((aS_ a0 4).bind fun y2 => (if y2.1 = true then ((bd_ y2.2).bind fun y3 => (some (y3.1, y3.2))) else ((ba_ y2.2 (⟨false, [⟨18⟩, ⟨18⟩, ⟨19⟩, ⟨19⟩, ⟨19⟩, ⟨20⟩, ⟨21⟩, ⟨22⟩]⟩)).bind fun y4 => ((b8_ y4.1).bind fun y5 => ((aE_ (S := (Int × (Sl (Iv .u8)) × Int × Int × (Sl DPattern))) (R := ((Sl (Iv .u8)) × Int × Int × (Sl DPattern))) (fun st1 => (if (decide (st1.1 < y5.1)) = true then ((R_64 (⟨st1.2.1, st1.2.2.1, st1.2.2.2.1⟩ : ae_) (w4 (a1 - 1))).bind fun y7 => ((appS 56 st1.2.2.2.2 (⟨false, [y7.1]⟩ : Sl DPattern)).bind fun y8 => (some (.inl ((w4 (st1.1 + 1)), y7.2.code_, y7.2.at_, y7.2.seed_, y8))))) else (some (.inr (st1.2.1, st1.2.2.1, st1.2.2.2.1, st1.2.2.2.2))))) (0, y4.2.1.code_, y4.2.1.at_, y4.2.1.seed_, (⟨true, []⟩ : Sl DPattern))).bind fun y6 => (if (decide (y5.2 = (⟨#[120]⟩ : ByteArray))) = true then ((bp_ (⟨y6.1, y6.2.1, y6.2.2.1⟩ : ae_)).bind fun y9 => (some ((⟨y4.1, 0, y9.1, y6.2.2.2⟩ : DPattern), y9.2))) else (some ((⟨y4.1, 0, ⟨#[]⟩, y6.2.2.2⟩ : DPattern), (⟨y6.1, y6.2.1, y6.2.2.1⟩ : ae_))))))))))
theorem io_ (R_64 : ae_ → Int → Option (DPattern × ae_)) (hR_64 : es_ R_64) : es_ (bf_ R_64) := by
 intro a0 a1 r h bp0
 unfold bf_ at h
 refine cs_ rfl rfl ok_64 rfl ?_
 intro σ0 σ F σk s hS hH
 have hS := ad_ (L' := [(0, .ptr bp0 0 0 3), (1, i4 a1)]) hS (by kernel_rfl)
 refine t_go h hS hH ?_
 refine t_R ?_
 refine bE_ fun b1 => ?_
 refine t_N ?_
 refine t_RU 3 ?_
 refine ay_ 12 (fun hc1 => ?_) fun hc1 => ?_
 ·refine t_N ?_
  refine t_cT rfl ?_
  refine t_RU 1 ?_
  refine t_h Heap.up1 ?_
  refine aQ_ (fun y1 hs hy1 hl => ?_) (hr := by exact fun y1 hy1 => e3_ _ y1 hy1 bp0)
  obtain ⟨t1, rfl⟩ := len1 hl
  refine bW_ ?_
  refine a5_ 0 fun ht1 => ?_
  refine af_ 2 ?_ (h1 := by simp [ht1.1, ht1.2])
  refine t_N ?_
  intro h s σ hS hH
  obtain rfl := si_1 h
  exact a9_ [t1] (bw_ (v := .agg [i4 y1.1.Kind, i4 y1.1.Num, .str y1.1.Text, t1]) hS hH rfl (by kernel_rfl) r_nil) rfl rfl (Heap.sel hH [1, 2, 3] rfl (by kernel_rfl))
 refine t_U 1 ?_
 refine t_h Heap.up1 ?_
 refine aQ_ (fun y2 hs hy2 hl => ?_) (hr := by exact fun y2 hy2 => cc_ _ _ y2 hy2 bp0)
 obtain rfl := len0 hl
 refine bW_ ?_
 refine t_N ?_
 refine t_if (fun hc2 => ?_) fun hc2 => ?_
 ·refine t_RU 1 ?_
  refine aQ_ (fun y3 hs hy3 hl => ?_) (hr := by exact fun y3 hy3 => e3_ _ y3 hy3 bp0)
  obtain ⟨t2, rfl⟩ := len1 hl
  refine bW_ ?_
  refine a5_ 0 fun ht2 => ?_
  refine af_ 2 ?_ (h1 := by simp [ht2.1, ht2.2])
  refine t_N ?_
  intro h s σ hS hH
  obtain rfl := si_1 h
  exact a9_ [t2] (bw_ (v := .agg [i4 y3.1.Kind, i4 y3.1.Num, .str y3.1.Text, t2]) hS hH rfl (by kernel_rfl) r_nil) rfl rfl (Heap.sel hH [1, 2, 3] rfl (by kernel_rfl))
 refine t_RU 1 ?_
 refine k_bs (z := true) (⟨false, [⟨18⟩, ⟨18⟩, ⟨19⟩, ⟨19⟩, ⟨19⟩, ⟨20⟩, ⟨21⟩, ⟨22⟩]⟩ : Sl (Iv .i64)) (fun t3 ht3 => ?_)
 refine t_h Heap.up1 ?_
 refine aQ_ (fun y4 hs hy4 hl => ?_) (hr := by exact fun y4 hy4 => cN_ _ _ y4 hy4 bp0 1 t3)
 obtain rfl := len0 hl
 refine bW_ ?_
 refine t_N ?_
 refine t_RU 2 ?_
 refine bE_ fun b2 => ?_
 refine af_ 0 ?_
 refine t_N ?_
 refine t_RU 1 ?_
 refine ao_ fun y5 hy5 => ?_
 refine t_N ?_
 refine t_RN ?_
 refine t_h (Heap.addNil · true 4) ?_
 refine br_ (fun st1 fr => ∃ t5, aq_ t5 ∧ Sub [(0, .ptr bp0 0 0 3), (1, i4 a1), (4, .ptr b1 0 0 4), (6, .ptr b2 0 0 4), (7, i4 y5.1), (8, .str y5.2), (9, i4 st1.1)] fr.s ∧ Heap σ0 fr.σ [.box b2 [i4 y4.1, i4 0, .str ⟨#[]⟩, t5], .box bp0 [st1.2.1.t, i4 st1.2.2.1, .int .u64 st1.2.2.2.1], .box b1 [i4 0, i4 0, .str ⟨#[]⟩, (nt DPattern)], .own true 4 t5 st1.2.2.2.2.t, .keep F σk]) (fun y6 e fr => ∃ t6, aq_ t6 ∧ e = (.exit 0) ∧ Sub [(0, .ptr bp0 0 0 3), (4, .ptr b1 0 0 4), (6, .ptr b2 0 0 4), (8, .str y5.2)] fr.s ∧ Heap σ0 fr.σ [.box b2 [i4 y4.1, i4 0, .str ⟨#[]⟩, t6], .box bp0 [y6.1.t, i4 y6.2.1, .int .u64 y6.2.2.1], .box b1 [i4 0, i4 0, .str ⟨#[]⟩, (nt DPattern)], .own true 4 t6 y6.2.2.2.t, .keep F σk]) (fun hS hH => ⟨(T.row true 0 []), ⟨rfl, rfl⟩, (ad_ hS (by kernel_rfl)), (Heap.sel hH [1, 2, 4, 0, 5] rfl (by kernel_rfl))⟩) (fun st1 x fr h HI => ?_) fun y6 e fr h HF => ?_
 ·obtain ⟨s, σ⟩ := fr; obtain ⟨t5, ht5, ⟨hS, hH⟩⟩ := HI
  refine t_bk h hS hH ?_
  refine t_RN ?_
  refine t_if (fun hc3 => ?_) fun hc3 => ?_
  ·refine bQ_ [(5, (RB b2 RN)), (7, RN), (9, RN)] ext_x fun mb σs hn0 hlt hlto => ?_
   have hlt_b2 : b2 < mb := hlt b2 _ (List.Mem.head _)
   refine t_U 1 ?_
   refine ab_ 0 ?_ (hlt := by exact (Or.inr ⟨hlt_b2, (Wc.cons (.inr (Or.inl rfl)) (Wc.cons (.inl (by kernel_rfl)) (Wc.cons (.inl (by kernel_rfl)) Wc.nil)))⟩))
   refine t_U 3 ?_
   refine t_h Heap.up1 ?_
   refine fo_ (RB b2 RN) ext_x (Stay.box (List.Mem.head _) Stay.nil) (by exact fun x hx => Or.inr ⟨5, by kernel_rfl, hx⟩) (fun y7 hs hy7 hl => ?_) (hr := by exact fun y7 hy7 => hR_64 _ _ y7 hy7 bp0)
   obtain ⟨t7, rfl⟩ := len1 hl
   refine bW_ ?_
   refine a5_ 0 fun ht7 => ?_
   refine k_bs (z := true) (⟨false, [y7.1]⟩ : Sl DPattern) (fun t8 ht8 => ?_) (hb := by exact hn0) (h1 := by simp [ht7.1, ht7.2])
   refine pi_ 4 0 (fun y8 t9 hy8 ht9 => ?_) (hb := by exact hn0) (hwr := by exact fun hH b e o n h0 => Or.inr ⟨7, by kernel_rfl, fun h => h⟩)
   refine t_U 1 ?_
   refine bI_ 2 ht9 ?_ (hwr := by exact fun hH => Or.inr ⟨9, by kernel_rfl, fun h => h⟩)
   refine t_N ?_
   refine t_RN ?_
   exact t_e fun he hS hH => he ▸ ⟨t9, ht9, (ad_ hS (by kernel_rfl)), (Heap.sel hH [0, 2, 3, 1, 4] rfl (by kernel_rfl))⟩
  exact t_e fun he hS hH => he ▸ ⟨t5, ht5, rfl, (ad_ hS (by kernel_rfl)), hH⟩
 obtain ⟨s, σ⟩ := fr
 obtain ⟨t6, ht6, ⟨rfl, hS, hH⟩⟩ := HF
 refine t_bx h hS hH ?_
 refine t_RN ?_
 refine t_if (fun hc4 => ?_) fun hc4 => ?_
 ·refine t_RU 1 ?_
  refine t_h Heap.up1 ?_
  refine aQ_ (fun y9 hs hy9 hl => ?_) (hr := by exact fun y9 hy9 => e5_ _ y9 hy9 bp0)
  obtain rfl := len0 hl
  refine bW_ ?_
  refine t_U 1 ?_
  refine a4_ 1 ?_
  refine t_N ?_
  refine t_R ?_
  refine ab_ 0 ?_
  refine af_ 2 ?_ (h1 := by simp [ht6.1, ht6.2])
  refine t_N ?_
  intro h s σ hS hH
  obtain rfl := si_1 h
  exact a9_ [t6] (bw_ (v := .agg [i4 y4.1, i4 0, .str y9.1, t6]) hS hH rfl (by kernel_rfl) r_nil) rfl rfl (Heap.sel hH [3, 2, 4] rfl (by kernel_rfl))
 refine t_R ?_
 refine ab_ 0 ?_
 refine af_ 2 ?_ (h1 := by simp [ht6.1, ht6.2])
 refine t_N ?_
 intro h s σ hS hH
 obtain rfl := si_1 h
 exact a9_ [t6] (bw_ (v := .agg [i4 y4.1, i4 0, .str ⟨#[]⟩, t6]) hS hH rfl (by kernel_rfl) r_nil) rfl rfl (Heap.sel hH [3, 2, 4] rfl (by kernel_rfl))
noncomputable def BG_spec_l11Draw : Nat → (ae_ → Int → Option (DPattern × ae_))
 | 0 => (fun _ _ => none)
 | n + 1 => bf_ (BG_spec_l11Draw n)
theorem uBG_spec_l11Draw : ∀ n, es_ ((BG_spec_l11Draw n))
 | 0 => (by intro _ _ r h; have h : none = some r := h; cases h)
 | n + 1 => io_ (BG_spec_l11Draw n) (uBG_spec_l11Draw n)
noncomputable def dF_ (a0 : ae_) (a1 : Int) : Option (DPattern × ae_) := (BG_spec_l11Draw bigN) a0 a1
theorem i6_ (a0 : ae_) (a1 : Int) (r : (DPattern × ae_)) (h : dF_ a0 a1 = some r) (bp0 : Nat) : RawS Try.prog md ext 64 [.ptr bp0 0 0 3, i4 a1] Sh_DPattern.n (fun hs => Sh_DPattern.tree hs r.1) [.box bp0 (ae_.cells a0)] (fun hs => Sh_DPattern.en hs r.1 ++ [.box bp0 (ae_.cells r.2)]) := (uBG_spec_l11Draw bigN) a0 a1 r h bp0
noncomputable def cE_ (a0 : ae_) : Option ((Sl DNamed) × ae_) := ((aE_ (S := (Int × (Sl (Iv .u8)) × Int × Int × (Sl DNamed))) (R := ((Sl (Iv .u8)) × Int × Int × (Sl DNamed))) (fun st1 => (if (decide (st1.1 < 5)) = true then ((aS_ (⟨st1.2.1, st1.2.2.1, st1.2.2.2.1⟩ : ae_) 3).bind fun y2 => (if (!y2.1) = true then ((elt (⟨false, [⟨#[120]⟩, ⟨#[121]⟩, ⟨#[122]⟩, ⟨#[80, 97, 116]⟩, ⟨#[97, 95, 49]⟩]⟩ : Sl ByteArray) st1.1).bind fun y3 => ((au_ y2.2 4).bind fun y4 => ((dF_ y4.2 y4.1).bind fun y5 => ((appS 72 st1.2.2.2.2 (⟨false, [(⟨y3, y5.1⟩ : DNamed)]⟩ : Sl DNamed)).bind fun y6 => (some (.inl ((w4 (st1.1 + 1)), y5.2.code_, y5.2.at_, y5.2.seed_, y6))))))) else (some (.inl ((w4 (st1.1 + 1)), y2.2.code_, y2.2.at_, y2.2.seed_, st1.2.2.2.2))))) else (some (.inr (st1.2.1, st1.2.2.1, st1.2.2.2.1, st1.2.2.2.2))))) (0, a0.code_, a0.at_, a0.seed_, (⟨false, []⟩ : Sl DNamed))).bind fun y1 => (some (y1.2.2.2, (⟨y1.1, y1.2.1, y1.2.2.1⟩ : ae_))))
theorem kr_ (a0 : ae_) (r : ((Sl DNamed) × ae_)) (h : cE_ a0 = some r) (bp0 : Nat) : RawS Try.prog md ext 89 [.ptr bp0 0 0 3] Sh_sl_DNamed.n (fun hs => Sh_sl_DNamed.tree hs r.1) [.box bp0 (ae_.cells a0)] (fun hs => Sh_sl_DNamed.en hs r.1 ++ [.box bp0 (ae_.cells r.2)]) := by
 unfold cE_ at h
 refine cs_ rfl rfl ok_89 rfl ?_
 intro σ0 σ F σk s hS hH
 have hS := ad_ (L' := [(0, .ptr bp0 0 0 3)]) hS (by kernel_rfl)
 refine t_go h hS hH ?_
 refine t_RN ?_
 refine t_R ?_
 refine us_ (α := DNamed) (fun t1 ht1 => ?_)
 refine t_N ?_
 refine t_R ?_
 refine k_bs (z := true) (⟨false, [⟨#[120]⟩, ⟨#[121]⟩, ⟨#[122]⟩, ⟨#[80, 97, 116]⟩, ⟨#[97, 95, 49]⟩]⟩ : Sl ByteArray) (fun t2 ht2 => ?_)
 refine t_N ?_
 refine t_RN ?_
 refine br_ (fun st1 fr => ∃ t4, aq_ t4 ∧ Sub [(0, .ptr bp0 0 0 3), (3, t4), (4, t2), (5, i4 st1.1)] fr.s ∧ Heap σ0 fr.σ [.box bp0 [st1.2.1.t, i4 st1.2.2.1, .int .u64 st1.2.2.2.1], .own true 5 t4 st1.2.2.2.2.t, .own true 1 t2 (Sl.t (⟨false, [⟨#[120]⟩, ⟨#[121]⟩, ⟨#[122]⟩, ⟨#[80, 97, 116]⟩, ⟨#[97, 95, 49]⟩]⟩ : Sl ByteArray)), .keep F σk]) (fun y1 e fr => ∃ t5, aq_ t5 ∧ e = (.exit 0) ∧ Sub [(3, t5)] fr.s ∧ Heap σ0 fr.σ [.box bp0 [y1.1.t, i4 y1.2.1, .int .u64 y1.2.2.1], .own true 5 t5 y1.2.2.2.t, .keep F σk]) (fun hS hH => ⟨t1, ht1, (ad_ hS (by kernel_rfl)), (Heap.sel hH [2, 1, 0, 3] rfl (by kernel_rfl))⟩) (fun st1 x fr h HI => ?_) fun y1 e fr h HF => ?_
 ·obtain ⟨s, σ⟩ := fr; obtain ⟨t4, ht4, ⟨hS, hH⟩⟩ := HI
  refine t_bk h hS hH ?_
  refine t_RN ?_
  refine t_if (fun hc1 => ?_) fun hc1 => ?_
  ·refine t_RU 1 ?_
   refine aQ_ (fun y2 hs hy2 hl => ?_) (hr := by exact fun y2 hy2 => cc_ _ _ y2 hy2 bp0)
   obtain rfl := len0 hl
   refine bW_ ?_
   refine t_N ?_
   refine t_if (fun hc2 => ?_) fun hc2 => ?_
   ·refine bQ_ [(7, (RT t2 RN)), (8, (RT t2 RN)), (11, RN)] ext_x fun mb σs hn0 hlt hlto => ?_
    have hlt_t2 : ∀ b e o n, t2 = .ref b e o n → b < mb := fun b e o n h => hlto _ _ _ _ (List.Mem.tail _ (List.Mem.tail _ (List.Mem.head _))) b e o n h
    refine t_U 3 ?_
    refine nI_ 2 (fun hb1 hb1e y3 hy3 hl_hb1 => ?_) (hlt := by exact (fun b e o n h => Or.inr ⟨hlt_t2 b e o n h, (Wc.cons (.inr (Or.inl ⟨_, _, _, h⟩)) (Wc.cons (.inr (Or.inl ⟨_, _, _, h⟩)) (Wc.cons (.inl (by kernel_rfl)) Wc.nil)))⟩))
    refine lQ_ 2 0 hl_hb1 hy3 ?_ (hlt := by exact (fun b e o n h => Or.inr ⟨hlt_t2 b e o n h, (Wc.cons (.inr (Or.inl ⟨_, _, _, h⟩)) (Wc.cons (.inr (Or.inl ⟨_, _, _, h⟩)) (Wc.cons (.inl (by kernel_rfl)) Wc.nil)))⟩))
    refine t_U 2 ?_
    refine fo_ (RT t2 RN) ext_x (Stay.own (List.Mem.tail _ (List.Mem.head _)) Stay.nil) (by exact fun x hx => Or.inr ⟨7, by kernel_rfl, hx⟩) (fun y4 hs hy4 hl => ?_) (hr := by exact fun y4 hy4 => a3_ _ _ y4 hy4 bp0)
    obtain rfl := len0 hl
    refine bW_ ?_
    refine fo_ (RT t2 RN) ext_x (Stay.own (List.Mem.tail _ (List.Mem.head _)) Stay.nil) (by exact fun x hx => Or.inr ⟨8, by kernel_rfl, hx⟩) (fun y5 hs hy5 hl => ?_) (hr := by exact fun y5 hy5 => i6_ _ _ y5 hy5 bp0)
    obtain ⟨t6, rfl⟩ := len1 hl
    refine bW_ ?_
    refine a5_ 0 fun ht6 => ?_
    intro h s σ hS hH
    refine iA_ (qs := [(0, .str y3), (1, .agg [i4 y5.1.Kind, i4 y5.1.Num, .str y5.1.Text, t6])]) (z := [.str ⟨#[]⟩, i4 0, i4 0, .str ⟨#[]⟩, (nt DPattern)]) (r := [.str y3, i4 y5.1.Kind, i4 y5.1.Num, .str y5.1.Text, t6]) [[.str y3], [i4 y5.1.Kind, i4 y5.1.Num, .str y5.1.Text, t6]] rfl hS rfl (by kernel_rfl) (by kernel_rfl) (⟨rfl, (by kernel_rfl), rfl, (by simp [ht6.1, ht6.2]), trivial⟩) (by kernel_rfl) ?_; intro s hS
    refine t_bk h hS hH ?_
    refine k_bs (z := true) (⟨false, [(⟨y3, y5.1⟩ : DNamed)]⟩ : Sl DNamed) (fun t7 ht7 => ?_) (hb := by exact hn0) (h1 := by simp [ht6.1, ht6.2])
    refine pi_ 2 0 (fun y6 t8 hy6 ht8 => ?_) (hb := by exact hn0) (hwr := by exact fun hH b e o n h0 => Or.inr ⟨11, by kernel_rfl, fun h => h⟩)
    refine t_N ?_
    refine t_RN ?_
    exact t_e fun he hS hH => he ▸ ⟨t8, ht8, (ad_ hS (by kernel_rfl)), (Heap.sel hH [1, 0, 2, 3] rfl (by kernel_rfl))⟩
   refine t_RN ?_
   exact t_e fun he hS hH => he ▸ ⟨t4, ht4, (ad_ hS (by kernel_rfl)), hH⟩
  exact t_e fun he hS hH => he ▸ ⟨t4, ht4, rfl, (ad_ hS (by kernel_rfl)), (Heap.sel hH [0, 1, 3] rfl (by kernel_rfl))⟩
 obtain ⟨s, σ⟩ := fr
 obtain ⟨t5, ht5, ⟨rfl, hS, hH⟩⟩ := HF
 refine t_bx h hS hH ?_
 refine t_RN ?_
 intro h s σ hS hH
 obtain rfl := si_1 h
 exact a9_ [t5] (bF_ (v := t5) hS rfl r_nil) rfl rfl (Heap.sel hH [1, 0, 2] rfl (by kernel_rfl))
noncomputable def fY_ (a0 : (Sl (Iv .u8))) : Option (Sl DNamed) := ((cE_ (⟨a0, 0, 0⟩ : ae_)).bind fun y1 => (some y1.1))
theorem lt_ (a0 : (Sl (Iv .u8))) (r : (Sl DNamed)) (h : fY_ a0 = some r) : gc_ a0 = some r := by
 unfold fY_ at h
 refine k_W ok_48 E_sl_DNamed_inj h (fun σ0 => ?_)
 refine t_RN ?_
 refine t_RU 1 ?_
 refine fM_ ok_62 ?_
 refine t_RN ?_
 refine t_RU 2 ?_
 refine cA_ (fun b1 => ?_)
 refine t_N ?_
 refine k_eI (rT rN) ?_
 refine t_N ?_
 refine t_RU 1 ?_
 refine aQ_ (fun y1 hs hy1 hl => ?_) (hr := by exact fun y1 hy1 => kr_ _ y1 hy1 b1)
 obtain ⟨t1, rfl⟩ := len1 hl
 refine bW_ ?_
 refine a5_ 0 fun ht1 => ?_
 refine t_N ?_
 intro h s σ hS hH
 obtain rfl := si_1 h
 exact l0_ (ents := [.own true 5 t1 y1.1.t]) (z := false) hH (bF_ (v := t1) hS rfl r_nil) (HL.own rfl HL.nil) (by simp [pureT, pureL, E_sl_DNamed])
def dV_ (R : ae_ → Int → Option (DPattern × ae_)) : Prop := ∀ (a0 : ae_) (a1 : Int) (r : (DPattern × ae_)), R a0 a1 = some r → ∀ (bp0 : Nat), RawS Try.prog md ext 98 [.ptr bp0 0 0 3, i4 a1] Sh_DPattern.n (fun hs => Sh_DPattern.tree hs r.1) [.box bp0 (ae_.cells a0)] (fun hs => Sh_DPattern.en hs r.1 ++ [.box bp0 (ae_.cells r.2)])
noncomputable def a6_ (R_98 : ae_ → Int → Option (DPattern × ae_)) (a0 : ae_) (a1 : Int) : Option (DPattern × ae_) := (((if (decide (a1 ≤ 0)) = true then (some (true, a0.code_, a0.at_, a0.seed_)) else ((aS_ a0 4).bind fun y11 => (some (y11.1, y11.2.code_, y11.2.at_, y11.2.seed_)))) : Option (Bool × (Sl (Iv .u8)) × Int × Int)).bind fun y1 => (if y1.1 = true then ((au_ (⟨y1.2.1, y1.2.2.1, y1.2.2.2⟩ : ae_) 6).bind fun y2 => (if (decide (y2.1 = 0)) = true then (some ((⟨16, 0, ⟨#[]⟩, ⟨true, []⟩⟩ : DPattern), y2.2)) else (if (decide (y2.1 = 1)) = true then (some ((⟨6, 0, ⟨#[]⟩, ⟨true, []⟩⟩ : DPattern), y2.2)) else (if (decide (y2.1 = 2)) = true then (some ((⟨15, 0, ⟨#[]⟩, ⟨true, []⟩⟩ : DPattern), y2.2)) else (if (decide (y2.1 = 3)) = true then (some ((⟨1, 0, ⟨#[]⟩, ⟨true, []⟩⟩ : DPattern), y2.2)) else (if (decide (y2.1 = 4)) = true then ((bd_ y2.2).bind fun y3 => (some (y3.1, y3.2))) else ((aU_ y2.2).bind fun y4 => (some ((⟨1, 0, y4.1, ⟨true, []⟩⟩ : DPattern), y4.2))))))))) else ((ba_ (⟨y1.2.1, y1.2.2.1, y1.2.2.2⟩ : ae_) (⟨false, [⟨18⟩, ⟨19⟩, ⟨19⟩, ⟨20⟩, ⟨21⟩, ⟨22⟩]⟩)).bind fun y5 => ((b8_ y5.1).bind fun y6 => ((aE_ (S := (Int × (Sl (Iv .u8)) × Int × Int × (Sl DPattern))) (R := ((Sl (Iv .u8)) × Int × Int × (Sl DPattern))) (fun st1 => (if (decide (st1.1 < y6.1)) = true then ((R_98 (⟨st1.2.1, st1.2.2.1, st1.2.2.2.1⟩ : ae_) (w4 (a1 - 1))).bind fun y8 => ((appS 56 st1.2.2.2.2 (⟨false, [y8.1]⟩ : Sl DPattern)).bind fun y9 => (some (.inl ((w4 (st1.1 + 1)), y8.2.code_, y8.2.at_, y8.2.seed_, y9))))) else (some (.inr (st1.2.1, st1.2.2.1, st1.2.2.2.1, st1.2.2.2.2))))) (0, y5.2.1.code_, y5.2.1.at_, y5.2.1.seed_, (⟨true, []⟩ : Sl DPattern))).bind fun y7 => (if (decide (y6.2 = (⟨#[120]⟩ : ByteArray))) = true then ((bp_ (⟨y7.1, y7.2.1, y7.2.2.1⟩ : ae_)).bind fun y10 => (some ((⟨y5.1, 0, y10.1, y7.2.2.2⟩ : DPattern), y10.2))) else (some ((⟨y5.1, 0, ⟨#[]⟩, y7.2.2.2⟩ : DPattern), (⟨y7.1, y7.2.1, y7.2.2.1⟩ : ae_)))))))))
theorem hZ_ (R_98 : ae_ → Int → Option (DPattern × ae_)) (hR_98 : dV_ R_98) : dV_ (a6_ R_98) := by
 intro a0 a1 r h bp0
 unfold a6_ at h
 refine cs_ rfl rfl ok_98 rfl ?_
 intro σ0 σ F σk s hS hH
 have hS := ad_ (L' := [(0, .ptr bp0 0 0 3), (1, i4 a1)]) hS (by kernel_rfl)
 refine t_go h hS hH ?_
 refine t_R ?_
 refine bE_ fun b1 => ?_
 refine t_N ?_
 refine d6_ 0 (fun y1 e fr => e = .normal ∧ Sub [(0, .ptr bp0 0 0 3), (1, i4 a1), (4, .ptr b1 0 0 4), (15, .bool y1.1)] fr.s ∧ Heap σ0 fr.σ [.box b1 [i4 0, i4 0, .str ⟨#[]⟩, (nt DPattern)], .box bp0 [y1.2.1.t, i4 y1.2.2.1, .int .u64 y1.2.2.2], .keep F σk]) (fun y1 e fr h HF => ?_) fun y1 => ?_
 ·obtain ⟨s, σ⟩ := fr
  obtain ⟨rfl, hS, hH⟩ := HF
  refine t_bx h hS hH ?_
  refine t_if (fun hc1 => ?_) fun hc1 => ?_
  ·refine t_RU 1 ?_
   refine t_h Heap.up1 ?_
   refine aQ_ (fun y2 hs hy2 hl => ?_) (hr := by exact fun y2 hy2 => a3_ _ _ y2 hy2 bp0)
   obtain rfl := len0 hl
   refine bW_ ?_
   refine t_N ?_
   refine t_RN ?_
   refine t_if (fun hc2 => ?_) fun hc2 => ?_
   ·refine t_RU 1 ?_
    refine af_ 1 ?_
    refine t_N ?_
    intro h s σ hS hH
    obtain rfl := si_1 h
    have hH := Heap.addNil hH true 4
    exact a9_ [(T.row true 0 [])] (bw_ (v := .agg [i4 16, i4 0, .str ⟨#[]⟩, (nt DPattern)]) hS (hH.at 1 rfl) rfl (by kernel_rfl) r_nil) rfl rfl (Heap.sel hH [0, 2, 3] rfl (by kernel_rfl))
   refine t_RN ?_
   refine t_if (fun hc3 => ?_) fun hc3 => ?_
   ·refine t_RU 1 ?_
    refine af_ 1 ?_
    refine t_N ?_
    intro h s σ hS hH
    obtain rfl := si_1 h
    have hH := Heap.addNil hH true 4
    exact a9_ [(T.row true 0 [])] (bw_ (v := .agg [i4 6, i4 0, .str ⟨#[]⟩, (nt DPattern)]) hS (hH.at 1 rfl) rfl (by kernel_rfl) r_nil) rfl rfl (Heap.sel hH [0, 2, 3] rfl (by kernel_rfl))
   refine t_RN ?_
   refine t_if (fun hc4 => ?_) fun hc4 => ?_
   ·refine t_RU 1 ?_
    refine af_ 1 ?_
    refine t_N ?_
    intro h s σ hS hH
    obtain rfl := si_1 h
    have hH := Heap.addNil hH true 4
    exact a9_ [(T.row true 0 [])] (bw_ (v := .agg [i4 15, i4 0, .str ⟨#[]⟩, (nt DPattern)]) hS (hH.at 1 rfl) rfl (by kernel_rfl) r_nil) rfl rfl (Heap.sel hH [0, 2, 3] rfl (by kernel_rfl))
   refine t_RN ?_
   refine t_if (fun hc5 => ?_) fun hc5 => ?_
   ·refine t_RU 1 ?_
    refine af_ 1 ?_
    refine t_N ?_
    intro h s σ hS hH
    obtain rfl := si_1 h
    have hH := Heap.addNil hH true 4
    exact a9_ [(T.row true 0 [])] (bw_ (v := .agg [i4 1, i4 0, .str ⟨#[]⟩, (nt DPattern)]) hS (hH.at 1 rfl) rfl (by kernel_rfl) r_nil) rfl rfl (Heap.sel hH [0, 2, 3] rfl (by kernel_rfl))
   refine t_RN ?_
   refine t_if (fun hc6 => ?_) fun hc6 => ?_
   ·refine t_RU 1 ?_
    refine aQ_ (fun y3 hs hy3 hl => ?_) (hr := by exact fun y3 hy3 => e3_ _ y3 hy3 bp0)
    obtain ⟨t1, rfl⟩ := len1 hl
    refine bW_ ?_
    refine a5_ 0 fun ht1 => ?_
    refine af_ 2 ?_ (h1 := by simp [ht1.1, ht1.2])
    refine t_N ?_
    intro h s σ hS hH
    obtain rfl := si_1 h
    exact a9_ [t1] (bw_ (v := .agg [i4 y3.1.Kind, i4 y3.1.Num, .str y3.1.Text, t1]) hS hH rfl (by kernel_rfl) r_nil) rfl rfl (Heap.sel hH [1, 2, 3] rfl (by kernel_rfl))
   refine t_RU 1 ?_
   refine aQ_ (fun y4 hs hy4 hl => ?_) (hr := by exact fun y4 hy4 => ef_ _ y4 hy4 bp0)
   obtain rfl := len0 hl
   refine bW_ ?_
   refine t_U 1 ?_
   refine af_ 1 ?_
   refine t_N ?_
   intro h s σ hS hH
   obtain rfl := si_1 h
   have hH := Heap.addNil hH true 4
   exact a9_ [(T.row true 0 [])] (bw_ (v := .agg [i4 1, i4 0, .str y4.1, (nt DPattern)]) hS (hH.at 1 rfl) rfl (by kernel_rfl) r_nil) rfl rfl (Heap.sel hH [0, 2, 3] rfl (by kernel_rfl))
  refine t_RU 1 ?_
  refine k_bs (z := true) (⟨false, [⟨18⟩, ⟨19⟩, ⟨19⟩, ⟨20⟩, ⟨21⟩, ⟨22⟩]⟩ : Sl (Iv .i64)) (fun t2 ht2 => ?_)
  refine t_h Heap.up2 ?_
  refine aQ_ (fun y5 hs hy5 hl => ?_) (hr := by exact fun y5 hy5 => cN_ _ _ y5 hy5 bp0 1 t2)
  obtain rfl := len0 hl
  refine bW_ ?_
  refine t_N ?_
  refine t_RU 2 ?_
  refine bE_ fun b2 => ?_
  refine af_ 0 ?_
  refine t_N ?_
  refine t_RU 1 ?_
  refine ao_ fun y6 hy6 => ?_
  refine t_N ?_
  refine t_RN ?_
  refine t_h (Heap.addNil · true 4) ?_
  refine br_ (fun st1 fr => ∃ t4, aq_ t4 ∧ Sub [(0, .ptr bp0 0 0 3), (1, i4 a1), (4, .ptr b1 0 0 4), (6, .ptr b2 0 0 4), (7, i4 y6.1), (8, .str y6.2), (9, i4 st1.1)] fr.s ∧ Heap σ0 fr.σ [.box b2 [i4 y5.1, i4 0, .str ⟨#[]⟩, t4], .box bp0 [st1.2.1.t, i4 st1.2.2.1, .int .u64 st1.2.2.2.1], .box b1 [i4 0, i4 0, .str ⟨#[]⟩, (nt DPattern)], .own true 4 t4 st1.2.2.2.2.t, .keep F σk]) (fun y7 e fr => ∃ t5, aq_ t5 ∧ e = (.exit 1) ∧ Sub [(0, .ptr bp0 0 0 3), (4, .ptr b1 0 0 4), (6, .ptr b2 0 0 4), (8, .str y6.2)] fr.s ∧ Heap σ0 fr.σ [.box b2 [i4 y5.1, i4 0, .str ⟨#[]⟩, t5], .box bp0 [y7.1.t, i4 y7.2.1, .int .u64 y7.2.2.1], .box b1 [i4 0, i4 0, .str ⟨#[]⟩, (nt DPattern)], .own true 4 t5 y7.2.2.2.t, .keep F σk]) (fun hS hH => ⟨(T.row true 0 []), ⟨rfl, rfl⟩, (ad_ hS (by kernel_rfl)), (Heap.sel hH [1, 2, 4, 0, 5] rfl (by kernel_rfl))⟩) (fun st1 x fr h HI => ?_) fun y7 e fr h HF => ?_
  ·obtain ⟨s, σ⟩ := fr; obtain ⟨t4, ht4, ⟨hS, hH⟩⟩ := HI
   refine t_bk h hS hH ?_
   refine t_RN ?_
   refine t_if (fun hc7 => ?_) fun hc7 => ?_
   ·refine bQ_ [(5, (RB b2 RN)), (7, RN), (9, RN)] ext_x fun mb σs hn0 hlt hlto => ?_
    have hlt_b2 : b2 < mb := hlt b2 _ (List.Mem.head _)
    refine t_U 1 ?_
    refine ab_ 0 ?_ (hlt := by exact (Or.inr ⟨hlt_b2, (Wc.cons (.inr (Or.inl rfl)) (Wc.cons (.inl (by kernel_rfl)) (Wc.cons (.inl (by kernel_rfl)) Wc.nil)))⟩))
    refine t_U 3 ?_
    refine t_h Heap.up1 ?_
    refine fo_ (RB b2 RN) ext_x (Stay.box (List.Mem.head _) Stay.nil) (by exact fun x hx => Or.inr ⟨5, by kernel_rfl, hx⟩) (fun y8 hs hy8 hl => ?_) (hr := by exact fun y8 hy8 => hR_98 _ _ y8 hy8 bp0)
    obtain ⟨t6, rfl⟩ := len1 hl
    refine bW_ ?_
    refine a5_ 0 fun ht6 => ?_
    refine k_bs (z := true) (⟨false, [y8.1]⟩ : Sl DPattern) (fun t7 ht7 => ?_) (hb := by exact hn0) (h1 := by simp [ht6.1, ht6.2])
    refine pi_ 4 0 (fun y9 t8 hy9 ht8 => ?_) (hb := by exact hn0) (hwr := by exact fun hH b e o n h0 => Or.inr ⟨7, by kernel_rfl, fun h => h⟩)
    refine t_U 1 ?_
    refine bI_ 2 ht8 ?_ (hwr := by exact fun hH => Or.inr ⟨9, by kernel_rfl, fun h => h⟩)
    refine t_N ?_
    refine t_RN ?_
    exact t_e fun he hS hH => he ▸ ⟨t8, ht8, (ad_ hS (by kernel_rfl)), (Heap.sel hH [0, 2, 3, 1, 4] rfl (by kernel_rfl))⟩
   exact t_e fun he hS hH => he ▸ ⟨t4, ht4, rfl, (ad_ hS (by kernel_rfl)), hH⟩
  obtain ⟨s, σ⟩ := fr
  obtain ⟨t5, ht5, ⟨rfl, hS, hH⟩⟩ := HF
  refine t_bx h hS hH ?_
  refine t_RN ?_
  refine t_if (fun hc8 => ?_) fun hc8 => ?_
  ·refine t_RU 1 ?_
   refine t_h Heap.up1 ?_
   refine aQ_ (fun y10 hs hy10 hl => ?_) (hr := by exact fun y10 hy10 => e5_ _ y10 hy10 bp0)
   obtain rfl := len0 hl
   refine bW_ ?_
   refine t_U 1 ?_
   refine a4_ 1 ?_
   refine t_N ?_
   refine t_R ?_
   refine ab_ 0 ?_
   refine af_ 2 ?_ (h1 := by simp [ht5.1, ht5.2])
   refine t_N ?_
   intro h s σ hS hH
   obtain rfl := si_1 h
   exact a9_ [t5] (bw_ (v := .agg [i4 y5.1, i4 0, .str y10.1, t5]) hS hH rfl (by kernel_rfl) r_nil) rfl rfl (Heap.sel hH [3, 2, 4] rfl (by kernel_rfl))
  refine t_R ?_
  refine ab_ 0 ?_
  refine af_ 2 ?_ (h1 := by simp [ht5.1, ht5.2])
  refine t_N ?_
  intro h s σ hS hH
  obtain rfl := si_1 h
  exact a9_ [t5] (bw_ (v := .agg [i4 y5.1, i4 0, .str ⟨#[]⟩, t5]) hS hH rfl (by kernel_rfl) r_nil) rfl rfl (Heap.sel hH [3, 2, 4] rfl (by kernel_rfl))
 refine t_RU 3 ?_
 refine ay_ 12 (fun hc9 => ?_) fun hc9 => ?_
 ·refine t_N ?_
  exact t_e fun he hS hH => by subst he; exact ⟨rfl, (ad_ hS (by kernel_rfl)), hH⟩
 refine t_U 1 ?_
 refine t_h Heap.up1 ?_
 refine aQ_ (fun y11 hs hy11 hl => ?_) (hr := by exact fun y11 hy11 => cc_ _ _ y11 hy11 bp0)
 obtain rfl := len0 hl
 refine bW_ ?_
 refine t_N ?_
 exact t_e fun he hS hH => he ▸ ⟨rfl, (ad_ hS (by kernel_rfl)), (Heap.sel hH [1, 0, 2] rfl (by kernel_rfl))⟩
noncomputable def BG_spec_l15Plain : Nat → (ae_ → Int → Option (DPattern × ae_))
 | 0 => (fun _ _ => none)
 | n + 1 => a6_ (BG_spec_l15Plain n)
theorem uBG_spec_l15Plain : ∀ n, dV_ ((BG_spec_l15Plain n))
 | 0 => (by intro _ _ r h; have h : none = some r := h; cases h)
 | n + 1 => hZ_ (BG_spec_l15Plain n) (uBG_spec_l15Plain n)
noncomputable def ee_ (a0 : ae_) (a1 : Int) : Option (DPattern × ae_) := (BG_spec_l15Plain bigN) a0 a1
theorem is_ (a0 : ae_) (a1 : Int) (r : (DPattern × ae_)) (h : ee_ a0 a1 = some r) (bp0 : Nat) : RawS Try.prog md ext 98 [.ptr bp0 0 0 3, i4 a1] Sh_DPattern.n (fun hs => Sh_DPattern.tree hs r.1) [.box bp0 (ae_.cells a0)] (fun hs => Sh_DPattern.en hs r.1 ++ [.box bp0 (ae_.cells r.2)]) := (uBG_spec_l15Plain bigN) a0 a1 r h bp0
noncomputable def e6_ (a0 : (Sl (Iv .u8))) : Option DPattern := ((au_ (⟨a0, 0, 0⟩ : ae_) 5).bind fun y1 => ((ee_ y1.2 y1.1).bind fun y2 => (some y2.1)))
theorem i9_ (a0 : (Sl (Iv .u8))) (r : DPattern) (h : e6_ a0 = some r) : e2_ a0 = some r := by
 unfold e6_ at h
 refine k_W ok_51 E_DPattern_inj h (fun σ0 => ?_)
 refine t_R ?_
 refine bE_ fun b1 => ?_
 refine t_N ?_
 refine t_RU 1 ?_
 refine fM_ ok_62 ?_
 refine t_RN ?_
 refine t_RU 2 ?_
 refine cA_ (fun b2 => ?_)
 refine t_N ?_
 refine k_eI (rT rN) ?_
 refine t_N ?_
 refine t_RU 2 ?_
 refine aQ_ (fun y1 hs hy1 hl => ?_) (hr := by exact fun y1 hy1 => a3_ _ _ y1 hy1 b2)
 obtain rfl := len0 hl
 refine bW_ ?_
 refine aQ_ (fun y2 hs hy2 hl => ?_) (hr := by exact fun y2 hy2 => is_ _ _ y2 hy2 b2)
 obtain ⟨t1, rfl⟩ := len1 hl
 refine bW_ ?_
 refine a5_ 0 fun ht1 => ?_
 refine af_ 2 ?_ (h1 := by simp [ht1.1, ht1.2])
 refine t_N ?_
 intro h s σ hS hH
 obtain rfl := si_1 h
 have hH := hH.up1
 exact l0_ (ents := [.own true 4 t1 y2.1.Kids.t]) (z := false) hH (bw_ (v := .agg [i4 y2.1.Kind, i4 y2.1.Num, .str y2.1.Text, t1]) hS (hH.at 1 rfl) rfl (by kernel_rfl) r_nil) (HL.agg (es1 := [.own true 4 t1 y2.1.Kids.t]) (es2 := []) (HLi (HLi (HLs (HL.own rfl HL.nil)))) HL.nil) (by simp [pureT, pureL, E_DPattern])
noncomputable def cq_ (a0 : DPattern) : Option DPattern := ((a8_ a0).bind fun y1 => (if (!y1) = true then (some (⟨0, 0, ⟨#[]⟩, ⟨true, []⟩⟩ : DPattern)) else ((ar_ a0).bind fun y2 => (some y2))))
theorem fN_ (a0 : DPattern) (r : DPattern) (h : cq_ a0 = some r) : bT_ a0 = some r := by
 unfold cq_ at h
 refine k_W ok_52 E_DPattern_inj h (fun σ0 => ?_)
 refine t_R ?_
 refine cA_ (fun b1 => ?_)
 refine bE_ fun b2 => ?_
 refine t_N ?_
 refine t_R ?_
 refine ab_ 1 ?_
 refine ao_ fun y1 hy1 => ?_
 refine t_N ?_
 refine t_if (fun hc1 => ?_) fun hc1 => ?_
 ·refine t_RU 1 ?_
  refine af_ 0 ?_
  refine t_N ?_
  exact k_eW (rC 0 rN) E_DPattern_p
 refine t_R ?_
 refine ab_ 1 ?_
 refine ao_ fun y2 hy2 => ?_
 refine af_ 0 ?_
 refine t_N ?_
 exact k_eW (rC 0 rN) E_DPattern_p
noncomputable def cM_ (a0 : DPattern) : Option Bool := ((aB_ a0 0).bind fun y1 => (some (decide (y1 ≤ 60))))
theorem gD_ (a0 : DPattern) (r : Bool) (h : cM_ a0 = some r) : a8_ a0 = some r := by
 unfold cM_ at h
 refine k_W ok_53 E_bool_inj h (fun σ0 => ?_)
 refine t_R ?_
 refine cA_ (fun b1 => ?_)
 refine t_N ?_
 refine t_R ?_
 refine ab_ 0 ?_
 refine ao_ fun y1 hy1 => ?_
 refine t_N ?_
 exact k_eW (rT rN) E_bool_p
noncomputable def bZ_ (a0 : (Sl DPattern)) (a1 : (Sl DPattern)) (a2 : T) : Option Bool := (if flat1 a2 = true then (if ((!decide ((a0.l.length : Int) = (a1.l.length : Int)))) = true then (some false) else ((aE_ (S := Int) (R := (Unit ⊕ Bool)) (fun st1 => (if (decide (st1 < (a0.l.length : Int))) = true then ((elt a0 st1).bind fun y2 => ((elt a1 st1).bind fun y3 => ((g4_ Try.prog md ext E_bool a2 [.agg [i4 y2.Kind, i4 y2.Num, .str y2.Text, y2.Kids.t], .agg [i4 y3.Kind, i4 y3.Num, .str y3.Text, y3.Kids.t]]).bind fun y4 => (if (!y4) = true then (some (.inr (.inr false))) else (some (.inl (w4 (st1 + 1)))))))) else (some (.inr (.inl ()))))) 0).bind fun y1 => (Sum.elim (fun y1 => (some true)) (fun y1 => (some y1)) y1))) else none)
theorem eB_ (a0 : (Sl DPattern)) (a1 : (Sl DPattern)) (a2 : T) (r : Bool) (h : bZ_ a0 a1 a2 = some r) : b1_ a0 a1 a2 = some r := by
 unfold bZ_ at h
 obtain ⟨hf_a2, h⟩ := hj_ h
 refine k_W ok_68 E_bool_inj h (fun σ0 => ?_) (hf := (all_cons (by kernel_rfl) (all_cons (by kernel_rfl) (all_cons (ia_ hf_a2) all_nil))))
 refine t_RN ?_
 refine t_RN ?_
 refine t_if (fun hc1 => ?_) fun hc1 => ?_
 ·refine t_RN ?_
  exact k_eW (rT rN) E_bool_p
 refine t_RN ?_
 refine br_ (fun st1 fr => Sub [(1, a1.t), (2, a2), (15, a0.t), (16, i4 (a0.l.length : Int)), (17, i4 st1)] fr.s ∧ Heap σ0 fr.σ []) (fun y1 e fr => (Sum.elim (fun y => e = (.exit 0) ∧ Sub [] fr.s ∧ Heap σ0 fr.σ []) (fun y => e = .ret ∧ endW Try.prog (Try.f68.results.toList) σ0 (E_bool y) .ret fr)) y1) (fun hS hH => ⟨(ad_ hS (by kernel_rfl)), hH⟩) (fun st1 x fr h HI => ?_) fun y1 e fr h HF => ?_
 ·obtain ⟨s, σ⟩ := fr; obtain ⟨hS, hH⟩ := HI
  refine t_bk h hS hH ?_
  refine t_RN ?_
  refine t_if (fun hc2 => ?_) fun hc2 => ?_
  ·refine t_RU 1 ?_
   refine co_ fun y2 rest1 hy2 => ?_
   refine t_U 1 ?_
   refine bE_ fun b1 => ?_
   refine t_U 1 ?_
   refine af_ 0 ?_
   refine t_N ?_
   refine t_RU 2 ?_
   refine co_ fun y3 rest2 hy3 => ?_
   refine t_U 1 ?_
   refine bE_ fun b2 => ?_
   refine af_ 0 ?_
   refine t_N ?_
   refine t_RU 1 ?_
   refine ab_ 1 ?_
   refine ab_ 0 ?_
   refine jS_ fun y4 hy4 => ?_
   refine t_N ?_
   refine t_if (fun hc3 => ?_) fun hc3 => ?_
   ·refine t_RN ?_
    exact t_e fun he hS hH => he ▸ ⟨rfl, (eW hS hH (rT rN) E_bool_p)⟩
   refine t_RN ?_
   exact t_e fun he hS hH => he ▸ ⟨(ad_ hS (by kernel_rfl)), (Heap.sel hH [] rfl (by kernel_rfl))⟩
  exact t_e fun he hS hH => he ▸ ⟨rfl, (ad_ hS (by kernel_rfl)), hH⟩
 obtain ⟨s, σ⟩ := fr
 rcases y1 with y1 | y1
 ·have h := el_l h
  obtain ⟨rfl, hS, hH⟩ := HF
  refine t_bx h hS hH ?_
  refine t_RN ?_
  exact k_eW (rT rN) E_bool_p
 have h := el_r h
 obtain ⟨rfl, HE⟩ := HF
 obtain rfl := si_1 h; exact HE
noncomputable def ga_ (a0 : (Sl (Iv .i64))) : Option Int := ((aE_ (S := Int) (R := (Unit ⊕ Int)) (fun st1 => (if (decide (st1 < (a0.l.length : Int))) = true then ((elt a0 st1).bind fun y2 => (if (!decide (y2.v = 0)) = true then (some (.inr (.inr y2.v))) else (some (.inl (w4 (st1 + 1)))))) else (some (.inr (.inl ()))))) 0).bind fun y1 => (Sum.elim (fun y1 => (some 0)) (fun y1 => (some y1)) y1))
theorem kQ_ (a0 : (Sl (Iv .i64))) (r : Int) (h : ga_ a0 = some r) : f0_ a0 = some r := by
 unfold ga_ at h
 refine k_W ok_74 E_i64_inj h (fun σ0 => ?_)
 refine t_RN ?_
 refine t_RN ?_
 refine br_ (fun st1 fr => Sub [(5, a0.t), (6, i4 (a0.l.length : Int)), (7, i4 st1)] fr.s ∧ Heap σ0 fr.σ []) (fun y1 e fr => (Sum.elim (fun y => e = (.exit 0) ∧ Sub [] fr.s ∧ Heap σ0 fr.σ []) (fun y => e = .ret ∧ endW Try.prog (Try.f74.results.toList) σ0 (E_i64 y) .ret fr)) y1) (fun hS hH => ⟨(ad_ hS (by kernel_rfl)), hH⟩) (fun st1 x fr h HI => ?_) fun y1 e fr h HF => ?_
 ·obtain ⟨s, σ⟩ := fr; obtain ⟨hS, hH⟩ := HI
  refine t_bk h hS hH ?_
  refine t_RN ?_
  refine t_if (fun hc1 => ?_) fun hc1 => ?_
  ·refine t_R ?_
   refine co_ fun y2 rest1 hy2 => ?_
   refine t_N ?_
   refine t_RN ?_
   refine t_if (fun hc2 => ?_) fun hc2 => ?_
   ·refine t_RN ?_
    exact t_e fun he hS hH => he ▸ ⟨rfl, (eW hS hH (rT rN) E_i64_p)⟩
   refine t_RN ?_
   exact t_e fun he hS hH => he ▸ ⟨(ad_ hS (by kernel_rfl)), hH⟩
  exact t_e fun he hS hH => he ▸ ⟨rfl, (ad_ hS (by kernel_rfl)), hH⟩
 obtain ⟨s, σ⟩ := fr
 rcases y1 with y1 | y1
 ·have h := el_l h
  obtain ⟨rfl, hS, hH⟩ := HF
  refine t_bx h hS hH ?_
  refine t_RN ?_
  exact k_eW (rT rN) E_i64_p
 have h := el_r h
 obtain ⟨rfl, HE⟩ := HF
 obtain rfl := si_1 h; exact HE
noncomputable def fl_ (a0 : Bool) (a1 : Int) : Option Int := (if a0 = true then (some 0) else (some a1))
theorem ka_ (a0 : Bool) (a1 : Int) (r : Int) (h : fl_ a0 a1 = some r) : d7_ a0 a1 = some r := by
 unfold fl_ at h
 refine k_W ok_75 E_i64_inj h (fun σ0 => ?_)
 refine t_RN ?_
 refine t_RN ?_
 refine t_if (fun hc1 => ?_) fun hc1 => ?_
 ·refine t_RN ?_
  exact k_eW (rT rN) E_i64_p
 refine t_RN ?_
 exact k_eW (rT rN) E_i64_p
noncomputable def dE_ (a0 : ByteArray) : Option Bool := (some (decide ((a0.size : Int) ≤ 200)))
theorem gt_ (a0 : ByteArray) (r : Bool) (h : dE_ a0 = some r) : bc_ a0 = some r := by
 unfold dE_ at h
 refine k_W ok_76 E_bool_inj h (fun σ0 => ?_)
 refine t_RN ?_
 refine t_RN ?_
 exact k_eW (rT rN) E_bool_p
noncomputable def dA_ (a0 : (Sl DNamed)) (a1 : DPattern) (a2 : ByteArray) (a3 : Int) : Option Int := ((((eo_ a0).bind fun y6 => (if y6 = true then ((a8_ a1).bind fun y7 => (if y7 = true then ((bc_ a2).bind fun y8 => (some y8)) else (some false))) else (some false))) : Option Bool).bind fun y1 => ((d7_ y1 1).bind fun y2 => ((b6_ a3 0 20000).bind fun y3 => ((d7_ y3 3).bind fun y4 => ((f0_ (⟨false, [⟨y2⟩, ⟨y4⟩]⟩)).bind fun y5 => (some y5))))))
theorem hg_ (a0 : (Sl DNamed)) (a1 : DPattern) (a2 : ByteArray) (a3 : Int) (r : Int) (h : dA_ a0 a1 a2 a3 = some r) : du_ a0 a1 a2 a3 = some r := by
 unfold dA_ at h
 refine k_W ok_77 E_i64_inj h (fun σ0 => ?_)
 refine t_R ?_
 refine cA_ (fun b1 => ?_)
 refine t_N ?_
 refine d6_ 0 (fun y1 e fr => e = .normal ∧ Sub [(3, i4 a3), (9, .bool y1)] fr.s ∧ Heap σ0 fr.σ []) (fun y1 e fr h HF => ?_) fun y1 => ?_
 ·obtain ⟨s, σ⟩ := fr
  obtain ⟨rfl, hS, hH⟩ := HF
  refine t_bx h hS hH ?_
  refine t_RU 1 ?_
  refine ao_ fun y2 hy2 => ?_
  refine t_U 1 ?_
  refine ao_ fun y3 hy3 => ?_
  refine ao_ fun y4 hy4 => ?_
  refine k_bs (z := true) (⟨false, [⟨y2⟩, ⟨y4⟩]⟩ : Sl (Iv .i64)) (fun t1 ht1 => ?_)
  refine nJ_ (fun y5 hy5 => ?_)
  refine t_N ?_
  exact k_eW (rT rN) E_i64_p
 refine t_RU 1 ?_
 refine ao_ fun y6 hy6 => ?_
 refine t_U 1 ?_
 refine ay_ 12 (fun hc1 => ?_) fun hc1 => ?_
 ·refine ab_ 0 ?_
  refine ao_ fun y7 hy7 => ?_
  refine t_U 2 ?_
  refine ay_ 16 (fun hc2 => ?_) fun hc2 => ?_
  ·refine t_U 1 ?_
   refine ao_ fun y8 hy8 => ?_
   refine t_N ?_
   exact t_e fun he hS hH => he ▸ ⟨rfl, (ad_ hS (by kernel_rfl)), (Heap.sel hH [] rfl (by kernel_rfl))⟩
  refine t_N ?_
  exact t_e fun he hS hH => he ▸ ⟨rfl, (ad_ hS (by kernel_rfl)), (Heap.sel hH [] rfl (by kernel_rfl))⟩
 refine t_N ?_
 exact t_e fun he hS hH => he ▸ ⟨rfl, (ad_ hS (by kernel_rfl)), (Heap.sel hH [] rfl (by kernel_rfl))⟩
end Go.Am
