/- Functions of the program. -/
import Derived.Test.YtnihabnkoegdjaaAd0
set_option maxRecDepth 100000
set_option maxHeartbeats 4000000
set_option linter.unusedVariables false
set_option linter.unusedSimpArgs false
namespace Go.Am
open Go.Proofs
noncomputable def dl_ (a0 : (Sl (Iv .u8))) : Option Bool := (if (decide (1048576 < (a0.l.length : Int))) = true then (some true) else ((dN_ a0).bind fun y1 => ((eE_ 1 a0).bind fun y2 => ((fh_ y2).bind fun y3 => ((eE_ 2 a0).bind fun y4 => ((dR_ y4).bind fun y5 => ((fb_ a0 3 2).bind fun y6 => ((cF_ y1 y3 y5 (decide (y6 = 0)) 1500).bind fun y7 => (if (!decide (y7.2 = 0)) = true then (some true) else ((cO_ y1 y3 y5 (decide (y6 = 0)) y7.1).bind fun y8 => ((fb_ a0 4 50).bind fun y9 => ((cO_ y1 y3 y5 (decide (y6 = 0)) (w4 (y7.1 + y9))).bind fun y10 => ((cF_ y1 y3 y5 (decide (y6 = 0)) (w4 (y7.1 - 1))).bind fun y11 => (if (decide (y8.2 = y10.2)) = true then (if (decide (y8.2 = 0)) = true then ((cn_ y8.1 y10.1).bind fun y12 => (if y12 = true then (if (decide (0 < y7.1)) = true then (some (decide (y11.2 = 7))) else (some false)) else (some false))) else (if (decide (y8.2 = 6)) = true then ((cn_ y8.1 y10.1).bind fun y13 => (if y13 = true then (if (decide (0 < y7.1)) = true then (some (decide (y11.2 = 7))) else (some false)) else (some false))) else (some false))) else (some false)))))))))))))))
theorem hm_ (a0 : (Sl (Iv .u8))) (r : Bool) (h : dl_ a0 = some r) : e6_ a0 = some r := by
 unfold dl_ at h
 refine k_W ok_8 E_bool_inj h (fun σ0 => ?_)
 refine t_RN ?_
 refine t_RN ?_
 refine t_if (fun hc1 => ?_) fun hc1 => ?_
 ·refine t_RN ?_
  exact k_eW (rT rN) E_bool_p
 refine t_RU 1 ?_
 refine aA_ fun y1 hy1 => ?_
 refine t_N ?_
 refine t_RU 1 ?_
 refine aA_ fun y2 hy2 => ?_
 refine aA_ fun y3 hy3 => ?_
 refine b2_ fun b1 => ?_
 refine aY_ 0 ?_
 refine t_N ?_
 refine t_RU 1 ?_
 refine aA_ fun y4 hy4 => ?_
 refine aA_ fun y5 hy5 => ?_
 refine t_N ?_
 refine t_RU 1 ?_
 refine aA_ fun y6 hy6 => ?_
 refine t_N ?_
 refine t_RU 1 ?_
 refine ae_ 0 ?_
 refine t_U 2 ?_
 refine aA_ fun y7 hy7 => ?_
 refine t_N ?_
 refine t_RN ?_
 refine t_if (fun hc2 => ?_) fun hc2 => ?_
 ·refine t_RN ?_
  exact k_eW (rT rN) E_bool_p
 refine t_RU 1 ?_
 refine ae_ 0 ?_
 refine t_U 3 ?_
 refine aA_ fun y8 hy8 => ?_
 refine t_N ?_
 refine t_D fun mb => ?_
 refine t_U 1 ?_
 refine ae_ 0 ?_
 refine t_U 4 ?_
 refine aA_ fun y9 hy9 => ?_
 refine t_U 1 ?_
 refine aA_ fun y10 hy10 => ?_
 refine t_N ?_
 refine t_RU 1 ?_
 refine ae_ 0 ?_
 refine t_U 4 ?_
 refine aA_ fun y11 hy11 => ?_
 refine t_N ?_
 refine t_RU 4 ?_
 refine aQ_ 73 (fun hc3 => ?_) fun hc3 => ?_
 ·refine t_U 3 ?_
  refine aQ_ 76 (fun hc4 => ?_) fun hc4 => ?_
  ·refine t_U 7 ?_
   refine aA_ fun y12 hy12 => ?_
   refine t_U 2 ?_
   refine aQ_ 86 (fun hc5 => ?_) fun hc5 => ?_
   ·refine t_U 4 ?_
    refine aQ_ 90 (fun hc6 => ?_) fun hc6 => ?_
    ·refine t_N ?_
     exact k_eW (rT rN) E_bool_p
    refine t_N ?_
    exact k_eW (rT rN) E_bool_p
   refine t_N ?_
   exact k_eW (rT rN) E_bool_p
  refine t_U 5 ?_
  refine aQ_ 81 (fun hc7 => ?_) fun hc7 => ?_
  ·refine t_U 2 ?_
   refine aA_ fun y13 hy13 => ?_
   refine t_U 2 ?_
   refine aQ_ 86 (fun hc8 => ?_) fun hc8 => ?_
   ·refine t_U 4 ?_
    refine aQ_ 90 (fun hc9 => ?_) fun hc9 => ?_
    ·refine t_N ?_
     exact k_eW (rT rN) E_bool_p
    refine t_N ?_
    exact k_eW (rT rN) E_bool_p
   refine t_N ?_
   exact k_eW (rT rN) E_bool_p
  refine t_N ?_
  exact k_eW (rT rN) E_bool_p
 refine t_N ?_
 exact k_eW (rT rN) E_bool_p
noncomputable def bq_ (a0 : ag_) : Option (Int × ag_) := (((if (decide (a0.at_ < (a0.code_.l.length : Int))) = true then ((elt a0.code_ a0.at_).bind fun y2 => (some (w4 y2.v))) else (some 0)) : Option Int).bind fun y1 => (if ((decide ((w4 (a0.at_ + 1)) ≤ (a0.code_.l.length : Int)))) = true then (some (y1, (⟨a0.code_, (w4 (a0.at_ + 1)), (IntKind.u64.wrap ((IntKind.u64.wrap ((IntKind.u64.wrap (a0.seed_ * 6364136223846793005)) + (IntKind.u64.wrap y1))) + 1442695040888963407))⟩ : ag_))) else (some ((w4 ((andI .u64 ((((IntKind.u64.wrap ((IntKind.u64.wrap ((IntKind.u64.wrap (a0.seed_ * 6364136223846793005)) + (IntKind.u64.wrap y1))) + 1442695040888963407))).fdiv (2 ^ 40))) 255))), (⟨a0.code_, (w4 (a0.at_ + 1)), (IntKind.u64.wrap ((IntKind.u64.wrap ((IntKind.u64.wrap (a0.seed_ * 6364136223846793005)) + (IntKind.u64.wrap y1))) + 1442695040888963407))⟩ : ag_)))))
theorem eI_ (a0 : ag_) (r : (Int × ag_)) (h : bq_ a0 = some r) (bp0 : Nat) : RawS Try.prog md ext 104 [.ptr bp0 0 0 3] 0 (fun hs => E_i64 r.1) [.box bp0 (ag_.cells a0)] (fun hs => [.box bp0 (ag_.cells r.2)]) := by
 unfold bq_ at h
 refine b9_ rfl rfl ok_104 rfl ?_
 intro σ0 σ F σk s hS hH
 have hS := ad_ (L' := [(0, .ptr bp0 0 0 3)]) hS (by kernel_rfl)
 refine t_go h hS hH ?_
 refine t_RN ?_
 refine t_RN ?_
 refine t_D fun mb => ?_
 refine t_U 3 ?_
 refine ae_ 0 ?_
 refine t_U 3 ?_
 refine ae_ 0 ?_
 refine t_N ?_
 refine ee_ 0 (fun y1 e fr => e = .normal ∧ Sub [(0, .ptr bp0 0 0 3), (3, i4 y1)] fr.s ∧ Heap σ0 fr.σ [.box bp0 (ag_.cells a0), .keep F σk]) (fun y1 e fr h HF => ?_) fun y1 => ?_
 ·obtain ⟨s, σ⟩ := fr
  obtain ⟨rfl, hS, hH⟩ := HF
  refine t_bx h hS hH ?_
  refine t_RU 3 ?_
  refine ae_ 0 ?_
  refine t_U 3 ?_
  refine aO_ 0 ?_
  refine t_N ?_
  refine t_RU 4 ?_
  refine ae_ 0 ?_
  refine t_U 7 ?_
  refine aO_ 0 ?_
  refine t_N ?_
  refine t_D fun mb => ?_
  refine t_U 3 ?_
  refine ae_ 0 ?_
  refine t_U 3 ?_
  refine ae_ 0 ?_
  refine t_N ?_
  refine t_if (fun hc1 => ?_) fun hc1 => ?_
  ·refine t_RN ?_
   intro h s σ hS hH
   obtain rfl := si_1 h
   exact aR_ [] (bs_ (v := i4 y1) hS rfl r_nil) rfl rfl hH
  refine t_RU 3 ?_
  refine ae_ 0 ?_
  refine t_N ?_
  intro h s σ hS hH
  obtain rfl := si_1 h
  exact aR_ [] (bs_ (v := i4 ((w4 ((andI .u64 ((((IntKind.u64.wrap ((IntKind.u64.wrap ((IntKind.u64.wrap (a0.seed_ * 6364136223846793005)) + (IntKind.u64.wrap y1))) + 1442695040888963407))).fdiv (2 ^ 40))) 255))))) hS rfl r_nil) rfl rfl hH
 refine t_if (fun hc2 => ?_) fun hc2 => ?_
 ·refine t_D fun mb => ?_
  refine t_U 3 ?_
  refine ae_ 0 ?_
  refine t_U 3 ?_
  refine ae_ 0 ?_
  refine cj_ fun y2 rest1 hy2 => ?_
  refine t_N ?_
  exact t_e fun he hS hH => he ▸ ⟨rfl, (ad_ hS (by kernel_rfl)), hH⟩
 exact t_e fun he hS hH => he ▸ ⟨rfl, (ad_ hS (by kernel_rfl)), hH⟩
noncomputable def aL_ (a0 : ag_) (a1 : Int) : Option (Int × ag_) := (if (decide (a1 ≤ 1)) = true then (some (0, a0)) else ((bq_ a0).bind fun y1 => (if (decide (200 < a1)) = true then ((bq_ y1.2).bind fun y2 => ((remI (w4 ((w4 (y1.1 * 256)) + y2.1)) a1).bind fun y3 => (some (y3, y2.2)))) else ((remI y1.1 a1).bind fun y4 => (some (y4, y1.2))))))
theorem a8_ (a0 : ag_) (a1 : Int) (r : (Int × ag_)) (h : aL_ a0 a1 = some r) (bp0 : Nat) : RawS Try.prog md ext 58 [.ptr bp0 0 0 3, i4 a1] 0 (fun hs => E_i64 r.1) [.box bp0 (ag_.cells a0)] (fun hs => [.box bp0 (ag_.cells r.2)]) := by
 unfold aL_ at h
 refine b9_ rfl rfl ok_58 rfl ?_
 intro σ0 σ F σk s hS hH
 have hS := ad_ (L' := [(0, .ptr bp0 0 0 3), (1, i4 a1)]) hS (by kernel_rfl)
 refine t_go h hS hH ?_
 refine t_RN ?_
 refine t_RN ?_
 refine t_if (fun hc1 => ?_) fun hc1 => ?_
 ·refine t_RN ?_
  intro h s σ hS hH
  obtain rfl := si_1 h
  exact aR_ [] (bs_ (v := i4 0) hS rfl r_nil) rfl rfl hH
 refine t_RU 1 ?_
 refine aK_ (fun y1 hs hy1 hl => ?_) (hr := by exact fun y1 hy1 => eI_ _ y1 hy1 bp0)
 obtain rfl := len0 hl
 refine bf_ ?_
 refine t_N ?_
 refine t_RN ?_
 refine t_if (fun hc2 => ?_) fun hc2 => ?_
 ·refine t_RU 3 ?_
  refine aK_ (fun y2 hs hy2 hl => ?_) (hr := by exact fun y2 hy2 => eI_ _ y2 hy2 bp0)
  obtain rfl := len0 hl
  refine bf_ ?_
  refine t_N ?_
  refine t_RU 2 ?_
  intro h s σ hS hH
  obtain ⟨y3, hy3, h⟩ := bind_some h
  refine i9_ rfl hS rfl rfl hy3 ?_; intro s hS
  refine t_bk h hS hH ?_
  refine t_N ?_
  intro h s σ hS hH
  obtain rfl := si_1 h
  exact aR_ [] (bs_ (v := i4 y3) hS rfl r_nil) rfl rfl hH
 refine t_RU 2 ?_
 intro h s σ hS hH
 obtain ⟨y4, hy4, h⟩ := bind_some h
 refine i9_ rfl hS rfl rfl hy4 ?_; intro s hS
 refine t_bk h hS hH ?_
 refine t_N ?_
 intro h s σ hS hH
 obtain rfl := si_1 h
 exact aR_ [] (bs_ (v := i4 y4) hS rfl r_nil) rfl rfl hH
noncomputable def a2_ (a0 : ag_) (a1 : Int) : Option (Bool × ag_) := ((aL_ a0 a1).bind fun y1 => (some ((decide (y1.1 = 0)), y1.2)))
theorem cB_ (a0 : ag_) (a1 : Int) (r : (Bool × ag_)) (h : a2_ a0 a1 = some r) (bp0 : Nat) : RawS Try.prog md ext 99 [.ptr bp0 0 0 3, i4 a1] 0 (fun hs => E_bool r.1) [.box bp0 (ag_.cells a0)] (fun hs => [.box bp0 (ag_.cells r.2)]) := by
 unfold a2_ at h
 refine b9_ rfl rfl ok_99 rfl ?_
 intro σ0 σ F σk s hS hH
 have hS := ad_ (L' := [(0, .ptr bp0 0 0 3), (1, i4 a1)]) hS (by kernel_rfl)
 refine t_go h hS hH ?_
 refine t_RN ?_
 refine t_RU 2 ?_
 refine aK_ (fun y1 hs hy1 hl => ?_) (hr := by exact fun y1 hy1 => a8_ _ _ y1 hy1 bp0)
 obtain rfl := len0 hl
 refine bf_ ?_
 refine t_N ?_
 intro h s σ hS hH
 obtain rfl := si_1 h
 exact aR_ [] (bs_ (v := .bool (decide (y1.1 = 0))) hS rfl r_nil) rfl rfl hH
noncomputable def a5_ (a0 : ag_) (a1 : (Sl ByteArray)) : Option (ByteArray × ag_ × (Sl ByteArray)) := ((aL_ a0 (a1.l.length : Int)).bind fun y1 => ((elt a1 y1.1).bind fun y2 => (some (y2, y1.2, a1))))
theorem c8_ (a0 : ag_) (a1 : (Sl ByteArray)) (r : (ByteArray × ag_ × (Sl ByteArray))) (h : a5_ a0 a1 = some r) (bp0 : Nat) (wp1_1 : Nat) (p1_1 : T) : RawS Try.prog md ext 111 [.ptr bp0 0 0 3, p1_1] 0 (fun hs => E_str r.1) [.box bp0 (ag_.cells a0), .own true wp1_1 p1_1 a1.t] (fun hs => [.box bp0 (ag_.cells r.2.1), .own true wp1_1 p1_1 r.2.2.t]) := by
 unfold a5_ at h
 refine b9_ rfl rfl ok_111 rfl ?_
 intro σ0 σ F σk s hS hH
 have hp1_1 : ar_ p1_1 := Heap.one (hH.at 1 rfl)
 have hS := ad_ (L' := [(0, .ptr bp0 0 0 3), (1, p1_1)]) hS (by kernel_rfl)
 refine t_go h hS hH ?_
 refine t_RN ?_
 refine t_RU 3 ?_
 refine iC_ (a := a1) 1 ?_
 refine aK_ (fun y1 hs hy1 hl => ?_) (hr := by exact fun y1 hy1 => a8_ _ _ y1 hy1 bp0)
 obtain rfl := len0 hl
 refine bf_ ?_
 refine h9_ 1 (fun hb1 hb1e y2 hy2 hl_hb1 => ?_)
 refine ju_ 1 0 hl_hb1 hy2 ?_
 refine t_N ?_
 intro h s σ hS hH
 obtain rfl := si_1 h
 exact aR_ [] (bs_ (v := .str y2) hS rfl r_nil) rfl rfl hH
noncomputable def bB_ (a0 : ag_) : Option (ByteArray × ag_) := ((a5_ a0 (⟨false, [⟨#[97]⟩, ⟨#[98]⟩, ⟨#[97, 98]⟩, ⟨#[98, 97]⟩, ⟨#[97, 98, 99]⟩, ⟨#[40]⟩, ⟨#[41]⟩, ⟨#[40, 41]⟩, ⟨#[120]⟩, ⟨#[97, 97]⟩, ⟨#[99]⟩, ⟨#[34]⟩, ⟨#[97, 34, 98]⟩, ⟨#[0]⟩, ⟨#[120, 121]⟩, ⟨#[98, 99]⟩]⟩)).bind fun y1 => (some (y1.1, y1.2.1)))
theorem fU_ (a0 : ag_) (r : (ByteArray × ag_)) (h : bB_ a0 = some r) (bp0 : Nat) : RawS Try.prog md ext 66 [.ptr bp0 0 0 3] 0 (fun hs => E_str r.1) [.box bp0 (ag_.cells a0)] (fun hs => [.box bp0 (ag_.cells r.2)]) := by
 unfold bB_ at h
 refine b9_ rfl rfl ok_66 rfl ?_
 intro σ0 σ F σk s hS hH
 have hS := ad_ (L' := [(0, .ptr bp0 0 0 3)]) hS (by kernel_rfl)
 refine t_go h hS hH ?_
 refine t_RN ?_
 refine t_RU 1 ?_
 refine k_bs (z := true) (⟨false, [⟨#[97]⟩, ⟨#[98]⟩, ⟨#[97, 98]⟩, ⟨#[98, 97]⟩, ⟨#[97, 98, 99]⟩, ⟨#[40]⟩, ⟨#[41]⟩, ⟨#[40, 41]⟩, ⟨#[120]⟩, ⟨#[97, 97]⟩, ⟨#[99]⟩, ⟨#[34]⟩, ⟨#[97, 34, 98]⟩, ⟨#[0]⟩, ⟨#[120, 121]⟩, ⟨#[98, 99]⟩]⟩ : Sl ByteArray) (fun t1 ht1 => ?_)
 refine t_h Heap.up1 ?_
 refine aK_ (fun y1 hs hy1 hl => ?_) (hr := by exact fun y1 hy1 => c8_ _ _ y1 hy1 bp0 1 t1)
 obtain rfl := len0 hl
 refine bf_ ?_
 refine t_N ?_
 intro h s σ hS hH
 obtain rfl := si_1 h
 exact aR_ [] (bs_ (v := .str y1.1) hS rfl r_nil) rfl rfl (Heap.sel hH [0, 2] rfl (by kernel_rfl))
noncomputable def bj_ (a0 : ag_) (a1 : (Sl (Iv .i64))) : Option (Int × ag_ × (Sl (Iv .i64))) := ((aL_ a0 (a1.l.length : Int)).bind fun y1 => ((elt a1 y1.1).bind fun y2 => (some (y2.v, y1.2, a1))))
theorem ea_ (a0 : ag_) (a1 : (Sl (Iv .i64))) (r : (Int × ag_ × (Sl (Iv .i64)))) (h : bj_ a0 a1 = some r) (bp0 : Nat) (wp1_1 : Nat) (p1_1 : T) : RawS Try.prog md ext 101 [.ptr bp0 0 0 3, p1_1] 0 (fun hs => E_i64 r.1) [.box bp0 (ag_.cells a0), .own true wp1_1 p1_1 a1.t] (fun hs => [.box bp0 (ag_.cells r.2.1), .own true wp1_1 p1_1 r.2.2.t]) := by
 unfold bj_ at h
 refine b9_ rfl rfl ok_101 rfl ?_
 intro σ0 σ F σk s hS hH
 have hp1_1 : ar_ p1_1 := Heap.one (hH.at 1 rfl)
 have hS := ad_ (L' := [(0, .ptr bp0 0 0 3), (1, p1_1)]) hS (by kernel_rfl)
 refine t_go h hS hH ?_
 refine t_RN ?_
 refine t_RU 3 ?_
 refine iC_ (a := a1) 1 ?_
 refine aK_ (fun y1 hs hy1 hl => ?_) (hr := by exact fun y1 hy1 => a8_ _ _ y1 hy1 bp0)
 obtain rfl := len0 hl
 refine bf_ ?_
 refine h9_ 1 (fun hb1 hb1e y2 hy2 hl_hb1 => ?_)
 refine ju_ 1 0 hl_hb1 hy2 ?_
 refine t_N ?_
 intro h s σ hS hH
 obtain rfl := si_1 h
 exact aR_ [] (bs_ (v := i4 y2.v) hS rfl r_nil) rfl rfl hH
noncomputable def cg_ (a0 : ag_) : Option (ByteArray × ag_) := ((a5_ a0 (⟨false, [⟨#[120]⟩, ⟨#[121]⟩, ⟨#[122]⟩, ⟨#[80, 97, 116]⟩, ⟨#[97, 95, 49]⟩]⟩)).bind fun y1 => (some (y1.1, y1.2.1)))
theorem gk_ (a0 : ag_) (r : (ByteArray × ag_)) (h : cg_ a0 = some r) (bp0 : Nat) : RawS Try.prog md ext 103 [.ptr bp0 0 0 3] 0 (fun hs => E_str r.1) [.box bp0 (ag_.cells a0)] (fun hs => [.box bp0 (ag_.cells r.2)]) := by
 unfold cg_ at h
 refine b9_ rfl rfl ok_103 rfl ?_
 intro σ0 σ F σk s hS hH
 have hS := ad_ (L' := [(0, .ptr bp0 0 0 3)]) hS (by kernel_rfl)
 refine t_go h hS hH ?_
 refine t_RN ?_
 refine t_RU 1 ?_
 refine k_bs (z := true) (⟨false, [⟨#[120]⟩, ⟨#[121]⟩, ⟨#[122]⟩, ⟨#[80, 97, 116]⟩, ⟨#[97, 95, 49]⟩]⟩ : Sl ByteArray) (fun t1 ht1 => ?_)
 refine t_h Heap.up1 ?_
 refine aK_ (fun y1 hs hy1 hl => ?_) (hr := by exact fun y1 hy1 => c8_ _ _ y1 hy1 bp0 1 t1)
 obtain rfl := len0 hl
 refine bf_ ?_
 refine t_N ?_
 intro h s σ hS hH
 obtain rfl := si_1 h
 exact aR_ [] (bs_ (v := .str y1.1) hS rfl r_nil) rfl rfl (Heap.sel hH [0, 2] rfl (by kernel_rfl))
noncomputable def cf_ (a0 : ag_) : Option (DPattern × ag_) := ((bj_ a0 (⟨false, [⟨1⟩, ⟨1⟩, ⟨1⟩, ⟨2⟩, ⟨3⟩, ⟨4⟩, ⟨5⟩, ⟨6⟩, ⟨6⟩, ⟨7⟩, ⟨8⟩, ⟨9⟩, ⟨10⟩, ⟨11⟩, ⟨12⟩, ⟨12⟩, ⟨13⟩, ⟨14⟩, ⟨15⟩, ⟨16⟩, ⟨17⟩, ⟨23⟩, ⟨24⟩, ⟨24⟩]⟩)).bind fun y1 => ((ch_ y1.1).bind fun y2 => (if (decide (y2.2 = (⟨#[115]⟩ : ByteArray))) = true then ((bB_ y1.2.1).bind fun y3 => (((if (decide (y1.1 = 1)) = true then ((a2_ y3.2 4).bind fun y5 => (some (y5.1, y5.2.code_, y5.2.at_, y5.2.seed_))) else (some (false, y3.2.code_, y3.2.at_, y3.2.seed_))) : Option (Bool × (Sl (Iv .u8)) × Int × Int)).bind fun y4 => (if y4.1 = true then (some ((⟨y1.1, 0, ⟨#[]⟩, ⟨true, []⟩⟩ : DPattern), (⟨y4.2.1, y4.2.2.1, y4.2.2.2⟩ : ag_))) else (some ((⟨y1.1, 0, y3.1, ⟨true, []⟩⟩ : DPattern), (⟨y4.2.1, y4.2.2.1, y4.2.2.2⟩ : ag_)))))) else (if (decide (y2.2 = (⟨#[110]⟩ : ByteArray))) = true then ((aL_ y1.2.1 4).bind fun y6 => (some ((⟨y1.1, y6.1, ⟨#[]⟩, ⟨true, []⟩⟩ : DPattern), y6.2))) else (if (decide (y2.2 = (⟨#[120]⟩ : ByteArray))) = true then ((cg_ y1.2.1).bind fun y7 => (some ((⟨y1.1, 0, y7.1, ⟨true, []⟩⟩ : DPattern), y7.2))) else (some ((⟨y1.1, 0, ⟨#[]⟩, ⟨true, []⟩⟩ : DPattern), y1.2.1)))))))
theorem gh_ (a0 : ag_) (r : (DPattern × ag_)) (h : cf_ a0 = some r) (bp0 : Nat) : RawS Try.prog md ext 100 [.ptr bp0 0 0 3] Sh_DPattern.n (fun hs => Sh_DPattern.tree hs r.1) [.box bp0 (ag_.cells a0)] (fun hs => Sh_DPattern.en hs r.1 ++ [.box bp0 (ag_.cells r.2)]) := by
 unfold cf_ at h
 refine b9_ rfl rfl ok_100 rfl ?_
 intro σ0 σ F σk s hS hH
 have hS := ad_ (L' := [(0, .ptr bp0 0 0 3)]) hS (by kernel_rfl)
 refine t_go h hS hH ?_
 refine t_R ?_
 refine b2_ fun b1 => ?_
 refine t_N ?_
 refine t_RU 1 ?_
 refine k_bs (z := true) (⟨false, [⟨1⟩, ⟨1⟩, ⟨1⟩, ⟨2⟩, ⟨3⟩, ⟨4⟩, ⟨5⟩, ⟨6⟩, ⟨6⟩, ⟨7⟩, ⟨8⟩, ⟨9⟩, ⟨10⟩, ⟨11⟩, ⟨12⟩, ⟨12⟩, ⟨13⟩, ⟨14⟩, ⟨15⟩, ⟨16⟩, ⟨17⟩, ⟨23⟩, ⟨24⟩, ⟨24⟩]⟩ : Sl (Iv .i64)) (fun t1 ht1 => ?_)
 refine t_h Heap.up2 ?_
 refine aK_ (fun y1 hs hy1 hl => ?_) (hr := by exact fun y1 hy1 => ea_ _ _ y1 hy1 bp0 1 t1)
 obtain rfl := len0 hl
 refine bf_ ?_
 refine t_N ?_
 refine t_RU 2 ?_
 refine b2_ fun b2 => ?_
 refine aY_ 0 ?_
 refine t_N ?_
 refine t_RU 1 ?_
 refine aA_ fun y2 hy2 => ?_
 refine t_N ?_
 refine t_RN ?_
 refine t_RN ?_
 refine t_if (fun hc1 => ?_) fun hc1 => ?_
 ·refine t_RU 1 ?_
  refine t_h Heap.up1 ?_
  refine aK_ (fun y3 hs hy3 hl => ?_) (hr := by exact fun y3 hy3 => fU_ _ y3 hy3 bp0)
  obtain rfl := len0 hl
  refine bf_ ?_
  refine t_U 1 ?_
  refine aO_ 1 ?_
  refine t_N ?_
  refine ee_ 0 (fun y4 e fr => e = .normal ∧ Sub [(2, .ptr b1 0 0 4), (4, .ptr b2 0 0 4), (28, .bool y4.1)] fr.s ∧ Heap σ0 fr.σ [.box b2 [i4 y1.1, i4 0, .str y3.1, (nt DPattern)], .box bp0 [y4.2.1.t, i4 y4.2.2.1, .int .u64 y4.2.2.2], .box b1 [i4 0, i4 0, .str ⟨#[]⟩, (nt DPattern)], .keep F σk]) (fun y4 e fr h HF => ?_) fun y4 => ?_
  ·obtain ⟨s, σ⟩ := fr
   obtain ⟨rfl, hS, hH⟩ := HF
   refine t_bx h hS hH ?_
   refine t_if (fun hc2 => ?_) fun hc2 => ?_
   ·refine t_RU 1 ?_
    refine aO_ 0 ?_
    refine t_N ?_
    refine t_R ?_
    refine ae_ 0 ?_
    refine aY_ 2 ?_
    refine t_N ?_
    intro h s σ hS hH
    obtain rfl := si_1 h
    have hH := Heap.addNil hH true 4
    exact aR_ [(T.row true 0 [])] (fG_ (v := .agg [i4 y1.1, i4 0, .str ⟨#[]⟩, (nt DPattern)]) hS (hH.at 1 rfl) rfl (by kernel_rfl) r_nil) rfl rfl (Heap.sel hH [0, 3, 4] rfl (by kernel_rfl))
   refine t_R ?_
   refine ae_ 0 ?_
   refine aY_ 2 ?_
   refine t_N ?_
   intro h s σ hS hH
   obtain rfl := si_1 h
   have hH := Heap.addNil hH true 4
   exact aR_ [(T.row true 0 [])] (fG_ (v := .agg [i4 y1.1, i4 0, .str y3.1, (nt DPattern)]) hS (hH.at 1 rfl) rfl (by kernel_rfl) r_nil) rfl rfl (Heap.sel hH [0, 3, 4] rfl (by kernel_rfl))
  refine t_RU 3 ?_
  refine aQ_ 25 (fun hc3 => ?_) fun hc3 => ?_
  ·refine t_U 1 ?_
   refine t_h Heap.up1 ?_
   refine aK_ (fun y5 hs hy5 hl => ?_) (hr := by exact fun y5 hy5 => cB_ _ _ y5 hy5 bp0)
   obtain rfl := len0 hl
   refine bf_ ?_
   refine t_N ?_
   exact t_e fun he hS hH => he ▸ ⟨rfl, (ad_ hS (by kernel_rfl)), (Heap.sel hH [1, 0, 3, 4] rfl (by kernel_rfl))⟩
  refine t_N ?_
  exact t_e fun he hS hH => he ▸ ⟨rfl, (ad_ hS (by kernel_rfl)), (Heap.sel hH [0, 1, 3, 4] rfl (by kernel_rfl))⟩
 refine t_RN ?_
 refine t_if (fun hc4 => ?_) fun hc4 => ?_
 ·refine t_RU 1 ?_
  refine t_h Heap.up1 ?_
  refine aK_ (fun y6 hs hy6 hl => ?_) (hr := by exact fun y6 hy6 => a8_ _ _ y6 hy6 bp0)
  obtain rfl := len0 hl
  refine bf_ ?_
  refine t_U 1 ?_
  refine aO_ 1 ?_
  refine t_N ?_
  refine t_R ?_
  refine ae_ 0 ?_
  refine aY_ 3 ?_
  refine t_N ?_
  intro h s σ hS hH
  obtain rfl := si_1 h
  have hH := Heap.addNil hH true 4
  exact aR_ [(T.row true 0 [])] (fG_ (v := .agg [i4 y1.1, i4 y6.1, .str ⟨#[]⟩, (nt DPattern)]) hS (hH.at 1 rfl) rfl (by kernel_rfl) r_nil) rfl rfl (Heap.sel hH [0, 3, 5] rfl (by kernel_rfl))
 refine t_RN ?_
 refine t_if (fun hc5 => ?_) fun hc5 => ?_
 ·refine t_RU 1 ?_
  refine t_h Heap.up1 ?_
  refine aK_ (fun y7 hs hy7 hl => ?_) (hr := by exact fun y7 hy7 => gk_ _ y7 hy7 bp0)
  obtain rfl := len0 hl
  refine bf_ ?_
  refine t_U 1 ?_
  refine aO_ 1 ?_
  refine t_N ?_
  refine t_R ?_
  refine ae_ 0 ?_
  refine aY_ 3 ?_
  refine t_N ?_
  intro h s σ hS hH
  obtain rfl := si_1 h
  have hH := Heap.addNil hH true 4
  exact aR_ [(T.row true 0 [])] (fG_ (v := .agg [i4 y1.1, i4 0, .str y7.1, (nt DPattern)]) hS (hH.at 1 rfl) rfl (by kernel_rfl) r_nil) rfl rfl (Heap.sel hH [0, 3, 5] rfl (by kernel_rfl))
 refine t_R ?_
 refine ae_ 0 ?_
 refine aY_ 3 ?_
 refine t_N ?_
 intro h s σ hS hH
 obtain rfl := si_1 h
 have hH := Heap.addNil hH true 4
 exact aR_ [(T.row true 0 [])] (fG_ (v := .agg [i4 y1.1, i4 0, .str ⟨#[]⟩, (nt DPattern)]) hS (hH.at 1 rfl) rfl (by kernel_rfl) r_nil) rfl rfl (Heap.sel hH [0, 3, 5] rfl (by kernel_rfl))
def ej_ (R : ag_ → Int → Option (DPattern × ag_)) : Prop := ∀ (a0 : ag_) (a1 : Int) (r : (DPattern × ag_)), R a0 a1 = some r → ∀ (bp0 : Nat), RawS Try.prog md ext 57 [.ptr bp0 0 0 3, i4 a1] Sh_DPattern.n (fun hs => Sh_DPattern.tree hs r.1) [.box bp0 (ag_.cells a0)] (fun hs => Sh_DPattern.en hs r.1 ++ [.box bp0 (ag_.cells r.2)])
noncomputable def bD_ (R_57 : ag_ → Int → Option (DPattern × ag_)) (a0 : ag_) (a1 : Int) : Option (DPattern × ag_) := (if (decide (a1 ≤ 0)) = true then ((cf_ a0).bind fun y1 => (some (y1.1, y1.2))) else ((a2_ a0 4).bind fun y2 => (if y2.1 = true then ((cf_ y2.2).bind fun y3 => (some (y3.1, y3.2))) else ((bj_ y2.2 (⟨false, [⟨18⟩, ⟨18⟩, ⟨19⟩, ⟨19⟩, ⟨19⟩, ⟨20⟩, ⟨21⟩, ⟨22⟩]⟩)).bind fun y4 => ((ch_ y4.1).bind fun y5 => ((aF_ (S := (Int × (Sl (Iv .u8)) × Int × Int × (Sl DPattern))) (R := ((Sl (Iv .u8)) × Int × Int × (Sl DPattern))) (fun st1 => (if (decide (st1.1 < y5.1)) = true then ((R_57 (⟨st1.2.1, st1.2.2.1, st1.2.2.2.1⟩ : ag_) (w4 (a1 - 1))).bind fun y7 => ((appS 56 st1.2.2.2.2 (⟨false, [y7.1]⟩ : Sl DPattern)).bind fun y8 => (some (.inl ((w4 (st1.1 + 1)), y7.2.code_, y7.2.at_, y7.2.seed_, y8))))) else (some (.inr (st1.2.1, st1.2.2.1, st1.2.2.2.1, st1.2.2.2.2))))) (0, y4.2.1.code_, y4.2.1.at_, y4.2.1.seed_, (⟨true, []⟩ : Sl DPattern))).bind fun y6 => (if (decide (y5.2 = (⟨#[120]⟩ : ByteArray))) = true then ((cg_ (⟨y6.1, y6.2.1, y6.2.2.1⟩ : ag_)).bind fun y9 => (some ((⟨y4.1, 0, y9.1, y6.2.2.2⟩ : DPattern), y9.2))) else (some ((⟨y4.1, 0, ⟨#[]⟩, y6.2.2.2⟩ : DPattern), (⟨y6.1, y6.2.1, y6.2.2.1⟩ : ag_))))))))))
theorem iy_ (R_57 : ag_ → Int → Option (DPattern × ag_)) (hR_57 : ej_ R_57) : ej_ (bD_ R_57) := by
 intro a0 a1 r h bp0
 unfold bD_ at h
 refine b9_ rfl rfl ok_57 rfl ?_
 intro σ0 σ F σk s hS hH
 have hS := ad_ (L' := [(0, .ptr bp0 0 0 3), (1, i4 a1)]) hS (by kernel_rfl)
 refine t_go h hS hH ?_
 refine t_R ?_
 refine b2_ fun b1 => ?_
 refine t_N ?_
 refine t_RU 3 ?_
 refine aQ_ 12 (fun hc1 => ?_) fun hc1 => ?_
 ·refine t_N ?_
  refine t_cT rfl ?_
  refine t_RU 1 ?_
  refine t_h Heap.up1 ?_
  refine aK_ (fun y1 hs hy1 hl => ?_) (hr := by exact fun y1 hy1 => gh_ _ y1 hy1 bp0)
  obtain ⟨t1, rfl⟩ := len1 hl
  refine bf_ ?_
  refine ay_ 0 fun ht1 => ?_
  refine aY_ 2 ?_ (h1 := by simp [ht1.1, ht1.2])
  refine t_N ?_
  intro h s σ hS hH
  obtain rfl := si_1 h
  exact aR_ [t1] (fG_ (v := .agg [i4 y1.1.Kind, i4 y1.1.Num, .str y1.1.Text, t1]) hS hH rfl (by kernel_rfl) r_nil) rfl rfl (Heap.sel hH [1, 2, 3] rfl (by kernel_rfl))
 refine t_U 1 ?_
 refine t_h Heap.up1 ?_
 refine aK_ (fun y2 hs hy2 hl => ?_) (hr := by exact fun y2 hy2 => cB_ _ _ y2 hy2 bp0)
 obtain rfl := len0 hl
 refine bf_ ?_
 refine t_N ?_
 refine t_if (fun hc2 => ?_) fun hc2 => ?_
 ·refine t_RU 1 ?_
  refine aK_ (fun y3 hs hy3 hl => ?_) (hr := by exact fun y3 hy3 => gh_ _ y3 hy3 bp0)
  obtain ⟨t2, rfl⟩ := len1 hl
  refine bf_ ?_
  refine ay_ 0 fun ht2 => ?_
  refine aY_ 2 ?_ (h1 := by simp [ht2.1, ht2.2])
  refine t_N ?_
  intro h s σ hS hH
  obtain rfl := si_1 h
  exact aR_ [t2] (fG_ (v := .agg [i4 y3.1.Kind, i4 y3.1.Num, .str y3.1.Text, t2]) hS hH rfl (by kernel_rfl) r_nil) rfl rfl (Heap.sel hH [1, 2, 3] rfl (by kernel_rfl))
 refine t_RU 1 ?_
 refine k_bs (z := true) (⟨false, [⟨18⟩, ⟨18⟩, ⟨19⟩, ⟨19⟩, ⟨19⟩, ⟨20⟩, ⟨21⟩, ⟨22⟩]⟩ : Sl (Iv .i64)) (fun t3 ht3 => ?_)
 refine t_h Heap.up1 ?_
 refine aK_ (fun y4 hs hy4 hl => ?_) (hr := by exact fun y4 hy4 => ea_ _ _ y4 hy4 bp0 1 t3)
 obtain rfl := len0 hl
 refine bf_ ?_
 refine t_N ?_
 refine t_RU 2 ?_
 refine b2_ fun b2 => ?_
 refine aY_ 0 ?_
 refine t_N ?_
 refine t_RU 1 ?_
 refine aA_ fun y5 hy5 => ?_
 refine t_N ?_
 refine t_RN ?_
 refine t_h (Heap.addNil · true 4) ?_
 refine a6_ (fun st1 fr => ∃ t5, ar_ t5 ∧ Sub [(0, .ptr bp0 0 0 3), (1, i4 a1), (4, .ptr b1 0 0 4), (6, .ptr b2 0 0 4), (7, i4 y5.1), (8, .str y5.2), (9, i4 st1.1)] fr.s ∧ Heap σ0 fr.σ [.box b2 [i4 y4.1, i4 0, .str ⟨#[]⟩, t5], .box bp0 [st1.2.1.t, i4 st1.2.2.1, .int .u64 st1.2.2.2.1], .box b1 [i4 0, i4 0, .str ⟨#[]⟩, (nt DPattern)], .own true 4 t5 st1.2.2.2.2.t, .keep F σk]) (fun y6 e fr => ∃ t6, ar_ t6 ∧ e = (.exit 0) ∧ Sub [(0, .ptr bp0 0 0 3), (4, .ptr b1 0 0 4), (6, .ptr b2 0 0 4), (8, .str y5.2)] fr.s ∧ Heap σ0 fr.σ [.box b2 [i4 y4.1, i4 0, .str ⟨#[]⟩, t6], .box bp0 [y6.1.t, i4 y6.2.1, .int .u64 y6.2.2.1], .box b1 [i4 0, i4 0, .str ⟨#[]⟩, (nt DPattern)], .own true 4 t6 y6.2.2.2.t, .keep F σk]) (fun hS hH => ⟨(T.row true 0 []), ⟨rfl, rfl⟩, (ad_ hS (by kernel_rfl)), (Heap.sel hH [1, 2, 4, 0, 5] rfl (by kernel_rfl))⟩) (fun st1 x fr h HI => ?_) fun y6 e fr h HF => ?_
 ·obtain ⟨s, σ⟩ := fr; obtain ⟨t5, ht5, ⟨hS, hH⟩⟩ := HI
  refine t_bk h hS hH ?_
  refine t_RN ?_
  refine t_if (fun hc3 => ?_) fun hc3 => ?_
  ·refine be_ [(5, (RB b2 RN)), (7, RN), (9, RN)] ext_x fun mb σs hn0 hlt hlto => ?_
   have hlt_b2 : b2 < mb := hlt b2 _ (List.Mem.head _)
   refine t_U 1 ?_
   refine ae_ 0 ?_ (hlt := by exact (Or.inr ⟨hlt_b2, (Wc.cons (.inr (Or.inl rfl)) (Wc.cons (.inl (by kernel_rfl)) (Wc.cons (.inl (by kernel_rfl)) Wc.nil)))⟩))
   refine t_U 3 ?_
   refine t_h Heap.up1 ?_
   refine d2_ (RB b2 RN) ext_x (Stay.box (List.Mem.head _) Stay.nil) (by exact fun x hx => Or.inr ⟨5, by kernel_rfl, hx⟩) (fun y7 hs hy7 hl => ?_) (hr := by exact fun y7 hy7 => hR_57 _ _ y7 hy7 bp0)
   obtain ⟨t7, rfl⟩ := len1 hl
   refine bf_ ?_
   refine ay_ 0 fun ht7 => ?_
   refine k_bs (z := true) (⟨false, [y7.1]⟩ : Sl DPattern) (fun t8 ht8 => ?_) (hb := by exact hn0) (h1 := by simp [ht7.1, ht7.2])
   refine lF_ 4 0 (fun y8 t9 hy8 ht9 => ?_) (hb := by exact hn0) (hwr := by exact fun hH b e o n h0 => Or.inr ⟨7, by kernel_rfl, fun h => h⟩)
   refine t_U 1 ?_
   refine ca_ 2 ht9 ?_ (hwr := by exact fun hH => Or.inr ⟨9, by kernel_rfl, fun h => h⟩)
   refine t_N ?_
   refine t_RN ?_
   exact t_e fun he hS hH => he ▸ ⟨t9, ht9, (ad_ hS (by kernel_rfl)), (Heap.sel hH [0, 2, 3, 1, 4] rfl (by kernel_rfl))⟩
  exact t_e fun he hS hH => he ▸ ⟨t5, ht5, rfl, (ad_ hS (by kernel_rfl)), hH⟩
 obtain ⟨s, σ⟩ := fr
 obtain ⟨t6, ht6, ⟨rfl, hS, hH⟩⟩ := HF
 refine t_bx h hS hH ?_
 refine t_RN ?_
 refine t_if (fun hc4 => ?_) fun hc4 => ?_
 ·refine t_RU 1 ?_
  refine t_h Heap.up1 ?_
  refine aK_ (fun y9 hs hy9 hl => ?_) (hr := by exact fun y9 hy9 => gk_ _ y9 hy9 bp0)
  obtain rfl := len0 hl
  refine bf_ ?_
  refine t_U 1 ?_
  refine aO_ 1 ?_
  refine t_N ?_
  refine t_R ?_
  refine ae_ 0 ?_
  refine aY_ 2 ?_ (h1 := by simp [ht6.1, ht6.2])
  refine t_N ?_
  intro h s σ hS hH
  obtain rfl := si_1 h
  exact aR_ [t6] (fG_ (v := .agg [i4 y4.1, i4 0, .str y9.1, t6]) hS hH rfl (by kernel_rfl) r_nil) rfl rfl (Heap.sel hH [3, 2, 4] rfl (by kernel_rfl))
 refine t_R ?_
 refine ae_ 0 ?_
 refine aY_ 2 ?_ (h1 := by simp [ht6.1, ht6.2])
 refine t_N ?_
 intro h s σ hS hH
 obtain rfl := si_1 h
 exact aR_ [t6] (fG_ (v := .agg [i4 y4.1, i4 0, .str ⟨#[]⟩, t6]) hS hH rfl (by kernel_rfl) r_nil) rfl rfl (Heap.sel hH [3, 2, 4] rfl (by kernel_rfl))
noncomputable def BG_spec_l11Draw : Nat → (ag_ → Int → Option (DPattern × ag_))
 | 0 => (fun _ _ => none)
 | n + 1 => bD_ (BG_spec_l11Draw n)
theorem uBG_spec_l11Draw : ∀ n, ej_ ((BG_spec_l11Draw n))
 | 0 => (by intro _ _ r h; have h : none = some r := h; cases h)
 | n + 1 => iy_ (BG_spec_l11Draw n) (uBG_spec_l11Draw n)
noncomputable def cc_ (a0 : ag_) (a1 : Int) : Option (DPattern × ag_) := (BG_spec_l11Draw bigN) a0 a1
theorem gn_ (a0 : ag_) (a1 : Int) (r : (DPattern × ag_)) (h : cc_ a0 a1 = some r) (bp0 : Nat) : RawS Try.prog md ext 57 [.ptr bp0 0 0 3, i4 a1] Sh_DPattern.n (fun hs => Sh_DPattern.tree hs r.1) [.box bp0 (ag_.cells a0)] (fun hs => Sh_DPattern.en hs r.1 ++ [.box bp0 (ag_.cells r.2)]) := (uBG_spec_l11Draw bigN) a0 a1 r h bp0
noncomputable def fo_ (a0 : (Sl (Iv .u8))) : Option DPattern := ((aL_ (⟨a0, 0, 0⟩ : ag_) 3).bind fun y1 => ((cc_ y1.2 y1.1).bind fun y2 => ((bw_ y2.1).bind fun y3 => (some y3))))
theorem jE_ (a0 : (Sl (Iv .u8))) (r : DPattern) (h : fo_ a0 = some r) : fh_ a0 = some r := by
 unfold fo_ at h
 refine k_W ok_14 E_DPattern_inj h (fun σ0 => ?_)
 refine t_R ?_
 refine b2_ fun b1 => ?_
 refine t_N ?_
 refine t_RU 1 ?_
 refine dS_ ok_55 ?_
 refine t_RN ?_
 refine t_RU 2 ?_
 refine cI_ (fun b2 => ?_)
 refine t_N ?_
 refine k_eI (rT rN) ?_
 refine t_N ?_
 refine t_RU 2 ?_
 refine aK_ (fun y1 hs hy1 hl => ?_) (hr := by exact fun y1 hy1 => a8_ _ _ y1 hy1 b2)
 obtain rfl := len0 hl
 refine bf_ ?_
 refine aK_ (fun y2 hs hy2 hl => ?_) (hr := by exact fun y2 hy2 => gn_ _ _ y2 hy2 b2)
 obtain ⟨t1, rfl⟩ := len1 hl
 refine bf_ ?_
 refine ay_ 0 fun ht1 => ?_
 refine eD_ (fun y3 t2 hy3 ht2 => ?_)
 refine aY_ 3 ?_ (h1 := by simp [ht2.1, ht2.2])
 refine t_N ?_
 intro h s σ hS hH
 obtain rfl := si_1 h
 have hH := hH.up1
 exact pn_ (ents := [.own true 4 t2 y3.Kids.t]) (z := false) hH (fG_ (v := .agg [i4 y3.Kind, i4 y3.Num, .str y3.Text, t2]) hS (hH.at 1 rfl) rfl (by kernel_rfl) r_nil) (HL.agg (es1 := [.own true 4 t2 y3.Kids.t]) (es2 := []) (HLi (HLi (HLs (HL.own rfl HL.nil)))) HL.nil) (by simp [pureT, pureL, E_DPattern])
noncomputable def fP_ (a0 : Int) (a1 : (Sl (Iv .u8))) : Option (Sl (Iv .u8)) := ((appS 1 ((⟨false, [⟨(IntKind.u8.wrap a0)⟩]⟩ : Sl (Iv .u8))) a1).bind fun y1 => (some y1))
theorem kL_ (a0 : Int) (a1 : (Sl (Iv .u8))) (r : (Sl (Iv .u8))) (h : fP_ a0 a1 = some r) : eE_ a0 a1 = some r := by
 unfold fP_ at h
 refine k_W ok_15 E_sl_u8_inj h (fun σ0 => ?_)
 refine t_RN ?_
 refine t_RU 2 ?_
 refine k_bs (z := true) (⟨false, [⟨(IntKind.u8.wrap a0)⟩]⟩ : Sl (Iv .u8)) (fun t1 ht1 => ?_)
 refine t_U 1 ?_
 refine pL_ 0 (fun y1 t2 hy1 ht2 => ?_)
 refine t_N ?_
 intro h s σ hS hH
 obtain rfl := si_1 h
 exact pn_ (ents := [.own true 1 t2 y1.t]) (z := false) hH (bs_ (v := t2) hS rfl r_nil) (HL.own rfl HL.nil) (by simp [pureT, pureL, E_sl_u8])
noncomputable def bS_ (a0 : ag_) : Option (ByteArray × ag_) := ((a2_ a0 4).bind fun y1 => (if y1.1 = true then ((a5_ y1.2 (⟨false, [⟨#[]⟩, ⟨#[97]⟩, ⟨#[97, 98]⟩, ⟨#[40, 97, 41, 40, 98, 41]⟩, ⟨#[40, 40, 97, 41, 98, 41]⟩, ⟨#[97, 97, 97, 97]⟩, ⟨#[97, 98, 99, 97, 98, 99]⟩, ⟨#[120, 40, 121]⟩, ⟨#[41, 40]⟩, ⟨#[97, 98, 34, 99]⟩]⟩)).bind fun y2 => (some (y2.1, y2.2.1))) else ((aL_ y1.2 6).bind fun y3 => ((aF_ (S := (ByteArray × Int × (Sl (Iv .u8)) × Int × Int)) (R := (ByteArray × (Sl (Iv .u8)) × Int × Int)) (fun st1 => (if (decide (0 < st1.2.1)) = true then ((bB_ (⟨st1.2.2.1, st1.2.2.2.1, st1.2.2.2.2⟩ : ag_)).bind fun y5 => ((catB st1.1 y5.1).bind fun y6 => (some (.inl (y6, (w4 (st1.2.1 - 1)), y5.2.code_, y5.2.at_, y5.2.seed_))))) else (some (.inr (st1.1, st1.2.2.1, st1.2.2.2.1, st1.2.2.2.2))))) (⟨#[]⟩, y3.1, y3.2.code_, y3.2.at_, y3.2.seed_)).bind fun y4 => (some (y4.1, (⟨y4.2.1, y4.2.2.1, y4.2.2.2⟩ : ag_)))))))
theorem hs_ (a0 : ag_) (r : (ByteArray × ag_)) (h : bS_ a0 = some r) (bp0 : Nat) : RawS Try.prog md ext 65 [.ptr bp0 0 0 3] 0 (fun hs => E_str r.1) [.box bp0 (ag_.cells a0)] (fun hs => [.box bp0 (ag_.cells r.2)]) := by
 unfold bS_ at h
 refine b9_ rfl rfl ok_65 rfl ?_
 intro σ0 σ F σk s hS hH
 have hS := ad_ (L' := [(0, .ptr bp0 0 0 3)]) hS (by kernel_rfl)
 refine t_go h hS hH ?_
 refine t_RN ?_
 refine t_RU 1 ?_
 refine aK_ (fun y1 hs hy1 hl => ?_) (hr := by exact fun y1 hy1 => cB_ _ _ y1 hy1 bp0)
 obtain rfl := len0 hl
 refine bf_ ?_
 refine t_N ?_
 refine t_if (fun hc1 => ?_) fun hc1 => ?_
 ·refine t_RU 1 ?_
  refine k_bs (z := true) (⟨false, [⟨#[]⟩, ⟨#[97]⟩, ⟨#[97, 98]⟩, ⟨#[40, 97, 41, 40, 98, 41]⟩, ⟨#[40, 40, 97, 41, 98, 41]⟩, ⟨#[97, 97, 97, 97]⟩, ⟨#[97, 98, 99, 97, 98, 99]⟩, ⟨#[120, 40, 121]⟩, ⟨#[41, 40]⟩, ⟨#[97, 98, 34, 99]⟩]⟩ : Sl ByteArray) (fun t1 ht1 => ?_)
  refine t_h Heap.up1 ?_
  refine aK_ (fun y2 hs hy2 hl => ?_) (hr := by exact fun y2 hy2 => c8_ _ _ y2 hy2 bp0 1 t1)
  obtain rfl := len0 hl
  refine bf_ ?_
  refine t_N ?_
  intro h s σ hS hH
  obtain rfl := si_1 h
  exact aR_ [] (bs_ (v := .str y2.1) hS rfl r_nil) rfl rfl (Heap.sel hH [0, 2] rfl (by kernel_rfl))
 refine t_RN ?_
 refine t_RU 1 ?_
 refine aK_ (fun y3 hs hy3 hl => ?_) (hr := by exact fun y3 hy3 => a8_ _ _ y3 hy3 bp0)
 obtain rfl := len0 hl
 refine bf_ ?_
 refine t_N ?_
 refine a6_ (fun st1 fr => Sub [(0, .ptr bp0 0 0 3), (3, .str st1.1), (4, i4 st1.2.1)] fr.s ∧ Heap σ0 fr.σ [.box bp0 [st1.2.2.1.t, i4 st1.2.2.2.1, .int .u64 st1.2.2.2.2], .keep F σk]) (fun y4 e fr => e = (.exit 0) ∧ Sub [(3, .str y4.1)] fr.s ∧ Heap σ0 fr.σ [.box bp0 [y4.2.1.t, i4 y4.2.2.1, .int .u64 y4.2.2.2], .keep F σk]) (fun hS hH => ⟨(ad_ hS (by kernel_rfl)), hH⟩) (fun st1 x fr h HI => ?_) fun y4 e fr h HF => ?_
 ·obtain ⟨s, σ⟩ := fr; obtain ⟨hS, hH⟩ := HI
  refine t_bk h hS hH ?_
  refine t_RN ?_
  refine t_if (fun hc2 => ?_) fun hc2 => ?_
  ·refine t_RU 2 ?_
   refine aK_ (fun y5 hs hy5 hl => ?_) (hr := by exact fun y5 hy5 => fU_ _ y5 hy5 bp0)
   obtain rfl := len0 hl
   refine bf_ ?_
   refine r3_ fun y6 hy6 => ?_
   refine t_N ?_
   refine t_RN ?_
   exact t_e fun he hS hH => he ▸ ⟨(ad_ hS (by kernel_rfl)), hH⟩
  exact t_e fun he hS hH => he ▸ ⟨rfl, (ad_ hS (by kernel_rfl)), hH⟩
 obtain ⟨s, σ⟩ := fr
 obtain ⟨rfl, hS, hH⟩ := HF
 refine t_bx h hS hH ?_
 refine t_RN ?_
 intro h s σ hS hH
 obtain rfl := si_1 h
 exact aR_ [] (bs_ (v := .str y4.1) hS rfl r_nil) rfl rfl hH
noncomputable def dL_ (a0 : (Sl (Iv .u8))) : Option ByteArray := ((bS_ (⟨a0, 0, 0⟩ : ag_)).bind fun y1 => (some y1.1))
theorem hA_ (a0 : (Sl (Iv .u8))) (r : ByteArray) (h : dL_ a0 = some r) : dR_ a0 = some r := by
 unfold dL_ at h
 refine k_W ok_30 E_str_inj h (fun σ0 => ?_)
 refine t_RN ?_
 refine t_RU 1 ?_
 refine dS_ ok_55 ?_
 refine t_RN ?_
 refine t_RU 2 ?_
 refine cI_ (fun b1 => ?_)
 refine t_N ?_
 refine k_eI (rT rN) ?_
 refine t_N ?_
 refine t_RU 1 ?_
 refine aK_ (fun y1 hs hy1 hl => ?_) (hr := by exact fun y1 hy1 => hs_ _ y1 hy1 b1)
 obtain rfl := len0 hl
 refine bf_ ?_
 refine t_N ?_
 exact k_eW (rT rN) E_str_p
noncomputable def dK_ (a0 : (Sl DNamed)) (a1 : DPattern) (a2 : ByteArray) (a3 : Bool) (a4 : Int) : Option ((Sl DMatch) × Int) := ((cz_ a0 a1 a2 a4).bind fun y1 => (if (!decide (y1 = 0)) = true then (some (⟨true, []⟩, y1)) else ((bm_ a2 a3).bind fun y2 => ((db_ a0 a1 a2 y2 a4).bind fun y3 => (some (y3.1, y3.2))))))
theorem hD_ (a0 : (Sl DNamed)) (a1 : DPattern) (a2 : ByteArray) (a3 : Bool) (a4 : Int) (r : ((Sl DMatch) × Int)) (h : dK_ a0 a1 a2 a3 a4 = some r) : cO_ a0 a1 a2 a3 a4 = some r := by
 unfold dK_ at h
 refine k_W ok_34 E_t2_sl_DMatch_i64_inj h (fun σ0 => ?_)
 refine t_R ?_
 refine cI_ (fun b1 => ?_)
 refine t_N ?_
 refine t_RU 1 ?_
 refine ae_ 0 ?_
 refine t_U 2 ?_
 refine aA_ fun y1 hy1 => ?_
 refine t_N ?_
 refine t_RN ?_
 refine t_if (fun hc1 => ?_) fun hc1 => ?_
 ·refine t_RN ?_
  exact k_eW (rT (rT rN)) E_t2_sl_DMatch_i64_p
 refine be_ [] ext_x fun mb σs hn0 hlt hlto => ?_
 have hlt_b1 : b1 < mb := hlt b1 _ (List.Mem.head _)
 refine t_U 1 ?_
 refine ae_ 0 ?_ (hlt := by exact (Or.inr ⟨hlt_b1, Wc.nil⟩))
 refine t_U 3 ?_
 refine eD_ (fun y2 t1 hy2 ht1 => ?_)
 refine t_U 1 ?_
 refine eD_ (fun y3 t2 hy3 ht2 => ?_)
 refine t_N ?_
 intro h s σ hS hH
 obtain rfl := si_1 h
 exact pn_ (ents := [.own true 3 t2 y3.1.t]) (z := false) hH (bs_ (v := t2) hS rfl (bs_ (v := i4 y3.2) hS rfl r_nil)) (HL.tup (es1 := [.own true 3 t2 y3.1.t]) (es2 := []) (HL.own rfl (HLi HL.nil)) HL.nil) (by simp [pureT, pureL, E_t2_sl_DMatch_i64])
noncomputable def b5_ (a0 : ag_) : Option ((Sl DNamed) × ag_) := ((aF_ (S := (Int × (Sl (Iv .u8)) × Int × Int × (Sl DNamed))) (R := ((Sl (Iv .u8)) × Int × Int × (Sl DNamed))) (fun st1 => (if (decide (st1.1 < 5)) = true then ((a2_ (⟨st1.2.1, st1.2.2.1, st1.2.2.2.1⟩ : ag_) 3).bind fun y2 => (if (!y2.1) = true then ((elt (⟨false, [⟨#[120]⟩, ⟨#[121]⟩, ⟨#[122]⟩, ⟨#[80, 97, 116]⟩, ⟨#[97, 95, 49]⟩]⟩ : Sl ByteArray) st1.1).bind fun y3 => ((aL_ y2.2 4).bind fun y4 => ((cc_ y4.2 y4.1).bind fun y5 => ((appS 72 st1.2.2.2.2 (⟨false, [(⟨y3, y5.1⟩ : DNamed)]⟩ : Sl DNamed)).bind fun y6 => (some (.inl ((w4 (st1.1 + 1)), y5.2.code_, y5.2.at_, y5.2.seed_, y6))))))) else (some (.inl ((w4 (st1.1 + 1)), y2.2.code_, y2.2.at_, y2.2.seed_, st1.2.2.2.2))))) else (some (.inr (st1.2.1, st1.2.2.1, st1.2.2.2.1, st1.2.2.2.2))))) (0, a0.code_, a0.at_, a0.seed_, (⟨false, []⟩ : Sl DNamed))).bind fun y1 => (some (y1.2.2.2, (⟨y1.1, y1.2.1, y1.2.2.1⟩ : ag_))))
theorem j3_ (a0 : ag_) (r : ((Sl DNamed) × ag_)) (h : b5_ a0 = some r) (bp0 : Nat) : RawS Try.prog md ext 82 [.ptr bp0 0 0 3] Sh_sl_DNamed.n (fun hs => Sh_sl_DNamed.tree hs r.1) [.box bp0 (ag_.cells a0)] (fun hs => Sh_sl_DNamed.en hs r.1 ++ [.box bp0 (ag_.cells r.2)]) := by
 unfold b5_ at h
 refine b9_ rfl rfl ok_82 rfl ?_
 intro σ0 σ F σk s hS hH
 have hS := ad_ (L' := [(0, .ptr bp0 0 0 3)]) hS (by kernel_rfl)
 refine t_go h hS hH ?_
 refine t_RN ?_
 refine t_R ?_
 refine rA_ (α := DNamed) (fun t1 ht1 => ?_)
 refine t_N ?_
 refine t_R ?_
 refine k_bs (z := true) (⟨false, [⟨#[120]⟩, ⟨#[121]⟩, ⟨#[122]⟩, ⟨#[80, 97, 116]⟩, ⟨#[97, 95, 49]⟩]⟩ : Sl ByteArray) (fun t2 ht2 => ?_)
 refine t_N ?_
 refine t_RN ?_
 refine a6_ (fun st1 fr => ∃ t4, ar_ t4 ∧ Sub [(0, .ptr bp0 0 0 3), (3, t4), (4, t2), (5, i4 st1.1)] fr.s ∧ Heap σ0 fr.σ [.box bp0 [st1.2.1.t, i4 st1.2.2.1, .int .u64 st1.2.2.2.1], .own true 5 t4 st1.2.2.2.2.t, .own true 1 t2 (Sl.t (⟨false, [⟨#[120]⟩, ⟨#[121]⟩, ⟨#[122]⟩, ⟨#[80, 97, 116]⟩, ⟨#[97, 95, 49]⟩]⟩ : Sl ByteArray)), .keep F σk]) (fun y1 e fr => ∃ t5, ar_ t5 ∧ e = (.exit 0) ∧ Sub [(3, t5)] fr.s ∧ Heap σ0 fr.σ [.box bp0 [y1.1.t, i4 y1.2.1, .int .u64 y1.2.2.1], .own true 5 t5 y1.2.2.2.t, .keep F σk]) (fun hS hH => ⟨t1, ht1, (ad_ hS (by kernel_rfl)), (Heap.sel hH [2, 1, 0, 3] rfl (by kernel_rfl))⟩) (fun st1 x fr h HI => ?_) fun y1 e fr h HF => ?_
 ·obtain ⟨s, σ⟩ := fr; obtain ⟨t4, ht4, ⟨hS, hH⟩⟩ := HI
  refine t_bk h hS hH ?_
  refine t_RN ?_
  refine t_if (fun hc1 => ?_) fun hc1 => ?_
  ·refine t_RU 1 ?_
   refine aK_ (fun y2 hs hy2 hl => ?_) (hr := by exact fun y2 hy2 => cB_ _ _ y2 hy2 bp0)
   obtain rfl := len0 hl
   refine bf_ ?_
   refine t_N ?_
   refine t_if (fun hc2 => ?_) fun hc2 => ?_
   ·refine be_ [(7, (RT t2 RN)), (8, (RT t2 RN)), (11, RN)] ext_x fun mb σs hn0 hlt hlto => ?_
    have hlt_t2 : ∀ b e o n, t2 = .ref b e o n → b < mb := fun b e o n h => hlto _ _ _ _ (List.Mem.tail _ (List.Mem.tail _ (List.Mem.head _))) b e o n h
    refine t_U 3 ?_
    refine h9_ 2 (fun hb1 hb1e y3 hy3 hl_hb1 => ?_) (hlt := by exact (fun b e o n h => Or.inr ⟨hlt_t2 b e o n h, (Wc.cons (.inr (Or.inl ⟨_, _, _, h⟩)) (Wc.cons (.inr (Or.inl ⟨_, _, _, h⟩)) (Wc.cons (.inl (by kernel_rfl)) Wc.nil)))⟩))
    refine ju_ 2 0 hl_hb1 hy3 ?_ (hlt := by exact (fun b e o n h => Or.inr ⟨hlt_t2 b e o n h, (Wc.cons (.inr (Or.inl ⟨_, _, _, h⟩)) (Wc.cons (.inr (Or.inl ⟨_, _, _, h⟩)) (Wc.cons (.inl (by kernel_rfl)) Wc.nil)))⟩))
    refine t_U 2 ?_
    refine d2_ (RT t2 RN) ext_x (Stay.own (List.Mem.tail _ (List.Mem.head _)) Stay.nil) (by exact fun x hx => Or.inr ⟨7, by kernel_rfl, hx⟩) (fun y4 hs hy4 hl => ?_) (hr := by exact fun y4 hy4 => a8_ _ _ y4 hy4 bp0)
    obtain rfl := len0 hl
    refine bf_ ?_
    refine d2_ (RT t2 RN) ext_x (Stay.own (List.Mem.tail _ (List.Mem.head _)) Stay.nil) (by exact fun x hx => Or.inr ⟨8, by kernel_rfl, hx⟩) (fun y5 hs hy5 hl => ?_) (hr := by exact fun y5 hy5 => gn_ _ _ y5 hy5 bp0)
    obtain ⟨t6, rfl⟩ := len1 hl
    refine bf_ ?_
    refine ay_ 0 fun ht6 => ?_
    intro h s σ hS hH
    refine ln_ (qs := [(0, .str y3), (1, .agg [i4 y5.1.Kind, i4 y5.1.Num, .str y5.1.Text, t6])]) (z := [.str ⟨#[]⟩, i4 0, i4 0, .str ⟨#[]⟩, (nt DPattern)]) (r := [.str y3, i4 y5.1.Kind, i4 y5.1.Num, .str y5.1.Text, t6]) [[.str y3], [i4 y5.1.Kind, i4 y5.1.Num, .str y5.1.Text, t6]] rfl hS rfl (by kernel_rfl) (by kernel_rfl) (⟨rfl, (by kernel_rfl), rfl, (by simp [ht6.1, ht6.2]), trivial⟩) (by kernel_rfl) ?_; intro s hS
    refine t_bk h hS hH ?_
    refine k_bs (z := true) (⟨false, [(⟨y3, y5.1⟩ : DNamed)]⟩ : Sl DNamed) (fun t7 ht7 => ?_) (hb := by exact hn0) (h1 := by simp [ht6.1, ht6.2])
    refine lF_ 2 0 (fun y6 t8 hy6 ht8 => ?_) (hb := by exact hn0) (hwr := by exact fun hH b e o n h0 => Or.inr ⟨11, by kernel_rfl, fun h => h⟩)
    refine t_N ?_
    refine t_RN ?_
    exact t_e fun he hS hH => he ▸ ⟨t8, ht8, (ad_ hS (by kernel_rfl)), (Heap.sel hH [1, 0, 2, 3] rfl (by kernel_rfl))⟩
   refine t_RN ?_
   exact t_e fun he hS hH => he ▸ ⟨t4, ht4, (ad_ hS (by kernel_rfl)), hH⟩
  exact t_e fun he hS hH => he ▸ ⟨t4, ht4, rfl, (ad_ hS (by kernel_rfl)), (Heap.sel hH [0, 1, 3] rfl (by kernel_rfl))⟩
 obtain ⟨s, σ⟩ := fr
 obtain ⟨t5, ht5, ⟨rfl, hS, hH⟩⟩ := HF
 refine t_bx h hS hH ?_
 refine t_RN ?_
 intro h s σ hS hH
 obtain rfl := si_1 h
 exact aR_ [t5] (bs_ (v := t5) hS rfl r_nil) rfl rfl (Heap.sel hH [1, 0, 2] rfl (by kernel_rfl))
noncomputable def dI_ (a0 : (Sl (Iv .u8))) : Option (Sl DNamed) := ((b5_ (⟨a0, 0, 0⟩ : ag_)).bind fun y1 => ((aF_ (S := (Int × (Sl DNamed))) (R := (Sl DNamed)) (fun st1 => (if (decide (st1.1 < (st1.2.l.length : Int))) = true then ((elt st1.2 st1.1).bind fun y3 => ((bw_ y3.Pattern).bind fun y4 => ((elt st1.2 st1.1).bind fun y5 => (some (.inl ((w4 (st1.1 + 1)), (setS st1.2 st1.1 ((⟨y5.Name, y4⟩ : DNamed) : DNamed)))))))) else (some (.inr st1.2)))) (0, y1.1)).bind fun y2 => (some y2)))
theorem hL_ (a0 : (Sl (Iv .u8))) (r : (Sl DNamed)) (h : dI_ a0 = some r) : dN_ a0 = some r := by
 unfold dI_ at h
 refine k_W ok_41 E_sl_DNamed_inj h (fun σ0 => ?_)
 refine t_RN ?_
 refine t_RU 1 ?_
 refine dS_ ok_55 ?_
 refine t_RN ?_
 refine t_RU 2 ?_
 refine cI_ (fun b1 => ?_)
 refine t_N ?_
 refine k_eI (rT rN) ?_
 refine t_N ?_
 refine t_RU 1 ?_
 refine aK_ (fun y1 hs hy1 hl => ?_) (hr := by exact fun y1 hy1 => j3_ _ y1 hy1 b1)
 obtain ⟨t1, rfl⟩ := len1 hl
 refine bf_ ?_
 refine ay_ 0 fun ht1 => ?_
 refine t_N ?_
 refine t_RN ?_
 refine a6_ (fun st1 fr => Sub [(4, t1), (5, i4 st1.1)] fr.s ∧ Heap σ0 fr.σ [.own true 5 t1 st1.2.t]) (fun y2 e fr => e = (.exit 0) ∧ Sub [(4, t1)] fr.s ∧ Heap σ0 fr.σ [.own true 5 t1 y2.t]) (fun hS hH => ⟨(ad_ hS (by kernel_rfl)), (Heap.sel hH [0] rfl (by kernel_rfl))⟩) (fun st1 x fr h HI => ?_) fun y2 e fr h HF => ?_
 ·obtain ⟨s, σ⟩ := fr; obtain ⟨hS, hH⟩ := HI
  refine t_bk h hS hH ?_
  refine t_RU 2 ?_
  refine iC_ (a := st1.2) 0 ?_
  refine t_N ?_
  refine t_if (fun hc1 => ?_) fun hc1 => ?_
  ·refine t_RU 4 ?_
   refine h9_ 0 (fun hb1 hb1e y3 hy3 hl_hb1 => ?_)
   refine t_U 1 ?_
   intro h s σ hS hH
   refine pt_ (a := st1.2) (j := st1.1) (y := y3) (o0 := 1) (sz := 4) (off := 4) (c := [.str y3.Name, i4 y3.Pattern.Kind, i4 y3.Pattern.Num, .str y3.Pattern.Text, y3.Pattern.Kids.t]) (q := (y3.Pattern.Kids : Sl DPattern)) (fun _ _ _ _ _ => trivial) rfl hS hH hl_hb1 rfl hy3 rfl (by kernel_rfl) (by kernel_rfl) rfl (by kernel_rfl) (by kernel_rfl) (by kernel_rfl) (by kernel_rfl) (by kernel_rfl) (by kernel_rfl) ?_; intro F1 σk1 t2 s ht2 hH hcl1 hcl1s hcl1p hcl1k hcl1f hS
   refine t_bk h hS hH ?_
   refine eD_ (fun y4 t3 hy4 ht3 => ?_)
   refine t_h (·.up2.up2) ?_
   intro h s σ hS hH
   have hH := hcl1s _ _ hH
   have hH : Heap σ0 σ [.own true 5 t1 st1.2.t, .own true 4 t3 y4.Kids.t] := hH
   refine t_bk h hS hH ?_
   refine h9_ 0 (fun hb2 hb2e y5 hy5 hl_hb2 => ?_)
   refine t_U 1 ?_
   intro h s σ hS hH
   refine oX_ (ents := [.own true 4 t3 y4.Kids.t]) (a := st1.2) (j := st1.1) (y := y5) (y' := ((⟨y5.Name, y4⟩ : DNamed) : DNamed)) (off := 1) (c := [.str y5.Name, i4 y5.Pattern.Kind, i4 y5.Pattern.Num, .str y5.Pattern.Text, y5.Pattern.Kids.t]) (us := [i4 y4.Kind, i4 y4.Num, .str y4.Text, t3]) (vs := [i4 y4.Kind, i4 y4.Num, .str y4.Text, y4.Kids.t]) (v := .agg [i4 y4.Kind, i4 y4.Num, .str y4.Text, t3]) rfl hS hH hl_hb2 rfl rfl rfl (by simp [ht3.1, ht3.2]) (by kernel_rfl) rfl hy5 rfl (HLi (HLi (HLs (HL.own rfl HL.nil)))) rfl (by kernel_rfl) ?_; intro σ s hH hS
   refine t_bk h hS hH ?_
   refine t_N ?_
   refine t_RN ?_
   exact t_e fun he hS hH => he ▸ ⟨(ad_ hS (by kernel_rfl)), hH⟩
  exact t_e fun he hS hH => he ▸ ⟨rfl, (ad_ hS (by kernel_rfl)), hH⟩
 obtain ⟨s, σ⟩ := fr
 obtain ⟨rfl, hS, hH⟩ := HF
 refine t_bx h hS hH ?_
 refine t_RN ?_
 intro h s σ hS hH
 obtain rfl := si_1 h
 exact pn_ (ents := [.own true 5 t1 y2.t]) (z := false) hH (bs_ (v := t1) hS rfl r_nil) (HL.own rfl HL.nil) (by simp [pureT, pureL, E_sl_DNamed])
noncomputable def fz_ (a0 : (Sl (Iv .u8))) (a1 : Int) (a2 : Int) : Option Int := (if (decide (a2 ≤ 1)) = true then (some 0) else (if (decide ((a0.l.length : Int) = 0)) = true then ((remI (w4 (a1 * 7)) a2).bind fun y1 => (some y1)) else ((remI a1 (a0.l.length : Int)).bind fun y2 => ((elt a0 y2).bind fun y3 => ((remI (w4 (a1 + 1)) (a0.l.length : Int)).bind fun y4 => ((elt a0 y4).bind fun y5 => ((quoI .i64 a1 (a0.l.length : Int)).bind fun y6 => ((remI ((w4 ((w4 ((w4 ((w4 y3.v) * 31)) + (w4 y5.v))) + y6))) a2).bind fun y7 => (some y7)))))))))
theorem la_ (a0 : (Sl (Iv .u8))) (a1 : Int) (a2 : Int) (r : Int) (h : fz_ a0 a1 a2 = some r) : fb_ a0 a1 a2 = some r := by
 unfold fz_ at h
 refine k_W ok_42 E_i64_inj h (fun σ0 => ?_)
 refine t_RN ?_
 refine t_RN ?_
 refine t_if (fun hc1 => ?_) fun hc1 => ?_
 ·refine t_RN ?_
  exact k_eW (rT rN) E_i64_p
 refine t_RN ?_
 refine t_if (fun hc2 => ?_) fun hc2 => ?_
 ·refine t_RU 3 ?_
  intro h s σ hS hH
  obtain ⟨y1, hy1, h⟩ := bind_some h
  refine i9_ rfl hS rfl rfl hy1 ?_; intro s hS
  refine t_bk h hS hH ?_
  refine t_N ?_
  exact k_eW (rT rN) E_i64_p
 refine t_RN ?_
 refine t_D fun mb => ?_
 refine t_U 3 ?_
 intro h s σ hS hH
 obtain ⟨y2, hy2, h⟩ := bind_some h
 refine i9_ rfl hS rfl rfl hy2 ?_; intro s hS
 refine t_bk h hS hH ?_
 refine cj_ fun y3 rest1 hy3 => ?_
 refine t_U 7 ?_
 intro h s σ hS hH
 obtain ⟨y4, hy4, h⟩ := bind_some h
 refine i9_ rfl hS rfl rfl hy4 ?_; intro s hS
 refine t_bk h hS hH ?_
 refine cj_ fun y5 rest2 hy5 => ?_
 refine t_U 5 ?_
 intro h s σ hS hH
 obtain ⟨y6, hy6, h⟩ := bind_some h
 refine tn_ rfl hS rfl rfl hy6 ?_; intro s hS
 refine t_bk h hS hH ?_
 refine t_U 2 ?_
 intro h s σ hS hH
 obtain ⟨y7, hy7, h⟩ := bind_some h
 refine i9_ rfl hS rfl rfl hy7 ?_; intro s hS
 refine t_bk h hS hH ?_
 refine t_N ?_
 exact k_eW (rT rN) E_i64_p
end Go.Am
