/- Functions of the program. -/
import Derived.Test.YtkgmfmcpbgffpaaAd0
set_option maxRecDepth 100000
set_option maxHeartbeats 4000000
set_option linter.unusedVariables false
set_option linter.unusedSimpArgs false
namespace Go.Am
open Go.Proofs
noncomputable def eg_ (a0 : (Sl (Iv .u8))) : Option Bool := (if (decide (1048576 < (a0.l.length : Int))) = true then (some true) else ((fS_ a0).bind fun y1 => ((c4_ 1 a0).bind fun y2 => ((dg_ y2).bind fun y3 => ((c4_ 2 a0).bind fun y4 => ((dg_ y4).bind fun y5 => ((c4_ 3 a0).bind fun y6 => ((dg_ y6).bind fun y7 => ((c4_ 4 a0).bind fun y8 => ((dW_ y8).bind fun y9 => ((bn_ y3 y5).bind fun y10 => ((bn_ y5 y7).bind fun y11 => (if (!y10.2) = true then (some false) else (if (!y11.2) = true then (some false) else ((bn_ y10.1 y7).bind fun y12 => ((bn_ y3 y11.1).bind fun y13 => (if (!y12.2) = true then (some false) else (if (!y13.2) = true then (some false) else ((cw_ y12.1 y13.1).bind fun y14 => (if (!y14) = true then (some false) else ((gd_ y3 y5).bind fun y15 => ((bg_ y1 y15 y9 true 800).bind fun y16 => ((bg_ y1 y10.1 y9 true 20000).bind fun y17 => (if (!decide (y16.2 = 0)) = true then (some true) else (if (decide (y17.2 = 0)) = true then ((b4_ y16.1 y17.1).bind fun y18 => (some y18)) else (some false))))))))))))))))))))))))))
theorem ii_ (a0 : (Sl (Iv .u8))) (r : Bool) (h : eg_ a0 = some r) : f7_ a0 = some r := by
 unfold eg_ at h
 refine k_W ok_10 E_bool_inj h (fun σ0 => ?_)
 refine t_RN ?_
 refine t_RN ?_
 refine t_if (fun hc1 => ?_) fun hc1 => ?_
 ·refine t_RN ?_
  exact k_eW (rT rN) E_bool_p
 refine t_RU 1 ?_
 refine an_ fun y1 hy1 => ?_
 refine t_N ?_
 refine t_RU 1 ?_
 refine an_ fun y2 hy2 => ?_
 refine an_ fun y3 hy3 => ?_
 refine a2_ fun b1 => ?_
 refine af_ 0 ?_
 refine t_N ?_
 refine t_RU 1 ?_
 refine an_ fun y4 hy4 => ?_
 refine an_ fun y5 hy5 => ?_
 refine a2_ fun b2 => ?_
 refine af_ 0 ?_
 refine t_N ?_
 refine t_RU 1 ?_
 refine an_ fun y6 hy6 => ?_
 refine an_ fun y7 hy7 => ?_
 refine a2_ fun b3 => ?_
 refine af_ 0 ?_
 refine t_N ?_
 refine t_RU 1 ?_
 refine an_ fun y8 hy8 => ?_
 refine an_ fun y9 hy9 => ?_
 refine t_N ?_
 refine t_R ?_
 refine ab_ 2 ?_
 refine ab_ 1 ?_
 refine an_ fun y10 hy10 => ?_
 refine t_U 3 ?_
 refine a2_ fun b4 => ?_
 refine af_ 0 ?_
 refine t_N ?_
 refine t_R ?_
 refine ab_ 2 ?_
 refine ab_ 1 ?_
 refine an_ fun y11 hy11 => ?_
 refine t_U 3 ?_
 refine a2_ fun b5 => ?_
 refine af_ 0 ?_
 refine t_N ?_
 refine t_RU 3 ?_
 refine ay_ 51 (fun hc2 => ?_) fun hc2 => ?_
 ·refine t_N ?_
  refine t_cT rfl ?_
  refine t_RN ?_
  exact k_eW (rT rN) E_bool_p
 refine t_N ?_
 refine t_if (fun hc3 => ?_) fun hc3 => ?_
 ·refine t_RN ?_
  exact k_eW (rT rN) E_bool_p
 refine t_R ?_
 refine ab_ 1 ?_
 refine ab_ 2 ?_
 refine an_ fun y12 hy12 => ?_
 refine t_U 3 ?_
 refine a2_ fun b6 => ?_
 refine af_ 0 ?_
 refine t_N ?_
 refine t_R ?_
 refine ab_ 5 ?_
 refine ab_ 1 ?_
 refine an_ fun y13 hy13 => ?_
 refine t_U 3 ?_
 refine a2_ fun b7 => ?_
 refine af_ 0 ?_
 refine t_N ?_
 refine t_RU 3 ?_
 refine ay_ 69 (fun hc4 => ?_) fun hc4 => ?_
 ·refine t_N ?_
  refine t_cT rfl ?_
  refine t_RN ?_
  exact k_eW (rT rN) E_bool_p
 refine t_U 4 ?_
 refine ay_ 73 (fun hc5 => ?_) fun hc5 => ?_
 ·refine t_N ?_
  refine t_cT rfl ?_
  refine t_RN ?_
  exact k_eW (rT rN) E_bool_p
 refine ab_ 1 ?_
 refine ab_ 0 ?_
 refine an_ fun y14 hy14 => ?_
 refine t_N ?_
 refine t_if (fun hc6 => ?_) fun hc6 => ?_
 ·refine t_RN ?_
  exact k_eW (rT rN) E_bool_p
 refine t_RU 1 ?_
 refine ab_ 6 ?_
 refine ab_ 5 ?_
 refine an_ fun y15 hy15 => ?_
 refine t_U 1 ?_
 refine an_ fun y16 hy16 => ?_
 refine t_N ?_
 refine t_RU 1 ?_
 refine ab_ 3 ?_
 refine t_U 1 ?_
 refine an_ fun y17 hy17 => ?_
 refine t_N ?_
 refine t_RU 3 ?_
 refine ay_ 97 (fun hc7 => ?_) fun hc7 => ?_
 ·refine t_N ?_
  exact k_eW (rT rN) E_bool_p
 refine t_U 3 ?_
 refine ay_ 100 (fun hc8 => ?_) fun hc8 => ?_
 ·refine t_U 2 ?_
  refine an_ fun y18 hy18 => ?_
  refine t_N ?_
  exact k_eW (rT rN) E_bool_p
 refine t_N ?_
 exact k_eW (rT rN) E_bool_p
noncomputable def bw_ (a0 : ae_) : Option (Int × ae_) := (((if (decide (a0.at_ < (a0.code_.l.length : Int))) = true then ((elt a0.code_ a0.at_).bind fun y2 => (some (w4 y2.v))) else (some 0)) : Option Int).bind fun y1 => (if ((decide ((w4 (a0.at_ + 1)) ≤ (a0.code_.l.length : Int)))) = true then (some (y1, (⟨a0.code_, (w4 (a0.at_ + 1)), (IntKind.u64.wrap ((IntKind.u64.wrap ((IntKind.u64.wrap (a0.seed_ * 6364136223846793005)) + (IntKind.u64.wrap y1))) + 1442695040888963407))⟩ : ae_))) else (some ((w4 ((andI .u64 ((((IntKind.u64.wrap ((IntKind.u64.wrap ((IntKind.u64.wrap (a0.seed_ * 6364136223846793005)) + (IntKind.u64.wrap y1))) + 1442695040888963407))).fdiv (2 ^ 40))) 255))), (⟨a0.code_, (w4 (a0.at_ + 1)), (IntKind.u64.wrap ((IntKind.u64.wrap ((IntKind.u64.wrap (a0.seed_ * 6364136223846793005)) + (IntKind.u64.wrap y1))) + 1442695040888963407))⟩ : ae_)))))
theorem eM_ (a0 : ae_) (r : (Int × ae_)) (h : bw_ a0 = some r) (bp0 : Nat) : RawS Try.prog md ext 114 [.ptr bp0 0 0 3] 0 (fun hs => E_i64 r.1) [.box bp0 (ae_.cells a0)] (fun hs => [.box bp0 (ae_.cells r.2)]) := by
 unfold bw_ at h
 refine cC_ rfl rfl ok_114 rfl ?_
 intro σ0 σ F σk s hS hH
 have hS := ad_ (L' := [(0, .ptr bp0 0 0 3)]) hS (by kernel_rfl)
 refine t_go h hS hH ?_
 refine t_RN ?_
 refine t_RN ?_
 refine t_D fun mb => ?_
 refine t_U 3 ?_
 refine ab_ 0 ?_
 refine t_U 3 ?_
 refine ab_ 0 ?_
 refine t_N ?_
 refine d4_ 0 (fun y1 e fr => e = .normal ∧ Sub [(0, .ptr bp0 0 0 3), (3, i4 y1)] fr.s ∧ Heap σ0 fr.σ [.box bp0 (ae_.cells a0), .keep F σk]) (fun y1 e fr h HF => ?_) fun y1 => ?_
 ·obtain ⟨s, σ⟩ := fr
  obtain ⟨rfl, hS, hH⟩ := HF
  refine t_bx h hS hH ?_
  refine t_RU 3 ?_
  refine ab_ 0 ?_
  refine t_U 3 ?_
  refine a6_ 0 ?_
  refine t_N ?_
  refine t_RU 4 ?_
  refine ab_ 0 ?_
  refine t_U 7 ?_
  refine a6_ 0 ?_
  refine t_N ?_
  refine t_D fun mb => ?_
  refine t_U 3 ?_
  refine ab_ 0 ?_
  refine t_U 3 ?_
  refine ab_ 0 ?_
  refine t_N ?_
  refine t_if (fun hc1 => ?_) fun hc1 => ?_
  ·refine t_RN ?_
   intro h s σ hS hH
   obtain rfl := si_1 h
   exact bp_ [] (bE_ (v := i4 y1) hS rfl r_nil) rfl rfl hH
  refine t_RU 3 ?_
  refine ab_ 0 ?_
  refine t_N ?_
  intro h s σ hS hH
  obtain rfl := si_1 h
  exact bp_ [] (bE_ (v := i4 ((w4 ((andI .u64 ((((IntKind.u64.wrap ((IntKind.u64.wrap ((IntKind.u64.wrap (a0.seed_ * 6364136223846793005)) + (IntKind.u64.wrap y1))) + 1442695040888963407))).fdiv (2 ^ 40))) 255))))) hS rfl r_nil) rfl rfl hH
 refine t_if (fun hc2 => ?_) fun hc2 => ?_
 ·refine t_D fun mb => ?_
  refine t_U 3 ?_
  refine ab_ 0 ?_
  refine t_U 3 ?_
  refine ab_ 0 ?_
  refine cA_ fun y2 rest1 hy2 => ?_
  refine t_N ?_
  exact t_e fun he hS hH => he ▸ ⟨rfl, (ad_ hS (by kernel_rfl)), hH⟩
 exact t_e fun he hS hH => he ▸ ⟨rfl, (ad_ hS (by kernel_rfl)), hH⟩
noncomputable def aG_ (a0 : ae_) (a1 : Int) : Option (Int × ae_) := (if (decide (a1 ≤ 1)) = true then (some (0, a0)) else ((bw_ a0).bind fun y1 => (if (decide (200 < a1)) = true then ((bw_ y1.2).bind fun y2 => ((remI (w4 ((w4 (y1.1 * 256)) + y2.1)) a1).bind fun y3 => (some (y3, y2.2)))) else ((remI y1.1 a1).bind fun y4 => (some (y4, y1.2))))))
theorem bb_ (a0 : ae_) (a1 : Int) (r : (Int × ae_)) (h : aG_ a0 a1 = some r) (bp0 : Nat) : RawS Try.prog md ext 65 [.ptr bp0 0 0 3, i4 a1] 0 (fun hs => E_i64 r.1) [.box bp0 (ae_.cells a0)] (fun hs => [.box bp0 (ae_.cells r.2)]) := by
 unfold aG_ at h
 refine cC_ rfl rfl ok_65 rfl ?_
 intro σ0 σ F σk s hS hH
 have hS := ad_ (L' := [(0, .ptr bp0 0 0 3), (1, i4 a1)]) hS (by kernel_rfl)
 refine t_go h hS hH ?_
 refine t_RN ?_
 refine t_RN ?_
 refine t_if (fun hc1 => ?_) fun hc1 => ?_
 ·refine t_RN ?_
  intro h s σ hS hH
  obtain rfl := si_1 h
  exact bp_ [] (bE_ (v := i4 0) hS rfl r_nil) rfl rfl hH
 refine t_RU 1 ?_
 refine a1_ (fun y1 hs hy1 hl => ?_) (hr := by exact fun y1 hy1 => eM_ _ y1 hy1 bp0)
 obtain rfl := len0 hl
 refine cj_ ?_
 refine t_N ?_
 refine t_RN ?_
 refine t_if (fun hc2 => ?_) fun hc2 => ?_
 ·refine t_RU 3 ?_
  refine a1_ (fun y2 hs hy2 hl => ?_) (hr := by exact fun y2 hy2 => eM_ _ y2 hy2 bp0)
  obtain rfl := len0 hl
  refine cj_ ?_
  refine t_N ?_
  refine t_RU 2 ?_
  intro h s σ hS hH
  obtain ⟨y3, hy3, h⟩ := bind_some h
  refine qy_ rfl hS rfl rfl hy3 ?_; intro s hS
  refine t_bk h hS hH ?_
  refine t_N ?_
  intro h s σ hS hH
  obtain rfl := si_1 h
  exact bp_ [] (bE_ (v := i4 y3) hS rfl r_nil) rfl rfl hH
 refine t_RU 2 ?_
 intro h s σ hS hH
 obtain ⟨y4, hy4, h⟩ := bind_some h
 refine qy_ rfl hS rfl rfl hy4 ?_; intro s hS
 refine t_bk h hS hH ?_
 refine t_N ?_
 intro h s σ hS hH
 obtain rfl := si_1 h
 exact bp_ [] (bE_ (v := i4 y4) hS rfl r_nil) rfl rfl hH
noncomputable def aX_ (a0 : ae_) (a1 : Int) : Option (Bool × ae_) := ((aG_ a0 a1).bind fun y1 => (some ((decide (y1.1 = 0)), y1.2)))
theorem cH_ (a0 : ae_) (a1 : Int) (r : (Bool × ae_)) (h : aX_ a0 a1 = some r) (bp0 : Nat) : RawS Try.prog md ext 109 [.ptr bp0 0 0 3, i4 a1] 0 (fun hs => E_bool r.1) [.box bp0 (ae_.cells a0)] (fun hs => [.box bp0 (ae_.cells r.2)]) := by
 unfold aX_ at h
 refine cC_ rfl rfl ok_109 rfl ?_
 intro σ0 σ F σk s hS hH
 have hS := ad_ (L' := [(0, .ptr bp0 0 0 3), (1, i4 a1)]) hS (by kernel_rfl)
 refine t_go h hS hH ?_
 refine t_RN ?_
 refine t_RU 2 ?_
 refine a1_ (fun y1 hs hy1 hl => ?_) (hr := by exact fun y1 hy1 => bb_ _ _ y1 hy1 bp0)
 obtain rfl := len0 hl
 refine cj_ ?_
 refine t_N ?_
 intro h s σ hS hH
 obtain rfl := si_1 h
 exact bp_ [] (bE_ (v := .bool (decide (y1.1 = 0))) hS rfl r_nil) rfl rfl hH
noncomputable def aO_ (a0 : ae_) (a1 : (Sl ByteArray)) : Option (ByteArray × ae_ × (Sl ByteArray)) := ((aG_ a0 (a1.l.length : Int)).bind fun y1 => ((elt a1 y1.1).bind fun y2 => (some (y2, y1.2, a1))))
theorem c9_ (a0 : ae_) (a1 : (Sl ByteArray)) (r : (ByteArray × ae_ × (Sl ByteArray))) (h : aO_ a0 a1 = some r) (bp0 : Nat) (wp1_1 : Nat) (p1_1 : T) : RawS Try.prog md ext 121 [.ptr bp0 0 0 3, p1_1] 0 (fun hs => E_str r.1) [.box bp0 (ae_.cells a0), .own true wp1_1 p1_1 a1.t] (fun hs => [.box bp0 (ae_.cells r.2.1), .own true wp1_1 p1_1 r.2.2.t]) := by
 unfold aO_ at h
 refine cC_ rfl rfl ok_121 rfl ?_
 intro σ0 σ F σk s hS hH
 have hp1_1 : ar_ p1_1 := Heap.one (hH.at 1 rfl)
 have hS := ad_ (L' := [(0, .ptr bp0 0 0 3), (1, p1_1)]) hS (by kernel_rfl)
 refine t_go h hS hH ?_
 refine t_RN ?_
 refine t_RU 3 ?_
 refine mF_ (a := a1) 1 ?_
 refine a1_ (fun y1 hs hy1 hl => ?_) (hr := by exact fun y1 hy1 => bb_ _ _ y1 hy1 bp0)
 obtain rfl := len0 hl
 refine cj_ ?_
 refine mG_ 1 (fun hb1 hb1e y2 hy2 hl_hb1 => ?_)
 refine lW_ 1 0 hl_hb1 hy2 ?_
 refine t_N ?_
 intro h s σ hS hH
 obtain rfl := si_1 h
 exact bp_ [] (bE_ (v := .str y2) hS rfl r_nil) rfl rfl hH
noncomputable def bd_ (a0 : ae_) : Option (ByteArray × ae_) := ((aO_ a0 (⟨false, [⟨#[97]⟩, ⟨#[98]⟩, ⟨#[97, 98]⟩, ⟨#[98, 97]⟩, ⟨#[97, 98, 99]⟩, ⟨#[40]⟩, ⟨#[41]⟩, ⟨#[40, 41]⟩, ⟨#[120]⟩, ⟨#[97, 97]⟩, ⟨#[99]⟩, ⟨#[34]⟩, ⟨#[97, 34, 98]⟩, ⟨#[0]⟩, ⟨#[120, 121]⟩, ⟨#[98, 99]⟩]⟩)).bind fun y1 => (some (y1.1, y1.2.1)))
theorem f3_ (a0 : ae_) (r : (ByteArray × ae_)) (h : bd_ a0 = some r) (bp0 : Nat) : RawS Try.prog md ext 73 [.ptr bp0 0 0 3] 0 (fun hs => E_str r.1) [.box bp0 (ae_.cells a0)] (fun hs => [.box bp0 (ae_.cells r.2)]) := by
 unfold bd_ at h
 refine cC_ rfl rfl ok_73 rfl ?_
 intro σ0 σ F σk s hS hH
 have hS := ad_ (L' := [(0, .ptr bp0 0 0 3)]) hS (by kernel_rfl)
 refine t_go h hS hH ?_
 refine t_RN ?_
 refine t_RU 1 ?_
 refine k_bs (z := true) (⟨false, [⟨#[97]⟩, ⟨#[98]⟩, ⟨#[97, 98]⟩, ⟨#[98, 97]⟩, ⟨#[97, 98, 99]⟩, ⟨#[40]⟩, ⟨#[41]⟩, ⟨#[40, 41]⟩, ⟨#[120]⟩, ⟨#[97, 97]⟩, ⟨#[99]⟩, ⟨#[34]⟩, ⟨#[97, 34, 98]⟩, ⟨#[0]⟩, ⟨#[120, 121]⟩, ⟨#[98, 99]⟩]⟩ : Sl ByteArray) (fun t1 ht1 => ?_)
 refine t_h Heap.up1 ?_
 refine a1_ (fun y1 hs hy1 hl => ?_) (hr := by exact fun y1 hy1 => c9_ _ _ y1 hy1 bp0 1 t1)
 obtain rfl := len0 hl
 refine cj_ ?_
 refine t_N ?_
 intro h s σ hS hH
 obtain rfl := si_1 h
 exact bp_ [] (bE_ (v := .str y1.1) hS rfl r_nil) rfl rfl (Heap.sel hH [0, 2] rfl (by kernel_rfl))
noncomputable def bo_ (a0 : ae_) (a1 : (Sl (Iv .i64))) : Option (Int × ae_ × (Sl (Iv .i64))) := ((aG_ a0 (a1.l.length : Int)).bind fun y1 => ((elt a1 y1.1).bind fun y2 => (some (y2.v, y1.2, a1))))
theorem eu_ (a0 : ae_) (a1 : (Sl (Iv .i64))) (r : (Int × ae_ × (Sl (Iv .i64)))) (h : bo_ a0 a1 = some r) (bp0 : Nat) (wp1_1 : Nat) (p1_1 : T) : RawS Try.prog md ext 111 [.ptr bp0 0 0 3, p1_1] 0 (fun hs => E_i64 r.1) [.box bp0 (ae_.cells a0), .own true wp1_1 p1_1 a1.t] (fun hs => [.box bp0 (ae_.cells r.2.1), .own true wp1_1 p1_1 r.2.2.t]) := by
 unfold bo_ at h
 refine cC_ rfl rfl ok_111 rfl ?_
 intro σ0 σ F σk s hS hH
 have hp1_1 : ar_ p1_1 := Heap.one (hH.at 1 rfl)
 have hS := ad_ (L' := [(0, .ptr bp0 0 0 3), (1, p1_1)]) hS (by kernel_rfl)
 refine t_go h hS hH ?_
 refine t_RN ?_
 refine t_RU 3 ?_
 refine mF_ (a := a1) 1 ?_
 refine a1_ (fun y1 hs hy1 hl => ?_) (hr := by exact fun y1 hy1 => bb_ _ _ y1 hy1 bp0)
 obtain rfl := len0 hl
 refine cj_ ?_
 refine mG_ 1 (fun hb1 hb1e y2 hy2 hl_hb1 => ?_)
 refine lW_ 1 0 hl_hb1 hy2 ?_
 refine t_N ?_
 intro h s σ hS hH
 obtain rfl := si_1 h
 exact bp_ [] (bE_ (v := i4 y2.v) hS rfl r_nil) rfl rfl hH
noncomputable def bL_ (a0 : ae_) : Option (ByteArray × ae_) := ((aO_ a0 (⟨false, [⟨#[120]⟩, ⟨#[121]⟩, ⟨#[122]⟩, ⟨#[80, 97, 116]⟩, ⟨#[97, 95, 49]⟩]⟩)).bind fun y1 => (some (y1.1, y1.2.1)))
theorem gr_ (a0 : ae_) (r : (ByteArray × ae_)) (h : bL_ a0 = some r) (bp0 : Nat) : RawS Try.prog md ext 113 [.ptr bp0 0 0 3] 0 (fun hs => E_str r.1) [.box bp0 (ae_.cells a0)] (fun hs => [.box bp0 (ae_.cells r.2)]) := by
 unfold bL_ at h
 refine cC_ rfl rfl ok_113 rfl ?_
 intro σ0 σ F σk s hS hH
 have hS := ad_ (L' := [(0, .ptr bp0 0 0 3)]) hS (by kernel_rfl)
 refine t_go h hS hH ?_
 refine t_RN ?_
 refine t_RU 1 ?_
 refine k_bs (z := true) (⟨false, [⟨#[120]⟩, ⟨#[121]⟩, ⟨#[122]⟩, ⟨#[80, 97, 116]⟩, ⟨#[97, 95, 49]⟩]⟩ : Sl ByteArray) (fun t1 ht1 => ?_)
 refine t_h Heap.up1 ?_
 refine a1_ (fun y1 hs hy1 hl => ?_) (hr := by exact fun y1 hy1 => c9_ _ _ y1 hy1 bp0 1 t1)
 obtain rfl := len0 hl
 refine cj_ ?_
 refine t_N ?_
 intro h s σ hS hH
 obtain rfl := si_1 h
 exact bp_ [] (bE_ (v := .str y1.1) hS rfl r_nil) rfl rfl (Heap.sel hH [0, 2] rfl (by kernel_rfl))
noncomputable def bO_ (a0 : ae_) : Option (DPattern × ae_) := ((bo_ a0 (⟨false, [⟨1⟩, ⟨1⟩, ⟨1⟩, ⟨2⟩, ⟨3⟩, ⟨4⟩, ⟨5⟩, ⟨6⟩, ⟨6⟩, ⟨7⟩, ⟨8⟩, ⟨9⟩, ⟨10⟩, ⟨11⟩, ⟨12⟩, ⟨12⟩, ⟨13⟩, ⟨14⟩, ⟨15⟩, ⟨16⟩, ⟨17⟩, ⟨23⟩, ⟨24⟩, ⟨24⟩]⟩)).bind fun y1 => ((cr_ y1.1).bind fun y2 => (if (decide (y2.2 = (⟨#[115]⟩ : ByteArray))) = true then ((bd_ y1.2.1).bind fun y3 => (((if (decide (y1.1 = 1)) = true then ((aX_ y3.2 4).bind fun y5 => (some (y5.1, y5.2.code_, y5.2.at_, y5.2.seed_))) else (some (false, y3.2.code_, y3.2.at_, y3.2.seed_))) : Option (Bool × (Sl (Iv .u8)) × Int × Int)).bind fun y4 => (if y4.1 = true then (some ((⟨y1.1, 0, ⟨#[]⟩, ⟨true, []⟩⟩ : DPattern), (⟨y4.2.1, y4.2.2.1, y4.2.2.2⟩ : ae_))) else (some ((⟨y1.1, 0, y3.1, ⟨true, []⟩⟩ : DPattern), (⟨y4.2.1, y4.2.2.1, y4.2.2.2⟩ : ae_)))))) else (if (decide (y2.2 = (⟨#[110]⟩ : ByteArray))) = true then ((aG_ y1.2.1 4).bind fun y6 => (some ((⟨y1.1, y6.1, ⟨#[]⟩, ⟨true, []⟩⟩ : DPattern), y6.2))) else (if (decide (y2.2 = (⟨#[120]⟩ : ByteArray))) = true then ((bL_ y1.2.1).bind fun y7 => (some ((⟨y1.1, 0, y7.1, ⟨true, []⟩⟩ : DPattern), y7.2))) else (some ((⟨y1.1, 0, ⟨#[]⟩, ⟨true, []⟩⟩ : DPattern), y1.2.1)))))))
theorem gw_ (a0 : ae_) (r : (DPattern × ae_)) (h : bO_ a0 = some r) (bp0 : Nat) : RawS Try.prog md ext 110 [.ptr bp0 0 0 3] Sh_DPattern.n (fun hs => Sh_DPattern.tree hs r.1) [.box bp0 (ae_.cells a0)] (fun hs => Sh_DPattern.en hs r.1 ++ [.box bp0 (ae_.cells r.2)]) := by
 unfold bO_ at h
 refine cC_ rfl rfl ok_110 rfl ?_
 intro σ0 σ F σk s hS hH
 have hS := ad_ (L' := [(0, .ptr bp0 0 0 3)]) hS (by kernel_rfl)
 refine t_go h hS hH ?_
 refine t_R ?_
 refine a2_ fun b1 => ?_
 refine t_N ?_
 refine t_RU 1 ?_
 refine k_bs (z := true) (⟨false, [⟨1⟩, ⟨1⟩, ⟨1⟩, ⟨2⟩, ⟨3⟩, ⟨4⟩, ⟨5⟩, ⟨6⟩, ⟨6⟩, ⟨7⟩, ⟨8⟩, ⟨9⟩, ⟨10⟩, ⟨11⟩, ⟨12⟩, ⟨12⟩, ⟨13⟩, ⟨14⟩, ⟨15⟩, ⟨16⟩, ⟨17⟩, ⟨23⟩, ⟨24⟩, ⟨24⟩]⟩ : Sl (Iv .i64)) (fun t1 ht1 => ?_)
 refine t_h Heap.up2 ?_
 refine a1_ (fun y1 hs hy1 hl => ?_) (hr := by exact fun y1 hy1 => eu_ _ _ y1 hy1 bp0 1 t1)
 obtain rfl := len0 hl
 refine cj_ ?_
 refine t_N ?_
 refine t_RU 2 ?_
 refine a2_ fun b2 => ?_
 refine af_ 0 ?_
 refine t_N ?_
 refine t_RU 1 ?_
 refine an_ fun y2 hy2 => ?_
 refine t_N ?_
 refine t_RN ?_
 refine t_RN ?_
 refine t_if (fun hc1 => ?_) fun hc1 => ?_
 ·refine t_RU 1 ?_
  refine t_h Heap.up1 ?_
  refine a1_ (fun y3 hs hy3 hl => ?_) (hr := by exact fun y3 hy3 => f3_ _ y3 hy3 bp0)
  obtain rfl := len0 hl
  refine cj_ ?_
  refine t_U 1 ?_
  refine a6_ 1 ?_
  refine t_N ?_
  refine d4_ 0 (fun y4 e fr => e = .normal ∧ Sub [(2, .ptr b1 0 0 4), (4, .ptr b2 0 0 4), (28, .bool y4.1)] fr.s ∧ Heap σ0 fr.σ [.box b2 [i4 y1.1, i4 0, .str y3.1, (nt DPattern)], .box bp0 [y4.2.1.t, i4 y4.2.2.1, .int .u64 y4.2.2.2], .box b1 [i4 0, i4 0, .str ⟨#[]⟩, (nt DPattern)], .keep F σk]) (fun y4 e fr h HF => ?_) fun y4 => ?_
  ·obtain ⟨s, σ⟩ := fr
   obtain ⟨rfl, hS, hH⟩ := HF
   refine t_bx h hS hH ?_
   refine t_if (fun hc2 => ?_) fun hc2 => ?_
   ·refine t_RU 1 ?_
    refine a6_ 0 ?_
    refine t_N ?_
    refine t_R ?_
    refine ab_ 0 ?_
    refine af_ 2 ?_
    refine t_N ?_
    intro h s σ hS hH
    obtain rfl := si_1 h
    have hH := Heap.addNil hH true 4
    exact bp_ [(T.row true 0 [])] (ce_ (v := .agg [i4 y1.1, i4 0, .str ⟨#[]⟩, (nt DPattern)]) hS (hH.at 1 rfl) rfl (by kernel_rfl) r_nil) rfl rfl (Heap.sel hH [0, 3, 4] rfl (by kernel_rfl))
   refine t_R ?_
   refine ab_ 0 ?_
   refine af_ 2 ?_
   refine t_N ?_
   intro h s σ hS hH
   obtain rfl := si_1 h
   have hH := Heap.addNil hH true 4
   exact bp_ [(T.row true 0 [])] (ce_ (v := .agg [i4 y1.1, i4 0, .str y3.1, (nt DPattern)]) hS (hH.at 1 rfl) rfl (by kernel_rfl) r_nil) rfl rfl (Heap.sel hH [0, 3, 4] rfl (by kernel_rfl))
  refine t_RU 3 ?_
  refine ay_ 25 (fun hc3 => ?_) fun hc3 => ?_
  ·refine t_U 1 ?_
   refine t_h Heap.up1 ?_
   refine a1_ (fun y5 hs hy5 hl => ?_) (hr := by exact fun y5 hy5 => cH_ _ _ y5 hy5 bp0)
   obtain rfl := len0 hl
   refine cj_ ?_
   refine t_N ?_
   exact t_e fun he hS hH => he ▸ ⟨rfl, (ad_ hS (by kernel_rfl)), (Heap.sel hH [1, 0, 3, 4] rfl (by kernel_rfl))⟩
  refine t_N ?_
  exact t_e fun he hS hH => he ▸ ⟨rfl, (ad_ hS (by kernel_rfl)), (Heap.sel hH [0, 1, 3, 4] rfl (by kernel_rfl))⟩
 refine t_RN ?_
 refine t_if (fun hc4 => ?_) fun hc4 => ?_
 ·refine t_RU 1 ?_
  refine t_h Heap.up1 ?_
  refine a1_ (fun y6 hs hy6 hl => ?_) (hr := by exact fun y6 hy6 => bb_ _ _ y6 hy6 bp0)
  obtain rfl := len0 hl
  refine cj_ ?_
  refine t_U 1 ?_
  refine a6_ 1 ?_
  refine t_N ?_
  refine t_R ?_
  refine ab_ 0 ?_
  refine af_ 3 ?_
  refine t_N ?_
  intro h s σ hS hH
  obtain rfl := si_1 h
  have hH := Heap.addNil hH true 4
  exact bp_ [(T.row true 0 [])] (ce_ (v := .agg [i4 y1.1, i4 y6.1, .str ⟨#[]⟩, (nt DPattern)]) hS (hH.at 1 rfl) rfl (by kernel_rfl) r_nil) rfl rfl (Heap.sel hH [0, 3, 5] rfl (by kernel_rfl))
 refine t_RN ?_
 refine t_if (fun hc5 => ?_) fun hc5 => ?_
 ·refine t_RU 1 ?_
  refine t_h Heap.up1 ?_
  refine a1_ (fun y7 hs hy7 hl => ?_) (hr := by exact fun y7 hy7 => gr_ _ y7 hy7 bp0)
  obtain rfl := len0 hl
  refine cj_ ?_
  refine t_U 1 ?_
  refine a6_ 1 ?_
  refine t_N ?_
  refine t_R ?_
  refine ab_ 0 ?_
  refine af_ 3 ?_
  refine t_N ?_
  intro h s σ hS hH
  obtain rfl := si_1 h
  have hH := Heap.addNil hH true 4
  exact bp_ [(T.row true 0 [])] (ce_ (v := .agg [i4 y1.1, i4 0, .str y7.1, (nt DPattern)]) hS (hH.at 1 rfl) rfl (by kernel_rfl) r_nil) rfl rfl (Heap.sel hH [0, 3, 5] rfl (by kernel_rfl))
 refine t_R ?_
 refine ab_ 0 ?_
 refine af_ 3 ?_
 refine t_N ?_
 intro h s σ hS hH
 obtain rfl := si_1 h
 have hH := Heap.addNil hH true 4
 exact bp_ [(T.row true 0 [])] (ce_ (v := .agg [i4 y1.1, i4 0, .str ⟨#[]⟩, (nt DPattern)]) hS (hH.at 1 rfl) rfl (by kernel_rfl) r_nil) rfl rfl (Heap.sel hH [0, 3, 5] rfl (by kernel_rfl))
def ey_ (R : ae_ → Int → Option (DPattern × ae_)) : Prop := ∀ (a0 : ae_) (a1 : Int) (r : (DPattern × ae_)), R a0 a1 = some r → ∀ (bp0 : Nat), RawS Try.prog md ext 64 [.ptr bp0 0 0 3, i4 a1] Sh_DPattern.n (fun hs => Sh_DPattern.tree hs r.1) [.box bp0 (ae_.cells a0)] (fun hs => Sh_DPattern.en hs r.1 ++ [.box bp0 (ae_.cells r.2)])
noncomputable def bc_ (R_64 : ae_ → Int → Option (DPattern × ae_)) (a0 : ae_) (a1 : Int) : Option (DPattern × ae_) := (if (decide (a1 ≤ 0)) = true then ((bO_ a0).bind fun y1 => (some (y1.1, y1.2))) else ((aX_ a0 4).bind fun y2 => (if y2.1 = true then ((bO_ y2.2).bind fun y3 => (some (y3.1, y3.2))) else ((bo_ y2.2 (⟨false, [⟨18⟩, ⟨18⟩, ⟨19⟩, ⟨19⟩, ⟨19⟩, ⟨20⟩, ⟨21⟩, ⟨22⟩]⟩)).bind fun y4 => ((cr_ y4.1).bind fun y5 => ((az_ (S := (Int × (Sl (Iv .u8)) × Int × Int × (Sl DPattern))) (R := ((Sl (Iv .u8)) × Int × Int × (Sl DPattern))) (fun st1 => (if (decide (st1.1 < y5.1)) = true then ((R_64 (⟨st1.2.1, st1.2.2.1, st1.2.2.2.1⟩ : ae_) (w4 (a1 - 1))).bind fun y7 => ((appS 56 st1.2.2.2.2 (⟨false, [y7.1]⟩ : Sl DPattern)).bind fun y8 => (some (.inl ((w4 (st1.1 + 1)), y7.2.code_, y7.2.at_, y7.2.seed_, y8))))) else (some (.inr (st1.2.1, st1.2.2.1, st1.2.2.2.1, st1.2.2.2.2))))) (0, y4.2.1.code_, y4.2.1.at_, y4.2.1.seed_, (⟨true, []⟩ : Sl DPattern))).bind fun y6 => (if (decide (y5.2 = (⟨#[120]⟩ : ByteArray))) = true then ((bL_ (⟨y6.1, y6.2.1, y6.2.2.1⟩ : ae_)).bind fun y9 => (some ((⟨y4.1, 0, y9.1, y6.2.2.2⟩ : DPattern), y9.2))) else (some ((⟨y4.1, 0, ⟨#[]⟩, y6.2.2.2⟩ : DPattern), (⟨y6.1, y6.2.1, y6.2.2.1⟩ : ae_))))))))))
theorem iK_ (R_64 : ae_ → Int → Option (DPattern × ae_)) (hR_64 : ey_ R_64) : ey_ (bc_ R_64) := by
 intro a0 a1 r h bp0
 unfold bc_ at h
 refine cC_ rfl rfl ok_64 rfl ?_
 intro σ0 σ F σk s hS hH
 have hS := ad_ (L' := [(0, .ptr bp0 0 0 3), (1, i4 a1)]) hS (by kernel_rfl)
 refine t_go h hS hH ?_
 refine t_R ?_
 refine a2_ fun b1 => ?_
 refine t_N ?_
 refine t_RU 3 ?_
 refine ay_ 12 (fun hc1 => ?_) fun hc1 => ?_
 ·refine t_N ?_
  refine t_cT rfl ?_
  refine t_RU 1 ?_
  refine t_h Heap.up1 ?_
  refine a1_ (fun y1 hs hy1 hl => ?_) (hr := by exact fun y1 hy1 => gw_ _ y1 hy1 bp0)
  obtain ⟨t1, rfl⟩ := len1 hl
  refine cj_ ?_
  refine a7_ 0 fun ht1 => ?_
  refine af_ 2 ?_ (h1 := by simp [ht1.1, ht1.2])
  refine t_N ?_
  intro h s σ hS hH
  obtain rfl := si_1 h
  exact bp_ [t1] (ce_ (v := .agg [i4 y1.1.Kind, i4 y1.1.Num, .str y1.1.Text, t1]) hS hH rfl (by kernel_rfl) r_nil) rfl rfl (Heap.sel hH [1, 2, 3] rfl (by kernel_rfl))
 refine t_U 1 ?_
 refine t_h Heap.up1 ?_
 refine a1_ (fun y2 hs hy2 hl => ?_) (hr := by exact fun y2 hy2 => cH_ _ _ y2 hy2 bp0)
 obtain rfl := len0 hl
 refine cj_ ?_
 refine t_N ?_
 refine t_if (fun hc2 => ?_) fun hc2 => ?_
 ·refine t_RU 1 ?_
  refine a1_ (fun y3 hs hy3 hl => ?_) (hr := by exact fun y3 hy3 => gw_ _ y3 hy3 bp0)
  obtain ⟨t2, rfl⟩ := len1 hl
  refine cj_ ?_
  refine a7_ 0 fun ht2 => ?_
  refine af_ 2 ?_ (h1 := by simp [ht2.1, ht2.2])
  refine t_N ?_
  intro h s σ hS hH
  obtain rfl := si_1 h
  exact bp_ [t2] (ce_ (v := .agg [i4 y3.1.Kind, i4 y3.1.Num, .str y3.1.Text, t2]) hS hH rfl (by kernel_rfl) r_nil) rfl rfl (Heap.sel hH [1, 2, 3] rfl (by kernel_rfl))
 refine t_RU 1 ?_
 refine k_bs (z := true) (⟨false, [⟨18⟩, ⟨18⟩, ⟨19⟩, ⟨19⟩, ⟨19⟩, ⟨20⟩, ⟨21⟩, ⟨22⟩]⟩ : Sl (Iv .i64)) (fun t3 ht3 => ?_)
 refine t_h Heap.up1 ?_
 refine a1_ (fun y4 hs hy4 hl => ?_) (hr := by exact fun y4 hy4 => eu_ _ _ y4 hy4 bp0 1 t3)
 obtain rfl := len0 hl
 refine cj_ ?_
 refine t_N ?_
 refine t_RU 2 ?_
 refine a2_ fun b2 => ?_
 refine af_ 0 ?_
 refine t_N ?_
 refine t_RU 1 ?_
 refine an_ fun y5 hy5 => ?_
 refine t_N ?_
 refine t_RN ?_
 refine t_h (Heap.addNil · true 4) ?_
 refine bv_ (fun st1 fr => ∃ t5, ar_ t5 ∧ Sub [(0, .ptr bp0 0 0 3), (1, i4 a1), (4, .ptr b1 0 0 4), (6, .ptr b2 0 0 4), (7, i4 y5.1), (8, .str y5.2), (9, i4 st1.1)] fr.s ∧ Heap σ0 fr.σ [.box b2 [i4 y4.1, i4 0, .str ⟨#[]⟩, t5], .box bp0 [st1.2.1.t, i4 st1.2.2.1, .int .u64 st1.2.2.2.1], .box b1 [i4 0, i4 0, .str ⟨#[]⟩, (nt DPattern)], .own true 4 t5 st1.2.2.2.2.t, .keep F σk]) (fun y6 e fr => ∃ t6, ar_ t6 ∧ e = (.exit 0) ∧ Sub [(0, .ptr bp0 0 0 3), (4, .ptr b1 0 0 4), (6, .ptr b2 0 0 4), (8, .str y5.2)] fr.s ∧ Heap σ0 fr.σ [.box b2 [i4 y4.1, i4 0, .str ⟨#[]⟩, t6], .box bp0 [y6.1.t, i4 y6.2.1, .int .u64 y6.2.2.1], .box b1 [i4 0, i4 0, .str ⟨#[]⟩, (nt DPattern)], .own true 4 t6 y6.2.2.2.t, .keep F σk]) (fun hS hH => ⟨(T.row true 0 []), ⟨rfl, rfl⟩, (ad_ hS (by kernel_rfl)), (Heap.sel hH [1, 2, 4, 0, 5] rfl (by kernel_rfl))⟩) (fun st1 x fr h HI => ?_) fun y6 e fr h HF => ?_
 ·obtain ⟨s, σ⟩ := fr; obtain ⟨t5, ht5, ⟨hS, hH⟩⟩ := HI
  refine t_bk h hS hH ?_
  refine t_RN ?_
  refine t_if (fun hc3 => ?_) fun hc3 => ?_
  ·refine bD_ [(5, (RB b2 RN)), (7, RN), (9, RN)] ext_x fun mb σs hn0 hlt hlto => ?_
   have hlt_b2 : b2 < mb := hlt b2 _ (List.Mem.head _)
   refine t_U 1 ?_
   refine ab_ 0 ?_ (hlt := by exact (Or.inr ⟨hlt_b2, (Wc.cons (.inr (Or.inl rfl)) (Wc.cons (.inl (by kernel_rfl)) (Wc.cons (.inl (by kernel_rfl)) Wc.nil)))⟩))
   refine t_U 3 ?_
   refine t_h Heap.up1 ?_
   refine gk_ (RB b2 RN) ext_x (Stay.box (List.Mem.head _) Stay.nil) (by exact fun x hx => Or.inr ⟨5, by kernel_rfl, hx⟩) (fun y7 hs hy7 hl => ?_) (hr := by exact fun y7 hy7 => hR_64 _ _ y7 hy7 bp0)
   obtain ⟨t7, rfl⟩ := len1 hl
   refine cj_ ?_
   refine a7_ 0 fun ht7 => ?_
   refine k_bs (z := true) (⟨false, [y7.1]⟩ : Sl DPattern) (fun t8 ht8 => ?_) (hb := by exact hn0) (h1 := by simp [ht7.1, ht7.2])
   refine n9_ 4 0 (fun y8 t9 hy8 ht9 => ?_) (hb := by exact hn0) (hwr := by exact fun hH b e o n h0 => Or.inr ⟨7, by kernel_rfl, fun h => h⟩)
   refine t_U 1 ?_
   refine bI_ 2 ht9 ?_ (hwr := by exact fun hH => Or.inr ⟨9, by kernel_rfl, fun h => h⟩)
   refine t_N ?_
   refine t_RN ?_
   exact t_e fun he hS hH => he ▸ ⟨t9, ht9, (ad_ hS (by kernel_rfl)), (Heap.sel hH [0, 2, 3, 1, 4] rfl (by kernel_rfl))⟩
  exact t_e fun he hS hH => he ▸ ⟨t5, ht5, rfl, (ad_ hS (by kernel_rfl)), hH⟩
 obtain ⟨s, σ⟩ := fr
 obtain ⟨t6, ht6, ⟨rfl, hS, hH⟩⟩ := HF
 refine t_bx h hS hH ?_
 refine t_RN ?_
 refine t_if (fun hc4 => ?_) fun hc4 => ?_
 ·refine t_RU 1 ?_
  refine t_h Heap.up1 ?_
  refine a1_ (fun y9 hs hy9 hl => ?_) (hr := by exact fun y9 hy9 => gr_ _ y9 hy9 bp0)
  obtain rfl := len0 hl
  refine cj_ ?_
  refine t_U 1 ?_
  refine a6_ 1 ?_
  refine t_N ?_
  refine t_R ?_
  refine ab_ 0 ?_
  refine af_ 2 ?_ (h1 := by simp [ht6.1, ht6.2])
  refine t_N ?_
  intro h s σ hS hH
  obtain rfl := si_1 h
  exact bp_ [t6] (ce_ (v := .agg [i4 y4.1, i4 0, .str y9.1, t6]) hS hH rfl (by kernel_rfl) r_nil) rfl rfl (Heap.sel hH [3, 2, 4] rfl (by kernel_rfl))
 refine t_R ?_
 refine ab_ 0 ?_
 refine af_ 2 ?_ (h1 := by simp [ht6.1, ht6.2])
 refine t_N ?_
 intro h s σ hS hH
 obtain rfl := si_1 h
 exact bp_ [t6] (ce_ (v := .agg [i4 y4.1, i4 0, .str ⟨#[]⟩, t6]) hS hH rfl (by kernel_rfl) r_nil) rfl rfl (Heap.sel hH [3, 2, 4] rfl (by kernel_rfl))
noncomputable def BG_spec_l11Draw : Nat → (ae_ → Int → Option (DPattern × ae_))
 | 0 => (fun _ _ => none)
 | n + 1 => bc_ (BG_spec_l11Draw n)
theorem uBG_spec_l11Draw : ∀ n, ey_ ((BG_spec_l11Draw n))
 | 0 => (by intro _ _ r h; have h : none = some r := h; cases h)
 | n + 1 => iK_ (BG_spec_l11Draw n) (uBG_spec_l11Draw n)
noncomputable def ct_ (a0 : ae_) (a1 : Int) : Option (DPattern × ae_) := (BG_spec_l11Draw bigN) a0 a1
theorem gs_ (a0 : ae_) (a1 : Int) (r : (DPattern × ae_)) (h : ct_ a0 a1 = some r) (bp0 : Nat) : RawS Try.prog md ext 64 [.ptr bp0 0 0 3, i4 a1] Sh_DPattern.n (fun hs => Sh_DPattern.tree hs r.1) [.box bp0 (ae_.cells a0)] (fun hs => Sh_DPattern.en hs r.1 ++ [.box bp0 (ae_.cells r.2)]) := (uBG_spec_l11Draw bigN) a0 a1 r h bp0
noncomputable def fm_ (a0 : (Sl (Iv .u8))) : Option DPattern := ((aG_ (⟨a0, 0, 0⟩ : ae_) 3).bind fun y1 => ((ct_ y1.2 y1.1).bind fun y2 => ((br_ y2.1).bind fun y3 => (some y3))))
theorem j4_ (a0 : (Sl (Iv .u8))) (r : DPattern) (h : fm_ a0 = some r) : dg_ a0 = some r := by
 unfold fm_ at h
 refine k_W ok_15 E_DPattern_inj h (fun σ0 => ?_)
 refine t_R ?_
 refine a2_ fun b1 => ?_
 refine t_N ?_
 refine t_RU 1 ?_
 refine fP_ ok_62 ?_
 refine t_RN ?_
 refine t_RU 2 ?_
 refine cm_ (fun b2 => ?_)
 refine t_N ?_
 refine k_eI (rT rN) ?_
 refine t_N ?_
 refine t_RU 2 ?_
 refine a1_ (fun y1 hs hy1 hl => ?_) (hr := by exact fun y1 hy1 => bb_ _ _ y1 hy1 b2)
 obtain rfl := len0 hl
 refine cj_ ?_
 refine a1_ (fun y2 hs hy2 hl => ?_) (hr := by exact fun y2 hy2 => gs_ _ _ y2 hy2 b2)
 obtain ⟨t1, rfl⟩ := len1 hl
 refine cj_ ?_
 refine a7_ 0 fun ht1 => ?_
 refine gh_ (fun y3 t2 hy3 ht2 => ?_)
 refine af_ 3 ?_ (h1 := by simp [ht2.1, ht2.2])
 refine t_N ?_
 intro h s σ hS hH
 obtain rfl := si_1 h
 have hH := hH.up1
 exact md_ (ents := [.own true 4 t2 y3.Kids.t]) (z := false) hH (ce_ (v := .agg [i4 y3.Kind, i4 y3.Num, .str y3.Text, t2]) hS (hH.at 1 rfl) rfl (by kernel_rfl) r_nil) (HL.agg (es1 := [.own true 4 t2 y3.Kids.t]) (es2 := []) (HLi (HLi (HLs (HL.own rfl HL.nil)))) HL.nil) (by simp [pureT, pureL, E_DPattern])
noncomputable def gb_ (a0 : Int) (a1 : (Sl (Iv .u8))) : Option (Sl (Iv .u8)) := ((appS 1 ((⟨false, [⟨(IntKind.u8.wrap a0)⟩]⟩ : Sl (Iv .u8))) a1).bind fun y1 => (some y1))
theorem kM_ (a0 : Int) (a1 : (Sl (Iv .u8))) (r : (Sl (Iv .u8))) (h : gb_ a0 a1 = some r) : c4_ a0 a1 = some r := by
 unfold gb_ at h
 refine k_W ok_16 E_sl_u8_inj h (fun σ0 => ?_)
 refine t_RN ?_
 refine t_RU 2 ?_
 refine k_bs (z := true) (⟨false, [⟨(IntKind.u8.wrap a0)⟩]⟩ : Sl (Iv .u8)) (fun t1 ht1 => ?_)
 refine t_U 1 ?_
 refine qN_ 0 (fun y1 t2 hy1 ht2 => ?_)
 refine t_N ?_
 intro h s σ hS hH
 obtain rfl := si_1 h
 exact md_ (ents := [.own true 1 t2 y1.t]) (z := false) hH (bE_ (v := t2) hS rfl r_nil) (HL.own rfl HL.nil) (by simp [pureT, pureL, E_sl_u8])
noncomputable def df_ (a0 : DPattern) (a1 : DPattern) : Option Bool := (if (decide (a0.Kind = a1.Kind)) = true then (if (decide (a0.Num = a1.Num)) = true then (if (decide (a0.Text = a1.Text)) = true then ((bX_ a0.Kids a1.Kids (T.fn 21 [] [])).bind fun y1 => (some y1)) else (some false)) else (some false)) else (some false))
theorem hl_ (a0 : DPattern) (a1 : DPattern) (r : Bool) (h : df_ a0 a1 = some r) : cw_ a0 a1 = some r := by
 unfold df_ at h
 refine k_W ok_21 E_bool_inj h (fun σ0 => ?_)
 refine t_R ?_
 refine cm_ (fun b1 => ?_)
 refine cm_ (fun b2 => ?_)
 refine t_N ?_
 refine t_RU 1 ?_
 refine ab_ 1 ?_
 refine t_U 1 ?_
 refine ab_ 0 ?_
 refine t_U 2 ?_
 refine ay_ 10 (fun hc1 => ?_) fun hc1 => ?_
 ·refine t_U 1 ?_
  refine ab_ 1 ?_
  refine t_U 1 ?_
  refine ab_ 0 ?_
  refine t_U 3 ?_
  refine ay_ 17 (fun hc2 => ?_) fun hc2 => ?_
  ·refine t_U 1 ?_
   refine ab_ 1 ?_
   refine t_U 1 ?_
   refine ab_ 0 ?_
   refine t_U 3 ?_
   refine ay_ 24 (fun hc3 => ?_) fun hc3 => ?_
   ·refine t_U 1 ?_
    refine ab_ 1 ?_
    refine t_U 1 ?_
    refine ab_ 0 ?_
    refine an_ fun y1 hy1 => ?_
    refine t_N ?_
    exact k_eW (rT rN) E_bool_p
   refine t_N ?_
   exact k_eW (rT rN) E_bool_p
  refine t_N ?_
  exact k_eW (rT rN) E_bool_p
 refine t_N ?_
 exact k_eW (rT rN) E_bool_p
noncomputable def cd_ (a0 : ae_) : Option (ByteArray × ae_) := ((aX_ a0 4).bind fun y1 => (if y1.1 = true then ((aO_ y1.2 (⟨false, [⟨#[]⟩, ⟨#[97]⟩, ⟨#[97, 98]⟩, ⟨#[40, 97, 41, 40, 98, 41]⟩, ⟨#[40, 40, 97, 41, 98, 41]⟩, ⟨#[97, 97, 97, 97]⟩, ⟨#[97, 98, 99, 97, 98, 99]⟩, ⟨#[120, 40, 121]⟩, ⟨#[41, 40]⟩, ⟨#[97, 98, 34, 99]⟩]⟩)).bind fun y2 => (some (y2.1, y2.2.1))) else ((aG_ y1.2 6).bind fun y3 => ((az_ (S := (ByteArray × Int × (Sl (Iv .u8)) × Int × Int)) (R := (ByteArray × (Sl (Iv .u8)) × Int × Int)) (fun st1 => (if (decide (0 < st1.2.1)) = true then ((bd_ (⟨st1.2.2.1, st1.2.2.2.1, st1.2.2.2.2⟩ : ae_)).bind fun y5 => ((catB st1.1 y5.1).bind fun y6 => (some (.inl (y6, (w4 (st1.2.1 - 1)), y5.2.code_, y5.2.at_, y5.2.seed_))))) else (some (.inr (st1.1, st1.2.2.1, st1.2.2.2.1, st1.2.2.2.2))))) (⟨#[]⟩, y3.1, y3.2.code_, y3.2.at_, y3.2.seed_)).bind fun y4 => (some (y4.1, (⟨y4.2.1, y4.2.2.1, y4.2.2.2⟩ : ae_)))))))
theorem hE_ (a0 : ae_) (r : (ByteArray × ae_)) (h : cd_ a0 = some r) (bp0 : Nat) : RawS Try.prog md ext 72 [.ptr bp0 0 0 3] 0 (fun hs => E_str r.1) [.box bp0 (ae_.cells a0)] (fun hs => [.box bp0 (ae_.cells r.2)]) := by
 unfold cd_ at h
 refine cC_ rfl rfl ok_72 rfl ?_
 intro σ0 σ F σk s hS hH
 have hS := ad_ (L' := [(0, .ptr bp0 0 0 3)]) hS (by kernel_rfl)
 refine t_go h hS hH ?_
 refine t_RN ?_
 refine t_RU 1 ?_
 refine a1_ (fun y1 hs hy1 hl => ?_) (hr := by exact fun y1 hy1 => cH_ _ _ y1 hy1 bp0)
 obtain rfl := len0 hl
 refine cj_ ?_
 refine t_N ?_
 refine t_if (fun hc1 => ?_) fun hc1 => ?_
 ·refine t_RU 1 ?_
  refine k_bs (z := true) (⟨false, [⟨#[]⟩, ⟨#[97]⟩, ⟨#[97, 98]⟩, ⟨#[40, 97, 41, 40, 98, 41]⟩, ⟨#[40, 40, 97, 41, 98, 41]⟩, ⟨#[97, 97, 97, 97]⟩, ⟨#[97, 98, 99, 97, 98, 99]⟩, ⟨#[120, 40, 121]⟩, ⟨#[41, 40]⟩, ⟨#[97, 98, 34, 99]⟩]⟩ : Sl ByteArray) (fun t1 ht1 => ?_)
  refine t_h Heap.up1 ?_
  refine a1_ (fun y2 hs hy2 hl => ?_) (hr := by exact fun y2 hy2 => c9_ _ _ y2 hy2 bp0 1 t1)
  obtain rfl := len0 hl
  refine cj_ ?_
  refine t_N ?_
  intro h s σ hS hH
  obtain rfl := si_1 h
  exact bp_ [] (bE_ (v := .str y2.1) hS rfl r_nil) rfl rfl (Heap.sel hH [0, 2] rfl (by kernel_rfl))
 refine t_RN ?_
 refine t_RU 1 ?_
 refine a1_ (fun y3 hs hy3 hl => ?_) (hr := by exact fun y3 hy3 => bb_ _ _ y3 hy3 bp0)
 obtain rfl := len0 hl
 refine cj_ ?_
 refine t_N ?_
 refine bv_ (fun st1 fr => Sub [(0, .ptr bp0 0 0 3), (3, .str st1.1), (4, i4 st1.2.1)] fr.s ∧ Heap σ0 fr.σ [.box bp0 [st1.2.2.1.t, i4 st1.2.2.2.1, .int .u64 st1.2.2.2.2], .keep F σk]) (fun y4 e fr => e = (.exit 0) ∧ Sub [(3, .str y4.1)] fr.s ∧ Heap σ0 fr.σ [.box bp0 [y4.2.1.t, i4 y4.2.2.1, .int .u64 y4.2.2.2], .keep F σk]) (fun hS hH => ⟨(ad_ hS (by kernel_rfl)), hH⟩) (fun st1 x fr h HI => ?_) fun y4 e fr h HF => ?_
 ·obtain ⟨s, σ⟩ := fr; obtain ⟨hS, hH⟩ := HI
  refine t_bk h hS hH ?_
  refine t_RN ?_
  refine t_if (fun hc2 => ?_) fun hc2 => ?_
  ·refine t_RU 2 ?_
   refine a1_ (fun y5 hs hy5 hl => ?_) (hr := by exact fun y5 hy5 => f3_ _ y5 hy5 bp0)
   obtain rfl := len0 hl
   refine cj_ ?_
   refine nk_ fun y6 hy6 => ?_
   refine t_N ?_
   refine t_RN ?_
   exact t_e fun he hS hH => he ▸ ⟨(ad_ hS (by kernel_rfl)), hH⟩
  exact t_e fun he hS hH => he ▸ ⟨rfl, (ad_ hS (by kernel_rfl)), hH⟩
 obtain ⟨s, σ⟩ := fr
 obtain ⟨rfl, hS, hH⟩ := HF
 refine t_bx h hS hH ?_
 refine t_RN ?_
 intro h s σ hS hH
 obtain rfl := si_1 h
 exact bp_ [] (bE_ (v := .str y4.1) hS rfl r_nil) rfl rfl hH
noncomputable def dV_ (a0 : (Sl (Iv .u8))) : Option ByteArray := ((cd_ (⟨a0, 0, 0⟩ : ae_)).bind fun y1 => (some y1.1))
theorem hX_ (a0 : (Sl (Iv .u8))) (r : ByteArray) (h : dV_ a0 = some r) : dW_ a0 = some r := by
 unfold dV_ at h
 refine k_W ok_31 E_str_inj h (fun σ0 => ?_)
 refine t_RN ?_
 refine t_RU 1 ?_
 refine fP_ ok_62 ?_
 refine t_RN ?_
 refine t_RU 2 ?_
 refine cm_ (fun b1 => ?_)
 refine t_N ?_
 refine k_eI (rT rN) ?_
 refine t_N ?_
 refine t_RU 1 ?_
 refine a1_ (fun y1 hs hy1 hl => ?_) (hr := by exact fun y1 hy1 => hE_ _ y1 hy1 b1)
 obtain rfl := len0 hl
 refine cj_ ?_
 refine t_N ?_
 exact k_eW (rT rN) E_str_p
noncomputable def dS_ (a0 : (Sl DNamed)) (a1 : DPattern) (a2 : ByteArray) (a3 : Bool) (a4 : Int) : Option ((Sl DMatch) × Int) := ((dC_ a0 a1 a2 a4).bind fun y1 => (if (!decide (y1 = 0)) = true then (some (⟨true, []⟩, y1)) else ((dl_ a2 a3).bind fun y2 => ((cx_ a0 a1 a2 y2 a4).bind fun y3 => (some (y3.1, y3.2))))))
theorem hW_ (a0 : (Sl DNamed)) (a1 : DPattern) (a2 : ByteArray) (a3 : Bool) (a4 : Int) (r : ((Sl DMatch) × Int)) (h : dS_ a0 a1 a2 a3 a4 = some r) : bg_ a0 a1 a2 a3 a4 = some r := by
 unfold dS_ at h
 refine k_W ok_35 E_t2_sl_DMatch_i64_inj h (fun σ0 => ?_)
 refine t_R ?_
 refine cm_ (fun b1 => ?_)
 refine t_N ?_
 refine t_RU 1 ?_
 refine ab_ 0 ?_
 refine t_U 2 ?_
 refine an_ fun y1 hy1 => ?_
 refine t_N ?_
 refine t_RN ?_
 refine t_if (fun hc1 => ?_) fun hc1 => ?_
 ·refine t_RN ?_
  exact k_eW (rT (rT rN)) E_t2_sl_DMatch_i64_p
 refine bD_ [] ext_x fun mb σs hn0 hlt hlto => ?_
 have hlt_b1 : b1 < mb := hlt b1 _ (List.Mem.head _)
 refine t_U 1 ?_
 refine ab_ 0 ?_ (hlt := by exact (Or.inr ⟨hlt_b1, Wc.nil⟩))
 refine t_U 3 ?_
 refine gh_ (fun y2 t1 hy2 ht1 => ?_)
 refine t_U 1 ?_
 refine gh_ (fun y3 t2 hy3 ht2 => ?_)
 refine t_N ?_
 intro h s σ hS hH
 obtain rfl := si_1 h
 exact md_ (ents := [.own true 3 t2 y3.1.t]) (z := false) hH (bE_ (v := t2) hS rfl (bE_ (v := i4 y3.2) hS rfl r_nil)) (HL.tup (es1 := [.own true 3 t2 y3.1.t]) (es2 := []) (HL.own rfl (HLi HL.nil)) HL.nil) (by simp [pureT, pureL, E_t2_sl_DMatch_i64])
noncomputable def cy_ (a0 : (Sl DMatch)) (a1 : (Sl DMatch)) : Option Bool := ((bz_ a0 a1 (T.fn 92 [] [])).bind fun y1 => (some y1))
theorem eI_ (a0 : (Sl DMatch)) (a1 : (Sl DMatch)) (r : Bool) (h : cy_ a0 a1 = some r) : b4_ a0 a1 = some r := by
 unfold cy_ at h
 refine k_W ok_45 E_bool_inj h (fun σ0 => ?_)
 refine t_RN ?_
 refine t_RU 2 ?_
 refine an_ fun y1 hy1 => ?_
 refine t_N ?_
 exact k_eW (rT rN) E_bool_p
noncomputable def cF_ (a0 : ae_) : Option ((Sl DNamed) × ae_) := ((az_ (S := (Int × (Sl (Iv .u8)) × Int × Int × (Sl DNamed))) (R := ((Sl (Iv .u8)) × Int × Int × (Sl DNamed))) (fun st1 => (if (decide (st1.1 < 5)) = true then ((aX_ (⟨st1.2.1, st1.2.2.1, st1.2.2.2.1⟩ : ae_) 3).bind fun y2 => (if (!y2.1) = true then ((elt (⟨false, [⟨#[120]⟩, ⟨#[121]⟩, ⟨#[122]⟩, ⟨#[80, 97, 116]⟩, ⟨#[97, 95, 49]⟩]⟩ : Sl ByteArray) st1.1).bind fun y3 => ((aG_ y2.2 4).bind fun y4 => ((ct_ y4.2 y4.1).bind fun y5 => ((appS 72 st1.2.2.2.2 (⟨false, [(⟨y3, y5.1⟩ : DNamed)]⟩ : Sl DNamed)).bind fun y6 => (some (.inl ((w4 (st1.1 + 1)), y5.2.code_, y5.2.at_, y5.2.seed_, y6))))))) else (some (.inl ((w4 (st1.1 + 1)), y2.2.code_, y2.2.at_, y2.2.seed_, st1.2.2.2.2))))) else (some (.inr (st1.2.1, st1.2.2.1, st1.2.2.2.1, st1.2.2.2.2))))) (0, a0.code_, a0.at_, a0.seed_, (⟨false, []⟩ : Sl DNamed))).bind fun y1 => (some (y1.2.2.2, (⟨y1.1, y1.2.1, y1.2.2.1⟩ : ae_))))
theorem kw_ (a0 : ae_) (r : ((Sl DNamed) × ae_)) (h : cF_ a0 = some r) (bp0 : Nat) : RawS Try.prog md ext 89 [.ptr bp0 0 0 3] Sh_sl_DNamed.n (fun hs => Sh_sl_DNamed.tree hs r.1) [.box bp0 (ae_.cells a0)] (fun hs => Sh_sl_DNamed.en hs r.1 ++ [.box bp0 (ae_.cells r.2)]) := by
 unfold cF_ at h
 refine cC_ rfl rfl ok_89 rfl ?_
 intro σ0 σ F σk s hS hH
 have hS := ad_ (L' := [(0, .ptr bp0 0 0 3)]) hS (by kernel_rfl)
 refine t_go h hS hH ?_
 refine t_RN ?_
 refine t_R ?_
 refine sQ_ (α := DNamed) (fun t1 ht1 => ?_)
 refine t_N ?_
 refine t_R ?_
 refine k_bs (z := true) (⟨false, [⟨#[120]⟩, ⟨#[121]⟩, ⟨#[122]⟩, ⟨#[80, 97, 116]⟩, ⟨#[97, 95, 49]⟩]⟩ : Sl ByteArray) (fun t2 ht2 => ?_)
 refine t_N ?_
 refine t_RN ?_
 refine bv_ (fun st1 fr => ∃ t4, ar_ t4 ∧ Sub [(0, .ptr bp0 0 0 3), (3, t4), (4, t2), (5, i4 st1.1)] fr.s ∧ Heap σ0 fr.σ [.box bp0 [st1.2.1.t, i4 st1.2.2.1, .int .u64 st1.2.2.2.1], .own true 5 t4 st1.2.2.2.2.t, .own true 1 t2 (Sl.t (⟨false, [⟨#[120]⟩, ⟨#[121]⟩, ⟨#[122]⟩, ⟨#[80, 97, 116]⟩, ⟨#[97, 95, 49]⟩]⟩ : Sl ByteArray)), .keep F σk]) (fun y1 e fr => ∃ t5, ar_ t5 ∧ e = (.exit 0) ∧ Sub [(3, t5)] fr.s ∧ Heap σ0 fr.σ [.box bp0 [y1.1.t, i4 y1.2.1, .int .u64 y1.2.2.1], .own true 5 t5 y1.2.2.2.t, .keep F σk]) (fun hS hH => ⟨t1, ht1, (ad_ hS (by kernel_rfl)), (Heap.sel hH [2, 1, 0, 3] rfl (by kernel_rfl))⟩) (fun st1 x fr h HI => ?_) fun y1 e fr h HF => ?_
 ·obtain ⟨s, σ⟩ := fr; obtain ⟨t4, ht4, ⟨hS, hH⟩⟩ := HI
  refine t_bk h hS hH ?_
  refine t_RN ?_
  refine t_if (fun hc1 => ?_) fun hc1 => ?_
  ·refine t_RU 1 ?_
   refine a1_ (fun y2 hs hy2 hl => ?_) (hr := by exact fun y2 hy2 => cH_ _ _ y2 hy2 bp0)
   obtain rfl := len0 hl
   refine cj_ ?_
   refine t_N ?_
   refine t_if (fun hc2 => ?_) fun hc2 => ?_
   ·refine bD_ [(7, (RT t2 RN)), (8, (RT t2 RN)), (11, RN)] ext_x fun mb σs hn0 hlt hlto => ?_
    have hlt_t2 : ∀ b e o n, t2 = .ref b e o n → b < mb := fun b e o n h => hlto _ _ _ _ (List.Mem.tail _ (List.Mem.tail _ (List.Mem.head _))) b e o n h
    refine t_U 3 ?_
    refine mG_ 2 (fun hb1 hb1e y3 hy3 hl_hb1 => ?_) (hlt := by exact (fun b e o n h => Or.inr ⟨hlt_t2 b e o n h, (Wc.cons (.inr (Or.inl ⟨_, _, _, h⟩)) (Wc.cons (.inr (Or.inl ⟨_, _, _, h⟩)) (Wc.cons (.inl (by kernel_rfl)) Wc.nil)))⟩))
    refine lW_ 2 0 hl_hb1 hy3 ?_ (hlt := by exact (fun b e o n h => Or.inr ⟨hlt_t2 b e o n h, (Wc.cons (.inr (Or.inl ⟨_, _, _, h⟩)) (Wc.cons (.inr (Or.inl ⟨_, _, _, h⟩)) (Wc.cons (.inl (by kernel_rfl)) Wc.nil)))⟩))
    refine t_U 2 ?_
    refine gk_ (RT t2 RN) ext_x (Stay.own (List.Mem.tail _ (List.Mem.head _)) Stay.nil) (by exact fun x hx => Or.inr ⟨7, by kernel_rfl, hx⟩) (fun y4 hs hy4 hl => ?_) (hr := by exact fun y4 hy4 => bb_ _ _ y4 hy4 bp0)
    obtain rfl := len0 hl
    refine cj_ ?_
    refine gk_ (RT t2 RN) ext_x (Stay.own (List.Mem.tail _ (List.Mem.head _)) Stay.nil) (by exact fun x hx => Or.inr ⟨8, by kernel_rfl, hx⟩) (fun y5 hs hy5 hl => ?_) (hr := by exact fun y5 hy5 => gs_ _ _ y5 hy5 bp0)
    obtain ⟨t6, rfl⟩ := len1 hl
    refine cj_ ?_
    refine a7_ 0 fun ht6 => ?_
    intro h s σ hS hH
    refine iV_ (qs := [(0, .str y3), (1, .agg [i4 y5.1.Kind, i4 y5.1.Num, .str y5.1.Text, t6])]) (z := [.str ⟨#[]⟩, i4 0, i4 0, .str ⟨#[]⟩, (nt DPattern)]) (r := [.str y3, i4 y5.1.Kind, i4 y5.1.Num, .str y5.1.Text, t6]) [[.str y3], [i4 y5.1.Kind, i4 y5.1.Num, .str y5.1.Text, t6]] rfl hS rfl (by kernel_rfl) (by kernel_rfl) (⟨rfl, (by kernel_rfl), rfl, (by simp [ht6.1, ht6.2]), trivial⟩) (by kernel_rfl) ?_; intro s hS
    refine t_bk h hS hH ?_
    refine k_bs (z := true) (⟨false, [(⟨y3, y5.1⟩ : DNamed)]⟩ : Sl DNamed) (fun t7 ht7 => ?_) (hb := by exact hn0) (h1 := by simp [ht6.1, ht6.2])
    refine n9_ 2 0 (fun y6 t8 hy6 ht8 => ?_) (hb := by exact hn0) (hwr := by exact fun hH b e o n h0 => Or.inr ⟨11, by kernel_rfl, fun h => h⟩)
    refine t_N ?_
    refine t_RN ?_
    exact t_e fun he hS hH => he ▸ ⟨t8, ht8, (ad_ hS (by kernel_rfl)), (Heap.sel hH [1, 0, 2, 3] rfl (by kernel_rfl))⟩
   refine t_RN ?_
   exact t_e fun he hS hH => he ▸ ⟨t4, ht4, (ad_ hS (by kernel_rfl)), hH⟩
  exact t_e fun he hS hH => he ▸ ⟨t4, ht4, rfl, (ad_ hS (by kernel_rfl)), (Heap.sel hH [0, 1, 3] rfl (by kernel_rfl))⟩
 obtain ⟨s, σ⟩ := fr
 obtain ⟨t5, ht5, ⟨rfl, hS, hH⟩⟩ := HF
 refine t_bx h hS hH ?_
 refine t_RN ?_
 intro h s σ hS hH
 obtain rfl := si_1 h
 exact bp_ [t5] (bE_ (v := t5) hS rfl r_nil) rfl rfl (Heap.sel hH [1, 0, 2] rfl (by kernel_rfl))
noncomputable def f6_ (a0 : (Sl (Iv .u8))) : Option (Sl DNamed) := ((cF_ (⟨a0, 0, 0⟩ : ae_)).bind fun y1 => (some y1.1))
theorem kW_ (a0 : (Sl (Iv .u8))) (r : (Sl DNamed)) (h : f6_ a0 = some r) : fS_ a0 = some r := by
 unfold f6_ at h
 refine k_W ok_48 E_sl_DNamed_inj h (fun σ0 => ?_)
 refine t_RN ?_
 refine t_RU 1 ?_
 refine fP_ ok_62 ?_
 refine t_RN ?_
 refine t_RU 2 ?_
 refine cm_ (fun b1 => ?_)
 refine t_N ?_
 refine k_eI (rT rN) ?_
 refine t_N ?_
 refine t_RU 1 ?_
 refine a1_ (fun y1 hs hy1 hl => ?_) (hr := by exact fun y1 hy1 => kw_ _ y1 hy1 b1)
 obtain ⟨t1, rfl⟩ := len1 hl
 refine cj_ ?_
 refine a7_ 0 fun ht1 => ?_
 refine t_N ?_
 intro h s σ hS hH
 obtain rfl := si_1 h
 exact md_ (ents := [.own true 5 t1 y1.1.t]) (z := false) hH (bE_ (v := t1) hS rfl r_nil) (HL.own rfl HL.nil) (by simp [pureT, pureL, E_sl_DNamed])
noncomputable def cY_ (a0 : DPattern) (a1 : DPattern) : Option (DPattern × Bool) := ((aW_ a0).bind fun y1 => (if (!y1) = true then (some ((⟨0, 0, ⟨#[]⟩, ⟨true, []⟩⟩ : DPattern), false)) else ((aW_ a1).bind fun y2 => (if (!y2) = true then (some ((⟨0, 0, ⟨#[]⟩, ⟨true, []⟩⟩ : DPattern), false)) else ((ap_ a0).bind fun y3 => ((ap_ a1).bind fun y4 => ((bG_ y3 y4).bind fun y5 => ((aW_ y5).bind fun y6 => (if (!y6) = true then (some ((⟨0, 0, ⟨#[]⟩, ⟨true, []⟩⟩ : DPattern), false)) else (some (y5, true)))))))))))
theorem gI_ (a0 : DPattern) (a1 : DPattern) (r : (DPattern × Bool)) (h : cY_ a0 a1 = some r) : bn_ a0 a1 = some r := by
 unfold cY_ at h
 refine k_W ok_49 E_t2_DPattern_bool_inj h (fun σ0 => ?_)
 refine t_R ?_
 refine cm_ (fun b1 => ?_)
 refine cm_ (fun b2 => ?_)
 refine a2_ fun b3 => ?_
 refine t_N ?_
 refine t_R ?_
 refine ab_ 2 ?_
 refine an_ fun y1 hy1 => ?_
 refine t_U 2 ?_
 refine ay_ 10 (fun hc1 => ?_) fun hc1 => ?_
 ·refine t_N ?_
  refine t_cT rfl ?_
  refine t_RU 1 ?_
  refine af_ 0 ?_
  refine t_N ?_
  exact k_eW (rC 0 (rT rN)) E_t2_DPattern_bool_p
 refine ab_ 1 ?_
 refine an_ fun y2 hy2 => ?_
 refine t_N ?_
 refine t_if (fun hc2 => ?_) fun hc2 => ?_
 ·refine t_RU 1 ?_
  refine af_ 0 ?_
  refine t_N ?_
  exact k_eW (rC 0 (rT rN)) E_t2_DPattern_bool_p
 refine bD_ [(6, RN)] ext_x fun mb σs hn0 hlt hlto => ?_
 have hlt_b2 : b2 < mb := hlt b2 _ (List.Mem.tail _ (List.Mem.head _))
 refine ab_ 2 ?_ (hlt := by exact (Or.inl (by kernel_rfl)))
 refine an_ fun y3 hy3 => ?_
 refine ab_ 1 ?_ (hlt := by exact (Or.inr ⟨hlt_b2, (Wc.cons (.inl (by kernel_rfl)) Wc.nil)⟩))
 refine an_ fun y4 hy4 => ?_
 refine an_ fun y5 hy5 => ?_
 refine kt_ (by exact hn0) fun b4 hwr_b4 => ?_
 refine af_ 0 ?_ (hwr := by exact fun _ => Or.inl hwr_b4)
 refine t_N ?_
 refine t_R ?_
 refine ab_ 0 ?_
 refine an_ fun y6 hy6 => ?_
 refine t_N ?_
 refine t_if (fun hc3 => ?_) fun hc3 => ?_
 ·refine t_RU 1 ?_
  refine af_ 1 ?_
  refine t_N ?_
  exact k_eW (rC 0 (rT rN)) E_t2_DPattern_bool_p
 refine t_R ?_
 refine ab_ 0 ?_
 refine af_ 1 ?_
 refine t_N ?_
 exact k_eW (rC 0 (rT rN)) E_t2_DPattern_bool_p
noncomputable def ga_ (a0 : DPattern) (a1 : DPattern) : Option DPattern := ((ft_ 19 ⟨#[]⟩ ⟨false, [a0, a1]⟩).bind fun y1 => (some y1))
theorem kN_ (a0 : DPattern) (a1 : DPattern) (r : DPattern) (h : ga_ a0 a1 = some r) : gd_ a0 a1 = some r := by
 unfold ga_ at h
 refine k_W ok_50 E_DPattern_inj h (fun σ0 => ?_)
 refine t_R ?_
 refine cm_ (fun b1 => ?_)
 refine cm_ (fun b2 => ?_)
 refine a2_ fun b3 => ?_
 refine t_N ?_
 refine t_R ?_
 refine ab_ 2 ?_
 refine ab_ 1 ?_
 refine k_bs (z := false) (⟨false, [a0, a1]⟩ : Sl DPattern) (fun t1 ht1 => ?_)
 intro h s σ hS hH
 obtain ⟨y1, hy1, h⟩ := bind_some h
 refine pV_ (ents := [.own false 4 t1 (Sl.t (⟨false, [a0, a1]⟩ : Sl DPattern))]) (z := false) (ts := [i4 19, .str ⟨#[]⟩, t1]) (vs := [i4 19, .str ⟨#[]⟩, (Sl.t (⟨false, [a0, a1]⟩ : Sl DPattern))]) rfl hS rfl rfl rfl hH rfl (HLi (HLs (HL.own rfl HL.nil))) hy1 (by kernel_rfl) ?_; intro σ s hH hS
 have hH : Heap σ0 σ [.own false 4 t1 (Sl.t (⟨false, [a0, a1]⟩ : Sl DPattern)), .box b3 [i4 0, i4 0, .str ⟨#[]⟩, (nt DPattern)], .box b2 [i4 a1.Kind, i4 a1.Num, .str a1.Text, a1.Kids.t], .box b1 [i4 a0.Kind, i4 a0.Num, .str a0.Text, a0.Kids.t]] := hH
 refine t_bk h hS hH ?_
 refine af_ 1 ?_
 refine t_N ?_
 exact k_eW (rC 0 rN) E_DPattern_p
noncomputable def cU_ (a0 : DPattern) : Option Bool := ((aB_ a0 0).bind fun y1 => (some (decide (y1 ≤ 60))))
theorem gH_ (a0 : DPattern) (r : Bool) (h : cU_ a0 = some r) : aW_ a0 = some r := by
 unfold cU_ at h
 refine k_W ok_53 E_bool_inj h (fun σ0 => ?_)
 refine t_R ?_
 refine cm_ (fun b1 => ?_)
 refine t_N ?_
 refine t_R ?_
 refine ab_ 0 ?_
 refine an_ fun y1 hy1 => ?_
 refine t_N ?_
 exact k_eW (rT rN) E_bool_p
noncomputable def cq_ (a0 : DPattern) : Option DPattern := ((aR_ a0).bind fun y1 => (((if (decide (a0.Kind = 14)) = true then (some (decide (a0.Kind = 14))) else (some (decide (a0.Kind = 17)))) : Option Bool).bind fun y2 => (if y2 = true then (some (⟨1, 0, ⟨#[]⟩, ⟨true, []⟩⟩ : DPattern)) else (if (decide (a0.Kind = 15)) = true then (some (⟨16, 0, ⟨#[]⟩, ⟨true, []⟩⟩ : DPattern)) else ((az_ (S := (Int × (Sl DPattern))) (R := (Sl DPattern)) (fun st1 => (if (decide (st1.1 < (a0.Kids.l.length : Int))) = true then ((elt a0.Kids st1.1).bind fun y4 => ((br_ y4).bind fun y5 => ((elt st1.2 st1.1).bind fun y6 => (some (.inl ((w4 (st1.1 + 1)), (setS st1.2 st1.1 (y5 : DPattern)))))))) else (some (.inr st1.2)))) (0, y1.Kids)).bind fun y3 => (some (⟨y1.Kind, y1.Num, y1.Text, y3⟩ : DPattern)))))))
theorem gD_ (a0 : DPattern) (r : DPattern) (h : cq_ a0 = some r) : br_ a0 = some r := by
 unfold cq_ at h
 refine k_O ok_63 h (fun σ0 => ?_)
 refine t_R ?_
 refine cm_ (fun b1 => ?_)
 refine a2_ fun b2 => ?_
 refine t_N ?_
 refine t_R ?_
 refine ab_ 1 ?_
 refine gh_ (fun y1 t1 hy1 ht1 => ?_)
 refine a2_ fun b3 => ?_
 refine af_ 0 ?_ (h1 := by simp [ht1.1, ht1.2])
 refine t_N ?_
 refine t_RU 1 ?_
 refine ab_ 3 ?_
 refine t_N ?_
 refine t_RN ?_
 refine d4_ 0 (fun y2 e fr => e = .normal ∧ Sub [(1, .ptr b1 0 0 4), (2, .ptr b2 0 0 4), (3, .ptr b3 0 0 4), (8, i4 a0.Kind), (9, .bool y2)] fr.s ∧ Heap σ0 fr.σ [.box b3 [i4 y1.Kind, i4 y1.Num, .str y1.Text, t1], .box b2 [i4 0, i4 0, .str ⟨#[]⟩, (nt DPattern)], .box b1 [i4 a0.Kind, i4 a0.Num, .str a0.Text, a0.Kids.t], .own true 4 t1 y1.Kids.t]) (fun y2 e fr h HF => ?_) fun y2 => ?_
 ·obtain ⟨s, σ⟩ := fr
  obtain ⟨rfl, hS, hH⟩ := HF
  refine t_bx h hS hH ?_
  refine t_if (fun hc1 => ?_) fun hc1 => ?_
  ·refine t_RU 1 ?_
   refine af_ 1 ?_
   refine t_N ?_
   refine t_h (Heap.addNil · true 4) ?_
   exact k_eO [(T.row true 0 [])] (rC 1 rN)
  refine t_RN ?_
  refine t_if (fun hc2 => ?_) fun hc2 => ?_
  ·refine t_RU 1 ?_
   refine af_ 1 ?_
   refine t_N ?_
   refine t_h (Heap.addNil · true 4) ?_
   exact k_eO [(T.row true 0 [])] (rC 1 rN)
  refine t_RN ?_
  refine bv_ (fun st1 fr => Sub [(1, .ptr b1 0 0 4), (2, .ptr b2 0 0 4), (3, .ptr b3 0 0 4), (4, i4 st1.1)] fr.s ∧ Heap σ0 fr.σ [.box b3 [i4 y1.Kind, i4 y1.Num, .str y1.Text, t1], .box b2 [i4 0, i4 0, .str ⟨#[]⟩, (nt DPattern)], .box b1 [i4 a0.Kind, i4 a0.Num, .str a0.Text, a0.Kids.t], .own true 4 t1 st1.2.t]) (fun y3 e fr => e = (.exit 1) ∧ Sub [(2, .ptr b2 0 0 4), (3, .ptr b3 0 0 4)] fr.s ∧ Heap σ0 fr.σ [.box b3 [i4 y1.Kind, i4 y1.Num, .str y1.Text, t1], .box b2 [i4 0, i4 0, .str ⟨#[]⟩, (nt DPattern)], .own true 4 t1 y3.t]) (fun hS hH => ⟨(ad_ hS (by kernel_rfl)), hH⟩) (fun st1 x fr h HI => ?_) fun y3 e fr h HF => ?_
  ·obtain ⟨s, σ⟩ := fr; obtain ⟨hS, hH⟩ := HI
   refine t_bk h hS hH ?_
   refine t_RU 2 ?_
   refine ab_ 2 ?_
   refine t_N ?_
   refine t_if (fun hc3 => ?_) fun hc3 => ?_
   ·refine bD_ [(10, RN)] ext_x fun mb σs hn0 hlt hlto => ?_
    have hlt_b3 : b3 < mb := hlt b3 _ (List.Mem.head _)
    refine t_U 1 ?_
    refine ab_ 0 ?_ (hlt := by exact (Or.inr ⟨hlt_b3, (Wc.cons (.inl (by kernel_rfl)) Wc.nil)⟩))
    refine t_U 2 ?_
    refine ab_ 2 ?_ (hlt := by exact (Or.inl (by kernel_rfl)))
    refine t_U 1 ?_
    refine cA_ fun y4 rest1 hy4 => ?_
    refine t_U 1 ?_
    refine gh_ (fun y5 t2 hy5 ht2 => ?_)
    refine mG_ 4 (fun hb1 hb1e y6 hy6 hl_hb1 => ?_) (hlt := by exact (fun _ _ _ _ _ => Or.inl (by kernel_rfl)))
    refine t_h Heap.up4 ?_
    intro h s σ hS hH
    refine oT_ rfl (ents := [.own true 4 t2 y5.Kids.t]) (a := st1.2) (j := st1.1) (y := y6) (y' := (y5 : DPattern)) (off := 0) (c := [i4 y6.Kind, i4 y6.Num, .str y6.Text, y6.Kids.t]) (us := [i4 y5.Kind, i4 y5.Num, .str y5.Text, t2]) (vs := [i4 y5.Kind, i4 y5.Num, .str y5.Text, y5.Kids.t]) (v := .agg [i4 y5.Kind, i4 y5.Num, .str y5.Text, t2]) (by exact Or.inr ⟨10, by kernel_rfl, fun h => h⟩) rfl hS hH hl_hb1 rfl rfl rfl (by simp [ht2.1, ht2.2]) (by kernel_rfl) rfl hy6 (DPattern.cells_eq _) (HLi (HLi (HLs (HL.own rfl HL.nil)))) rfl (by rw [DPattern.enc_eq]; rfl) ?_; intro σ s hH hS
    refine t_bk h hS hH ?_
    refine t_N ?_
    refine t_RN ?_
    exact t_e fun he hS hH => he ▸ ⟨(ad_ hS (by kernel_rfl)), (Heap.sel hH [1, 2, 3, 0] rfl (by kernel_rfl))⟩
   exact t_e fun he hS hH => he ▸ ⟨rfl, (ad_ hS (by kernel_rfl)), (Heap.sel hH [0, 1, 3] rfl (by kernel_rfl))⟩
  obtain ⟨s, σ⟩ := fr
  obtain ⟨rfl, hS, hH⟩ := HF
  refine t_bx h hS hH ?_
  refine t_R ?_
  refine ab_ 0 ?_
  refine af_ 1 ?_ (h1 := by simp [ht1.1, ht1.2])
  refine t_N ?_
  refine t_h Heap.up2 ?_
  exact k_eO [t1] (rC 1 rN)
 refine t_if (fun hc4 => ?_) fun hc4 => ?_
 ·exact t_e fun he hS hH => by subst he; exact ⟨rfl, (ad_ hS (by kernel_rfl)), (Heap.sel hH [0, 2, 3, 1] rfl (by kernel_rfl))⟩
 refine t_RN ?_
 exact t_e fun he hS hH => by subst he; exact ⟨rfl, (ad_ hS (by kernel_rfl)), (Heap.sel hH [0, 2, 3, 1] rfl (by kernel_rfl))⟩
noncomputable def bW_ (a0 : (Sl DPattern)) (a1 : (Sl DPattern)) (a2 : T) : Option Bool := (if flat1 a2 = true then (if ((!decide ((a0.l.length : Int) = (a1.l.length : Int)))) = true then (some false) else ((az_ (S := Int) (R := (Unit ⊕ Bool)) (fun st1 => (if (decide (st1 < (a0.l.length : Int))) = true then ((elt a0 st1).bind fun y2 => ((elt a1 st1).bind fun y3 => ((g5_ Try.prog md ext E_bool a2 [.agg [i4 y2.Kind, i4 y2.Num, .str y2.Text, y2.Kids.t], .agg [i4 y3.Kind, i4 y3.Num, .str y3.Text, y3.Kids.t]]).bind fun y4 => (if (!y4) = true then (some (.inr (.inr false))) else (some (.inl (w4 (st1 + 1)))))))) else (some (.inr (.inl ()))))) 0).bind fun y1 => (Sum.elim (fun y1 => (some true)) (fun y1 => (some y1)) y1))) else none)
theorem eC_ (a0 : (Sl DPattern)) (a1 : (Sl DPattern)) (a2 : T) (r : Bool) (h : bW_ a0 a1 a2 = some r) : bX_ a0 a1 a2 = some r := by
 unfold bW_ at h
 obtain ⟨hf_a2, h⟩ := hs_ h
 refine k_W ok_68 E_bool_inj h (fun σ0 => ?_) (hf := (all_cons (by kernel_rfl) (all_cons (by kernel_rfl) (all_cons (h9_ hf_a2) all_nil))))
 refine t_RN ?_
 refine t_RN ?_
 refine t_if (fun hc1 => ?_) fun hc1 => ?_
 ·refine t_RN ?_
  exact k_eW (rT rN) E_bool_p
 refine t_RN ?_
 refine bv_ (fun st1 fr => Sub [(1, a1.t), (2, a2), (15, a0.t), (16, i4 (a0.l.length : Int)), (17, i4 st1)] fr.s ∧ Heap σ0 fr.σ []) (fun y1 e fr => (Sum.elim (fun y => e = (.exit 0) ∧ Sub [] fr.s ∧ Heap σ0 fr.σ []) (fun y => e = .ret ∧ endW Try.prog (Try.f68.results.toList) σ0 (E_bool y) .ret fr)) y1) (fun hS hH => ⟨(ad_ hS (by kernel_rfl)), hH⟩) (fun st1 x fr h HI => ?_) fun y1 e fr h HF => ?_
 ·obtain ⟨s, σ⟩ := fr; obtain ⟨hS, hH⟩ := HI
  refine t_bk h hS hH ?_
  refine t_RN ?_
  refine t_if (fun hc2 => ?_) fun hc2 => ?_
  ·refine t_RU 1 ?_
   refine cA_ fun y2 rest1 hy2 => ?_
   refine t_U 1 ?_
   refine a2_ fun b1 => ?_
   refine t_U 1 ?_
   refine af_ 0 ?_
   refine t_N ?_
   refine t_RU 2 ?_
   refine cA_ fun y3 rest2 hy3 => ?_
   refine t_U 1 ?_
   refine a2_ fun b2 => ?_
   refine af_ 0 ?_
   refine t_N ?_
   refine t_RU 1 ?_
   refine ab_ 1 ?_
   refine ab_ 0 ?_
   refine kA_ fun y4 hy4 => ?_
   refine t_N ?_
   refine t_if (fun hc3 => ?_) fun hc3 => ?_
   ·refine t_RN ?_
    exact t_e fun he hS hH => he ▸ ⟨rfl, (eW hS hH (rT rN) E_bool_p)⟩
   refine t_RN ?_
   exact t_e fun he hS hH => he ▸ ⟨(ad_ hS (by kernel_rfl)), (Heap.sel hH [] rfl (by kernel_rfl))⟩
  exact t_e fun he hS hH => he ▸ ⟨rfl, (ad_ hS (by kernel_rfl)), hH⟩
 obtain ⟨s, σ⟩ := fr
 rcases y1 with y1 | y1
 ·have h := el_l h
  obtain ⟨rfl, hS, hH⟩ := HF
  refine t_bx h hS hH ?_
  refine t_RN ?_
  exact k_eW (rT rN) E_bool_p
 have h := el_r h
 obtain ⟨rfl, HE⟩ := HF
 obtain rfl := si_1 h; exact HE
noncomputable def fR_ (a0 : (Sl (Iv .i64))) : Option Int := ((az_ (S := Int) (R := (Unit ⊕ Int)) (fun st1 => (if (decide (st1 < (a0.l.length : Int))) = true then ((elt a0 st1).bind fun y2 => (if (!decide (y2.v = 0)) = true then (some (.inr (.inr y2.v))) else (some (.inl (w4 (st1 + 1)))))) else (some (.inr (.inl ()))))) 0).bind fun y1 => (Sum.elim (fun y1 => (some 0)) (fun y1 => (some y1)) y1))
theorem lh_ (a0 : (Sl (Iv .i64))) (r : Int) (h : fR_ a0 = some r) : f4_ a0 = some r := by
 unfold fR_ at h
 refine k_W ok_74 E_i64_inj h (fun σ0 => ?_)
 refine t_RN ?_
 refine t_RN ?_
 refine bv_ (fun st1 fr => Sub [(5, a0.t), (6, i4 (a0.l.length : Int)), (7, i4 st1)] fr.s ∧ Heap σ0 fr.σ []) (fun y1 e fr => (Sum.elim (fun y => e = (.exit 0) ∧ Sub [] fr.s ∧ Heap σ0 fr.σ []) (fun y => e = .ret ∧ endW Try.prog (Try.f74.results.toList) σ0 (E_i64 y) .ret fr)) y1) (fun hS hH => ⟨(ad_ hS (by kernel_rfl)), hH⟩) (fun st1 x fr h HI => ?_) fun y1 e fr h HF => ?_
 ·obtain ⟨s, σ⟩ := fr; obtain ⟨hS, hH⟩ := HI
  refine t_bk h hS hH ?_
  refine t_RN ?_
  refine t_if (fun hc1 => ?_) fun hc1 => ?_
  ·refine t_R ?_
   refine cA_ fun y2 rest1 hy2 => ?_
   refine t_N ?_
   refine t_RN ?_
   refine t_if (fun hc2 => ?_) fun hc2 => ?_
   ·refine t_RN ?_
    exact t_e fun he hS hH => he ▸ ⟨rfl, (eW hS hH (rT rN) E_i64_p)⟩
   refine t_RN ?_
   exact t_e fun he hS hH => he ▸ ⟨(ad_ hS (by kernel_rfl)), hH⟩
  exact t_e fun he hS hH => he ▸ ⟨rfl, (ad_ hS (by kernel_rfl)), hH⟩
 obtain ⟨s, σ⟩ := fr
 rcases y1 with y1 | y1
 ·have h := el_l h
  obtain ⟨rfl, hS, hH⟩ := HF
  refine t_bx h hS hH ?_
  refine t_RN ?_
  exact k_eW (rT rN) E_i64_p
 have h := el_r h
 obtain ⟨rfl, HE⟩ := HF
 obtain rfl := si_1 h; exact HE
noncomputable def fG_ (a0 : Bool) (a1 : Int) : Option Int := (if a0 = true then (some 0) else (some a1))
theorem kc_ (a0 : Bool) (a1 : Int) (r : Int) (h : fG_ a0 a1 = some r) : d5_ a0 a1 = some r := by
 unfold fG_ at h
 refine k_W ok_75 E_i64_inj h (fun σ0 => ?_)
 refine t_RN ?_
 refine t_RN ?_
 refine t_if (fun hc1 => ?_) fun hc1 => ?_
 ·refine t_RN ?_
  exact k_eW (rT rN) E_i64_p
 refine t_RN ?_
 exact k_eW (rT rN) E_i64_p
noncomputable def dI_ (a0 : ByteArray) : Option Bool := (some (decide ((a0.size : Int) ≤ 200)))
theorem gu_ (a0 : ByteArray) (r : Bool) (h : dI_ a0 = some r) : a9_ a0 = some r := by
 unfold dI_ at h
 refine k_W ok_76 E_bool_inj h (fun σ0 => ?_)
 refine t_RN ?_
 refine t_RN ?_
 exact k_eW (rT rN) E_bool_p
noncomputable def dv_ (a0 : (Sl DNamed)) (a1 : DPattern) (a2 : ByteArray) (a3 : Int) : Option Int := ((((es_ a0).bind fun y6 => (if y6 = true then ((aW_ a1).bind fun y7 => (if y7 = true then ((a9_ a2).bind fun y8 => (some y8)) else (some false))) else (some false))) : Option Bool).bind fun y1 => ((d5_ y1 1).bind fun y2 => ((b3_ a3 0 20000).bind fun y3 => ((d5_ y3 3).bind fun y4 => ((f4_ (⟨false, [⟨y2⟩, ⟨y4⟩]⟩)).bind fun y5 => (some y5))))))
theorem hr_ (a0 : (Sl DNamed)) (a1 : DPattern) (a2 : ByteArray) (a3 : Int) (r : Int) (h : dv_ a0 a1 a2 a3 = some r) : dC_ a0 a1 a2 a3 = some r := by
 unfold dv_ at h
 refine k_W ok_77 E_i64_inj h (fun σ0 => ?_)
 refine t_R ?_
 refine cm_ (fun b1 => ?_)
 refine t_N ?_
 refine d4_ 0 (fun y1 e fr => e = .normal ∧ Sub [(3, i4 a3), (9, .bool y1)] fr.s ∧ Heap σ0 fr.σ []) (fun y1 e fr h HF => ?_) fun y1 => ?_
 ·obtain ⟨s, σ⟩ := fr
  obtain ⟨rfl, hS, hH⟩ := HF
  refine t_bx h hS hH ?_
  refine t_RU 1 ?_
  refine an_ fun y2 hy2 => ?_
  refine t_U 1 ?_
  refine an_ fun y3 hy3 => ?_
  refine an_ fun y4 hy4 => ?_
  refine k_bs (z := true) (⟨false, [⟨y2⟩, ⟨y4⟩]⟩ : Sl (Iv .i64)) (fun t1 ht1 => ?_)
  refine oV_ (fun y5 hy5 => ?_)
  refine t_N ?_
  exact k_eW (rT rN) E_i64_p
 refine t_RU 1 ?_
 refine an_ fun y6 hy6 => ?_
 refine t_U 1 ?_
 refine ay_ 12 (fun hc1 => ?_) fun hc1 => ?_
 ·refine ab_ 0 ?_
  refine an_ fun y7 hy7 => ?_
  refine t_U 2 ?_
  refine ay_ 16 (fun hc2 => ?_) fun hc2 => ?_
  ·refine t_U 1 ?_
   refine an_ fun y8 hy8 => ?_
   refine t_N ?_
   exact t_e fun he hS hH => he ▸ ⟨rfl, (ad_ hS (by kernel_rfl)), (Heap.sel hH [] rfl (by kernel_rfl))⟩
  refine t_N ?_
  exact t_e fun he hS hH => he ▸ ⟨rfl, (ad_ hS (by kernel_rfl)), (Heap.sel hH [] rfl (by kernel_rfl))⟩
 refine t_N ?_
 exact t_e fun he hS hH => he ▸ ⟨rfl, (ad_ hS (by kernel_rfl)), (Heap.sel hH [] rfl (by kernel_rfl))⟩
end Go.Am
