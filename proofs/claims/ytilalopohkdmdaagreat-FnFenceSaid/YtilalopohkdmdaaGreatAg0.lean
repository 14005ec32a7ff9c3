/- Functions of the program. -/
import Derived.Test.YtilalopohkdmdaaGreatAd0
set_option maxRecDepth 100000
set_option maxHeartbeats 4000000
set_option linter.unusedVariables false
set_option linter.unusedSimpArgs false
namespace Go.Am
open Go.Proofs
noncomputable def eU_ (a0 : (Sl (Iv .u8))) : Option Bool := (if (decide (1048576 < (a0.l.length : Int))) = true then (some true) else ((dO_ a0).bind fun y1 => ((dx_ 1 a0).bind fun y2 => ((d4_ y2).bind fun y3 => ((dx_ 2 a0).bind fun y4 => ((d4_ y4).bind fun y5 => ((dx_ 3 a0).bind fun y6 => ((dF_ y6).bind fun y7 => ((go_ a0 4 (w4 ((y7.size : Int) + 1))).bind fun y8 => ((d0_ y1 y3 y7 y8 1000).bind fun y9 => ((c5_ 14 ⟨#[]⟩ ⟨true, []⟩).bind fun y10 => ((eH_ y10 y5).bind fun y11 => ((eH_ y3 y11).bind fun y12 => ((d0_ y1 y12 y7 y8 3000).bind fun y13 => (if (!y9.2.2) = true then (some false) else (if (!y13.2.2) = true then (some false) else (if (!decide (y9.2.1 = 0)) = true then (some true) else (if (!decide (y13.2.1 = 0)) = true then (some true) else (if (decide ((y9.1.l.length : Int) = 0)) = true then (some (decide ((y13.1.l.length : Int) = 0))) else ((elt y9.1 0).bind fun y14 => ((c6_ y1 y5 y7 y14.v 1000).bind fun y15 => (if (!decide (y15.2 = 0)) = true then (some true) else ((d3_ y13.1 y15.1).bind fun y16 => (some y16))))))))))))))))))))))))
theorem iJ_ (a0 : (Sl (Iv .u8))) (r : Bool) (h : eU_ a0 = some r) : gj_ a0 = some r := by
 unfold eU_ at h
 refine k_W ok_5 E_bool_inj h (fun σ0 => ?_)
 refine t_RN ?_
 refine t_RN ?_
 refine t_if (fun hc1 => ?_) fun hc1 => ?_
 ·refine t_RN ?_
  exact k_eW (rT rN) E_bool_p
 refine t_RU 1 ?_
 refine ay_ fun y1 hy1 => ?_
 refine t_N ?_
 refine t_RU 1 ?_
 refine ay_ fun y2 hy2 => ?_
 refine ay_ fun y3 hy3 => ?_
 refine bU_ fun b1 => ?_
 refine aU_ 0 ?_
 refine t_N ?_
 refine t_RU 1 ?_
 refine ay_ fun y4 hy4 => ?_
 refine ay_ fun y5 hy5 => ?_
 refine bU_ fun b2 => ?_
 refine aU_ 0 ?_
 refine t_N ?_
 refine t_RU 1 ?_
 refine ay_ fun y6 hy6 => ?_
 refine ay_ fun y7 hy7 => ?_
 refine t_N ?_
 refine t_RU 4 ?_
 refine ay_ fun y8 hy8 => ?_
 refine t_N ?_
 refine t_RU 1 ?_
 refine ad_ 1 ?_
 refine t_U 2 ?_
 refine ay_ fun y9 hy9 => ?_
 refine t_N ?_
 refine t_D fun mb => ?_
 refine t_U 1 ?_
 refine ad_ 1 ?_
 refine ay_ fun y10 hy10 => ?_
 refine ad_ 0 ?_
 refine ay_ fun y11 hy11 => ?_
 refine ay_ fun y12 hy12 => ?_
 refine t_U 2 ?_
 refine ay_ fun y13 hy13 => ?_
 refine t_N ?_
 refine t_RU 3 ?_
 refine aQ_ 59 (fun hc2 => ?_) fun hc2 => ?_
 ·refine t_N ?_
  refine t_cT rfl ?_
  refine t_RN ?_
  exact k_eW (rT rN) E_bool_p
 refine t_N ?_
 refine t_if (fun hc3 => ?_) fun hc3 => ?_
 ·refine t_RN ?_
  exact k_eW (rT rN) E_bool_p
 refine t_RU 3 ?_
 refine aQ_ 65 (fun hc4 => ?_) fun hc4 => ?_
 ·refine t_N ?_
  refine t_cT rfl ?_
  refine t_RN ?_
  exact k_eW (rT rN) E_bool_p
 refine t_N ?_
 refine t_if (fun hc5 => ?_) fun hc5 => ?_
 ·refine t_RN ?_
  exact k_eW (rT rN) E_bool_p
 refine t_RN ?_
 refine t_if (fun hc6 => ?_) fun hc6 => ?_
 ·refine t_RN ?_
  exact k_eW (rT rN) E_bool_p
 refine t_D fun mb => ?_
 refine t_U 1 ?_
 refine ad_ 0 ?_
 refine t_U 2 ?_
 refine cb_ fun y14 rest1 hy14 => ?_
 refine t_U 1 ?_
 refine ay_ fun y15 hy15 => ?_
 refine t_N ?_
 refine t_RU 3 ?_
 refine aQ_ 87 (fun hc7 => ?_) fun hc7 => ?_
 ·refine t_N ?_
  exact k_eW (rT rN) E_bool_p
 refine t_U 2 ?_
 refine ay_ fun y16 hy16 => ?_
 refine t_N ?_
 exact k_eW (rT rN) E_bool_p
noncomputable def bq_ (a0 : ai_) : Option (Int × ai_) := (((if (decide (a0.at_ < (a0.code_.l.length : Int))) = true then ((elt a0.code_ a0.at_).bind fun y2 => (some (w4 y2.v))) else (some 0)) : Option Int).bind fun y1 => (if ((decide ((w4 (a0.at_ + 1)) ≤ (a0.code_.l.length : Int)))) = true then (some (y1, (⟨a0.code_, (w4 (a0.at_ + 1)), (IntKind.u64.wrap ((IntKind.u64.wrap ((IntKind.u64.wrap (a0.seed_ * 6364136223846793005)) + (IntKind.u64.wrap y1))) + 1442695040888963407))⟩ : ai_))) else (some ((w4 ((andI .u64 ((((IntKind.u64.wrap ((IntKind.u64.wrap ((IntKind.u64.wrap (a0.seed_ * 6364136223846793005)) + (IntKind.u64.wrap y1))) + 1442695040888963407))).fdiv (2 ^ 40))) 255))), (⟨a0.code_, (w4 (a0.at_ + 1)), (IntKind.u64.wrap ((IntKind.u64.wrap ((IntKind.u64.wrap (a0.seed_ * 6364136223846793005)) + (IntKind.u64.wrap y1))) + 1442695040888963407))⟩ : ai_)))))
theorem ex_ (a0 : ai_) (r : (Int × ai_)) (h : bq_ a0 = some r) (bp0 : Nat) : RawS Tryz.prog md ext 59 [.ptr bp0 0 0 3] 0 (fun hs => E_i64 r.1) [.box bp0 (ai_.cells a0)] (fun hs => [.box bp0 (ai_.cells r.2)]) := by
 unfold bq_ at h
 refine b9_ rfl rfl ok_59 rfl ?_
 intro σ0 σ F σk s hS hH
 have hS := ae_ (L' := [(0, .ptr bp0 0 0 3)]) hS (by kernel_rfl)
 refine t_go h hS hH ?_
 refine t_RN ?_
 refine t_RN ?_
 refine t_D fun mb => ?_
 refine t_U 3 ?_
 refine ad_ 0 ?_
 refine t_U 3 ?_
 refine ad_ 0 ?_
 refine t_N ?_
 refine ev_ 0 (fun y1 e fr => e = .normal ∧ Sub [(0, .ptr bp0 0 0 3), (3, i4 y1)] fr.s ∧ Heap σ0 fr.σ [.box bp0 (ai_.cells a0), .keep F σk]) (fun y1 e fr h HF => ?_) fun y1 => ?_
 ·obtain ⟨s, σ⟩ := fr
  obtain ⟨rfl, hS, hH⟩ := HF
  refine t_bx h hS hH ?_
  refine t_RU 3 ?_
  refine ad_ 0 ?_
  refine t_U 3 ?_
  refine aN_ 0 ?_
  refine t_N ?_
  refine t_RU 4 ?_
  refine ad_ 0 ?_
  refine t_U 7 ?_
  refine aN_ 0 ?_
  refine t_N ?_
  refine t_D fun mb => ?_
  refine t_U 3 ?_
  refine ad_ 0 ?_
  refine t_U 3 ?_
  refine ad_ 0 ?_
  refine t_N ?_
  refine t_if (fun hc1 => ?_) fun hc1 => ?_
  ·refine t_RN ?_
   intro h s σ hS hH
   obtain rfl := si_1 h
   exact aS_ [] (bt_ (v := i4 y1) hS rfl r_nil) rfl rfl hH
  refine t_RU 3 ?_
  refine ad_ 0 ?_
  refine t_N ?_
  intro h s σ hS hH
  obtain rfl := si_1 h
  exact aS_ [] (bt_ (v := i4 ((w4 ((andI .u64 ((((IntKind.u64.wrap ((IntKind.u64.wrap ((IntKind.u64.wrap (a0.seed_ * 6364136223846793005)) + (IntKind.u64.wrap y1))) + 1442695040888963407))).fdiv (2 ^ 40))) 255))))) hS rfl r_nil) rfl rfl hH
 refine t_if (fun hc2 => ?_) fun hc2 => ?_
 ·refine t_D fun mb => ?_
  refine t_U 3 ?_
  refine ad_ 0 ?_
  refine t_U 3 ?_
  refine ad_ 0 ?_
  refine cb_ fun y2 rest1 hy2 => ?_
  refine t_N ?_
  exact t_e fun he hS hH => he ▸ ⟨rfl, (ae_ hS (by kernel_rfl)), hH⟩
 exact t_e fun he hS hH => he ▸ ⟨rfl, (ae_ hS (by kernel_rfl)), hH⟩
noncomputable def aI_ (a0 : ai_) (a1 : Int) : Option (Int × ai_) := (if (decide (a1 ≤ 1)) = true then (some (0, a0)) else ((bq_ a0).bind fun y1 => (if (decide (200 < a1)) = true then ((bq_ y1.2).bind fun y2 => ((remI (w4 ((w4 (y1.1 * 256)) + y2.1)) a1).bind fun y3 => (some (y3, y2.2)))) else ((remI y1.1 a1).bind fun y4 => (some (y4, y1.2))))))
theorem bb_ (a0 : ai_) (a1 : Int) (r : (Int × ai_)) (h : aI_ a0 a1 = some r) (bp0 : Nat) : RawS Tryz.prog md ext 37 [.ptr bp0 0 0 3, i4 a1] 0 (fun hs => E_i64 r.1) [.box bp0 (ai_.cells a0)] (fun hs => [.box bp0 (ai_.cells r.2)]) := by
 unfold aI_ at h
 refine b9_ rfl rfl ok_37 rfl ?_
 intro σ0 σ F σk s hS hH
 have hS := ae_ (L' := [(0, .ptr bp0 0 0 3), (1, i4 a1)]) hS (by kernel_rfl)
 refine t_go h hS hH ?_
 refine t_RN ?_
 refine t_RN ?_
 refine t_if (fun hc1 => ?_) fun hc1 => ?_
 ·refine t_RN ?_
  intro h s σ hS hH
  obtain rfl := si_1 h
  exact aS_ [] (bt_ (v := i4 0) hS rfl r_nil) rfl rfl hH
 refine t_RU 1 ?_
 refine aK_ (fun y1 hs hy1 hl => ?_) (hr := by exact fun y1 hy1 => ex_ _ y1 hy1 bp0)
 obtain rfl := len0 hl
 refine bg_ ?_
 refine t_N ?_
 refine t_RN ?_
 refine t_if (fun hc2 => ?_) fun hc2 => ?_
 ·refine t_RU 3 ?_
  refine aK_ (fun y2 hs hy2 hl => ?_) (hr := by exact fun y2 hy2 => ex_ _ y2 hy2 bp0)
  obtain rfl := len0 hl
  refine bg_ ?_
  refine t_N ?_
  refine t_RU 2 ?_
  intro h s σ hS hH
  obtain ⟨y3, hy3, h⟩ := bind_some h
  refine i2_ rfl hS rfl rfl hy3 ?_; intro s hS
  refine t_bk h hS hH ?_
  refine t_N ?_
  intro h s σ hS hH
  obtain rfl := si_1 h
  exact aS_ [] (bt_ (v := i4 y3) hS rfl r_nil) rfl rfl hH
 refine t_RU 2 ?_
 intro h s σ hS hH
 obtain ⟨y4, hy4, h⟩ := bind_some h
 refine i2_ rfl hS rfl rfl hy4 ?_; intro s hS
 refine t_bk h hS hH ?_
 refine t_N ?_
 intro h s σ hS hH
 obtain rfl := si_1 h
 exact aS_ [] (bt_ (v := i4 y4) hS rfl r_nil) rfl rfl hH
noncomputable def a4_ (a0 : ai_) (a1 : Int) : Option (Bool × ai_) := ((aI_ a0 a1).bind fun y1 => (some ((decide (y1.1 = 0)), y1.2)))
theorem cA_ (a0 : ai_) (a1 : Int) (r : (Bool × ai_)) (h : a4_ a0 a1 = some r) (bp0 : Nat) : RawS Tryz.prog md ext 53 [.ptr bp0 0 0 3, i4 a1] 0 (fun hs => E_bool r.1) [.box bp0 (ai_.cells a0)] (fun hs => [.box bp0 (ai_.cells r.2)]) := by
 unfold a4_ at h
 refine b9_ rfl rfl ok_53 rfl ?_
 intro σ0 σ F σk s hS hH
 have hS := ae_ (L' := [(0, .ptr bp0 0 0 3), (1, i4 a1)]) hS (by kernel_rfl)
 refine t_go h hS hH ?_
 refine t_RN ?_
 refine t_RU 2 ?_
 refine aK_ (fun y1 hs hy1 hl => ?_) (hr := by exact fun y1 hy1 => bb_ _ _ y1 hy1 bp0)
 obtain rfl := len0 hl
 refine bg_ ?_
 refine t_N ?_
 intro h s σ hS hH
 obtain rfl := si_1 h
 exact aS_ [] (bt_ (v := .bool (decide (y1.1 = 0))) hS rfl r_nil) rfl rfl hH
noncomputable def a7_ (a0 : ai_) (a1 : (Sl ByteArray)) : Option (ByteArray × ai_ × (Sl ByteArray)) := ((aI_ a0 (a1.l.length : Int)).bind fun y1 => ((elt a1 y1.1).bind fun y2 => (some (y2, y1.2, a1))))
theorem c1_ (a0 : ai_) (a1 : (Sl ByteArray)) (r : (ByteArray × ai_ × (Sl ByteArray))) (h : a7_ a0 a1 = some r) (bp0 : Nat) (wp1_1 : Nat) (p1_1 : T) : RawS Tryz.prog md ext 60 [.ptr bp0 0 0 3, p1_1] 0 (fun hs => E_str r.1) [.box bp0 (ai_.cells a0), .own true wp1_1 p1_1 a1.t] (fun hs => [.box bp0 (ai_.cells r.2.1), .own true wp1_1 p1_1 r.2.2.t]) := by
 unfold a7_ at h
 refine b9_ rfl rfl ok_60 rfl ?_
 intro σ0 σ F σk s hS hH
 have hp1_1 : au_ p1_1 := Heap.one (hH.at 1 rfl)
 have hS := ae_ (L' := [(0, .ptr bp0 0 0 3), (1, p1_1)]) hS (by kernel_rfl)
 refine t_go h hS hH ?_
 refine t_RN ?_
 refine t_RU 3 ?_
 refine hx_ (a := a1) 1 ?_
 refine aK_ (fun y1 hs hy1 hl => ?_) (hr := by exact fun y1 hy1 => bb_ _ _ y1 hy1 bp0)
 obtain rfl := len0 hl
 refine bg_ ?_
 refine hv_ 1 (fun hb1 hb1e y2 hy2 hl_hb1 => ?_)
 refine jM_ 1 0 hl_hb1 hy2 ?_
 refine t_N ?_
 intro h s σ hS hH
 obtain rfl := si_1 h
 exact aS_ [] (bt_ (v := .str y2) hS rfl r_nil) rfl rfl hH
noncomputable def bI_ (a0 : ai_) : Option (ByteArray × ai_) := ((a7_ a0 (⟨false, [⟨#[97]⟩, ⟨#[98]⟩, ⟨#[97, 98]⟩, ⟨#[98, 97]⟩, ⟨#[97, 98, 99]⟩, ⟨#[40]⟩, ⟨#[41]⟩, ⟨#[40, 41]⟩, ⟨#[120]⟩, ⟨#[97, 97]⟩, ⟨#[99]⟩, ⟨#[34]⟩, ⟨#[97, 34, 98]⟩, ⟨#[0]⟩, ⟨#[120, 121]⟩, ⟨#[98, 99]⟩]⟩)).bind fun y1 => (some (y1.1, y1.2.1)))
theorem f2_ (a0 : ai_) (r : (ByteArray × ai_)) (h : bI_ a0 = some r) (bp0 : Nat) : RawS Tryz.prog md ext 50 [.ptr bp0 0 0 3] 0 (fun hs => E_str r.1) [.box bp0 (ai_.cells a0)] (fun hs => [.box bp0 (ai_.cells r.2)]) := by
 unfold bI_ at h
 refine b9_ rfl rfl ok_50 rfl ?_
 intro σ0 σ F σk s hS hH
 have hS := ae_ (L' := [(0, .ptr bp0 0 0 3)]) hS (by kernel_rfl)
 refine t_go h hS hH ?_
 refine t_RN ?_
 refine t_RU 1 ?_
 refine k_bs (z := true) (⟨false, [⟨#[97]⟩, ⟨#[98]⟩, ⟨#[97, 98]⟩, ⟨#[98, 97]⟩, ⟨#[97, 98, 99]⟩, ⟨#[40]⟩, ⟨#[41]⟩, ⟨#[40, 41]⟩, ⟨#[120]⟩, ⟨#[97, 97]⟩, ⟨#[99]⟩, ⟨#[34]⟩, ⟨#[97, 34, 98]⟩, ⟨#[0]⟩, ⟨#[120, 121]⟩, ⟨#[98, 99]⟩]⟩ : Sl ByteArray) (fun t1 ht1 => ?_)
 refine t_h Heap.up1 ?_
 refine aK_ (fun y1 hs hy1 hl => ?_) (hr := by exact fun y1 hy1 => c1_ _ _ y1 hy1 bp0 1 t1)
 obtain rfl := len0 hl
 refine bg_ ?_
 refine t_N ?_
 intro h s σ hS hH
 obtain rfl := si_1 h
 exact aS_ [] (bt_ (v := .str y1.1) hS rfl r_nil) rfl rfl (Heap.sel hH [0, 2] rfl (by kernel_rfl))
noncomputable def bk_ (a0 : ai_) (a1 : (Sl (Iv .i64))) : Option (Int × ai_ × (Sl (Iv .i64))) := ((aI_ a0 (a1.l.length : Int)).bind fun y1 => ((elt a1 y1.1).bind fun y2 => (some (y2.v, y1.2, a1))))
theorem ea_ (a0 : ai_) (a1 : (Sl (Iv .i64))) (r : (Int × ai_ × (Sl (Iv .i64)))) (h : bk_ a0 a1 = some r) (bp0 : Nat) (wp1_1 : Nat) (p1_1 : T) : RawS Tryz.prog md ext 56 [.ptr bp0 0 0 3, p1_1] 0 (fun hs => E_i64 r.1) [.box bp0 (ai_.cells a0), .own true wp1_1 p1_1 a1.t] (fun hs => [.box bp0 (ai_.cells r.2.1), .own true wp1_1 p1_1 r.2.2.t]) := by
 unfold bk_ at h
 refine b9_ rfl rfl ok_56 rfl ?_
 intro σ0 σ F σk s hS hH
 have hp1_1 : au_ p1_1 := Heap.one (hH.at 1 rfl)
 have hS := ae_ (L' := [(0, .ptr bp0 0 0 3), (1, p1_1)]) hS (by kernel_rfl)
 refine t_go h hS hH ?_
 refine t_RN ?_
 refine t_RU 3 ?_
 refine hx_ (a := a1) 1 ?_
 refine aK_ (fun y1 hs hy1 hl => ?_) (hr := by exact fun y1 hy1 => bb_ _ _ y1 hy1 bp0)
 obtain rfl := len0 hl
 refine bg_ ?_
 refine hv_ 1 (fun hb1 hb1e y2 hy2 hl_hb1 => ?_)
 refine jM_ 1 0 hl_hb1 hy2 ?_
 refine t_N ?_
 intro h s σ hS hH
 obtain rfl := si_1 h
 exact aS_ [] (bt_ (v := i4 y2.v) hS rfl r_nil) rfl rfl hH
noncomputable def cj_ (a0 : ai_) : Option (ByteArray × ai_) := ((a7_ a0 (⟨false, [⟨#[120]⟩, ⟨#[121]⟩, ⟨#[122]⟩, ⟨#[80, 97, 116]⟩, ⟨#[97, 95, 49]⟩]⟩)).bind fun y1 => (some (y1.1, y1.2.1)))
theorem gn_ (a0 : ai_) (r : (ByteArray × ai_)) (h : cj_ a0 = some r) (bp0 : Nat) : RawS Tryz.prog md ext 58 [.ptr bp0 0 0 3] 0 (fun hs => E_str r.1) [.box bp0 (ai_.cells a0)] (fun hs => [.box bp0 (ai_.cells r.2)]) := by
 unfold cj_ at h
 refine b9_ rfl rfl ok_58 rfl ?_
 intro σ0 σ F σk s hS hH
 have hS := ae_ (L' := [(0, .ptr bp0 0 0 3)]) hS (by kernel_rfl)
 refine t_go h hS hH ?_
 refine t_RN ?_
 refine t_RU 1 ?_
 refine k_bs (z := true) (⟨false, [⟨#[120]⟩, ⟨#[121]⟩, ⟨#[122]⟩, ⟨#[80, 97, 116]⟩, ⟨#[97, 95, 49]⟩]⟩ : Sl ByteArray) (fun t1 ht1 => ?_)
 refine t_h Heap.up1 ?_
 refine aK_ (fun y1 hs hy1 hl => ?_) (hr := by exact fun y1 hy1 => c1_ _ _ y1 hy1 bp0 1 t1)
 obtain rfl := len0 hl
 refine bg_ ?_
 refine t_N ?_
 intro h s σ hS hH
 obtain rfl := si_1 h
 exact aS_ [] (bt_ (v := .str y1.1) hS rfl r_nil) rfl rfl (Heap.sel hH [0, 2] rfl (by kernel_rfl))
noncomputable def ck_ (a0 : ai_) : Option (DPattern × ai_) := ((bk_ a0 (⟨false, [⟨1⟩, ⟨1⟩, ⟨1⟩, ⟨2⟩, ⟨3⟩, ⟨4⟩, ⟨5⟩, ⟨6⟩, ⟨6⟩, ⟨7⟩, ⟨8⟩, ⟨9⟩, ⟨10⟩, ⟨11⟩, ⟨12⟩, ⟨12⟩, ⟨13⟩, ⟨14⟩, ⟨15⟩, ⟨16⟩, ⟨17⟩, ⟨23⟩, ⟨24⟩, ⟨24⟩]⟩)).bind fun y1 => ((cg_ y1.1).bind fun y2 => (if (decide (y2.2 = (⟨#[115]⟩ : ByteArray))) = true then ((bI_ y1.2.1).bind fun y3 => (((if (decide (y1.1 = 1)) = true then ((a4_ y3.2 4).bind fun y5 => (some (y5.1, y5.2.code_, y5.2.at_, y5.2.seed_))) else (some (false, y3.2.code_, y3.2.at_, y3.2.seed_))) : Option (Bool × (Sl (Iv .u8)) × Int × Int)).bind fun y4 => (if y4.1 = true then (some ((⟨y1.1, 0, ⟨#[]⟩, ⟨true, []⟩⟩ : DPattern), (⟨y4.2.1, y4.2.2.1, y4.2.2.2⟩ : ai_))) else (some ((⟨y1.1, 0, y3.1, ⟨true, []⟩⟩ : DPattern), (⟨y4.2.1, y4.2.2.1, y4.2.2.2⟩ : ai_)))))) else (if (decide (y2.2 = (⟨#[110]⟩ : ByteArray))) = true then ((aI_ y1.2.1 4).bind fun y6 => (some ((⟨y1.1, y6.1, ⟨#[]⟩, ⟨true, []⟩⟩ : DPattern), y6.2))) else (if (decide (y2.2 = (⟨#[120]⟩ : ByteArray))) = true then ((cj_ y1.2.1).bind fun y7 => (some ((⟨y1.1, 0, y7.1, ⟨true, []⟩⟩ : DPattern), y7.2))) else (some ((⟨y1.1, 0, ⟨#[]⟩, ⟨true, []⟩⟩ : DPattern), y1.2.1)))))))
theorem ge_ (a0 : ai_) (r : (DPattern × ai_)) (h : ck_ a0 = some r) (bp0 : Nat) : RawS Tryz.prog md ext 55 [.ptr bp0 0 0 3] Sh_DPattern.n (fun hs => Sh_DPattern.tree hs r.1) [.box bp0 (ai_.cells a0)] (fun hs => Sh_DPattern.en hs r.1 ++ [.box bp0 (ai_.cells r.2)]) := by
 unfold ck_ at h
 refine b9_ rfl rfl ok_55 rfl ?_
 intro σ0 σ F σk s hS hH
 have hS := ae_ (L' := [(0, .ptr bp0 0 0 3)]) hS (by kernel_rfl)
 refine t_go h hS hH ?_
 refine t_R ?_
 refine bU_ fun b1 => ?_
 refine t_N ?_
 refine t_RU 1 ?_
 refine k_bs (z := true) (⟨false, [⟨1⟩, ⟨1⟩, ⟨1⟩, ⟨2⟩, ⟨3⟩, ⟨4⟩, ⟨5⟩, ⟨6⟩, ⟨6⟩, ⟨7⟩, ⟨8⟩, ⟨9⟩, ⟨10⟩, ⟨11⟩, ⟨12⟩, ⟨12⟩, ⟨13⟩, ⟨14⟩, ⟨15⟩, ⟨16⟩, ⟨17⟩, ⟨23⟩, ⟨24⟩, ⟨24⟩]⟩ : Sl (Iv .i64)) (fun t1 ht1 => ?_)
 refine t_h Heap.up2 ?_
 refine aK_ (fun y1 hs hy1 hl => ?_) (hr := by exact fun y1 hy1 => ea_ _ _ y1 hy1 bp0 1 t1)
 obtain rfl := len0 hl
 refine bg_ ?_
 refine t_N ?_
 refine t_RU 2 ?_
 refine bU_ fun b2 => ?_
 refine aU_ 0 ?_
 refine t_N ?_
 refine t_RU 1 ?_
 refine ay_ fun y2 hy2 => ?_
 refine t_N ?_
 refine t_RN ?_
 refine t_RN ?_
 refine t_if (fun hc1 => ?_) fun hc1 => ?_
 ·refine t_RU 1 ?_
  refine t_h Heap.up1 ?_
  refine aK_ (fun y3 hs hy3 hl => ?_) (hr := by exact fun y3 hy3 => f2_ _ y3 hy3 bp0)
  obtain rfl := len0 hl
  refine bg_ ?_
  refine t_U 1 ?_
  refine aN_ 1 ?_
  refine t_N ?_
  refine ev_ 0 (fun y4 e fr => e = .normal ∧ Sub [(2, .ptr b1 0 0 4), (4, .ptr b2 0 0 4), (28, .bool y4.1)] fr.s ∧ Heap σ0 fr.σ [.box b2 [i4 y1.1, i4 0, .str y3.1, (nt DPattern)], .box bp0 [y4.2.1.t, i4 y4.2.2.1, .int .u64 y4.2.2.2], .box b1 [i4 0, i4 0, .str ⟨#[]⟩, (nt DPattern)], .keep F σk]) (fun y4 e fr h HF => ?_) fun y4 => ?_
  ·obtain ⟨s, σ⟩ := fr
   obtain ⟨rfl, hS, hH⟩ := HF
   refine t_bx h hS hH ?_
   refine t_if (fun hc2 => ?_) fun hc2 => ?_
   ·refine t_RU 1 ?_
    refine aN_ 0 ?_
    refine t_N ?_
    refine t_R ?_
    refine ad_ 0 ?_
    refine aU_ 2 ?_
    refine t_N ?_
    intro h s σ hS hH
    obtain rfl := si_1 h
    have hH := Heap.addNil hH true 4
    exact aS_ [(T.row true 0 [])] (fX_ (v := .agg [i4 y1.1, i4 0, .str ⟨#[]⟩, (nt DPattern)]) hS (hH.at 1 rfl) rfl (by kernel_rfl) r_nil) rfl rfl (Heap.sel hH [0, 3, 4] rfl (by kernel_rfl))
   refine t_R ?_
   refine ad_ 0 ?_
   refine aU_ 2 ?_
   refine t_N ?_
   intro h s σ hS hH
   obtain rfl := si_1 h
   have hH := Heap.addNil hH true 4
   exact aS_ [(T.row true 0 [])] (fX_ (v := .agg [i4 y1.1, i4 0, .str y3.1, (nt DPattern)]) hS (hH.at 1 rfl) rfl (by kernel_rfl) r_nil) rfl rfl (Heap.sel hH [0, 3, 4] rfl (by kernel_rfl))
  refine t_RU 3 ?_
  refine aQ_ 25 (fun hc3 => ?_) fun hc3 => ?_
  ·refine t_U 1 ?_
   refine t_h Heap.up1 ?_
   refine aK_ (fun y5 hs hy5 hl => ?_) (hr := by exact fun y5 hy5 => cA_ _ _ y5 hy5 bp0)
   obtain rfl := len0 hl
   refine bg_ ?_
   refine t_N ?_
   exact t_e fun he hS hH => he ▸ ⟨rfl, (ae_ hS (by kernel_rfl)), (Heap.sel hH [1, 0, 3, 4] rfl (by kernel_rfl))⟩
  refine t_N ?_
  exact t_e fun he hS hH => he ▸ ⟨rfl, (ae_ hS (by kernel_rfl)), (Heap.sel hH [0, 1, 3, 4] rfl (by kernel_rfl))⟩
 refine t_RN ?_
 refine t_if (fun hc4 => ?_) fun hc4 => ?_
 ·refine t_RU 1 ?_
  refine t_h Heap.up1 ?_
  refine aK_ (fun y6 hs hy6 hl => ?_) (hr := by exact fun y6 hy6 => bb_ _ _ y6 hy6 bp0)
  obtain rfl := len0 hl
  refine bg_ ?_
  refine t_U 1 ?_
  refine aN_ 1 ?_
  refine t_N ?_
  refine t_R ?_
  refine ad_ 0 ?_
  refine aU_ 3 ?_
  refine t_N ?_
  intro h s σ hS hH
  obtain rfl := si_1 h
  have hH := Heap.addNil hH true 4
  exact aS_ [(T.row true 0 [])] (fX_ (v := .agg [i4 y1.1, i4 y6.1, .str ⟨#[]⟩, (nt DPattern)]) hS (hH.at 1 rfl) rfl (by kernel_rfl) r_nil) rfl rfl (Heap.sel hH [0, 3, 5] rfl (by kernel_rfl))
 refine t_RN ?_
 refine t_if (fun hc5 => ?_) fun hc5 => ?_
 ·refine t_RU 1 ?_
  refine t_h Heap.up1 ?_
  refine aK_ (fun y7 hs hy7 hl => ?_) (hr := by exact fun y7 hy7 => gn_ _ y7 hy7 bp0)
  obtain rfl := len0 hl
  refine bg_ ?_
  refine t_U 1 ?_
  refine aN_ 1 ?_
  refine t_N ?_
  refine t_R ?_
  refine ad_ 0 ?_
  refine aU_ 3 ?_
  refine t_N ?_
  intro h s σ hS hH
  obtain rfl := si_1 h
  have hH := Heap.addNil hH true 4
  exact aS_ [(T.row true 0 [])] (fX_ (v := .agg [i4 y1.1, i4 0, .str y7.1, (nt DPattern)]) hS (hH.at 1 rfl) rfl (by kernel_rfl) r_nil) rfl rfl (Heap.sel hH [0, 3, 5] rfl (by kernel_rfl))
 refine t_R ?_
 refine ad_ 0 ?_
 refine aU_ 3 ?_
 refine t_N ?_
 intro h s σ hS hH
 obtain rfl := si_1 h
 have hH := Heap.addNil hH true 4
 exact aS_ [(T.row true 0 [])] (fX_ (v := .agg [i4 y1.1, i4 0, .str ⟨#[]⟩, (nt DPattern)]) hS (hH.at 1 rfl) rfl (by kernel_rfl) r_nil) rfl rfl (Heap.sel hH [0, 3, 5] rfl (by kernel_rfl))
def em_ (R : ai_ → Int → Option (DPattern × ai_)) : Prop := ∀ (a0 : ai_) (a1 : Int) (r : (DPattern × ai_)), R a0 a1 = some r → ∀ (bp0 : Nat), RawS Tryz.prog md ext 36 [.ptr bp0 0 0 3, i4 a1] Sh_DPattern.n (fun hs => Sh_DPattern.tree hs r.1) [.box bp0 (ai_.cells a0)] (fun hs => Sh_DPattern.en hs r.1 ++ [.box bp0 (ai_.cells r.2)])
noncomputable def bH_ (R_36 : ai_ → Int → Option (DPattern × ai_)) (a0 : ai_) (a1 : Int) : Option (DPattern × ai_) := (if (decide (a1 ≤ 0)) = true then ((ck_ a0).bind fun y1 => (some (y1.1, y1.2))) else ((a4_ a0 4).bind fun y2 => (if y2.1 = true then ((ck_ y2.2).bind fun y3 => (some (y3.1, y3.2))) else ((bk_ y2.2 (⟨false, [⟨18⟩, ⟨18⟩, ⟨19⟩, ⟨19⟩, ⟨19⟩, ⟨20⟩, ⟨21⟩, ⟨22⟩]⟩)).bind fun y4 => ((cg_ y4.1).bind fun y5 => ((aD_ (S := (Int × (Sl (Iv .u8)) × Int × Int × (Sl DPattern))) (R := ((Sl (Iv .u8)) × Int × Int × (Sl DPattern))) (fun st1 => (if (decide (st1.1 < y5.1)) = true then ((R_36 (⟨st1.2.1, st1.2.2.1, st1.2.2.2.1⟩ : ai_) (w4 (a1 - 1))).bind fun y7 => ((appS 56 st1.2.2.2.2 (⟨false, [y7.1]⟩ : Sl DPattern)).bind fun y8 => (some (.inl ((w4 (st1.1 + 1)), y7.2.code_, y7.2.at_, y7.2.seed_, y8))))) else (some (.inr (st1.2.1, st1.2.2.1, st1.2.2.2.1, st1.2.2.2.2))))) (0, y4.2.1.code_, y4.2.1.at_, y4.2.1.seed_, (⟨true, []⟩ : Sl DPattern))).bind fun y6 => (if (decide (y5.2 = (⟨#[120]⟩ : ByteArray))) = true then ((cj_ (⟨y6.1, y6.2.1, y6.2.2.1⟩ : ai_)).bind fun y9 => (some ((⟨y4.1, 0, y9.1, y6.2.2.2⟩ : DPattern), y9.2))) else (some ((⟨y4.1, 0, ⟨#[]⟩, y6.2.2.2⟩ : DPattern), (⟨y6.1, y6.2.1, y6.2.2.1⟩ : ai_))))))))))
theorem if_ (R_36 : ai_ → Int → Option (DPattern × ai_)) (hR_36 : em_ R_36) : em_ (bH_ R_36) := by
 intro a0 a1 r h bp0
 unfold bH_ at h
 refine b9_ rfl rfl ok_36 rfl ?_
 intro σ0 σ F σk s hS hH
 have hS := ae_ (L' := [(0, .ptr bp0 0 0 3), (1, i4 a1)]) hS (by kernel_rfl)
 refine t_go h hS hH ?_
 refine t_R ?_
 refine bU_ fun b1 => ?_
 refine t_N ?_
 refine t_RU 3 ?_
 refine aQ_ 12 (fun hc1 => ?_) fun hc1 => ?_
 ·refine t_N ?_
  refine t_cT rfl ?_
  refine t_RU 1 ?_
  refine t_h Heap.up1 ?_
  refine aK_ (fun y1 hs hy1 hl => ?_) (hr := by exact fun y1 hy1 => ge_ _ y1 hy1 bp0)
  obtain ⟨t1, rfl⟩ := len1 hl
  refine bg_ ?_
  refine ax_ 0 fun ht1 => ?_
  refine aU_ 2 ?_ (h1 := by simp [ht1.1, ht1.2])
  refine t_N ?_
  intro h s σ hS hH
  obtain rfl := si_1 h
  exact aS_ [t1] (fX_ (v := .agg [i4 y1.1.Kind, i4 y1.1.Num, .str y1.1.Text, t1]) hS hH rfl (by kernel_rfl) r_nil) rfl rfl (Heap.sel hH [1, 2, 3] rfl (by kernel_rfl))
 refine t_U 1 ?_
 refine t_h Heap.up1 ?_
 refine aK_ (fun y2 hs hy2 hl => ?_) (hr := by exact fun y2 hy2 => cA_ _ _ y2 hy2 bp0)
 obtain rfl := len0 hl
 refine bg_ ?_
 refine t_N ?_
 refine t_if (fun hc2 => ?_) fun hc2 => ?_
 ·refine t_RU 1 ?_
  refine aK_ (fun y3 hs hy3 hl => ?_) (hr := by exact fun y3 hy3 => ge_ _ y3 hy3 bp0)
  obtain ⟨t2, rfl⟩ := len1 hl
  refine bg_ ?_
  refine ax_ 0 fun ht2 => ?_
  refine aU_ 2 ?_ (h1 := by simp [ht2.1, ht2.2])
  refine t_N ?_
  intro h s σ hS hH
  obtain rfl := si_1 h
  exact aS_ [t2] (fX_ (v := .agg [i4 y3.1.Kind, i4 y3.1.Num, .str y3.1.Text, t2]) hS hH rfl (by kernel_rfl) r_nil) rfl rfl (Heap.sel hH [1, 2, 3] rfl (by kernel_rfl))
 refine t_RU 1 ?_
 refine k_bs (z := true) (⟨false, [⟨18⟩, ⟨18⟩, ⟨19⟩, ⟨19⟩, ⟨19⟩, ⟨20⟩, ⟨21⟩, ⟨22⟩]⟩ : Sl (Iv .i64)) (fun t3 ht3 => ?_)
 refine t_h Heap.up1 ?_
 refine aK_ (fun y4 hs hy4 hl => ?_) (hr := by exact fun y4 hy4 => ea_ _ _ y4 hy4 bp0 1 t3)
 obtain rfl := len0 hl
 refine bg_ ?_
 refine t_N ?_
 refine t_RU 2 ?_
 refine bU_ fun b2 => ?_
 refine aU_ 0 ?_
 refine t_N ?_
 refine t_RU 1 ?_
 refine ay_ fun y5 hy5 => ?_
 refine t_N ?_
 refine t_RN ?_
 refine t_h (Heap.addNil · true 4) ?_
 refine a9_ (fun st1 fr => ∃ t5, au_ t5 ∧ Sub [(0, .ptr bp0 0 0 3), (1, i4 a1), (4, .ptr b1 0 0 4), (6, .ptr b2 0 0 4), (7, i4 y5.1), (8, .str y5.2), (9, i4 st1.1)] fr.s ∧ Heap σ0 fr.σ [.box b2 [i4 y4.1, i4 0, .str ⟨#[]⟩, t5], .box bp0 [st1.2.1.t, i4 st1.2.2.1, .int .u64 st1.2.2.2.1], .box b1 [i4 0, i4 0, .str ⟨#[]⟩, (nt DPattern)], .own true 4 t5 st1.2.2.2.2.t, .keep F σk]) (fun y6 e fr => ∃ t6, au_ t6 ∧ e = (.exit 0) ∧ Sub [(0, .ptr bp0 0 0 3), (4, .ptr b1 0 0 4), (6, .ptr b2 0 0 4), (8, .str y5.2)] fr.s ∧ Heap σ0 fr.σ [.box b2 [i4 y4.1, i4 0, .str ⟨#[]⟩, t6], .box bp0 [y6.1.t, i4 y6.2.1, .int .u64 y6.2.2.1], .box b1 [i4 0, i4 0, .str ⟨#[]⟩, (nt DPattern)], .own true 4 t6 y6.2.2.2.t, .keep F σk]) (fun hS hH => ⟨(T.row true 0 []), ⟨rfl, rfl⟩, (ae_ hS (by kernel_rfl)), (Heap.sel hH [1, 2, 4, 0, 5] rfl (by kernel_rfl))⟩) (fun st1 x fr h HI => ?_) fun y6 e fr h HF => ?_
 ·obtain ⟨s, σ⟩ := fr; obtain ⟨t5, ht5, ⟨hS, hH⟩⟩ := HI
  refine t_bk h hS hH ?_
  refine t_RN ?_
  refine t_if (fun hc3 => ?_) fun hc3 => ?_
  ·refine ba_ [(5, (RB b2 RN)), (7, RN), (9, RN)] ext_x fun mb σs hn0 hlt hlto => ?_
   have hlt_b2 : b2 < mb := hlt b2 _ (List.Mem.head _)
   refine t_U 1 ?_
   refine ad_ 0 ?_ (hlt := by exact (Or.inr ⟨hlt_b2, (Wc.cons (.inr (Or.inl rfl)) (Wc.cons (.inl (by kernel_rfl)) (Wc.cons (.inl (by kernel_rfl)) Wc.nil)))⟩))
   refine t_U 3 ?_
   refine t_h Heap.up1 ?_
   refine dt_ (RB b2 RN) ext_x (Stay.box (List.Mem.head _) Stay.nil) (by exact fun x hx => Or.inr ⟨5, by kernel_rfl, hx⟩) (fun y7 hs hy7 hl => ?_) (hr := by exact fun y7 hy7 => hR_36 _ _ y7 hy7 bp0)
   obtain ⟨t7, rfl⟩ := len1 hl
   refine bg_ ?_
   refine ax_ 0 fun ht7 => ?_
   refine k_bs (z := true) (⟨false, [y7.1]⟩ : Sl DPattern) (fun t8 ht8 => ?_) (hb := by exact hn0) (h1 := by simp [ht7.1, ht7.2])
   refine kP_ 4 0 (fun y8 t9 hy8 ht9 => ?_) (hb := by exact hn0) (hwr := by exact fun hH b e o n h0 => Or.inr ⟨7, by kernel_rfl, fun h => h⟩)
   refine t_U 1 ?_
   refine bO_ 2 ht9 ?_ (hwr := by exact fun hH => Or.inr ⟨9, by kernel_rfl, fun h => h⟩)
   refine t_N ?_
   refine t_RN ?_
   exact t_e fun he hS hH => he ▸ ⟨t9, ht9, (ae_ hS (by kernel_rfl)), (Heap.sel hH [0, 2, 3, 1, 4] rfl (by kernel_rfl))⟩
  exact t_e fun he hS hH => he ▸ ⟨t5, ht5, rfl, (ae_ hS (by kernel_rfl)), hH⟩
 obtain ⟨s, σ⟩ := fr
 obtain ⟨t6, ht6, ⟨rfl, hS, hH⟩⟩ := HF
 refine t_bx h hS hH ?_
 refine t_RN ?_
 refine t_if (fun hc4 => ?_) fun hc4 => ?_
 ·refine t_RU 1 ?_
  refine t_h Heap.up1 ?_
  refine aK_ (fun y9 hs hy9 hl => ?_) (hr := by exact fun y9 hy9 => gn_ _ y9 hy9 bp0)
  obtain rfl := len0 hl
  refine bg_ ?_
  refine t_U 1 ?_
  refine aN_ 1 ?_
  refine t_N ?_
  refine t_R ?_
  refine ad_ 0 ?_
  refine aU_ 2 ?_ (h1 := by simp [ht6.1, ht6.2])
  refine t_N ?_
  intro h s σ hS hH
  obtain rfl := si_1 h
  exact aS_ [t6] (fX_ (v := .agg [i4 y4.1, i4 0, .str y9.1, t6]) hS hH rfl (by kernel_rfl) r_nil) rfl rfl (Heap.sel hH [3, 2, 4] rfl (by kernel_rfl))
 refine t_R ?_
 refine ad_ 0 ?_
 refine aU_ 2 ?_ (h1 := by simp [ht6.1, ht6.2])
 refine t_N ?_
 intro h s σ hS hH
 obtain rfl := si_1 h
 exact aS_ [t6] (fX_ (v := .agg [i4 y4.1, i4 0, .str ⟨#[]⟩, t6]) hS hH rfl (by kernel_rfl) r_nil) rfl rfl (Heap.sel hH [3, 2, 4] rfl (by kernel_rfl))
noncomputable def BG_spec_l11Draw : Nat → (ai_ → Int → Option (DPattern × ai_))
 | 0 => (fun _ _ => none)
 | n + 1 => bH_ (BG_spec_l11Draw n)
theorem uBG_spec_l11Draw : ∀ n, em_ ((BG_spec_l11Draw n))
 | 0 => (by intro _ _ r h; have h : none = some r := h; cases h)
 | n + 1 => if_ (BG_spec_l11Draw n) (uBG_spec_l11Draw n)
noncomputable def cl_ (a0 : ai_) (a1 : Int) : Option (DPattern × ai_) := (BG_spec_l11Draw bigN) a0 a1
theorem gm_ (a0 : ai_) (a1 : Int) (r : (DPattern × ai_)) (h : cl_ a0 a1 = some r) (bp0 : Nat) : RawS Tryz.prog md ext 36 [.ptr bp0 0 0 3, i4 a1] Sh_DPattern.n (fun hs => Sh_DPattern.tree hs r.1) [.box bp0 (ai_.cells a0)] (fun hs => Sh_DPattern.en hs r.1 ++ [.box bp0 (ai_.cells r.2)]) := (uBG_spec_l11Draw bigN) a0 a1 r h bp0
noncomputable def b2_ (a0 : ai_) : Option ((Sl DNamed) × ai_) := ((aD_ (S := (Int × (Sl (Iv .u8)) × Int × Int × (Sl DNamed))) (R := ((Sl (Iv .u8)) × Int × Int × (Sl DNamed))) (fun st1 => (if (decide (st1.1 < 5)) = true then ((a4_ (⟨st1.2.1, st1.2.2.1, st1.2.2.2.1⟩ : ai_) 3).bind fun y2 => (if (!y2.1) = true then ((elt (⟨false, [⟨#[120]⟩, ⟨#[121]⟩, ⟨#[122]⟩, ⟨#[80, 97, 116]⟩, ⟨#[97, 95, 49]⟩]⟩ : Sl ByteArray) st1.1).bind fun y3 => ((aI_ y2.2 4).bind fun y4 => ((cl_ y4.2 y4.1).bind fun y5 => ((appS 72 st1.2.2.2.2 (⟨false, [(⟨y3, y5.1⟩ : DNamed)]⟩ : Sl DNamed)).bind fun y6 => (some (.inl ((w4 (st1.1 + 1)), y5.2.code_, y5.2.at_, y5.2.seed_, y6))))))) else (some (.inl ((w4 (st1.1 + 1)), y2.2.code_, y2.2.at_, y2.2.seed_, st1.2.2.2.2))))) else (some (.inr (st1.2.1, st1.2.2.1, st1.2.2.2.1, st1.2.2.2.2))))) (0, a0.code_, a0.at_, a0.seed_, (⟨false, []⟩ : Sl DNamed))).bind fun y1 => (some (y1.2.2.2, (⟨y1.1, y1.2.1, y1.2.2.1⟩ : ai_))))
theorem jl_ (a0 : ai_) (r : ((Sl DNamed) × ai_)) (h : b2_ a0 = some r) (bp0 : Nat) : RawS Tryz.prog md ext 34 [.ptr bp0 0 0 3] Sh_sl_DNamed.n (fun hs => Sh_sl_DNamed.tree hs r.1) [.box bp0 (ai_.cells a0)] (fun hs => Sh_sl_DNamed.en hs r.1 ++ [.box bp0 (ai_.cells r.2)]) := by
 unfold b2_ at h
 refine b9_ rfl rfl ok_34 rfl ?_
 intro σ0 σ F σk s hS hH
 have hS := ae_ (L' := [(0, .ptr bp0 0 0 3)]) hS (by kernel_rfl)
 refine t_go h hS hH ?_
 refine t_RN ?_
 refine t_R ?_
 refine iB_ (α := DNamed) (fun t1 ht1 => ?_)
 refine t_N ?_
 refine t_R ?_
 refine k_bs (z := true) (⟨false, [⟨#[120]⟩, ⟨#[121]⟩, ⟨#[122]⟩, ⟨#[80, 97, 116]⟩, ⟨#[97, 95, 49]⟩]⟩ : Sl ByteArray) (fun t2 ht2 => ?_)
 refine t_N ?_
 refine t_RN ?_
 refine a9_ (fun st1 fr => ∃ t4, au_ t4 ∧ Sub [(0, .ptr bp0 0 0 3), (3, t4), (4, t2), (5, i4 st1.1)] fr.s ∧ Heap σ0 fr.σ [.box bp0 [st1.2.1.t, i4 st1.2.2.1, .int .u64 st1.2.2.2.1], .own true 5 t4 st1.2.2.2.2.t, .own true 1 t2 (Sl.t (⟨false, [⟨#[120]⟩, ⟨#[121]⟩, ⟨#[122]⟩, ⟨#[80, 97, 116]⟩, ⟨#[97, 95, 49]⟩]⟩ : Sl ByteArray)), .keep F σk]) (fun y1 e fr => ∃ t5, au_ t5 ∧ e = (.exit 0) ∧ Sub [(3, t5)] fr.s ∧ Heap σ0 fr.σ [.box bp0 [y1.1.t, i4 y1.2.1, .int .u64 y1.2.2.1], .own true 5 t5 y1.2.2.2.t, .keep F σk]) (fun hS hH => ⟨t1, ht1, (ae_ hS (by kernel_rfl)), (Heap.sel hH [2, 1, 0, 3] rfl (by kernel_rfl))⟩) (fun st1 x fr h HI => ?_) fun y1 e fr h HF => ?_
 ·obtain ⟨s, σ⟩ := fr; obtain ⟨t4, ht4, ⟨hS, hH⟩⟩ := HI
  refine t_bk h hS hH ?_
  refine t_RN ?_
  refine t_if (fun hc1 => ?_) fun hc1 => ?_
  ·refine t_RU 1 ?_
   refine aK_ (fun y2 hs hy2 hl => ?_) (hr := by exact fun y2 hy2 => cA_ _ _ y2 hy2 bp0)
   obtain rfl := len0 hl
   refine bg_ ?_
   refine t_N ?_
   refine t_if (fun hc2 => ?_) fun hc2 => ?_
   ·refine ba_ [(7, (RT t2 RN)), (8, (RT t2 RN)), (11, RN)] ext_x fun mb σs hn0 hlt hlto => ?_
    have hlt_t2 : ∀ b e o n, t2 = .ref b e o n → b < mb := fun b e o n h => hlto _ _ _ _ (List.Mem.tail _ (List.Mem.tail _ (List.Mem.head _))) b e o n h
    refine t_U 3 ?_
    refine hv_ 2 (fun hb1 hb1e y3 hy3 hl_hb1 => ?_) (hlt := by exact (fun b e o n h => Or.inr ⟨hlt_t2 b e o n h, (Wc.cons (.inr (Or.inl ⟨_, _, _, h⟩)) (Wc.cons (.inr (Or.inl ⟨_, _, _, h⟩)) (Wc.cons (.inl (by kernel_rfl)) Wc.nil)))⟩))
    refine jM_ 2 0 hl_hb1 hy3 ?_ (hlt := by exact (fun b e o n h => Or.inr ⟨hlt_t2 b e o n h, (Wc.cons (.inr (Or.inl ⟨_, _, _, h⟩)) (Wc.cons (.inr (Or.inl ⟨_, _, _, h⟩)) (Wc.cons (.inl (by kernel_rfl)) Wc.nil)))⟩))
    refine t_U 2 ?_
    refine dt_ (RT t2 RN) ext_x (Stay.own (List.Mem.tail _ (List.Mem.head _)) Stay.nil) (by exact fun x hx => Or.inr ⟨7, by kernel_rfl, hx⟩) (fun y4 hs hy4 hl => ?_) (hr := by exact fun y4 hy4 => bb_ _ _ y4 hy4 bp0)
    obtain rfl := len0 hl
    refine bg_ ?_
    refine dt_ (RT t2 RN) ext_x (Stay.own (List.Mem.tail _ (List.Mem.head _)) Stay.nil) (by exact fun x hx => Or.inr ⟨8, by kernel_rfl, hx⟩) (fun y5 hs hy5 hl => ?_) (hr := by exact fun y5 hy5 => gm_ _ _ y5 hy5 bp0)
    obtain ⟨t6, rfl⟩ := len1 hl
    refine bg_ ?_
    refine ax_ 0 fun ht6 => ?_
    intro h s σ hS hH
    refine la_ (qs := [(0, .str y3), (1, .agg [i4 y5.1.Kind, i4 y5.1.Num, .str y5.1.Text, t6])]) (z := [.str ⟨#[]⟩, i4 0, i4 0, .str ⟨#[]⟩, (nt DPattern)]) (r := [.str y3, i4 y5.1.Kind, i4 y5.1.Num, .str y5.1.Text, t6]) [[.str y3], [i4 y5.1.Kind, i4 y5.1.Num, .str y5.1.Text, t6]] rfl hS rfl (by kernel_rfl) (by kernel_rfl) (⟨rfl, (by kernel_rfl), rfl, (by simp [ht6.1, ht6.2]), trivial⟩) (by kernel_rfl) ?_; intro s hS
    refine t_bk h hS hH ?_
    refine k_bs (z := true) (⟨false, [(⟨y3, y5.1⟩ : DNamed)]⟩ : Sl DNamed) (fun t7 ht7 => ?_) (hb := by exact hn0) (h1 := by simp [ht6.1, ht6.2])
    refine kP_ 2 0 (fun y6 t8 hy6 ht8 => ?_) (hb := by exact hn0) (hwr := by exact fun hH b e o n h0 => Or.inr ⟨11, by kernel_rfl, fun h => h⟩)
    refine t_N ?_
    refine t_RN ?_
    exact t_e fun he hS hH => he ▸ ⟨t8, ht8, (ae_ hS (by kernel_rfl)), (Heap.sel hH [1, 0, 2, 3] rfl (by kernel_rfl))⟩
   refine t_RN ?_
   exact t_e fun he hS hH => he ▸ ⟨t4, ht4, (ae_ hS (by kernel_rfl)), hH⟩
  exact t_e fun he hS hH => he ▸ ⟨t4, ht4, rfl, (ae_ hS (by kernel_rfl)), (Heap.sel hH [0, 1, 3] rfl (by kernel_rfl))⟩
 obtain ⟨s, σ⟩ := fr
 obtain ⟨t5, ht5, ⟨rfl, hS, hH⟩⟩ := HF
 refine t_bx h hS hH ?_
 refine t_RN ?_
 intro h s σ hS hH
 obtain rfl := si_1 h
 exact aS_ [t5] (bt_ (v := t5) hS rfl r_nil) rfl rfl (Heap.sel hH [1, 0, 2] rfl (by kernel_rfl))
noncomputable def dK_ (a0 : (Sl (Iv .u8))) : Option (Sl DNamed) := ((b2_ (⟨a0, 0, 0⟩ : ai_)).bind fun y1 => ((aD_ (S := (Int × (Sl DNamed))) (R := (Sl DNamed)) (fun st1 => (if (decide (st1.1 < (st1.2.l.length : Int))) = true then ((elt st1.2 st1.1).bind fun y3 => ((bA_ y3.Pattern).bind fun y4 => ((elt st1.2 st1.1).bind fun y5 => (some (.inl ((w4 (st1.1 + 1)), (setS st1.2 st1.1 ((⟨y5.Name, y4⟩ : DNamed) : DNamed)))))))) else (some (.inr st1.2)))) (0, y1.1)).bind fun y2 => (some y2)))
theorem hF_ (a0 : (Sl (Iv .u8))) (r : (Sl DNamed)) (h : dK_ a0 = some r) : dO_ a0 = some r := by
 unfold dK_ at h
 refine k_W ok_10 E_sl_DNamed_inj h (fun σ0 => ?_)
 refine t_RN ?_
 refine t_RU 1 ?_
 refine dI_ ok_33 ?_
 refine t_RN ?_
 refine t_RU 2 ?_
 refine cn_ (fun b1 => ?_)
 refine t_N ?_
 refine k_eI (rT rN) ?_
 refine t_N ?_
 refine t_RU 1 ?_
 refine aK_ (fun y1 hs hy1 hl => ?_) (hr := by exact fun y1 hy1 => jl_ _ y1 hy1 b1)
 obtain ⟨t1, rfl⟩ := len1 hl
 refine bg_ ?_
 refine ax_ 0 fun ht1 => ?_
 refine t_N ?_
 refine t_RN ?_
 refine a9_ (fun st1 fr => Sub [(4, t1), (5, i4 st1.1)] fr.s ∧ Heap σ0 fr.σ [.own true 5 t1 st1.2.t]) (fun y2 e fr => e = (.exit 0) ∧ Sub [(4, t1)] fr.s ∧ Heap σ0 fr.σ [.own true 5 t1 y2.t]) (fun hS hH => ⟨(ae_ hS (by kernel_rfl)), (Heap.sel hH [0] rfl (by kernel_rfl))⟩) (fun st1 x fr h HI => ?_) fun y2 e fr h HF => ?_
 ·obtain ⟨s, σ⟩ := fr; obtain ⟨hS, hH⟩ := HI
  refine t_bk h hS hH ?_
  refine t_RU 2 ?_
  refine hx_ (a := st1.2) 0 ?_
  refine t_N ?_
  refine t_if (fun hc1 => ?_) fun hc1 => ?_
  ·refine t_RU 4 ?_
   refine hv_ 0 (fun hb1 hb1e y3 hy3 hl_hb1 => ?_)
   refine t_U 1 ?_
   intro h s σ hS hH
   refine oV_ (a := st1.2) (j := st1.1) (y := y3) (o0 := 1) (sz := 4) (off := 4) (c := [.str y3.Name, i4 y3.Pattern.Kind, i4 y3.Pattern.Num, .str y3.Pattern.Text, y3.Pattern.Kids.t]) (q := (y3.Pattern.Kids : Sl DPattern)) (fun _ _ _ _ _ => trivial) rfl hS hH hl_hb1 rfl hy3 rfl (by kernel_rfl) (by kernel_rfl) rfl (by kernel_rfl) (by kernel_rfl) (by kernel_rfl) (by kernel_rfl) (by kernel_rfl) (by kernel_rfl) ?_; intro F1 σk1 t2 s ht2 hH hcl1 hcl1s hcl1p hcl1k hcl1f hS
   refine t_bk h hS hH ?_
   refine dU_ (fun y4 t3 hy4 ht3 => ?_)
   refine t_h (·.up2.up2) ?_
   intro h s σ hS hH
   have hH := hcl1s _ _ hH
   have hH : Heap σ0 σ [.own true 5 t1 st1.2.t, .own true 4 t3 y4.Kids.t] := hH
   refine t_bk h hS hH ?_
   refine hv_ 0 (fun hb2 hb2e y5 hy5 hl_hb2 => ?_)
   refine t_U 1 ?_
   intro h s σ hS hH
   refine ox_ (ents := [.own true 4 t3 y4.Kids.t]) (a := st1.2) (j := st1.1) (y := y5) (y' := ((⟨y5.Name, y4⟩ : DNamed) : DNamed)) (off := 1) (c := [.str y5.Name, i4 y5.Pattern.Kind, i4 y5.Pattern.Num, .str y5.Pattern.Text, y5.Pattern.Kids.t]) (us := [i4 y4.Kind, i4 y4.Num, .str y4.Text, t3]) (vs := [i4 y4.Kind, i4 y4.Num, .str y4.Text, y4.Kids.t]) (v := .agg [i4 y4.Kind, i4 y4.Num, .str y4.Text, t3]) rfl hS hH hl_hb2 rfl rfl rfl (by simp [ht3.1, ht3.2]) (by kernel_rfl) rfl hy5 rfl (HLi (HLi (HLs (HL.own rfl HL.nil)))) rfl (by kernel_rfl) ?_; intro σ s hH hS
   refine t_bk h hS hH ?_
   refine t_N ?_
   refine t_RN ?_
   exact t_e fun he hS hH => he ▸ ⟨(ae_ hS (by kernel_rfl)), hH⟩
  exact t_e fun he hS hH => he ▸ ⟨rfl, (ae_ hS (by kernel_rfl)), hH⟩
 obtain ⟨s, σ⟩ := fr
 obtain ⟨rfl, hS, hH⟩ := HF
 refine t_bx h hS hH ?_
 refine t_RN ?_
 intro h s σ hS hH
 obtain rfl := si_1 h
 exact oU_ (ents := [.own true 5 t1 y2.t]) (z := false) hH (bt_ (v := t1) hS rfl r_nil) (HL.own rfl HL.nil) (by simp [pureT, pureL, E_sl_DNamed])
noncomputable def fy_ (a0 : (Sl (Iv .u8))) : Option DPattern := ((aI_ (⟨a0, 0, 0⟩ : ai_) 3).bind fun y1 => ((cl_ y1.2 y1.1).bind fun y2 => ((bA_ y2.1).bind fun y3 => (some y3))))
theorem jH_ (a0 : (Sl (Iv .u8))) (r : DPattern) (h : fy_ a0 = some r) : d4_ a0 = some r := by
 unfold fy_ at h
 refine k_W ok_11 E_DPattern_inj h (fun σ0 => ?_)
 refine t_R ?_
 refine bU_ fun b1 => ?_
 refine t_N ?_
 refine t_RU 1 ?_
 refine dI_ ok_33 ?_
 refine t_RN ?_
 refine t_RU 2 ?_
 refine cn_ (fun b2 => ?_)
 refine t_N ?_
 refine k_eI (rT rN) ?_
 refine t_N ?_
 refine t_RU 2 ?_
 refine aK_ (fun y1 hs hy1 hl => ?_) (hr := by exact fun y1 hy1 => bb_ _ _ y1 hy1 b2)
 obtain rfl := len0 hl
 refine bg_ ?_
 refine aK_ (fun y2 hs hy2 hl => ?_) (hr := by exact fun y2 hy2 => gm_ _ _ y2 hy2 b2)
 obtain ⟨t1, rfl⟩ := len1 hl
 refine bg_ ?_
 refine ax_ 0 fun ht1 => ?_
 refine dU_ (fun y3 t2 hy3 ht2 => ?_)
 refine aU_ 3 ?_ (h1 := by simp [ht2.1, ht2.2])
 refine t_N ?_
 intro h s σ hS hH
 obtain rfl := si_1 h
 have hH := hH.up1
 exact oU_ (ents := [.own true 4 t2 y3.Kids.t]) (z := false) hH (fX_ (v := .agg [i4 y3.Kind, i4 y3.Num, .str y3.Text, t2]) hS (hH.at 1 rfl) rfl (by kernel_rfl) r_nil) (HL.agg (es1 := [.own true 4 t2 y3.Kids.t]) (es2 := []) (HLi (HLi (HLs (HL.own rfl HL.nil)))) HL.nil) (by simp [pureT, pureL, E_DPattern])
noncomputable def fW_ (a0 : Int) (a1 : (Sl (Iv .u8))) : Option (Sl (Iv .u8)) := ((appS 1 ((⟨false, [⟨(IntKind.u8.wrap a0)⟩]⟩ : Sl (Iv .u8))) a1).bind fun y1 => (some y1))
theorem kT_ (a0 : Int) (a1 : (Sl (Iv .u8))) (r : (Sl (Iv .u8))) (h : fW_ a0 a1 = some r) : dx_ a0 a1 = some r := by
 unfold fW_ at h
 refine k_W ok_12 E_sl_u8_inj h (fun σ0 => ?_)
 refine t_RN ?_
 refine t_RU 2 ?_
 refine k_bs (z := true) (⟨false, [⟨(IntKind.u8.wrap a0)⟩]⟩ : Sl (Iv .u8)) (fun t1 ht1 => ?_)
 refine t_U 1 ?_
 refine pz_ 0 (fun y1 t2 hy1 ht2 => ?_)
 refine t_N ?_
 intro h s σ hS hH
 obtain rfl := si_1 h
 exact oU_ (ents := [.own true 1 t2 y1.t]) (z := false) hH (bt_ (v := t2) hS rfl r_nil) (HL.own rfl HL.nil) (by simp [pureT, pureL, E_sl_u8])
noncomputable def bX_ (a0 : ai_) : Option (ByteArray × ai_) := ((a4_ a0 4).bind fun y1 => (if y1.1 = true then ((a7_ y1.2 (⟨false, [⟨#[]⟩, ⟨#[97]⟩, ⟨#[97, 98]⟩, ⟨#[40, 97, 41, 40, 98, 41]⟩, ⟨#[40, 40, 97, 41, 98, 41]⟩, ⟨#[97, 97, 97, 97]⟩, ⟨#[97, 98, 99, 97, 98, 99]⟩, ⟨#[120, 40, 121]⟩, ⟨#[41, 40]⟩, ⟨#[97, 98, 34, 99]⟩]⟩)).bind fun y2 => (some (y2.1, y2.2.1))) else ((aI_ y1.2 6).bind fun y3 => ((aD_ (S := (ByteArray × Int × (Sl (Iv .u8)) × Int × Int)) (R := (ByteArray × (Sl (Iv .u8)) × Int × Int)) (fun st1 => (if (decide (0 < st1.2.1)) = true then ((bI_ (⟨st1.2.2.1, st1.2.2.2.1, st1.2.2.2.2⟩ : ai_)).bind fun y5 => ((catB st1.1 y5.1).bind fun y6 => (some (.inl (y6, (w4 (st1.2.1 - 1)), y5.2.code_, y5.2.at_, y5.2.seed_))))) else (some (.inr (st1.1, st1.2.2.1, st1.2.2.2.1, st1.2.2.2.2))))) (⟨#[]⟩, y3.1, y3.2.code_, y3.2.at_, y3.2.seed_)).bind fun y4 => (some (y4.1, (⟨y4.2.1, y4.2.2.1, y4.2.2.2⟩ : ai_)))))))
theorem g7_ (a0 : ai_) (r : (ByteArray × ai_)) (h : bX_ a0 = some r) (bp0 : Nat) : RawS Tryz.prog md ext 38 [.ptr bp0 0 0 3] 0 (fun hs => E_str r.1) [.box bp0 (ai_.cells a0)] (fun hs => [.box bp0 (ai_.cells r.2)]) := by
 unfold bX_ at h
 refine b9_ rfl rfl ok_38 rfl ?_
 intro σ0 σ F σk s hS hH
 have hS := ae_ (L' := [(0, .ptr bp0 0 0 3)]) hS (by kernel_rfl)
 refine t_go h hS hH ?_
 refine t_RN ?_
 refine t_RU 1 ?_
 refine aK_ (fun y1 hs hy1 hl => ?_) (hr := by exact fun y1 hy1 => cA_ _ _ y1 hy1 bp0)
 obtain rfl := len0 hl
 refine bg_ ?_
 refine t_N ?_
 refine t_if (fun hc1 => ?_) fun hc1 => ?_
 ·refine t_RU 1 ?_
  refine k_bs (z := true) (⟨false, [⟨#[]⟩, ⟨#[97]⟩, ⟨#[97, 98]⟩, ⟨#[40, 97, 41, 40, 98, 41]⟩, ⟨#[40, 40, 97, 41, 98, 41]⟩, ⟨#[97, 97, 97, 97]⟩, ⟨#[97, 98, 99, 97, 98, 99]⟩, ⟨#[120, 40, 121]⟩, ⟨#[41, 40]⟩, ⟨#[97, 98, 34, 99]⟩]⟩ : Sl ByteArray) (fun t1 ht1 => ?_)
  refine t_h Heap.up1 ?_
  refine aK_ (fun y2 hs hy2 hl => ?_) (hr := by exact fun y2 hy2 => c1_ _ _ y2 hy2 bp0 1 t1)
  obtain rfl := len0 hl
  refine bg_ ?_
  refine t_N ?_
  intro h s σ hS hH
  obtain rfl := si_1 h
  exact aS_ [] (bt_ (v := .str y2.1) hS rfl r_nil) rfl rfl (Heap.sel hH [0, 2] rfl (by kernel_rfl))
 refine t_RN ?_
 refine t_RU 1 ?_
 refine aK_ (fun y3 hs hy3 hl => ?_) (hr := by exact fun y3 hy3 => bb_ _ _ y3 hy3 bp0)
 obtain rfl := len0 hl
 refine bg_ ?_
 refine t_N ?_
 refine a9_ (fun st1 fr => Sub [(0, .ptr bp0 0 0 3), (3, .str st1.1), (4, i4 st1.2.1)] fr.s ∧ Heap σ0 fr.σ [.box bp0 [st1.2.2.1.t, i4 st1.2.2.2.1, .int .u64 st1.2.2.2.2], .keep F σk]) (fun y4 e fr => e = (.exit 0) ∧ Sub [(3, .str y4.1)] fr.s ∧ Heap σ0 fr.σ [.box bp0 [y4.2.1.t, i4 y4.2.2.1, .int .u64 y4.2.2.2], .keep F σk]) (fun hS hH => ⟨(ae_ hS (by kernel_rfl)), hH⟩) (fun st1 x fr h HI => ?_) fun y4 e fr h HF => ?_
 ·obtain ⟨s, σ⟩ := fr; obtain ⟨hS, hH⟩ := HI
  refine t_bk h hS hH ?_
  refine t_RN ?_
  refine t_if (fun hc2 => ?_) fun hc2 => ?_
  ·refine t_RU 2 ?_
   refine aK_ (fun y5 hs hy5 hl => ?_) (hr := by exact fun y5 hy5 => f2_ _ y5 hy5 bp0)
   obtain rfl := len0 hl
   refine bg_ ?_
   refine sI_ fun y6 hy6 => ?_
   refine t_N ?_
   refine t_RN ?_
   exact t_e fun he hS hH => he ▸ ⟨(ae_ hS (by kernel_rfl)), hH⟩
  exact t_e fun he hS hH => he ▸ ⟨rfl, (ae_ hS (by kernel_rfl)), hH⟩
 obtain ⟨s, σ⟩ := fr
 obtain ⟨rfl, hS, hH⟩ := HF
 refine t_bx h hS hH ?_
 refine t_RN ?_
 intro h s σ hS hH
 obtain rfl := si_1 h
 exact aS_ [] (bt_ (v := .str y4.1) hS rfl r_nil) rfl rfl hH
noncomputable def dM_ (a0 : (Sl (Iv .u8))) : Option ByteArray := ((bX_ (⟨a0, 0, 0⟩ : ai_)).bind fun y1 => (some y1.1))
theorem hC_ (a0 : (Sl (Iv .u8))) (r : ByteArray) (h : dM_ a0 = some r) : dF_ a0 = some r := by
 unfold dM_ at h
 refine k_W ok_13 E_str_inj h (fun σ0 => ?_)
 refine t_RN ?_
 refine t_RU 1 ?_
 refine dI_ ok_33 ?_
 refine t_RN ?_
 refine t_RU 2 ?_
 refine cn_ (fun b1 => ?_)
 refine t_N ?_
 refine k_eI (rT rN) ?_
 refine t_N ?_
 refine t_RU 1 ?_
 refine aK_ (fun y1 hs hy1 hl => ?_) (hr := by exact fun y1 hy1 => g7_ _ y1 hy1 b1)
 obtain rfl := len0 hl
 refine bg_ ?_
 refine t_N ?_
 exact k_eW (rT rN) E_str_p
noncomputable def fi_ (a0 : (Sl (Iv .u8))) (a1 : Int) (a2 : Int) : Option Int := (if (decide (a2 ≤ 1)) = true then (some 0) else (if (decide ((a0.l.length : Int) = 0)) = true then ((remI (w4 (a1 * 7)) a2).bind fun y1 => (some y1)) else ((remI a1 (a0.l.length : Int)).bind fun y2 => ((elt a0 y2).bind fun y3 => ((remI (w4 (a1 + 1)) (a0.l.length : Int)).bind fun y4 => ((elt a0 y4).bind fun y5 => ((quoI .i64 a1 (a0.l.length : Int)).bind fun y6 => ((remI ((w4 ((w4 ((w4 ((w4 y3.v) * 31)) + (w4 y5.v))) + y6))) a2).bind fun y7 => (some y7)))))))))
theorem k2_ (a0 : (Sl (Iv .u8))) (a1 : Int) (a2 : Int) (r : Int) (h : fi_ a0 a1 a2 = some r) : go_ a0 a1 a2 = some r := by
 unfold fi_ at h
 refine k_W ok_14 E_i64_inj h (fun σ0 => ?_)
 refine t_RN ?_
 refine t_RN ?_
 refine t_if (fun hc1 => ?_) fun hc1 => ?_
 ·refine t_RN ?_
  exact k_eW (rT rN) E_i64_p
 refine t_RN ?_
 refine t_if (fun hc2 => ?_) fun hc2 => ?_
 ·refine t_RU 3 ?_
  intro h s σ hS hH
  obtain ⟨y1, hy1, h⟩ := bind_some h
  refine i2_ rfl hS rfl rfl hy1 ?_; intro s hS
  refine t_bk h hS hH ?_
  refine t_N ?_
  exact k_eW (rT rN) E_i64_p
 refine t_RN ?_
 refine t_D fun mb => ?_
 refine t_U 3 ?_
 intro h s σ hS hH
 obtain ⟨y2, hy2, h⟩ := bind_some h
 refine i2_ rfl hS rfl rfl hy2 ?_; intro s hS
 refine t_bk h hS hH ?_
 refine cb_ fun y3 rest1 hy3 => ?_
 refine t_U 7 ?_
 intro h s σ hS hH
 obtain ⟨y4, hy4, h⟩ := bind_some h
 refine i2_ rfl hS rfl rfl hy4 ?_; intro s hS
 refine t_bk h hS hH ?_
 refine cb_ fun y5 rest2 hy5 => ?_
 refine t_U 5 ?_
 intro h s σ hS hH
 obtain ⟨y6, hy6, h⟩ := bind_some h
 refine r9_ rfl hS rfl rfl hy6 ?_; intro s hS
 refine t_bk h hS hH ?_
 refine t_U 2 ?_
 intro h s σ hS hH
 obtain ⟨y7, hy7, h⟩ := bind_some h
 refine i2_ rfl hS rfl rfl hy7 ?_; intro s hS
 refine t_bk h hS hH ?_
 refine t_N ?_
 exact k_eW (rT rN) E_i64_p
noncomputable def fj_ (a0 : (Sl DNamed)) (a1 : DPattern) (a2 : ByteArray) (a3 : Int) (a4 : Int) : Option ((Sl (Iv .i64)) × Int × Bool) := ((c6_ a0 a1 a2 a3 a4).bind fun y1 => ((ft_ a0 a1 a2 a3 a4).bind fun y2 => (if (decide (y1.2 = y2.2)) = true then ((d3_ y1.1 y2.1).bind fun y3 => (some (y1.1, y1.2, y3))) else (some (y1.1, y1.2, false)))))
theorem jO_ (a0 : (Sl DNamed)) (a1 : DPattern) (a2 : ByteArray) (a3 : Int) (a4 : Int) (r : ((Sl (Iv .i64)) × Int × Bool)) (h : fj_ a0 a1 a2 a3 a4 = some r) : d0_ a0 a1 a2 a3 a4 = some r := by
 unfold fj_ at h
 refine k_W ok_15 E_t3_sl_i64_i64_bool_inj h (fun σ0 => ?_)
 refine t_R ?_
 refine cn_ (fun b1 => ?_)
 refine t_N ?_
 refine t_RU 1 ?_
 refine ad_ 0 ?_
 refine t_U 3 ?_
 refine ay_ fun y1 hy1 => ?_
 refine t_N ?_
 refine t_RU 1 ?_
 refine ad_ 0 ?_
 refine t_U 3 ?_
 refine dU_ (fun y2 t1 hy2 ht1 => ?_)
 refine t_N ?_
 refine t_RU 6 ?_
 refine aQ_ 40 (fun hc1 => ?_) fun hc1 => ?_
 ·refine t_U 2 ?_
  refine jv_ (fun y3 hy3 => ?_)
  refine t_N ?_
  exact k_eW (rT (rT (rT rN))) E_t3_sl_i64_i64_bool_p
 refine t_N ?_
 exact k_eW (rT (rT (rT rN))) E_t3_sl_i64_i64_bool_p
noncomputable def fn_ (a0 : (Sl (Iv .i64))) (a1 : (Sl (Iv .i64))) : Option Bool := (if ((!decide ((a0.l.length : Int) = (a1.l.length : Int)))) = true then (some false) else ((aD_ (S := Int) (R := (Unit ⊕ Bool)) (fun st1 => (if (decide (st1 < (a0.l.length : Int))) = true then ((elt a0 st1).bind fun y2 => ((elt a1 st1).bind fun y3 => (if (!decide (y2.v = y3.v)) = true then (some (.inr (.inr false))) else (some (.inl (w4 (st1 + 1))))))) else (some (.inr (.inl ()))))) 0).bind fun y1 => (Sum.elim (fun y1 => (some true)) (fun y1 => (some y1)) y1)))
theorem jX_ (a0 : (Sl (Iv .i64))) (a1 : (Sl (Iv .i64))) (r : Bool) (h : fn_ a0 a1 = some r) : d3_ a0 a1 = some r := by
 unfold fn_ at h
 refine k_W ok_17 E_bool_inj h (fun σ0 => ?_)
 refine t_RN ?_
 refine t_RN ?_
 refine t_if (fun hc1 => ?_) fun hc1 => ?_
 ·refine t_RN ?_
  exact k_eW (rT rN) E_bool_p
 refine t_RN ?_
 refine a9_ (fun st1 fr => Sub [(0, a0.t), (1, a1.t), (5, i4 st1)] fr.s ∧ Heap σ0 fr.σ []) (fun y1 e fr => (Sum.elim (fun y => e = (.exit 0) ∧ Sub [] fr.s ∧ Heap σ0 fr.σ []) (fun y => e = .ret ∧ endW Tryz.prog (Tryz.f17.results.toList) σ0 (E_bool y) .ret fr)) y1) (fun hS hH => ⟨(ae_ hS (by kernel_rfl)), hH⟩) (fun st1 x fr h HI => ?_) fun y1 e fr h HF => ?_
 ·obtain ⟨s, σ⟩ := fr; obtain ⟨hS, hH⟩ := HI
  refine t_bk h hS hH ?_
  refine t_RN ?_
  refine t_if (fun hc2 => ?_) fun hc2 => ?_
  ·refine t_D fun mb => ?_
   refine t_U 2 ?_
   refine cb_ fun y2 rest1 hy2 => ?_
   refine t_U 3 ?_
   refine cb_ fun y3 rest2 hy3 => ?_
   refine t_N ?_
   refine t_if (fun hc3 => ?_) fun hc3 => ?_
   ·refine t_RN ?_
    exact t_e fun he hS hH => he ▸ ⟨rfl, (eW hS hH (rT rN) E_bool_p)⟩
   refine t_RN ?_
   exact t_e fun he hS hH => he ▸ ⟨(ae_ hS (by kernel_rfl)), hH⟩
  exact t_e fun he hS hH => he ▸ ⟨rfl, (ae_ hS (by kernel_rfl)), hH⟩
 obtain ⟨s, σ⟩ := fr
 rcases y1 with y1 | y1
 ·have h := el_l h
  obtain ⟨rfl, hS, hH⟩ := HF
  refine t_bx h hS hH ?_
  refine t_RN ?_
  exact k_eW (rT rN) E_bool_p
 have h := el_r h
 obtain ⟨rfl, HE⟩ := HF
 obtain rfl := si_1 h; exact HE
noncomputable def fR_ (a0 : DPattern) (a1 : DPattern) : Option DPattern := ((c5_ 19 ⟨#[]⟩ ⟨false, [a0, a1]⟩).bind fun y1 => (some y1))
theorem kA_ (a0 : DPattern) (a1 : DPattern) (r : DPattern) (h : fR_ a0 a1 = some r) : eH_ a0 a1 = some r := by
 unfold fR_ at h
 refine k_W ok_18 E_DPattern_inj h (fun σ0 => ?_)
 refine t_R ?_
 refine cn_ (fun b1 => ?_)
 refine cn_ (fun b2 => ?_)
 refine bU_ fun b3 => ?_
 refine t_N ?_
 refine t_R ?_
 refine ad_ 2 ?_
 refine ad_ 1 ?_
 refine k_bs (z := false) (⟨false, [a0, a1]⟩ : Sl DPattern) (fun t1 ht1 => ?_)
 intro h s σ hS hH
 obtain ⟨y1, hy1, h⟩ := bind_some h
 refine oI_ (ents := [.own false 4 t1 (Sl.t (⟨false, [a0, a1]⟩ : Sl DPattern))]) (z := false) (ts := [i4 19, .str ⟨#[]⟩, t1]) (vs := [i4 19, .str ⟨#[]⟩, (Sl.t (⟨false, [a0, a1]⟩ : Sl DPattern))]) rfl hS rfl rfl rfl hH rfl (HLi (HLs (HL.own rfl HL.nil))) hy1 (by kernel_rfl) ?_; intro σ s hH hS
 have hH : Heap σ0 σ [.own false 4 t1 (Sl.t (⟨false, [a0, a1]⟩ : Sl DPattern)), .box b3 [i4 0, i4 0, .str ⟨#[]⟩, (nt DPattern)], .box b2 [i4 a1.Kind, i4 a1.Num, .str a1.Text, a1.Kids.t], .box b1 [i4 a0.Kind, i4 a0.Num, .str a0.Text, a0.Kids.t]] := hH
 refine t_bk h hS hH ?_
 refine aU_ 1 ?_
 refine t_N ?_
 exact k_eW (rC 0 rN) E_DPattern_p
noncomputable def cu_ (a0 : (Sl DNamed)) (a1 : DPattern) (a2 : ByteArray) (a3 : Int) (a4 : Int) : Option ((Sl (Iv .i64)) × Int) := ((dh_ a0 a1 a2 a4).bind fun y1 => ((bx_ a3 0 (a2.size : Int)).bind fun y2 => ((c2_ y2 3).bind fun y3 => ((ey_ (⟨false, [⟨y1⟩, ⟨y3⟩]⟩)).bind fun y4 => (if (!decide (y4 = 0)) = true then (some (⟨true, []⟩, y4)) else ((bS_ a0 a1 a2 (⟨false, [⟨a3⟩]⟩) a4).bind fun y5 => (if (!decide (y5.2 = 0)) = true then (some (⟨true, []⟩, y5.2)) else ((aD_ (S := (Int × (Sl (Iv .i64)))) (R := (Sl (Iv .i64))) (fun st1 => (if (decide (st1.1 < (y5.1.l.length : Int))) = true then ((elt y5.1 st1.1).bind fun y7 => ((appS 8 st1.2 (⟨false, [⟨y7.End⟩]⟩ : Sl (Iv .i64))).bind fun y8 => (some (.inl ((w4 (st1.1 + 1)), y8))))) else (some (.inr st1.2)))) (0, (⟨false, []⟩ : Sl (Iv .i64)))).bind fun y6 => (some (y6, 0))))))))))
theorem gE_ (a0 : (Sl DNamed)) (a1 : DPattern) (a2 : ByteArray) (a3 : Int) (a4 : Int) (r : ((Sl (Iv .i64)) × Int)) (h : cu_ a0 a1 a2 a3 a4 = some r) : c6_ a0 a1 a2 a3 a4 = some r := by
 unfold cu_ at h
 refine k_W ok_19 E_t2_sl_i64_i64_inj h (fun σ0 => ?_)
 refine t_R ?_
 refine cn_ (fun b1 => ?_)
 refine t_N ?_
 refine t_RU 1 ?_
 refine ad_ 0 ?_
 refine t_U 2 ?_
 refine ay_ fun y1 hy1 => ?_
 refine t_U 3 ?_
 refine ay_ fun y2 hy2 => ?_
 refine ay_ fun y3 hy3 => ?_
 refine k_bs (z := true) (⟨false, [⟨y1⟩, ⟨y3⟩]⟩ : Sl (Iv .i64)) (fun t1 ht1 => ?_)
 refine jv_ (fun y4 hy4 => ?_)
 refine t_N ?_
 refine t_RN ?_
 refine t_if (fun hc1 => ?_) fun hc1 => ?_
 ·refine t_RN ?_
  exact k_eW (rT (rT rN)) E_t2_sl_i64_i64_p
 refine t_RU 1 ?_
 refine ad_ 1 ?_
 refine t_U 2 ?_
 refine k_bs (z := true) (⟨false, [⟨a3⟩]⟩ : Sl (Iv .i64)) (fun t2 ht2 => ?_)
 refine t_U 1 ?_
 refine dU_ (fun y5 t3 hy5 ht3 => ?_)
 refine t_N ?_
 refine t_RN ?_
 refine t_if (fun hc2 => ?_) fun hc2 => ?_
 ·refine t_RN ?_
  exact k_eW (rT (rT rN)) E_t2_sl_i64_i64_p
 refine t_R ?_
 refine iB_ (α := (Iv .i64)) (fun t4 ht4 => ?_)
 refine t_N ?_
 refine t_RU 1 ?_
 refine hx_ (a := y5.1) 1 ?_
 refine t_N ?_
 refine a9_ (fun st1 fr => ∃ t6, au_ t6 ∧ Sub [(15, t6), (47, t3), (48, i4 (y5.1.l.length : Int)), (49, i4 st1.1)] fr.s ∧ Heap σ0 fr.σ [.own true 1 t6 st1.2.t, .own true 3 t3 y5.1.t]) (fun y6 e fr => ∃ t7, au_ t7 ∧ e = (.exit 0) ∧ Sub [(15, t7)] fr.s ∧ Heap σ0 fr.σ [.own true 1 t7 y6.t]) (fun hS hH => ⟨t4, ht4, (ae_ hS (by kernel_rfl)), (Heap.sel hH [0, 1] rfl (by kernel_rfl))⟩) (fun st1 x fr h HI => ?_) fun y6 e fr h HF => ?_
 ·obtain ⟨s, σ⟩ := fr; obtain ⟨t6, ht6, ⟨hS, hH⟩⟩ := HI
  refine t_bk h hS hH ?_
  refine t_RN ?_
  refine t_if (fun hc3 => ?_) fun hc3 => ?_
  ·refine t_R ?_
   refine hv_ 1 (fun hb1 hb1e y7 hy7 hl_hb1 => ?_)
   refine t_h Heap.up1 ?_
   intro h s σ hS hH
   refine oj_ (a := y5.1) (j := st1.1) (y := y7) (off := 2) (c := [i4 y7.Start, i4 y7.End, y7.Captures.t]) (q := (y7.Captures : Sl DCapture)) (fun _ _ _ _ _ => trivial) rfl hS hH hl_hb1 rfl hy7 rfl (by kernel_rfl) (by kernel_rfl) rfl (by kernel_rfl) (by kernel_rfl) (by kernel_rfl) ?_; intro F1 σk1 t8 s ht8 hH hcl1 hcl1s hcl1p hcl1k hcl1f hS
   refine t_bk h hS hH ?_
   refine bU_ fun b2 => ?_
   refine aU_ 0 ?_ (h1 := by simp [ht8.1, ht8.2])
   refine t_h (·.up2.up2) ?_
   intro h s σ hS hH
   have hH := hcl1s _ _ hH
   have hH : Heap σ0 σ [.own true 3 t3 y5.1.t, .box b2 [i4 y7.Start, i4 y7.End, t8], .own true 1 t6 st1.2.t] := hH
   refine t_bk h hS hH ?_
   refine t_N ?_
   refine t_RU 2 ?_
   refine ad_ 1 ?_
   refine k_bs (z := true) (⟨false, [⟨y7.End⟩]⟩ : Sl (Iv .i64)) (fun t9 ht9 => ?_)
   refine kP_ 3 0 (fun y8 t10 hy8 ht10 => ?_)
   refine t_N ?_
   refine t_RN ?_
   exact t_e fun he hS hH => he ▸ ⟨t10, ht10, (ae_ hS (by kernel_rfl)), (Heap.sel hH [0, 1] rfl (by kernel_rfl))⟩
  exact t_e fun he hS hH => he ▸ ⟨t6, ht6, rfl, (ae_ hS (by kernel_rfl)), (Heap.sel hH [0] rfl (by kernel_rfl))⟩
 obtain ⟨s, σ⟩ := fr
 obtain ⟨t7, ht7, ⟨rfl, hS, hH⟩⟩ := HF
 refine t_bx h hS hH ?_
 refine t_RN ?_
 intro h s σ hS hH
 obtain rfl := si_1 h
 exact oU_ (ents := [.own true 1 t7 y6.t]) (z := false) hH (bt_ (v := t7) hS rfl (bt_ (v := i4 0) hS rfl r_nil)) (HL.tup (es1 := [.own true 1 t7 y6.t]) (es2 := []) (HL.own rfl (HLi HL.nil)) HL.nil) (by simp [pureT, pureL, E_t2_sl_i64_i64])
noncomputable def gV_ (a0 : Int) (a1 : ByteArray) (a2 : (Sl DPattern)) : Option DPattern := (some (⟨a0, 0, a1, a2⟩ : DPattern))
theorem gI_ (a0 : Int) (a1 : ByteArray) (a2 : (Sl DPattern)) (r : DPattern) (h : gV_ a0 a1 a2 = some r) : c5_ a0 a1 a2 = some r := by
 unfold gV_ at h
 refine k_W ok_20 E_DPattern_inj h (fun σ0 => ?_)
 refine t_R ?_
 refine bU_ fun b1 => ?_
 refine t_N ?_
 refine t_RU 4 ?_
 refine aU_ 0 ?_
 refine t_N ?_
 exact k_eW (rC 0 rN) E_DPattern_p
noncomputable def dp_ (a0 : DPattern) : Option DPattern := ((bB_ a0).bind fun y1 => (((if (decide (a0.Kind = 14)) = true then (some (decide (a0.Kind = 14))) else (some (decide (a0.Kind = 17)))) : Option Bool).bind fun y2 => (if y2 = true then (some (⟨1, 0, ⟨#[]⟩, ⟨true, []⟩⟩ : DPattern)) else (if (decide (a0.Kind = 15)) = true then (some (⟨16, 0, ⟨#[]⟩, ⟨true, []⟩⟩ : DPattern)) else ((aD_ (S := (Int × (Sl DPattern))) (R := (Sl DPattern)) (fun st1 => (if (decide (st1.1 < (a0.Kids.l.length : Int))) = true then ((elt a0.Kids st1.1).bind fun y4 => ((bA_ y4).bind fun y5 => ((elt st1.2 st1.1).bind fun y6 => (some (.inl ((w4 (st1.1 + 1)), (setS st1.2 st1.1 (y5 : DPattern)))))))) else (some (.inr st1.2)))) (0, y1.Kids)).bind fun y3 => (some (⟨y1.Kind, y1.Num, y1.Text, y3⟩ : DPattern)))))))
theorem iC_ (a0 : DPattern) (r : DPattern) (h : dp_ a0 = some r) : bA_ a0 = some r := by
 unfold dp_ at h
 refine k_O ok_35 h (fun σ0 => ?_)
 refine t_R ?_
 refine cn_ (fun b1 => ?_)
 refine bU_ fun b2 => ?_
 refine t_N ?_
 refine t_R ?_
 refine ad_ 1 ?_
 refine dU_ (fun y1 t1 hy1 ht1 => ?_)
 refine bU_ fun b3 => ?_
 refine aU_ 0 ?_ (h1 := by simp [ht1.1, ht1.2])
 refine t_N ?_
 refine t_RU 1 ?_
 refine ad_ 3 ?_
 refine t_N ?_
 refine t_RN ?_
 refine ev_ 0 (fun y2 e fr => e = .normal ∧ Sub [(1, .ptr b1 0 0 4), (2, .ptr b2 0 0 4), (3, .ptr b3 0 0 4), (8, i4 a0.Kind), (9, .bool y2)] fr.s ∧ Heap σ0 fr.σ [.box b3 [i4 y1.Kind, i4 y1.Num, .str y1.Text, t1], .box b2 [i4 0, i4 0, .str ⟨#[]⟩, (nt DPattern)], .box b1 [i4 a0.Kind, i4 a0.Num, .str a0.Text, a0.Kids.t], .own true 4 t1 y1.Kids.t]) (fun y2 e fr h HF => ?_) fun y2 => ?_
 ·obtain ⟨s, σ⟩ := fr
  obtain ⟨rfl, hS, hH⟩ := HF
  refine t_bx h hS hH ?_
  refine t_if (fun hc1 => ?_) fun hc1 => ?_
  ·refine t_RU 1 ?_
   refine aU_ 1 ?_
   refine t_N ?_
   refine t_h (Heap.addNil · true 4) ?_
   exact k_eO [(T.row true 0 [])] (rC 1 rN)
  refine t_RN ?_
  refine t_if (fun hc2 => ?_) fun hc2 => ?_
  ·refine t_RU 1 ?_
   refine aU_ 1 ?_
   refine t_N ?_
   refine t_h (Heap.addNil · true 4) ?_
   exact k_eO [(T.row true 0 [])] (rC 1 rN)
  refine t_RN ?_
  refine a9_ (fun st1 fr => Sub [(1, .ptr b1 0 0 4), (2, .ptr b2 0 0 4), (3, .ptr b3 0 0 4), (4, i4 st1.1)] fr.s ∧ Heap σ0 fr.σ [.box b3 [i4 y1.Kind, i4 y1.Num, .str y1.Text, t1], .box b2 [i4 0, i4 0, .str ⟨#[]⟩, (nt DPattern)], .box b1 [i4 a0.Kind, i4 a0.Num, .str a0.Text, a0.Kids.t], .own true 4 t1 st1.2.t]) (fun y3 e fr => e = (.exit 1) ∧ Sub [(2, .ptr b2 0 0 4), (3, .ptr b3 0 0 4)] fr.s ∧ Heap σ0 fr.σ [.box b3 [i4 y1.Kind, i4 y1.Num, .str y1.Text, t1], .box b2 [i4 0, i4 0, .str ⟨#[]⟩, (nt DPattern)], .own true 4 t1 y3.t]) (fun hS hH => ⟨(ae_ hS (by kernel_rfl)), hH⟩) (fun st1 x fr h HI => ?_) fun y3 e fr h HF => ?_
  ·obtain ⟨s, σ⟩ := fr; obtain ⟨hS, hH⟩ := HI
   refine t_bk h hS hH ?_
   refine t_RU 2 ?_
   refine ad_ 2 ?_
   refine t_N ?_
   refine t_if (fun hc3 => ?_) fun hc3 => ?_
   ·refine ba_ [(10, RN)] ext_x fun mb σs hn0 hlt hlto => ?_
    have hlt_b3 : b3 < mb := hlt b3 _ (List.Mem.head _)
    refine t_U 1 ?_
    refine ad_ 0 ?_ (hlt := by exact (Or.inr ⟨hlt_b3, (Wc.cons (.inl (by kernel_rfl)) Wc.nil)⟩))
    refine t_U 2 ?_
    refine ad_ 2 ?_ (hlt := by exact (Or.inl (by kernel_rfl)))
    refine t_U 1 ?_
    refine cb_ fun y4 rest1 hy4 => ?_
    refine t_U 1 ?_
    refine dU_ (fun y5 t2 hy5 ht2 => ?_)
    refine hv_ 4 (fun hb1 hb1e y6 hy6 hl_hb1 => ?_) (hlt := by exact (fun _ _ _ _ _ => Or.inl (by kernel_rfl)))
    refine t_h Heap.up4 ?_
    intro h s σ hS hH
    refine kC_ rfl (ents := [.own true 4 t2 y5.Kids.t]) (a := st1.2) (j := st1.1) (y := y6) (y' := (y5 : DPattern)) (off := 0) (c := [i4 y6.Kind, i4 y6.Num, .str y6.Text, y6.Kids.t]) (us := [i4 y5.Kind, i4 y5.Num, .str y5.Text, t2]) (vs := [i4 y5.Kind, i4 y5.Num, .str y5.Text, y5.Kids.t]) (v := .agg [i4 y5.Kind, i4 y5.Num, .str y5.Text, t2]) (by exact Or.inr ⟨10, by kernel_rfl, fun h => h⟩) rfl hS hH hl_hb1 rfl rfl rfl (by simp [ht2.1, ht2.2]) (by kernel_rfl) rfl hy6 (DPattern.cells_eq _) (HLi (HLi (HLs (HL.own rfl HL.nil)))) rfl (by rw [DPattern.enc_eq]; rfl) ?_; intro σ s hH hS
    refine t_bk h hS hH ?_
    refine t_N ?_
    refine t_RN ?_
    exact t_e fun he hS hH => he ▸ ⟨(ae_ hS (by kernel_rfl)), (Heap.sel hH [1, 2, 3, 0] rfl (by kernel_rfl))⟩
   exact t_e fun he hS hH => he ▸ ⟨rfl, (ae_ hS (by kernel_rfl)), (Heap.sel hH [0, 1, 3] rfl (by kernel_rfl))⟩
  obtain ⟨s, σ⟩ := fr
  obtain ⟨rfl, hS, hH⟩ := HF
  refine t_bx h hS hH ?_
  refine t_R ?_
  refine ad_ 0 ?_
  refine aU_ 1 ?_ (h1 := by simp [ht1.1, ht1.2])
  refine t_N ?_
  refine t_h Heap.up2 ?_
  exact k_eO [t1] (rC 1 rN)
 refine t_if (fun hc4 => ?_) fun hc4 => ?_
 ·exact t_e fun he hS hH => by subst he; exact ⟨rfl, (ae_ hS (by kernel_rfl)), (Heap.sel hH [0, 2, 3, 1] rfl (by kernel_rfl))⟩
 refine t_RN ?_
 exact t_e fun he hS hH => by subst he; exact ⟨rfl, (ae_ hS (by kernel_rfl)), (Heap.sel hH [0, 2, 3, 1] rfl (by kernel_rfl))⟩
noncomputable def dR_ (a0 : (Sl DNamed)) (a1 : DPattern) (a2 : ByteArray) (a3 : Int) (a4 : Int) : Option ((Sl (Iv .i64)) × Int) := ((fk_ a0 a1 a2 a4).bind fun y1 => (if (!decide (y1 = 0)) = true then (some (⟨false, []⟩, y1)) else ((b0_ a3 0 (a2.size : Int)).bind fun y2 => (if (!y2) = true then (some (⟨false, []⟩, 3)) else ((eI_ a0 a1 a2 a3 a4).bind fun y3 => (if (!decide (y3.2 = 0)) = true then (some (⟨false, []⟩, y3.2)) else (some (y3.1, 0))))))))
theorem jU_ (a0 : (Sl DNamed)) (a1 : DPattern) (a2 : ByteArray) (a3 : Int) (a4 : Int) (r : ((Sl (Iv .i64)) × Int)) (h : dR_ a0 a1 a2 a3 a4 = some r) : ft_ a0 a1 a2 a3 a4 = some r := by
 unfold dR_ at h
 refine k_O ok_39 h (fun σ0 => ?_)
 refine t_R ?_
 refine cn_ (fun b1 => ?_)
 refine t_N ?_
 refine t_RU 1 ?_
 refine ad_ 0 ?_
 refine t_U 2 ?_
 refine ay_ fun y1 hy1 => ?_
 refine t_N ?_
 refine t_RN ?_
 refine t_if (fun hc1 => ?_) fun hc1 => ?_
 ·refine t_R ?_
  refine iB_ (α := (Iv .i64)) (fun t1 ht1 => ?_)
  refine t_N ?_
  exact k_eO [t1] (rT (rT rN))
 refine t_RU 3 ?_
 refine ay_ fun y2 hy2 => ?_
 refine t_N ?_
 refine t_if (fun hc2 => ?_) fun hc2 => ?_
 ·refine t_R ?_
  refine iB_ (α := (Iv .i64)) (fun t2 ht2 => ?_)
  refine t_N ?_
  exact k_eO [t2] (rT (rT rN))
 refine t_RU 1 ?_
 refine ad_ 0 ?_
 refine t_U 3 ?_
 refine dU_ (fun y3 t3 hy3 ht3 => ?_)
 refine t_N ?_
 refine t_RN ?_
 refine t_if (fun hc3 => ?_) fun hc3 => ?_
 ·refine t_R ?_
  refine iB_ (α := (Iv .i64)) (fun t4 ht4 => ?_)
  refine t_N ?_
  exact k_eO [t4] (rT (rT rN))
 refine t_RN ?_
 exact k_eO [t3] (rT (rT rN))
noncomputable def fU_ (a0 : (Sl (Iv .i64))) : Option Int := ((aD_ (S := Int) (R := (Unit ⊕ Int)) (fun st1 => (if (decide (st1 < (a0.l.length : Int))) = true then ((elt a0 st1).bind fun y2 => (if (!decide (y2.v = 0)) = true then (some (.inr (.inr y2.v))) else (some (.inl (w4 (st1 + 1)))))) else (some (.inr (.inl ()))))) 0).bind fun y1 => (Sum.elim (fun y1 => (some 0)) (fun y1 => (some y1)) y1))
theorem ko_ (a0 : (Sl (Iv .i64))) (r : Int) (h : fU_ a0 = some r) : ey_ a0 = some r := by
 unfold fU_ at h
 refine k_W ok_40 E_i64_inj h (fun σ0 => ?_)
 refine t_RN ?_
 refine t_RN ?_
 refine a9_ (fun st1 fr => Sub [(5, a0.t), (6, i4 (a0.l.length : Int)), (7, i4 st1)] fr.s ∧ Heap σ0 fr.σ []) (fun y1 e fr => (Sum.elim (fun y => e = (.exit 0) ∧ Sub [] fr.s ∧ Heap σ0 fr.σ []) (fun y => e = .ret ∧ endW Tryz.prog (Tryz.f40.results.toList) σ0 (E_i64 y) .ret fr)) y1) (fun hS hH => ⟨(ae_ hS (by kernel_rfl)), hH⟩) (fun st1 x fr h HI => ?_) fun y1 e fr h HF => ?_
 ·obtain ⟨s, σ⟩ := fr; obtain ⟨hS, hH⟩ := HI
  refine t_bk h hS hH ?_
  refine t_RN ?_
  refine t_if (fun hc1 => ?_) fun hc1 => ?_
  ·refine t_R ?_
   refine cb_ fun y2 rest1 hy2 => ?_
   refine t_N ?_
   refine t_RN ?_
   refine t_if (fun hc2 => ?_) fun hc2 => ?_
   ·refine t_RN ?_
    exact t_e fun he hS hH => he ▸ ⟨rfl, (eW hS hH (rT rN) E_i64_p)⟩
   refine t_RN ?_
   exact t_e fun he hS hH => he ▸ ⟨(ae_ hS (by kernel_rfl)), hH⟩
  exact t_e fun he hS hH => he ▸ ⟨rfl, (ae_ hS (by kernel_rfl)), hH⟩
 obtain ⟨s, σ⟩ := fr
 rcases y1 with y1 | y1
 ·have h := el_l h
  obtain ⟨rfl, hS, hH⟩ := HF
  refine t_bx h hS hH ?_
  refine t_RN ?_
  exact k_eW (rT rN) E_i64_p
 have h := el_r h
 obtain ⟨rfl, HE⟩ := HF
 obtain rfl := si_1 h; exact HE
noncomputable def dl_ (a0 : (Sl DNamed)) (a1 : DPattern) (a2 : ByteArray) (a3 : Int) : Option Int := ((((ek_ a0).bind fun y6 => (if y6 = true then ((b5_ a1).bind fun y7 => (if y7 = true then ((cI_ a2).bind fun y8 => (some y8)) else (some false))) else (some false))) : Option Bool).bind fun y1 => ((c2_ y1 1).bind fun y2 => ((bx_ a3 0 20000).bind fun y3 => ((c2_ y3 3).bind fun y4 => ((ey_ (⟨false, [⟨y2⟩, ⟨y4⟩]⟩)).bind fun y5 => (some y5))))))
theorem g9_ (a0 : (Sl DNamed)) (a1 : DPattern) (a2 : ByteArray) (a3 : Int) (r : Int) (h : dl_ a0 a1 a2 a3 = some r) : dh_ a0 a1 a2 a3 = some r := by
 unfold dl_ at h
 refine k_W ok_41 E_i64_inj h (fun σ0 => ?_)
 refine t_R ?_
 refine cn_ (fun b1 => ?_)
 refine t_N ?_
 refine ev_ 0 (fun y1 e fr => e = .normal ∧ Sub [(3, i4 a3), (9, .bool y1)] fr.s ∧ Heap σ0 fr.σ []) (fun y1 e fr h HF => ?_) fun y1 => ?_
 ·obtain ⟨s, σ⟩ := fr
  obtain ⟨rfl, hS, hH⟩ := HF
  refine t_bx h hS hH ?_
  refine t_RU 1 ?_
  refine ay_ fun y2 hy2 => ?_
  refine t_U 1 ?_
  refine ay_ fun y3 hy3 => ?_
  refine ay_ fun y4 hy4 => ?_
  refine k_bs (z := true) (⟨false, [⟨y2⟩, ⟨y4⟩]⟩ : Sl (Iv .i64)) (fun t1 ht1 => ?_)
  refine jv_ (fun y5 hy5 => ?_)
  refine t_N ?_
  exact k_eW (rT rN) E_i64_p
 refine t_RU 1 ?_
 refine ay_ fun y6 hy6 => ?_
 refine t_U 1 ?_
 refine aQ_ 12 (fun hc1 => ?_) fun hc1 => ?_
 ·refine ad_ 0 ?_
  refine ay_ fun y7 hy7 => ?_
  refine t_U 2 ?_
  refine aQ_ 16 (fun hc2 => ?_) fun hc2 => ?_
  ·refine t_U 1 ?_
   refine ay_ fun y8 hy8 => ?_
   refine t_N ?_
   exact t_e fun he hS hH => he ▸ ⟨rfl, (ae_ hS (by kernel_rfl)), (Heap.sel hH [] rfl (by kernel_rfl))⟩
  refine t_N ?_
  exact t_e fun he hS hH => he ▸ ⟨rfl, (ae_ hS (by kernel_rfl)), (Heap.sel hH [] rfl (by kernel_rfl))⟩
 refine t_N ?_
 exact t_e fun he hS hH => he ▸ ⟨rfl, (ae_ hS (by kernel_rfl)), (Heap.sel hH [] rfl (by kernel_rfl))⟩
noncomputable def fs_ (a0 : Bool) (a1 : Int) : Option Int := (if a0 = true then (some 0) else (some a1))
theorem jE_ (a0 : Bool) (a1 : Int) (r : Int) (h : fs_ a0 a1 = some r) : c2_ a0 a1 = some r := by
 unfold fs_ at h
 refine k_W ok_42 E_i64_inj h (fun σ0 => ?_)
 refine t_RN ?_
 refine t_RN ?_
 refine t_if (fun hc1 => ?_) fun hc1 => ?_
 ·refine t_RN ?_
  exact k_eW (rT rN) E_i64_p
 refine t_RN ?_
 exact k_eW (rT rN) E_i64_p
noncomputable def fr_ (a0 : Int) (a1 : Int) (a2 : Int) : Option Bool := (if (decide (a1 ≤ a0)) = true then (some (decide (a0 ≤ a2))) else (some false))
theorem ju_ (a0 : Int) (a1 : Int) (a2 : Int) (r : Bool) (h : fr_ a0 a1 a2 = some r) : bx_ a0 a1 a2 = some r := by
 unfold fr_ at h
 refine k_W ok_43 E_bool_inj h (fun σ0 => ?_)
 refine t_RN ?_
 refine t_RU 4 ?_
 refine aQ_ 10 (fun hc1 => ?_) fun hc1 => ?_
 ·refine t_N ?_
  exact k_eW (rT rN) E_bool_p
 refine t_N ?_
 exact k_eW (rT rN) E_bool_p
end Go.Am
