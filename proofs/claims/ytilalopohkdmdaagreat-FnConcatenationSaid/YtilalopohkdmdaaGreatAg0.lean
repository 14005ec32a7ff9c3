/- Functions of the program. -/
import Derived.Test.YtilalopohkdmdaaGreatAd0
set_option maxRecDepth 100000
set_option maxHeartbeats 4000000
set_option linter.unusedVariables false
set_option linter.unusedSimpArgs false
namespace Go.Am
open Go.Proofs
noncomputable def cn_ (a0 : (Sl (Iv .u8))) : Option Bool := (if (decide (1048576 < (a0.l.length : Int))) = true then (some true) else ((dM_ a0).bind fun y1 => ((dz_ 1 a0).bind fun y2 => ((dY_ y2).bind fun y3 => ((dz_ 2 a0).bind fun y4 => ((dY_ y4).bind fun y5 => ((dz_ 3 a0).bind fun y6 => ((dJ_ y6).bind fun y7 => ((gm_ a0 4 (w4 ((y7.size : Int) + 1))).bind fun y8 => ((fE_ y3 y5).bind fun y9 => ((dQ_ y1 y9 y7 y8 3000).bind fun y10 => ((dQ_ y1 y3 y7 y8 1000).bind fun y11 => (if (!y10.2.2) = true then (some false) else (if (!y11.2.2) = true then (some false) else (if (!decide (y11.2.1 = 0)) = true then (some true) else (if (!decide (y10.2.1 = 0)) = true then (some true) else ((aA_ (S := (Int × (Sl (Iv .i64)))) (R := ((Sl (Iv .i64)) ⊕ Bool)) (fun st1 => (if (decide (st1.1 < (y11.1.l.length : Int))) = true then ((elt y11.1 st1.1).bind fun y13 => ((bP_ y1 y5 y7 y13.v 1000).bind fun y14 => (if (!decide (y14.2 = 0)) = true then (some (.inr (.inr true))) else ((appS 8 st1.2 y14.1).bind fun y15 => (some (.inl ((w4 (st1.1 + 1)), y15))))))) else (some (.inr (.inl st1.2))))) (0, (⟨false, []⟩ : Sl (Iv .i64)))).bind fun y12 => (Sum.elim (fun y12 => ((dT_ y10.1 y12).bind fun y16 => (some y16))) (fun y12 => (some y12)) y12))))))))))))))))))
theorem fA_ (a0 : (Sl (Iv .u8))) (r : Bool) (h : cn_ a0 = some r) : c7_ a0 = some r := by
 unfold cn_ at h
 refine k_W ok_4 E_bool_inj h (fun σ0 => ?_)
 refine t_RN ?_
 refine t_RN ?_
 refine t_if (fun hc1 => ?_) fun hc1 => ?_
 ·refine t_RN ?_
  exact k_eW (rT rN) E_bool_p
 refine t_RU 1 ?_
 refine aw_ fun y1 hy1 => ?_
 refine t_N ?_
 refine t_RU 1 ?_
 refine aw_ fun y2 hy2 => ?_
 refine aw_ fun y3 hy3 => ?_
 refine bS_ fun b1 => ?_
 refine aS_ 0 ?_
 refine t_N ?_
 refine t_RU 1 ?_
 refine aw_ fun y4 hy4 => ?_
 refine aw_ fun y5 hy5 => ?_
 refine bS_ fun b2 => ?_
 refine aS_ 0 ?_
 refine t_N ?_
 refine t_RU 1 ?_
 refine aw_ fun y6 hy6 => ?_
 refine aw_ fun y7 hy7 => ?_
 refine t_N ?_
 refine t_RU 4 ?_
 refine aw_ fun y8 hy8 => ?_
 refine t_N ?_
 refine t_RU 1 ?_
 refine ae_ 1 ?_
 refine ae_ 0 ?_
 refine aw_ fun y9 hy9 => ?_
 refine t_U 2 ?_
 refine aw_ fun y10 hy10 => ?_
 refine t_N ?_
 refine t_RU 1 ?_
 refine ae_ 1 ?_
 refine t_U 2 ?_
 refine aw_ fun y11 hy11 => ?_
 refine t_N ?_
 refine t_RU 3 ?_
 refine aO_ 59 (fun hc2 => ?_) fun hc2 => ?_
 ·refine t_N ?_
  refine t_cT rfl ?_
  refine t_RN ?_
  exact k_eW (rT rN) E_bool_p
 refine t_N ?_
 refine t_if (fun hc3 => ?_) fun hc3 => ?_
 ·refine t_RN ?_
  exact k_eW (rT rN) E_bool_p
 refine t_RU 3 ?_
 refine aO_ 65 (fun hc4 => ?_) fun hc4 => ?_
 ·refine t_N ?_
  refine t_cT rfl ?_
  refine t_RN ?_
  exact k_eW (rT rN) E_bool_p
 refine t_N ?_
 refine t_if (fun hc5 => ?_) fun hc5 => ?_
 ·refine t_RN ?_
  exact k_eW (rT rN) E_bool_p
 refine t_R ?_
 refine hM_ (α := (Iv .i64)) (fun t1 ht1 => ?_)
 refine t_N ?_
 refine t_RN ?_
 refine a4_ (fun st1 fr => ∃ t3, ap_ t3 ∧ Sub [(3, y1.t), (5, .ptr b2 0 0 4), (6, .str y7), (8, y10.1.t), (11, y11.1.t), (14, t3), (15, i4 st1.1)] fr.s ∧ Heap σ0 fr.σ [.box b2 [i4 y5.Kind, i4 y5.Num, .str y5.Text, y5.Kids.t], .own true 1 t3 st1.2.t]) (fun y12 e fr => (Sum.elim (fun y => ∃ t4, ap_ t4 ∧ e = (.exit 0) ∧ Sub [(8, y10.1.t), (14, t4)] fr.s ∧ Heap σ0 fr.σ [.own true 1 t4 y.t]) (fun y => e = .ret ∧ endW Tryz.prog (Tryz.f4.results.toList) σ0 (E_bool y) .ret fr)) y12) (fun hS hH => ⟨t1, ht1, (ad_ hS (by kernel_rfl)), (Heap.sel hH [1, 0] rfl (by kernel_rfl))⟩) (fun st1 x fr h HI => ?_) fun y12 e fr h HF => ?_
 ·obtain ⟨s, σ⟩ := fr; obtain ⟨t3, ht3, ⟨hS, hH⟩⟩ := HI
  refine t_bk h hS hH ?_
  refine t_RN ?_
  refine t_if (fun hc6 => ?_) fun hc6 => ?_
  ·refine t_D fun mb => ?_
   refine t_U 1 ?_
   refine ae_ 0 ?_
   refine t_U 3 ?_
   refine b7_ fun y13 rest1 hy13 => ?_
   refine t_U 1 ?_
   refine aw_ fun y14 hy14 => ?_
   refine t_N ?_
   refine t_RN ?_
   refine t_if (fun hc7 => ?_) fun hc7 => ?_
   ·refine t_RN ?_
    exact t_e fun he hS hH => he ▸ ⟨rfl, (eW hS hH (rT rN) E_bool_p)⟩
   refine t_RU 2 ?_
   refine nN_ 1 (fun y15 t5 hy15 ht5 => ?_)
   refine t_N ?_
   refine t_RN ?_
   exact t_e fun he hS hH => he ▸ ⟨t5, ht5, (ad_ hS (by kernel_rfl)), (Heap.sel hH [1, 0] rfl (by kernel_rfl))⟩
  exact t_e fun he hS hH => he ▸ ⟨t3, ht3, rfl, (ad_ hS (by kernel_rfl)), (Heap.sel hH [1] rfl (by kernel_rfl))⟩
 obtain ⟨s, σ⟩ := fr
 rcases y12 with y12 | y12
 ·have h := el_l h
  obtain ⟨t4, ht4, ⟨rfl, hS, hH⟩⟩ := HF
  refine t_bx h hS hH ?_
  refine t_RU 2 ?_
  refine hG_ (fun y16 hy16 => ?_)
  refine t_N ?_
  exact k_eW (rT rN) E_bool_p
 have h := el_r h
 obtain ⟨rfl, HE⟩ := HF
 obtain rfl := si_1 h; exact HE
noncomputable def bp_ (a0 : ah_) : Option (Int × ah_) := (((if (decide (a0.at_ < (a0.code_.l.length : Int))) = true then ((elt a0.code_ a0.at_).bind fun y2 => (some (w4 y2.v))) else (some 0)) : Option Int).bind fun y1 => (if ((decide ((w4 (a0.at_ + 1)) ≤ (a0.code_.l.length : Int)))) = true then (some (y1, (⟨a0.code_, (w4 (a0.at_ + 1)), (IntKind.u64.wrap ((IntKind.u64.wrap ((IntKind.u64.wrap (a0.seed_ * 6364136223846793005)) + (IntKind.u64.wrap y1))) + 1442695040888963407))⟩ : ah_))) else (some ((w4 ((andI .u64 ((((IntKind.u64.wrap ((IntKind.u64.wrap ((IntKind.u64.wrap (a0.seed_ * 6364136223846793005)) + (IntKind.u64.wrap y1))) + 1442695040888963407))).fdiv (2 ^ 40))) 255))), (⟨a0.code_, (w4 (a0.at_ + 1)), (IntKind.u64.wrap ((IntKind.u64.wrap ((IntKind.u64.wrap (a0.seed_ * 6364136223846793005)) + (IntKind.u64.wrap y1))) + 1442695040888963407))⟩ : ah_)))))
theorem ez_ (a0 : ah_) (r : (Int × ah_)) (h : bp_ a0 = some r) (bp0 : Nat) : RawS Tryz.prog md ext 59 [.ptr bp0 0 0 3] 0 (fun hs => E_i64 r.1) [.box bp0 (ah_.cells a0)] (fun hs => [.box bp0 (ah_.cells r.2)]) := by
 unfold bp_ at h
 refine b1_ rfl rfl ok_59 rfl ?_
 intro σ0 σ F σk s hS hH
 have hS := ad_ (L' := [(0, .ptr bp0 0 0 3)]) hS (by kernel_rfl)
 refine t_go h hS hH ?_
 refine t_RN ?_
 refine t_RN ?_
 refine t_D fun mb => ?_
 refine t_U 3 ?_
 refine ae_ 0 ?_
 refine t_U 3 ?_
 refine ae_ 0 ?_
 refine t_N ?_
 refine et_ 0 (fun y1 e fr => e = .normal ∧ Sub [(0, .ptr bp0 0 0 3), (3, i4 y1)] fr.s ∧ Heap σ0 fr.σ [.box bp0 (ah_.cells a0), .keep F σk]) (fun y1 e fr h HF => ?_) fun y1 => ?_
 ·obtain ⟨s, σ⟩ := fr
  obtain ⟨rfl, hS, hH⟩ := HF
  refine t_bx h hS hH ?_
  refine t_RU 3 ?_
  refine ae_ 0 ?_
  refine t_U 3 ?_
  refine aK_ 0 ?_
  refine t_N ?_
  refine t_RU 4 ?_
  refine ae_ 0 ?_
  refine t_U 7 ?_
  refine aK_ 0 ?_
  refine t_N ?_
  refine t_D fun mb => ?_
  refine t_U 3 ?_
  refine ae_ 0 ?_
  refine t_U 3 ?_
  refine ae_ 0 ?_
  refine t_N ?_
  refine t_if (fun hc1 => ?_) fun hc1 => ?_
  ·refine t_RN ?_
   intro h s σ hS hH
   obtain rfl := si_1 h
   exact aN_ [] (br_ (v := i4 y1) hS rfl r_nil) rfl rfl hH
  refine t_RU 3 ?_
  refine ae_ 0 ?_
  refine t_N ?_
  intro h s σ hS hH
  obtain rfl := si_1 h
  exact aN_ [] (br_ (v := i4 ((w4 ((andI .u64 ((((IntKind.u64.wrap ((IntKind.u64.wrap ((IntKind.u64.wrap (a0.seed_ * 6364136223846793005)) + (IntKind.u64.wrap y1))) + 1442695040888963407))).fdiv (2 ^ 40))) 255))))) hS rfl r_nil) rfl rfl hH
 refine t_if (fun hc2 => ?_) fun hc2 => ?_
 ·refine t_D fun mb => ?_
  refine t_U 3 ?_
  refine ae_ 0 ?_
  refine t_U 3 ?_
  refine ae_ 0 ?_
  refine b7_ fun y2 rest1 hy2 => ?_
  refine t_N ?_
  exact t_e fun he hS hH => he ▸ ⟨rfl, (ad_ hS (by kernel_rfl)), hH⟩
 exact t_e fun he hS hH => he ▸ ⟨rfl, (ad_ hS (by kernel_rfl)), hH⟩
noncomputable def aE_ (a0 : ah_) (a1 : Int) : Option (Int × ah_) := (if (decide (a1 ≤ 1)) = true then (some (0, a0)) else ((bp_ a0).bind fun y1 => (if (decide (200 < a1)) = true then ((bp_ y1.2).bind fun y2 => ((remI (w4 ((w4 (y1.1 * 256)) + y2.1)) a1).bind fun y3 => (some (y3, y2.2)))) else ((remI y1.1 a1).bind fun y4 => (some (y4, y1.2))))))
theorem a8_ (a0 : ah_) (a1 : Int) (r : (Int × ah_)) (h : aE_ a0 a1 = some r) (bp0 : Nat) : RawS Tryz.prog md ext 37 [.ptr bp0 0 0 3, i4 a1] 0 (fun hs => E_i64 r.1) [.box bp0 (ah_.cells a0)] (fun hs => [.box bp0 (ah_.cells r.2)]) := by
 unfold aE_ at h
 refine b1_ rfl rfl ok_37 rfl ?_
 intro σ0 σ F σk s hS hH
 have hS := ad_ (L' := [(0, .ptr bp0 0 0 3), (1, i4 a1)]) hS (by kernel_rfl)
 refine t_go h hS hH ?_
 refine t_RN ?_
 refine t_RN ?_
 refine t_if (fun hc1 => ?_) fun hc1 => ?_
 ·refine t_RN ?_
  intro h s σ hS hH
  obtain rfl := si_1 h
  exact aN_ [] (br_ (v := i4 0) hS rfl r_nil) rfl rfl hH
 refine t_RU 1 ?_
 refine aH_ (fun y1 hs hy1 hl => ?_) (hr := by exact fun y1 hy1 => ez_ _ y1 hy1 bp0)
 obtain rfl := len0 hl
 refine bg_ ?_
 refine t_N ?_
 refine t_RN ?_
 refine t_if (fun hc2 => ?_) fun hc2 => ?_
 ·refine t_RU 3 ?_
  refine aH_ (fun y2 hs hy2 hl => ?_) (hr := by exact fun y2 hy2 => ez_ _ y2 hy2 bp0)
  obtain rfl := len0 hl
  refine bg_ ?_
  refine t_N ?_
  refine t_RU 2 ?_
  intro h s σ hS hH
  obtain ⟨y3, hy3, h⟩ := bind_some h
  refine iY_ rfl hS rfl rfl hy3 ?_; intro s hS
  refine t_bk h hS hH ?_
  refine t_N ?_
  intro h s σ hS hH
  obtain rfl := si_1 h
  exact aN_ [] (br_ (v := i4 y3) hS rfl r_nil) rfl rfl hH
 refine t_RU 2 ?_
 intro h s σ hS hH
 obtain ⟨y4, hy4, h⟩ := bind_some h
 refine iY_ rfl hS rfl rfl hy4 ?_; intro s hS
 refine t_bk h hS hH ?_
 refine t_N ?_
 intro h s σ hS hH
 obtain rfl := si_1 h
 exact aN_ [] (br_ (v := i4 y4) hS rfl r_nil) rfl rfl hH
noncomputable def aZ_ (a0 : ah_) (a1 : Int) : Option (Bool × ah_) := ((aE_ a0 a1).bind fun y1 => (some ((decide (y1.1 = 0)), y1.2)))
theorem cE_ (a0 : ah_) (a1 : Int) (r : (Bool × ah_)) (h : aZ_ a0 a1 = some r) (bp0 : Nat) : RawS Tryz.prog md ext 53 [.ptr bp0 0 0 3, i4 a1] 0 (fun hs => E_bool r.1) [.box bp0 (ah_.cells a0)] (fun hs => [.box bp0 (ah_.cells r.2)]) := by
 unfold aZ_ at h
 refine b1_ rfl rfl ok_53 rfl ?_
 intro σ0 σ F σk s hS hH
 have hS := ad_ (L' := [(0, .ptr bp0 0 0 3), (1, i4 a1)]) hS (by kernel_rfl)
 refine t_go h hS hH ?_
 refine t_RN ?_
 refine t_RU 2 ?_
 refine aH_ (fun y1 hs hy1 hl => ?_) (hr := by exact fun y1 hy1 => a8_ _ _ y1 hy1 bp0)
 obtain rfl := len0 hl
 refine bg_ ?_
 refine t_N ?_
 intro h s σ hS hH
 obtain rfl := si_1 h
 exact aN_ [] (br_ (v := .bool (decide (y1.1 = 0))) hS rfl r_nil) rfl rfl hH
noncomputable def a3_ (a0 : ah_) (a1 : (Sl ByteArray)) : Option (ByteArray × ah_ × (Sl ByteArray)) := ((aE_ a0 (a1.l.length : Int)).bind fun y1 => ((elt a1 y1.1).bind fun y2 => (some (y2, y1.2, a1))))
theorem cV_ (a0 : ah_) (a1 : (Sl ByteArray)) (r : (ByteArray × ah_ × (Sl ByteArray))) (h : a3_ a0 a1 = some r) (bp0 : Nat) (wp1_1 : Nat) (p1_1 : T) : RawS Tryz.prog md ext 60 [.ptr bp0 0 0 3, p1_1] 0 (fun hs => E_str r.1) [.box bp0 (ah_.cells a0), .own true wp1_1 p1_1 a1.t] (fun hs => [.box bp0 (ah_.cells r.2.1), .own true wp1_1 p1_1 r.2.2.t]) := by
 unfold a3_ at h
 refine b1_ rfl rfl ok_60 rfl ?_
 intro σ0 σ F σk s hS hH
 have hp1_1 : ap_ p1_1 := Heap.one (hH.at 1 rfl)
 have hS := ad_ (L' := [(0, .ptr bp0 0 0 3), (1, p1_1)]) hS (by kernel_rfl)
 refine t_go h hS hH ?_
 refine t_RN ?_
 refine t_RU 3 ?_
 refine hi_ (a := a1) 1 ?_
 refine aH_ (fun y1 hs hy1 hl => ?_) (hr := by exact fun y1 hy1 => a8_ _ _ y1 hy1 bp0)
 obtain rfl := len0 hl
 refine bg_ ?_
 refine hh_ 1 (fun hb1 hb1e y2 hy2 hl_hb1 => ?_)
 refine i1_ 1 0 hl_hb1 hy2 ?_
 refine t_N ?_
 intro h s σ hS hH
 obtain rfl := si_1 h
 exact aN_ [] (br_ (v := .str y2) hS rfl r_nil) rfl rfl hH
noncomputable def bG_ (a0 : ah_) : Option (ByteArray × ah_) := ((a3_ a0 (⟨false, [⟨#[97]⟩, ⟨#[98]⟩, ⟨#[97, 98]⟩, ⟨#[98, 97]⟩, ⟨#[97, 98, 99]⟩, ⟨#[40]⟩, ⟨#[41]⟩, ⟨#[40, 41]⟩, ⟨#[120]⟩, ⟨#[97, 97]⟩, ⟨#[99]⟩, ⟨#[34]⟩, ⟨#[97, 34, 98]⟩, ⟨#[0]⟩, ⟨#[120, 121]⟩, ⟨#[98, 99]⟩]⟩)).bind fun y1 => (some (y1.1, y1.2.1)))
theorem fG_ (a0 : ah_) (r : (ByteArray × ah_)) (h : bG_ a0 = some r) (bp0 : Nat) : RawS Tryz.prog md ext 50 [.ptr bp0 0 0 3] 0 (fun hs => E_str r.1) [.box bp0 (ah_.cells a0)] (fun hs => [.box bp0 (ah_.cells r.2)]) := by
 unfold bG_ at h
 refine b1_ rfl rfl ok_50 rfl ?_
 intro σ0 σ F σk s hS hH
 have hS := ad_ (L' := [(0, .ptr bp0 0 0 3)]) hS (by kernel_rfl)
 refine t_go h hS hH ?_
 refine t_RN ?_
 refine t_RU 1 ?_
 refine k_bs (z := true) (⟨false, [⟨#[97]⟩, ⟨#[98]⟩, ⟨#[97, 98]⟩, ⟨#[98, 97]⟩, ⟨#[97, 98, 99]⟩, ⟨#[40]⟩, ⟨#[41]⟩, ⟨#[40, 41]⟩, ⟨#[120]⟩, ⟨#[97, 97]⟩, ⟨#[99]⟩, ⟨#[34]⟩, ⟨#[97, 34, 98]⟩, ⟨#[0]⟩, ⟨#[120, 121]⟩, ⟨#[98, 99]⟩]⟩ : Sl ByteArray) (fun t1 ht1 => ?_)
 refine t_h Heap.up1 ?_
 refine aH_ (fun y1 hs hy1 hl => ?_) (hr := by exact fun y1 hy1 => cV_ _ _ y1 hy1 bp0 1 t1)
 obtain rfl := len0 hl
 refine bg_ ?_
 refine t_N ?_
 intro h s σ hS hH
 obtain rfl := si_1 h
 exact aN_ [] (br_ (v := .str y1.1) hS rfl r_nil) rfl rfl (Heap.sel hH [0, 2] rfl (by kernel_rfl))
noncomputable def bj_ (a0 : ah_) (a1 : (Sl (Iv .i64))) : Option (Int × ah_ × (Sl (Iv .i64))) := ((aE_ a0 (a1.l.length : Int)).bind fun y1 => ((elt a1 y1.1).bind fun y2 => (some (y2.v, y1.2, a1))))
theorem ef_ (a0 : ah_) (a1 : (Sl (Iv .i64))) (r : (Int × ah_ × (Sl (Iv .i64)))) (h : bj_ a0 a1 = some r) (bp0 : Nat) (wp1_1 : Nat) (p1_1 : T) : RawS Tryz.prog md ext 56 [.ptr bp0 0 0 3, p1_1] 0 (fun hs => E_i64 r.1) [.box bp0 (ah_.cells a0), .own true wp1_1 p1_1 a1.t] (fun hs => [.box bp0 (ah_.cells r.2.1), .own true wp1_1 p1_1 r.2.2.t]) := by
 unfold bj_ at h
 refine b1_ rfl rfl ok_56 rfl ?_
 intro σ0 σ F σk s hS hH
 have hp1_1 : ap_ p1_1 := Heap.one (hH.at 1 rfl)
 have hS := ad_ (L' := [(0, .ptr bp0 0 0 3), (1, p1_1)]) hS (by kernel_rfl)
 refine t_go h hS hH ?_
 refine t_RN ?_
 refine t_RU 3 ?_
 refine hi_ (a := a1) 1 ?_
 refine aH_ (fun y1 hs hy1 hl => ?_) (hr := by exact fun y1 hy1 => a8_ _ _ y1 hy1 bp0)
 obtain rfl := len0 hl
 refine bg_ ?_
 refine hh_ 1 (fun hb1 hb1e y2 hy2 hl_hb1 => ?_)
 refine i1_ 1 0 hl_hb1 hy2 ?_
 refine t_N ?_
 intro h s σ hS hH
 obtain rfl := si_1 h
 exact aN_ [] (br_ (v := i4 y2.v) hS rfl r_nil) rfl rfl hH
noncomputable def cc_ (a0 : ah_) : Option (ByteArray × ah_) := ((a3_ a0 (⟨false, [⟨#[120]⟩, ⟨#[121]⟩, ⟨#[122]⟩, ⟨#[80, 97, 116]⟩, ⟨#[97, 95, 49]⟩]⟩)).bind fun y1 => (some (y1.1, y1.2.1)))
theorem gb_ (a0 : ah_) (r : (ByteArray × ah_)) (h : cc_ a0 = some r) (bp0 : Nat) : RawS Tryz.prog md ext 58 [.ptr bp0 0 0 3] 0 (fun hs => E_str r.1) [.box bp0 (ah_.cells a0)] (fun hs => [.box bp0 (ah_.cells r.2)]) := by
 unfold cc_ at h
 refine b1_ rfl rfl ok_58 rfl ?_
 intro σ0 σ F σk s hS hH
 have hS := ad_ (L' := [(0, .ptr bp0 0 0 3)]) hS (by kernel_rfl)
 refine t_go h hS hH ?_
 refine t_RN ?_
 refine t_RU 1 ?_
 refine k_bs (z := true) (⟨false, [⟨#[120]⟩, ⟨#[121]⟩, ⟨#[122]⟩, ⟨#[80, 97, 116]⟩, ⟨#[97, 95, 49]⟩]⟩ : Sl ByteArray) (fun t1 ht1 => ?_)
 refine t_h Heap.up1 ?_
 refine aH_ (fun y1 hs hy1 hl => ?_) (hr := by exact fun y1 hy1 => cV_ _ _ y1 hy1 bp0 1 t1)
 obtain rfl := len0 hl
 refine bg_ ?_
 refine t_N ?_
 intro h s σ hS hH
 obtain rfl := si_1 h
 exact aN_ [] (br_ (v := .str y1.1) hS rfl r_nil) rfl rfl (Heap.sel hH [0, 2] rfl (by kernel_rfl))
noncomputable def ci_ (a0 : ah_) : Option (DPattern × ah_) := ((bj_ a0 (⟨false, [⟨1⟩, ⟨1⟩, ⟨1⟩, ⟨2⟩, ⟨3⟩, ⟨4⟩, ⟨5⟩, ⟨6⟩, ⟨6⟩, ⟨7⟩, ⟨8⟩, ⟨9⟩, ⟨10⟩, ⟨11⟩, ⟨12⟩, ⟨12⟩, ⟨13⟩, ⟨14⟩, ⟨15⟩, ⟨16⟩, ⟨17⟩, ⟨23⟩, ⟨24⟩, ⟨24⟩]⟩)).bind fun y1 => ((cf_ y1.1).bind fun y2 => (if (decide (y2.2 = (⟨#[115]⟩ : ByteArray))) = true then ((bG_ y1.2.1).bind fun y3 => (((if (decide (y1.1 = 1)) = true then ((aZ_ y3.2 4).bind fun y5 => (some (y5.1, y5.2.code_, y5.2.at_, y5.2.seed_))) else (some (false, y3.2.code_, y3.2.at_, y3.2.seed_))) : Option (Bool × (Sl (Iv .u8)) × Int × Int)).bind fun y4 => (if y4.1 = true then (some ((⟨y1.1, 0, ⟨#[]⟩, ⟨true, []⟩⟩ : DPattern), (⟨y4.2.1, y4.2.2.1, y4.2.2.2⟩ : ah_))) else (some ((⟨y1.1, 0, y3.1, ⟨true, []⟩⟩ : DPattern), (⟨y4.2.1, y4.2.2.1, y4.2.2.2⟩ : ah_)))))) else (if (decide (y2.2 = (⟨#[110]⟩ : ByteArray))) = true then ((aE_ y1.2.1 4).bind fun y6 => (some ((⟨y1.1, y6.1, ⟨#[]⟩, ⟨true, []⟩⟩ : DPattern), y6.2))) else (if (decide (y2.2 = (⟨#[120]⟩ : ByteArray))) = true then ((cc_ y1.2.1).bind fun y7 => (some ((⟨y1.1, 0, y7.1, ⟨true, []⟩⟩ : DPattern), y7.2))) else (some ((⟨y1.1, 0, ⟨#[]⟩, ⟨true, []⟩⟩ : DPattern), y1.2.1)))))))
theorem f6_ (a0 : ah_) (r : (DPattern × ah_)) (h : ci_ a0 = some r) (bp0 : Nat) : RawS Tryz.prog md ext 55 [.ptr bp0 0 0 3] Sh_DPattern.n (fun hs => Sh_DPattern.tree hs r.1) [.box bp0 (ah_.cells a0)] (fun hs => Sh_DPattern.en hs r.1 ++ [.box bp0 (ah_.cells r.2)]) := by
 unfold ci_ at h
 refine b1_ rfl rfl ok_55 rfl ?_
 intro σ0 σ F σk s hS hH
 have hS := ad_ (L' := [(0, .ptr bp0 0 0 3)]) hS (by kernel_rfl)
 refine t_go h hS hH ?_
 refine t_R ?_
 refine bS_ fun b1 => ?_
 refine t_N ?_
 refine t_RU 1 ?_
 refine k_bs (z := true) (⟨false, [⟨1⟩, ⟨1⟩, ⟨1⟩, ⟨2⟩, ⟨3⟩, ⟨4⟩, ⟨5⟩, ⟨6⟩, ⟨6⟩, ⟨7⟩, ⟨8⟩, ⟨9⟩, ⟨10⟩, ⟨11⟩, ⟨12⟩, ⟨12⟩, ⟨13⟩, ⟨14⟩, ⟨15⟩, ⟨16⟩, ⟨17⟩, ⟨23⟩, ⟨24⟩, ⟨24⟩]⟩ : Sl (Iv .i64)) (fun t1 ht1 => ?_)
 refine t_h Heap.up2 ?_
 refine aH_ (fun y1 hs hy1 hl => ?_) (hr := by exact fun y1 hy1 => ef_ _ _ y1 hy1 bp0 1 t1)
 obtain rfl := len0 hl
 refine bg_ ?_
 refine t_N ?_
 refine t_RU 2 ?_
 refine bS_ fun b2 => ?_
 refine aS_ 0 ?_
 refine t_N ?_
 refine t_RU 1 ?_
 refine aw_ fun y2 hy2 => ?_
 refine t_N ?_
 refine t_RN ?_
 refine t_RN ?_
 refine t_if (fun hc1 => ?_) fun hc1 => ?_
 ·refine t_RU 1 ?_
  refine t_h Heap.up1 ?_
  refine aH_ (fun y3 hs hy3 hl => ?_) (hr := by exact fun y3 hy3 => fG_ _ y3 hy3 bp0)
  obtain rfl := len0 hl
  refine bg_ ?_
  refine t_U 1 ?_
  refine aK_ 1 ?_
  refine t_N ?_
  refine et_ 0 (fun y4 e fr => e = .normal ∧ Sub [(2, .ptr b1 0 0 4), (4, .ptr b2 0 0 4), (28, .bool y4.1)] fr.s ∧ Heap σ0 fr.σ [.box b2 [i4 y1.1, i4 0, .str y3.1, (nt DPattern)], .box bp0 [y4.2.1.t, i4 y4.2.2.1, .int .u64 y4.2.2.2], .box b1 [i4 0, i4 0, .str ⟨#[]⟩, (nt DPattern)], .keep F σk]) (fun y4 e fr h HF => ?_) fun y4 => ?_
  ·obtain ⟨s, σ⟩ := fr
   obtain ⟨rfl, hS, hH⟩ := HF
   refine t_bx h hS hH ?_
   refine t_if (fun hc2 => ?_) fun hc2 => ?_
   ·refine t_RU 1 ?_
    refine aK_ 0 ?_
    refine t_N ?_
    refine t_R ?_
    refine ae_ 0 ?_
    refine aS_ 2 ?_
    refine t_N ?_
    intro h s σ hS hH
    obtain rfl := si_1 h
    have hH := Heap.addNil hH true 4
    exact aN_ [(T.row true 0 [])] (fO_ (v := .agg [i4 y1.1, i4 0, .str ⟨#[]⟩, (nt DPattern)]) hS (hH.at 1 rfl) rfl (by kernel_rfl) r_nil) rfl rfl (Heap.sel hH [0, 3, 4] rfl (by kernel_rfl))
   refine t_R ?_
   refine ae_ 0 ?_
   refine aS_ 2 ?_
   refine t_N ?_
   intro h s σ hS hH
   obtain rfl := si_1 h
   have hH := Heap.addNil hH true 4
   exact aN_ [(T.row true 0 [])] (fO_ (v := .agg [i4 y1.1, i4 0, .str y3.1, (nt DPattern)]) hS (hH.at 1 rfl) rfl (by kernel_rfl) r_nil) rfl rfl (Heap.sel hH [0, 3, 4] rfl (by kernel_rfl))
  refine t_RU 3 ?_
  refine aO_ 25 (fun hc3 => ?_) fun hc3 => ?_
  ·refine t_U 1 ?_
   refine t_h Heap.up1 ?_
   refine aH_ (fun y5 hs hy5 hl => ?_) (hr := by exact fun y5 hy5 => cE_ _ _ y5 hy5 bp0)
   obtain rfl := len0 hl
   refine bg_ ?_
   refine t_N ?_
   exact t_e fun he hS hH => he ▸ ⟨rfl, (ad_ hS (by kernel_rfl)), (Heap.sel hH [1, 0, 3, 4] rfl (by kernel_rfl))⟩
  refine t_N ?_
  exact t_e fun he hS hH => he ▸ ⟨rfl, (ad_ hS (by kernel_rfl)), (Heap.sel hH [0, 1, 3, 4] rfl (by kernel_rfl))⟩
 refine t_RN ?_
 refine t_if (fun hc4 => ?_) fun hc4 => ?_
 ·refine t_RU 1 ?_
  refine t_h Heap.up1 ?_
  refine aH_ (fun y6 hs hy6 hl => ?_) (hr := by exact fun y6 hy6 => a8_ _ _ y6 hy6 bp0)
  obtain rfl := len0 hl
  refine bg_ ?_
  refine t_U 1 ?_
  refine aK_ 1 ?_
  refine t_N ?_
  refine t_R ?_
  refine ae_ 0 ?_
  refine aS_ 3 ?_
  refine t_N ?_
  intro h s σ hS hH
  obtain rfl := si_1 h
  have hH := Heap.addNil hH true 4
  exact aN_ [(T.row true 0 [])] (fO_ (v := .agg [i4 y1.1, i4 y6.1, .str ⟨#[]⟩, (nt DPattern)]) hS (hH.at 1 rfl) rfl (by kernel_rfl) r_nil) rfl rfl (Heap.sel hH [0, 3, 5] rfl (by kernel_rfl))
 refine t_RN ?_
 refine t_if (fun hc5 => ?_) fun hc5 => ?_
 ·refine t_RU 1 ?_
  refine t_h Heap.up1 ?_
  refine aH_ (fun y7 hs hy7 hl => ?_) (hr := by exact fun y7 hy7 => gb_ _ y7 hy7 bp0)
  obtain rfl := len0 hl
  refine bg_ ?_
  refine t_U 1 ?_
  refine aK_ 1 ?_
  refine t_N ?_
  refine t_R ?_
  refine ae_ 0 ?_
  refine aS_ 3 ?_
  refine t_N ?_
  intro h s σ hS hH
  obtain rfl := si_1 h
  have hH := Heap.addNil hH true 4
  exact aN_ [(T.row true 0 [])] (fO_ (v := .agg [i4 y1.1, i4 0, .str y7.1, (nt DPattern)]) hS (hH.at 1 rfl) rfl (by kernel_rfl) r_nil) rfl rfl (Heap.sel hH [0, 3, 5] rfl (by kernel_rfl))
 refine t_R ?_
 refine ae_ 0 ?_
 refine aS_ 3 ?_
 refine t_N ?_
 intro h s σ hS hH
 obtain rfl := si_1 h
 have hH := Heap.addNil hH true 4
 exact aN_ [(T.row true 0 [])] (fO_ (v := .agg [i4 y1.1, i4 0, .str ⟨#[]⟩, (nt DPattern)]) hS (hH.at 1 rfl) rfl (by kernel_rfl) r_nil) rfl rfl (Heap.sel hH [0, 3, 5] rfl (by kernel_rfl))
def ei_ (R : ah_ → Int → Option (DPattern × ah_)) : Prop := ∀ (a0 : ah_) (a1 : Int) (r : (DPattern × ah_)), R a0 a1 = some r → ∀ (bp0 : Nat), RawS Tryz.prog md ext 36 [.ptr bp0 0 0 3, i4 a1] Sh_DPattern.n (fun hs => Sh_DPattern.tree hs r.1) [.box bp0 (ah_.cells a0)] (fun hs => Sh_DPattern.en hs r.1 ++ [.box bp0 (ah_.cells r.2)])
noncomputable def bF_ (R_36 : ah_ → Int → Option (DPattern × ah_)) (a0 : ah_) (a1 : Int) : Option (DPattern × ah_) := (if (decide (a1 ≤ 0)) = true then ((ci_ a0).bind fun y1 => (some (y1.1, y1.2))) else ((aZ_ a0 4).bind fun y2 => (if y2.1 = true then ((ci_ y2.2).bind fun y3 => (some (y3.1, y3.2))) else ((bj_ y2.2 (⟨false, [⟨18⟩, ⟨18⟩, ⟨19⟩, ⟨19⟩, ⟨19⟩, ⟨20⟩, ⟨21⟩, ⟨22⟩]⟩)).bind fun y4 => ((cf_ y4.1).bind fun y5 => ((aA_ (S := (Int × (Sl (Iv .u8)) × Int × Int × (Sl DPattern))) (R := ((Sl (Iv .u8)) × Int × Int × (Sl DPattern))) (fun st1 => (if (decide (st1.1 < y5.1)) = true then ((R_36 (⟨st1.2.1, st1.2.2.1, st1.2.2.2.1⟩ : ah_) (w4 (a1 - 1))).bind fun y7 => ((appS 56 st1.2.2.2.2 (⟨false, [y7.1]⟩ : Sl DPattern)).bind fun y8 => (some (.inl ((w4 (st1.1 + 1)), y7.2.code_, y7.2.at_, y7.2.seed_, y8))))) else (some (.inr (st1.2.1, st1.2.2.1, st1.2.2.2.1, st1.2.2.2.2))))) (0, y4.2.1.code_, y4.2.1.at_, y4.2.1.seed_, (⟨true, []⟩ : Sl DPattern))).bind fun y6 => (if (decide (y5.2 = (⟨#[120]⟩ : ByteArray))) = true then ((cc_ (⟨y6.1, y6.2.1, y6.2.2.1⟩ : ah_)).bind fun y9 => (some ((⟨y4.1, 0, y9.1, y6.2.2.2⟩ : DPattern), y9.2))) else (some ((⟨y4.1, 0, ⟨#[]⟩, y6.2.2.2⟩ : DPattern), (⟨y6.1, y6.2.1, y6.2.2.1⟩ : ah_))))))))))
theorem ia_ (R_36 : ah_ → Int → Option (DPattern × ah_)) (hR_36 : ei_ R_36) : ei_ (bF_ R_36) := by
 intro a0 a1 r h bp0
 unfold bF_ at h
 refine b1_ rfl rfl ok_36 rfl ?_
 intro σ0 σ F σk s hS hH
 have hS := ad_ (L' := [(0, .ptr bp0 0 0 3), (1, i4 a1)]) hS (by kernel_rfl)
 refine t_go h hS hH ?_
 refine t_R ?_
 refine bS_ fun b1 => ?_
 refine t_N ?_
 refine t_RU 3 ?_
 refine aO_ 12 (fun hc1 => ?_) fun hc1 => ?_
 ·refine t_N ?_
  refine t_cT rfl ?_
  refine t_RU 1 ?_
  refine t_h Heap.up1 ?_
  refine aH_ (fun y1 hs hy1 hl => ?_) (hr := by exact fun y1 hy1 => f6_ _ y1 hy1 bp0)
  obtain ⟨t1, rfl⟩ := len1 hl
  refine bg_ ?_
  refine av_ 0 fun ht1 => ?_
  refine aS_ 2 ?_ (h1 := by simp [ht1.1, ht1.2])
  refine t_N ?_
  intro h s σ hS hH
  obtain rfl := si_1 h
  exact aN_ [t1] (fO_ (v := .agg [i4 y1.1.Kind, i4 y1.1.Num, .str y1.1.Text, t1]) hS hH rfl (by kernel_rfl) r_nil) rfl rfl (Heap.sel hH [1, 2, 3] rfl (by kernel_rfl))
 refine t_U 1 ?_
 refine t_h Heap.up1 ?_
 refine aH_ (fun y2 hs hy2 hl => ?_) (hr := by exact fun y2 hy2 => cE_ _ _ y2 hy2 bp0)
 obtain rfl := len0 hl
 refine bg_ ?_
 refine t_N ?_
 refine t_if (fun hc2 => ?_) fun hc2 => ?_
 ·refine t_RU 1 ?_
  refine aH_ (fun y3 hs hy3 hl => ?_) (hr := by exact fun y3 hy3 => f6_ _ y3 hy3 bp0)
  obtain ⟨t2, rfl⟩ := len1 hl
  refine bg_ ?_
  refine av_ 0 fun ht2 => ?_
  refine aS_ 2 ?_ (h1 := by simp [ht2.1, ht2.2])
  refine t_N ?_
  intro h s σ hS hH
  obtain rfl := si_1 h
  exact aN_ [t2] (fO_ (v := .agg [i4 y3.1.Kind, i4 y3.1.Num, .str y3.1.Text, t2]) hS hH rfl (by kernel_rfl) r_nil) rfl rfl (Heap.sel hH [1, 2, 3] rfl (by kernel_rfl))
 refine t_RU 1 ?_
 refine k_bs (z := true) (⟨false, [⟨18⟩, ⟨18⟩, ⟨19⟩, ⟨19⟩, ⟨19⟩, ⟨20⟩, ⟨21⟩, ⟨22⟩]⟩ : Sl (Iv .i64)) (fun t3 ht3 => ?_)
 refine t_h Heap.up1 ?_
 refine aH_ (fun y4 hs hy4 hl => ?_) (hr := by exact fun y4 hy4 => ef_ _ _ y4 hy4 bp0 1 t3)
 obtain rfl := len0 hl
 refine bg_ ?_
 refine t_N ?_
 refine t_RU 2 ?_
 refine bS_ fun b2 => ?_
 refine aS_ 0 ?_
 refine t_N ?_
 refine t_RU 1 ?_
 refine aw_ fun y5 hy5 => ?_
 refine t_N ?_
 refine t_RN ?_
 refine t_h (Heap.addNil · true 4) ?_
 refine a4_ (fun st1 fr => ∃ t5, ap_ t5 ∧ Sub [(0, .ptr bp0 0 0 3), (1, i4 a1), (4, .ptr b1 0 0 4), (6, .ptr b2 0 0 4), (7, i4 y5.1), (8, .str y5.2), (9, i4 st1.1)] fr.s ∧ Heap σ0 fr.σ [.box b2 [i4 y4.1, i4 0, .str ⟨#[]⟩, t5], .box bp0 [st1.2.1.t, i4 st1.2.2.1, .int .u64 st1.2.2.2.1], .box b1 [i4 0, i4 0, .str ⟨#[]⟩, (nt DPattern)], .own true 4 t5 st1.2.2.2.2.t, .keep F σk]) (fun y6 e fr => ∃ t6, ap_ t6 ∧ e = (.exit 0) ∧ Sub [(0, .ptr bp0 0 0 3), (4, .ptr b1 0 0 4), (6, .ptr b2 0 0 4), (8, .str y5.2)] fr.s ∧ Heap σ0 fr.σ [.box b2 [i4 y4.1, i4 0, .str ⟨#[]⟩, t6], .box bp0 [y6.1.t, i4 y6.2.1, .int .u64 y6.2.2.1], .box b1 [i4 0, i4 0, .str ⟨#[]⟩, (nt DPattern)], .own true 4 t6 y6.2.2.2.t, .keep F σk]) (fun hS hH => ⟨(T.row true 0 []), ⟨rfl, rfl⟩, (ad_ hS (by kernel_rfl)), (Heap.sel hH [1, 2, 4, 0, 5] rfl (by kernel_rfl))⟩) (fun st1 x fr h HI => ?_) fun y6 e fr h HF => ?_
 ·obtain ⟨s, σ⟩ := fr; obtain ⟨t5, ht5, ⟨hS, hH⟩⟩ := HI
  refine t_bk h hS hH ?_
  refine t_RN ?_
  refine t_if (fun hc3 => ?_) fun hc3 => ?_
  ·refine a9_ [(5, (RB b2 RN)), (7, RN), (9, RN)] ext_x fun mb σs hn0 hlt hlto => ?_
   have hlt_b2 : b2 < mb := hlt b2 _ (List.Mem.head _)
   refine t_U 1 ?_
   refine ae_ 0 ?_ (hlt := by exact (Or.inr ⟨hlt_b2, (Wc.cons (.inr (Or.inl rfl)) (Wc.cons (.inl (by kernel_rfl)) (Wc.cons (.inl (by kernel_rfl)) Wc.nil)))⟩))
   refine t_U 3 ?_
   refine t_h Heap.up1 ?_
   refine dp_ (RB b2 RN) ext_x (Stay.box (List.Mem.head _) Stay.nil) (by exact fun x hx => Or.inr ⟨5, by kernel_rfl, hx⟩) (fun y7 hs hy7 hl => ?_) (hr := by exact fun y7 hy7 => hR_36 _ _ y7 hy7 bp0)
   obtain ⟨t7, rfl⟩ := len1 hl
   refine bg_ ?_
   refine av_ 0 fun ht7 => ?_
   refine k_bs (z := true) (⟨false, [y7.1]⟩ : Sl DPattern) (fun t8 ht8 => ?_) (hb := by exact hn0) (h1 := by simp [ht7.1, ht7.2])
   refine jZ_ 4 0 (fun y8 t9 hy8 ht9 => ?_) (hb := by exact hn0) (hwr := by exact fun hH b e o n h0 => Or.inr ⟨7, by kernel_rfl, fun h => h⟩)
   refine t_U 1 ?_
   refine bM_ 2 ht9 ?_ (hwr := by exact fun hH => Or.inr ⟨9, by kernel_rfl, fun h => h⟩)
   refine t_N ?_
   refine t_RN ?_
   exact t_e fun he hS hH => he ▸ ⟨t9, ht9, (ad_ hS (by kernel_rfl)), (Heap.sel hH [0, 2, 3, 1, 4] rfl (by kernel_rfl))⟩
  exact t_e fun he hS hH => he ▸ ⟨t5, ht5, rfl, (ad_ hS (by kernel_rfl)), hH⟩
 obtain ⟨s, σ⟩ := fr
 obtain ⟨t6, ht6, ⟨rfl, hS, hH⟩⟩ := HF
 refine t_bx h hS hH ?_
 refine t_RN ?_
 refine t_if (fun hc4 => ?_) fun hc4 => ?_
 ·refine t_RU 1 ?_
  refine t_h Heap.up1 ?_
  refine aH_ (fun y9 hs hy9 hl => ?_) (hr := by exact fun y9 hy9 => gb_ _ y9 hy9 bp0)
  obtain rfl := len0 hl
  refine bg_ ?_
  refine t_U 1 ?_
  refine aK_ 1 ?_
  refine t_N ?_
  refine t_R ?_
  refine ae_ 0 ?_
  refine aS_ 2 ?_ (h1 := by simp [ht6.1, ht6.2])
  refine t_N ?_
  intro h s σ hS hH
  obtain rfl := si_1 h
  exact aN_ [t6] (fO_ (v := .agg [i4 y4.1, i4 0, .str y9.1, t6]) hS hH rfl (by kernel_rfl) r_nil) rfl rfl (Heap.sel hH [3, 2, 4] rfl (by kernel_rfl))
 refine t_R ?_
 refine ae_ 0 ?_
 refine aS_ 2 ?_ (h1 := by simp [ht6.1, ht6.2])
 refine t_N ?_
 intro h s σ hS hH
 obtain rfl := si_1 h
 exact aN_ [t6] (fO_ (v := .agg [i4 y4.1, i4 0, .str ⟨#[]⟩, t6]) hS hH rfl (by kernel_rfl) r_nil) rfl rfl (Heap.sel hH [3, 2, 4] rfl (by kernel_rfl))
noncomputable def BG_spec_l11Draw : Nat → (ah_ → Int → Option (DPattern × ah_))
 | 0 => (fun _ _ => none)
 | n + 1 => bF_ (BG_spec_l11Draw n)
theorem uBG_spec_l11Draw : ∀ n, ei_ ((BG_spec_l11Draw n))
 | 0 => (by intro _ _ r h; have h : none = some r := h; cases h)
 | n + 1 => ia_ (BG_spec_l11Draw n) (uBG_spec_l11Draw n)
noncomputable def ce_ (a0 : ah_) (a1 : Int) : Option (DPattern × ah_) := (BG_spec_l11Draw bigN) a0 a1
theorem ga_ (a0 : ah_) (a1 : Int) (r : (DPattern × ah_)) (h : ce_ a0 a1 = some r) (bp0 : Nat) : RawS Tryz.prog md ext 36 [.ptr bp0 0 0 3, i4 a1] Sh_DPattern.n (fun hs => Sh_DPattern.tree hs r.1) [.box bp0 (ah_.cells a0)] (fun hs => Sh_DPattern.en hs r.1 ++ [.box bp0 (ah_.cells r.2)]) := (uBG_spec_l11Draw bigN) a0 a1 r h bp0
noncomputable def b2_ (a0 : ah_) : Option ((Sl DNamed) × ah_) := ((aA_ (S := (Int × (Sl (Iv .u8)) × Int × Int × (Sl DNamed))) (R := ((Sl (Iv .u8)) × Int × Int × (Sl DNamed))) (fun st1 => (if (decide (st1.1 < 5)) = true then ((aZ_ (⟨st1.2.1, st1.2.2.1, st1.2.2.2.1⟩ : ah_) 3).bind fun y2 => (if (!y2.1) = true then ((elt (⟨false, [⟨#[120]⟩, ⟨#[121]⟩, ⟨#[122]⟩, ⟨#[80, 97, 116]⟩, ⟨#[97, 95, 49]⟩]⟩ : Sl ByteArray) st1.1).bind fun y3 => ((aE_ y2.2 4).bind fun y4 => ((ce_ y4.2 y4.1).bind fun y5 => ((appS 72 st1.2.2.2.2 (⟨false, [(⟨y3, y5.1⟩ : DNamed)]⟩ : Sl DNamed)).bind fun y6 => (some (.inl ((w4 (st1.1 + 1)), y5.2.code_, y5.2.at_, y5.2.seed_, y6))))))) else (some (.inl ((w4 (st1.1 + 1)), y2.2.code_, y2.2.at_, y2.2.seed_, st1.2.2.2.2))))) else (some (.inr (st1.2.1, st1.2.2.1, st1.2.2.2.1, st1.2.2.2.2))))) (0, a0.code_, a0.at_, a0.seed_, (⟨false, []⟩ : Sl DNamed))).bind fun y1 => (some (y1.2.2.2, (⟨y1.1, y1.2.1, y1.2.2.1⟩ : ah_))))
theorem jn_ (a0 : ah_) (r : ((Sl DNamed) × ah_)) (h : b2_ a0 = some r) (bp0 : Nat) : RawS Tryz.prog md ext 34 [.ptr bp0 0 0 3] Sh_sl_DNamed.n (fun hs => Sh_sl_DNamed.tree hs r.1) [.box bp0 (ah_.cells a0)] (fun hs => Sh_sl_DNamed.en hs r.1 ++ [.box bp0 (ah_.cells r.2)]) := by
 unfold b2_ at h
 refine b1_ rfl rfl ok_34 rfl ?_
 intro σ0 σ F σk s hS hH
 have hS := ad_ (L' := [(0, .ptr bp0 0 0 3)]) hS (by kernel_rfl)
 refine t_go h hS hH ?_
 refine t_RN ?_
 refine t_R ?_
 refine hM_ (α := DNamed) (fun t1 ht1 => ?_)
 refine t_N ?_
 refine t_R ?_
 refine k_bs (z := true) (⟨false, [⟨#[120]⟩, ⟨#[121]⟩, ⟨#[122]⟩, ⟨#[80, 97, 116]⟩, ⟨#[97, 95, 49]⟩]⟩ : Sl ByteArray) (fun t2 ht2 => ?_)
 refine t_N ?_
 refine t_RN ?_
 refine a4_ (fun st1 fr => ∃ t4, ap_ t4 ∧ Sub [(0, .ptr bp0 0 0 3), (3, t4), (4, t2), (5, i4 st1.1)] fr.s ∧ Heap σ0 fr.σ [.box bp0 [st1.2.1.t, i4 st1.2.2.1, .int .u64 st1.2.2.2.1], .own true 5 t4 st1.2.2.2.2.t, .own true 1 t2 (Sl.t (⟨false, [⟨#[120]⟩, ⟨#[121]⟩, ⟨#[122]⟩, ⟨#[80, 97, 116]⟩, ⟨#[97, 95, 49]⟩]⟩ : Sl ByteArray)), .keep F σk]) (fun y1 e fr => ∃ t5, ap_ t5 ∧ e = (.exit 0) ∧ Sub [(3, t5)] fr.s ∧ Heap σ0 fr.σ [.box bp0 [y1.1.t, i4 y1.2.1, .int .u64 y1.2.2.1], .own true 5 t5 y1.2.2.2.t, .keep F σk]) (fun hS hH => ⟨t1, ht1, (ad_ hS (by kernel_rfl)), (Heap.sel hH [2, 1, 0, 3] rfl (by kernel_rfl))⟩) (fun st1 x fr h HI => ?_) fun y1 e fr h HF => ?_
 ·obtain ⟨s, σ⟩ := fr; obtain ⟨t4, ht4, ⟨hS, hH⟩⟩ := HI
  refine t_bk h hS hH ?_
  refine t_RN ?_
  refine t_if (fun hc1 => ?_) fun hc1 => ?_
  ·refine t_RU 1 ?_
   refine aH_ (fun y2 hs hy2 hl => ?_) (hr := by exact fun y2 hy2 => cE_ _ _ y2 hy2 bp0)
   obtain rfl := len0 hl
   refine bg_ ?_
   refine t_N ?_
   refine t_if (fun hc2 => ?_) fun hc2 => ?_
   ·refine a9_ [(7, (RT t2 RN)), (8, (RT t2 RN)), (11, RN)] ext_x fun mb σs hn0 hlt hlto => ?_
    have hlt_t2 : ∀ b e o n, t2 = .ref b e o n → b < mb := fun b e o n h => hlto _ _ _ _ (List.Mem.tail _ (List.Mem.tail _ (List.Mem.head _))) b e o n h
    refine t_U 3 ?_
    refine hh_ 2 (fun hb1 hb1e y3 hy3 hl_hb1 => ?_) (hlt := by exact (fun b e o n h => Or.inr ⟨hlt_t2 b e o n h, (Wc.cons (.inr (Or.inl ⟨_, _, _, h⟩)) (Wc.cons (.inr (Or.inl ⟨_, _, _, h⟩)) (Wc.cons (.inl (by kernel_rfl)) Wc.nil)))⟩))
    refine i1_ 2 0 hl_hb1 hy3 ?_ (hlt := by exact (fun b e o n h => Or.inr ⟨hlt_t2 b e o n h, (Wc.cons (.inr (Or.inl ⟨_, _, _, h⟩)) (Wc.cons (.inr (Or.inl ⟨_, _, _, h⟩)) (Wc.cons (.inl (by kernel_rfl)) Wc.nil)))⟩))
    refine t_U 2 ?_
    refine dp_ (RT t2 RN) ext_x (Stay.own (List.Mem.tail _ (List.Mem.head _)) Stay.nil) (by exact fun x hx => Or.inr ⟨7, by kernel_rfl, hx⟩) (fun y4 hs hy4 hl => ?_) (hr := by exact fun y4 hy4 => a8_ _ _ y4 hy4 bp0)
    obtain rfl := len0 hl
    refine bg_ ?_
    refine dp_ (RT t2 RN) ext_x (Stay.own (List.Mem.tail _ (List.Mem.head _)) Stay.nil) (by exact fun x hx => Or.inr ⟨8, by kernel_rfl, hx⟩) (fun y5 hs hy5 hl => ?_) (hr := by exact fun y5 hy5 => ga_ _ _ y5 hy5 bp0)
    obtain ⟨t6, rfl⟩ := len1 hl
    refine bg_ ?_
    refine av_ 0 fun ht6 => ?_
    intro h s σ hS hH
    refine kU_ (qs := [(0, .str y3), (1, .agg [i4 y5.1.Kind, i4 y5.1.Num, .str y5.1.Text, t6])]) (z := [.str ⟨#[]⟩, i4 0, i4 0, .str ⟨#[]⟩, (nt DPattern)]) (r := [.str y3, i4 y5.1.Kind, i4 y5.1.Num, .str y5.1.Text, t6]) [[.str y3], [i4 y5.1.Kind, i4 y5.1.Num, .str y5.1.Text, t6]] rfl hS rfl (by kernel_rfl) (by kernel_rfl) (⟨rfl, (by kernel_rfl), rfl, (by simp [ht6.1, ht6.2]), trivial⟩) (by kernel_rfl) ?_; intro s hS
    refine t_bk h hS hH ?_
    refine k_bs (z := true) (⟨false, [(⟨y3, y5.1⟩ : DNamed)]⟩ : Sl DNamed) (fun t7 ht7 => ?_) (hb := by exact hn0) (h1 := by simp [ht6.1, ht6.2])
    refine jZ_ 2 0 (fun y6 t8 hy6 ht8 => ?_) (hb := by exact hn0) (hwr := by exact fun hH b e o n h0 => Or.inr ⟨11, by kernel_rfl, fun h => h⟩)
    refine t_N ?_
    refine t_RN ?_
    exact t_e fun he hS hH => he ▸ ⟨t8, ht8, (ad_ hS (by kernel_rfl)), (Heap.sel hH [1, 0, 2, 3] rfl (by kernel_rfl))⟩
   refine t_RN ?_
   exact t_e fun he hS hH => he ▸ ⟨t4, ht4, (ad_ hS (by kernel_rfl)), hH⟩
  exact t_e fun he hS hH => he ▸ ⟨t4, ht4, rfl, (ad_ hS (by kernel_rfl)), (Heap.sel hH [0, 1, 3] rfl (by kernel_rfl))⟩
 obtain ⟨s, σ⟩ := fr
 obtain ⟨t5, ht5, ⟨rfl, hS, hH⟩⟩ := HF
 refine t_bx h hS hH ?_
 refine t_RN ?_
 intro h s σ hS hH
 obtain rfl := si_1 h
 exact aN_ [t5] (br_ (v := t5) hS rfl r_nil) rfl rfl (Heap.sel hH [1, 0, 2] rfl (by kernel_rfl))
noncomputable def dI_ (a0 : (Sl (Iv .u8))) : Option (Sl DNamed) := ((b2_ (⟨a0, 0, 0⟩ : ah_)).bind fun y1 => ((aA_ (S := (Int × (Sl DNamed))) (R := (Sl DNamed)) (fun st1 => (if (decide (st1.1 < (st1.2.l.length : Int))) = true then ((elt st1.2 st1.1).bind fun y3 => ((bv_ y3.Pattern).bind fun y4 => ((elt st1.2 st1.1).bind fun y5 => (some (.inl ((w4 (st1.1 + 1)), (setS st1.2 st1.1 ((⟨y5.Name, y4⟩ : DNamed) : DNamed)))))))) else (some (.inr st1.2)))) (0, y1.1)).bind fun y2 => (some y2)))
theorem hs_ (a0 : (Sl (Iv .u8))) (r : (Sl DNamed)) (h : dI_ a0 = some r) : dM_ a0 = some r := by
 unfold dI_ at h
 refine k_W ok_10 E_sl_DNamed_inj h (fun σ0 => ?_)
 refine t_RN ?_
 refine t_RU 1 ?_
 refine dF_ ok_33 ?_
 refine t_RN ?_
 refine t_RU 2 ?_
 refine cm_ (fun b1 => ?_)
 refine t_N ?_
 refine k_eI (rT rN) ?_
 refine t_N ?_
 refine t_RU 1 ?_
 refine aH_ (fun y1 hs hy1 hl => ?_) (hr := by exact fun y1 hy1 => jn_ _ y1 hy1 b1)
 obtain ⟨t1, rfl⟩ := len1 hl
 refine bg_ ?_
 refine av_ 0 fun ht1 => ?_
 refine t_N ?_
 refine t_RN ?_
 refine a4_ (fun st1 fr => Sub [(4, t1), (5, i4 st1.1)] fr.s ∧ Heap σ0 fr.σ [.own true 5 t1 st1.2.t]) (fun y2 e fr => e = (.exit 0) ∧ Sub [(4, t1)] fr.s ∧ Heap σ0 fr.σ [.own true 5 t1 y2.t]) (fun hS hH => ⟨(ad_ hS (by kernel_rfl)), (Heap.sel hH [0] rfl (by kernel_rfl))⟩) (fun st1 x fr h HI => ?_) fun y2 e fr h HF => ?_
 ·obtain ⟨s, σ⟩ := fr; obtain ⟨hS, hH⟩ := HI
  refine t_bk h hS hH ?_
  refine t_RU 2 ?_
  refine hi_ (a := st1.2) 0 ?_
  refine t_N ?_
  refine t_if (fun hc1 => ?_) fun hc1 => ?_
  ·refine t_RU 4 ?_
   refine hh_ 0 (fun hb1 hb1e y3 hy3 hl_hb1 => ?_)
   refine t_U 1 ?_
   intro h s σ hS hH
   refine o0_ (a := st1.2) (j := st1.1) (y := y3) (o0 := 1) (sz := 4) (off := 4) (c := [.str y3.Name, i4 y3.Pattern.Kind, i4 y3.Pattern.Num, .str y3.Pattern.Text, y3.Pattern.Kids.t]) (q := (y3.Pattern.Kids : Sl DPattern)) (fun _ _ _ _ _ => trivial) rfl hS hH hl_hb1 rfl hy3 rfl (by kernel_rfl) (by kernel_rfl) rfl (by kernel_rfl) (by kernel_rfl) (by kernel_rfl) (by kernel_rfl) (by kernel_rfl) (by kernel_rfl) ?_; intro F1 σk1 t2 s ht2 hH hcl1 hcl1s hcl1p hcl1k hcl1f hS
   refine t_bk h hS hH ?_
   refine d5_ (fun y4 t3 hy4 ht3 => ?_)
   refine t_h (·.up2.up2) ?_
   intro h s σ hS hH
   have hH := hcl1s _ _ hH
   have hH : Heap σ0 σ [.own true 5 t1 st1.2.t, .own true 4 t3 y4.Kids.t] := hH
   refine t_bk h hS hH ?_
   refine hh_ 0 (fun hb2 hb2e y5 hy5 hl_hb2 => ?_)
   refine t_U 1 ?_
   intro h s σ hS hH
   refine oA_ (ents := [.own true 4 t3 y4.Kids.t]) (a := st1.2) (j := st1.1) (y := y5) (y' := ((⟨y5.Name, y4⟩ : DNamed) : DNamed)) (off := 1) (c := [.str y5.Name, i4 y5.Pattern.Kind, i4 y5.Pattern.Num, .str y5.Pattern.Text, y5.Pattern.Kids.t]) (us := [i4 y4.Kind, i4 y4.Num, .str y4.Text, t3]) (vs := [i4 y4.Kind, i4 y4.Num, .str y4.Text, y4.Kids.t]) (v := .agg [i4 y4.Kind, i4 y4.Num, .str y4.Text, t3]) rfl hS hH hl_hb2 rfl rfl rfl (by simp [ht3.1, ht3.2]) (by kernel_rfl) rfl hy5 rfl (HLi (HLi (HLs (HL.own rfl HL.nil)))) rfl (by kernel_rfl) ?_; intro σ s hH hS
   refine t_bk h hS hH ?_
   refine t_N ?_
   refine t_RN ?_
   exact t_e fun he hS hH => he ▸ ⟨(ad_ hS (by kernel_rfl)), hH⟩
  exact t_e fun he hS hH => he ▸ ⟨rfl, (ad_ hS (by kernel_rfl)), hH⟩
 obtain ⟨s, σ⟩ := fr
 obtain ⟨rfl, hS, hH⟩ := HF
 refine t_bx h hS hH ?_
 refine t_RN ?_
 intro h s σ hS hH
 obtain rfl := si_1 h
 exact oX_ (ents := [.own true 5 t1 y2.t]) (z := false) hH (br_ (v := t1) hS rfl r_nil) (HL.own rfl HL.nil) (by simp [pureT, pureL, E_sl_DNamed])
noncomputable def fh_ (a0 : (Sl (Iv .u8))) : Option DPattern := ((aE_ (⟨a0, 0, 0⟩ : ah_) 3).bind fun y1 => ((ce_ y1.2 y1.1).bind fun y2 => ((bv_ y2.1).bind fun y3 => (some y3))))
theorem i9_ (a0 : (Sl (Iv .u8))) (r : DPattern) (h : fh_ a0 = some r) : dY_ a0 = some r := by
 unfold fh_ at h
 refine k_W ok_11 E_DPattern_inj h (fun σ0 => ?_)
 refine t_R ?_
 refine bS_ fun b1 => ?_
 refine t_N ?_
 refine t_RU 1 ?_
 refine dF_ ok_33 ?_
 refine t_RN ?_
 refine t_RU 2 ?_
 refine cm_ (fun b2 => ?_)
 refine t_N ?_
 refine k_eI (rT rN) ?_
 refine t_N ?_
 refine t_RU 2 ?_
 refine aH_ (fun y1 hs hy1 hl => ?_) (hr := by exact fun y1 hy1 => a8_ _ _ y1 hy1 b2)
 obtain rfl := len0 hl
 refine bg_ ?_
 refine aH_ (fun y2 hs hy2 hl => ?_) (hr := by exact fun y2 hy2 => ga_ _ _ y2 hy2 b2)
 obtain ⟨t1, rfl⟩ := len1 hl
 refine bg_ ?_
 refine av_ 0 fun ht1 => ?_
 refine d5_ (fun y3 t2 hy3 ht2 => ?_)
 refine aS_ 3 ?_ (h1 := by simp [ht2.1, ht2.2])
 refine t_N ?_
 intro h s σ hS hH
 obtain rfl := si_1 h
 have hH := hH.up1
 exact oX_ (ents := [.own true 4 t2 y3.Kids.t]) (z := false) hH (fO_ (v := .agg [i4 y3.Kind, i4 y3.Num, .str y3.Text, t2]) hS (hH.at 1 rfl) rfl (by kernel_rfl) r_nil) (HL.agg (es1 := [.own true 4 t2 y3.Kids.t]) (es2 := []) (HLi (HLi (HLs (HL.own rfl HL.nil)))) HL.nil) (by simp [pureT, pureL, E_DPattern])
noncomputable def fN_ (a0 : Int) (a1 : (Sl (Iv .u8))) : Option (Sl (Iv .u8)) := ((appS 1 ((⟨false, [⟨(IntKind.u8.wrap a0)⟩]⟩ : Sl (Iv .u8))) a1).bind fun y1 => (some y1))
theorem kz_ (a0 : Int) (a1 : (Sl (Iv .u8))) (r : (Sl (Iv .u8))) (h : fN_ a0 a1 = some r) : dz_ a0 a1 = some r := by
 unfold fN_ at h
 refine k_W ok_12 E_sl_u8_inj h (fun σ0 => ?_)
 refine t_RN ?_
 refine t_RU 2 ?_
 refine k_bs (z := true) (⟨false, [⟨(IntKind.u8.wrap a0)⟩]⟩ : Sl (Iv .u8)) (fun t1 ht1 => ?_)
 refine t_U 1 ?_
 refine nN_ 0 (fun y1 t2 hy1 ht2 => ?_)
 refine t_N ?_
 intro h s σ hS hH
 obtain rfl := si_1 h
 exact oX_ (ents := [.own true 1 t2 y1.t]) (z := false) hH (br_ (v := t2) hS rfl r_nil) (HL.own rfl HL.nil) (by simp [pureT, pureL, E_sl_u8])
noncomputable def bU_ (a0 : ah_) : Option (ByteArray × ah_) := ((aZ_ a0 4).bind fun y1 => (if y1.1 = true then ((a3_ y1.2 (⟨false, [⟨#[]⟩, ⟨#[97]⟩, ⟨#[97, 98]⟩, ⟨#[40, 97, 41, 40, 98, 41]⟩, ⟨#[40, 40, 97, 41, 98, 41]⟩, ⟨#[97, 97, 97, 97]⟩, ⟨#[97, 98, 99, 97, 98, 99]⟩, ⟨#[120, 40, 121]⟩, ⟨#[41, 40]⟩, ⟨#[97, 98, 34, 99]⟩]⟩)).bind fun y2 => (some (y2.1, y2.2.1))) else ((aE_ y1.2 6).bind fun y3 => ((aA_ (S := (ByteArray × Int × (Sl (Iv .u8)) × Int × Int)) (R := (ByteArray × (Sl (Iv .u8)) × Int × Int)) (fun st1 => (if (decide (0 < st1.2.1)) = true then ((bG_ (⟨st1.2.2.1, st1.2.2.2.1, st1.2.2.2.2⟩ : ah_)).bind fun y5 => ((catB st1.1 y5.1).bind fun y6 => (some (.inl (y6, (w4 (st1.2.1 - 1)), y5.2.code_, y5.2.at_, y5.2.seed_))))) else (some (.inr (st1.1, st1.2.2.1, st1.2.2.2.1, st1.2.2.2.2))))) (⟨#[]⟩, y3.1, y3.2.code_, y3.2.at_, y3.2.seed_)).bind fun y4 => (some (y4.1, (⟨y4.2.1, y4.2.2.1, y4.2.2.2⟩ : ah_)))))))
theorem hc_ (a0 : ah_) (r : (ByteArray × ah_)) (h : bU_ a0 = some r) (bp0 : Nat) : RawS Tryz.prog md ext 38 [.ptr bp0 0 0 3] 0 (fun hs => E_str r.1) [.box bp0 (ah_.cells a0)] (fun hs => [.box bp0 (ah_.cells r.2)]) := by
 unfold bU_ at h
 refine b1_ rfl rfl ok_38 rfl ?_
 intro σ0 σ F σk s hS hH
 have hS := ad_ (L' := [(0, .ptr bp0 0 0 3)]) hS (by kernel_rfl)
 refine t_go h hS hH ?_
 refine t_RN ?_
 refine t_RU 1 ?_
 refine aH_ (fun y1 hs hy1 hl => ?_) (hr := by exact fun y1 hy1 => cE_ _ _ y1 hy1 bp0)
 obtain rfl := len0 hl
 refine bg_ ?_
 refine t_N ?_
 refine t_if (fun hc1 => ?_) fun hc1 => ?_
 ·refine t_RU 1 ?_
  refine k_bs (z := true) (⟨false, [⟨#[]⟩, ⟨#[97]⟩, ⟨#[97, 98]⟩, ⟨#[40, 97, 41, 40, 98, 41]⟩, ⟨#[40, 40, 97, 41, 98, 41]⟩, ⟨#[97, 97, 97, 97]⟩, ⟨#[97, 98, 99, 97, 98, 99]⟩, ⟨#[120, 40, 121]⟩, ⟨#[41, 40]⟩, ⟨#[97, 98, 34, 99]⟩]⟩ : Sl ByteArray) (fun t1 ht1 => ?_)
  refine t_h Heap.up1 ?_
  refine aH_ (fun y2 hs hy2 hl => ?_) (hr := by exact fun y2 hy2 => cV_ _ _ y2 hy2 bp0 1 t1)
  obtain rfl := len0 hl
  refine bg_ ?_
  refine t_N ?_
  intro h s σ hS hH
  obtain rfl := si_1 h
  exact aN_ [] (br_ (v := .str y2.1) hS rfl r_nil) rfl rfl (Heap.sel hH [0, 2] rfl (by kernel_rfl))
 refine t_RN ?_
 refine t_RU 1 ?_
 refine aH_ (fun y3 hs hy3 hl => ?_) (hr := by exact fun y3 hy3 => a8_ _ _ y3 hy3 bp0)
 obtain rfl := len0 hl
 refine bg_ ?_
 refine t_N ?_
 refine a4_ (fun st1 fr => Sub [(0, .ptr bp0 0 0 3), (3, .str st1.1), (4, i4 st1.2.1)] fr.s ∧ Heap σ0 fr.σ [.box bp0 [st1.2.2.1.t, i4 st1.2.2.2.1, .int .u64 st1.2.2.2.2], .keep F σk]) (fun y4 e fr => e = (.exit 0) ∧ Sub [(3, .str y4.1)] fr.s ∧ Heap σ0 fr.σ [.box bp0 [y4.2.1.t, i4 y4.2.2.1, .int .u64 y4.2.2.2], .keep F σk]) (fun hS hH => ⟨(ad_ hS (by kernel_rfl)), hH⟩) (fun st1 x fr h HI => ?_) fun y4 e fr h HF => ?_
 ·obtain ⟨s, σ⟩ := fr; obtain ⟨hS, hH⟩ := HI
  refine t_bk h hS hH ?_
  refine t_RN ?_
  refine t_if (fun hc2 => ?_) fun hc2 => ?_
  ·refine t_RU 2 ?_
   refine aH_ (fun y5 hs hy5 hl => ?_) (hr := by exact fun y5 hy5 => fG_ _ y5 hy5 bp0)
   obtain rfl := len0 hl
   refine bg_ ?_
   refine sE_ fun y6 hy6 => ?_
   refine t_N ?_
   refine t_RN ?_
   exact t_e fun he hS hH => he ▸ ⟨(ad_ hS (by kernel_rfl)), hH⟩
  exact t_e fun he hS hH => he ▸ ⟨rfl, (ad_ hS (by kernel_rfl)), hH⟩
 obtain ⟨s, σ⟩ := fr
 obtain ⟨rfl, hS, hH⟩ := HF
 refine t_bx h hS hH ?_
 refine t_RN ?_
 intro h s σ hS hH
 obtain rfl := si_1 h
 exact aN_ [] (br_ (v := .str y4.1) hS rfl r_nil) rfl rfl hH
noncomputable def dH_ (a0 : (Sl (Iv .u8))) : Option ByteArray := ((bU_ (⟨a0, 0, 0⟩ : ah_)).bind fun y1 => (some y1.1))
theorem hr_ (a0 : (Sl (Iv .u8))) (r : ByteArray) (h : dH_ a0 = some r) : dJ_ a0 = some r := by
 unfold dH_ at h
 refine k_W ok_13 E_str_inj h (fun σ0 => ?_)
 refine t_RN ?_
 refine t_RU 1 ?_
 refine dF_ ok_33 ?_
 refine t_RN ?_
 refine t_RU 2 ?_
 refine cm_ (fun b1 => ?_)
 refine t_N ?_
 refine k_eI (rT rN) ?_
 refine t_N ?_
 refine t_RU 1 ?_
 refine aH_ (fun y1 hs hy1 hl => ?_) (hr := by exact fun y1 hy1 => hc_ _ y1 hy1 b1)
 obtain rfl := len0 hl
 refine bg_ ?_
 refine t_N ?_
 exact k_eW (rT rN) E_str_p
noncomputable def fx_ (a0 : (Sl (Iv .u8))) (a1 : Int) (a2 : Int) : Option Int := (if (decide (a2 ≤ 1)) = true then (some 0) else (if (decide ((a0.l.length : Int) = 0)) = true then ((remI (w4 (a1 * 7)) a2).bind fun y1 => (some y1)) else ((remI a1 (a0.l.length : Int)).bind fun y2 => ((elt a0 y2).bind fun y3 => ((remI (w4 (a1 + 1)) (a0.l.length : Int)).bind fun y4 => ((elt a0 y4).bind fun y5 => ((quoI .i64 a1 (a0.l.length : Int)).bind fun y6 => ((remI ((w4 ((w4 ((w4 ((w4 y3.v) * 31)) + (w4 y5.v))) + y6))) a2).bind fun y7 => (some y7)))))))))
theorem li_ (a0 : (Sl (Iv .u8))) (a1 : Int) (a2 : Int) (r : Int) (h : fx_ a0 a1 a2 = some r) : gm_ a0 a1 a2 = some r := by
 unfold fx_ at h
 refine k_W ok_14 E_i64_inj h (fun σ0 => ?_)
 refine t_RN ?_
 refine t_RN ?_
 refine t_if (fun hc1 => ?_) fun hc1 => ?_
 ·refine t_RN ?_
  exact k_eW (rT rN) E_i64_p
 refine t_RN ?_
 refine t_if (fun hc2 => ?_) fun hc2 => ?_
 ·refine t_RU 3 ?_
  intro h s σ hS hH
  obtain ⟨y1, hy1, h⟩ := bind_some h
  refine iY_ rfl hS rfl rfl hy1 ?_; intro s hS
  refine t_bk h hS hH ?_
  refine t_N ?_
  exact k_eW (rT rN) E_i64_p
 refine t_RN ?_
 refine t_D fun mb => ?_
 refine t_U 3 ?_
 intro h s σ hS hH
 obtain ⟨y2, hy2, h⟩ := bind_some h
 refine iY_ rfl hS rfl rfl hy2 ?_; intro s hS
 refine t_bk h hS hH ?_
 refine b7_ fun y3 rest1 hy3 => ?_
 refine t_U 7 ?_
 intro h s σ hS hH
 obtain ⟨y4, hy4, h⟩ := bind_some h
 refine iY_ rfl hS rfl rfl hy4 ?_; intro s hS
 refine t_bk h hS hH ?_
 refine b7_ fun y5 rest2 hy5 => ?_
 refine t_U 5 ?_
 intro h s σ hS hH
 obtain ⟨y6, hy6, h⟩ := bind_some h
 refine sm_ rfl hS rfl rfl hy6 ?_; intro s hS
 refine t_bk h hS hH ?_
 refine t_U 2 ?_
 intro h s σ hS hH
 obtain ⟨y7, hy7, h⟩ := bind_some h
 refine iY_ rfl hS rfl rfl hy7 ?_; intro s hS
 refine t_bk h hS hH ?_
 refine t_N ?_
 exact k_eW (rT rN) E_i64_p
noncomputable def e8_ (a0 : (Sl DNamed)) (a1 : DPattern) (a2 : ByteArray) (a3 : Int) (a4 : Int) : Option ((Sl (Iv .i64)) × Int × Bool) := ((bP_ a0 a1 a2 a3 a4).bind fun y1 => ((fw_ a0 a1 a2 a3 a4).bind fun y2 => (if (decide (y1.2 = y2.2)) = true then ((dT_ y1.1 y2.1).bind fun y3 => (some (y1.1, y1.2, y3))) else (some (y1.1, y1.2, false)))))
theorem jh_ (a0 : (Sl DNamed)) (a1 : DPattern) (a2 : ByteArray) (a3 : Int) (a4 : Int) (r : ((Sl (Iv .i64)) × Int × Bool)) (h : e8_ a0 a1 a2 a3 a4 = some r) : dQ_ a0 a1 a2 a3 a4 = some r := by
 unfold e8_ at h
 refine k_W ok_15 E_t3_sl_i64_i64_bool_inj h (fun σ0 => ?_)
 refine t_R ?_
 refine cm_ (fun b1 => ?_)
 refine t_N ?_
 refine t_RU 1 ?_
 refine ae_ 0 ?_
 refine t_U 3 ?_
 refine aw_ fun y1 hy1 => ?_
 refine t_N ?_
 refine t_RU 1 ?_
 refine ae_ 0 ?_
 refine t_U 3 ?_
 refine d5_ (fun y2 t1 hy2 ht1 => ?_)
 refine t_N ?_
 refine t_RU 6 ?_
 refine aO_ 40 (fun hc1 => ?_) fun hc1 => ?_
 ·refine t_U 2 ?_
  refine hG_ (fun y3 hy3 => ?_)
  refine t_N ?_
  exact k_eW (rT (rT (rT rN))) E_t3_sl_i64_i64_bool_p
 refine t_N ?_
 exact k_eW (rT (rT (rT rN))) E_t3_sl_i64_i64_bool_p
noncomputable def fp_ (a0 : (Sl (Iv .i64))) (a1 : (Sl (Iv .i64))) : Option Bool := (if ((!decide ((a0.l.length : Int) = (a1.l.length : Int)))) = true then (some false) else ((aA_ (S := Int) (R := (Unit ⊕ Bool)) (fun st1 => (if (decide (st1 < (a0.l.length : Int))) = true then ((elt a0 st1).bind fun y2 => ((elt a1 st1).bind fun y3 => (if (!decide (y2.v = y3.v)) = true then (some (.inr (.inr false))) else (some (.inl (w4 (st1 + 1))))))) else (some (.inr (.inl ()))))) 0).bind fun y1 => (Sum.elim (fun y1 => (some true)) (fun y1 => (some y1)) y1)))
theorem jj_ (a0 : (Sl (Iv .i64))) (a1 : (Sl (Iv .i64))) (r : Bool) (h : fp_ a0 a1 = some r) : dT_ a0 a1 = some r := by
 unfold fp_ at h
 refine k_W ok_17 E_bool_inj h (fun σ0 => ?_)
 refine t_RN ?_
 refine t_RN ?_
 refine t_if (fun hc1 => ?_) fun hc1 => ?_
 ·refine t_RN ?_
  exact k_eW (rT rN) E_bool_p
 refine t_RN ?_
 refine a4_ (fun st1 fr => Sub [(0, a0.t), (1, a1.t), (5, i4 st1)] fr.s ∧ Heap σ0 fr.σ []) (fun y1 e fr => (Sum.elim (fun y => e = (.exit 0) ∧ Sub [] fr.s ∧ Heap σ0 fr.σ []) (fun y => e = .ret ∧ endW Tryz.prog (Tryz.f17.results.toList) σ0 (E_bool y) .ret fr)) y1) (fun hS hH => ⟨(ad_ hS (by kernel_rfl)), hH⟩) (fun st1 x fr h HI => ?_) fun y1 e fr h HF => ?_
 ·obtain ⟨s, σ⟩ := fr; obtain ⟨hS, hH⟩ := HI
  refine t_bk h hS hH ?_
  refine t_RN ?_
  refine t_if (fun hc2 => ?_) fun hc2 => ?_
  ·refine t_D fun mb => ?_
   refine t_U 2 ?_
   refine b7_ fun y2 rest1 hy2 => ?_
   refine t_U 3 ?_
   refine b7_ fun y3 rest2 hy3 => ?_
   refine t_N ?_
   refine t_if (fun hc3 => ?_) fun hc3 => ?_
   ·refine t_RN ?_
    exact t_e fun he hS hH => he ▸ ⟨rfl, (eW hS hH (rT rN) E_bool_p)⟩
   refine t_RN ?_
   exact t_e fun he hS hH => he ▸ ⟨(ad_ hS (by kernel_rfl)), hH⟩
  exact t_e fun he hS hH => he ▸ ⟨rfl, (ad_ hS (by kernel_rfl)), hH⟩
 obtain ⟨s, σ⟩ := fr
 rcases y1 with y1 | y1
 ·have h := el_l h
  obtain ⟨rfl, hS, hH⟩ := HF
  refine t_bx h hS hH ?_
  refine t_RN ?_
  exact k_eW (rT rN) E_bool_p
 have h := el_r h
 obtain ⟨rfl, HE⟩ := HF
 obtain rfl := si_1 h; exact HE
noncomputable def fR_ (a0 : DPattern) (a1 : DPattern) : Option DPattern := ((fs_ 19 ⟨#[]⟩ ⟨false, [a0, a1]⟩).bind fun y1 => (some y1))
theorem kx_ (a0 : DPattern) (a1 : DPattern) (r : DPattern) (h : fR_ a0 a1 = some r) : fE_ a0 a1 = some r := by
 unfold fR_ at h
 refine k_W ok_18 E_DPattern_inj h (fun σ0 => ?_)
 refine t_R ?_
 refine cm_ (fun b1 => ?_)
 refine cm_ (fun b2 => ?_)
 refine bS_ fun b3 => ?_
 refine t_N ?_
 refine t_R ?_
 refine ae_ 2 ?_
 refine ae_ 1 ?_
 refine k_bs (z := false) (⟨false, [a0, a1]⟩ : Sl DPattern) (fun t1 ht1 => ?_)
 intro h s σ hS hH
 obtain ⟨y1, hy1, h⟩ := bind_some h
 refine os_ (ents := [.own false 4 t1 (Sl.t (⟨false, [a0, a1]⟩ : Sl DPattern))]) (z := false) (ts := [i4 19, .str ⟨#[]⟩, t1]) (vs := [i4 19, .str ⟨#[]⟩, (Sl.t (⟨false, [a0, a1]⟩ : Sl DPattern))]) rfl hS rfl rfl rfl hH rfl (HLi (HLs (HL.own rfl HL.nil))) hy1 (by kernel_rfl) ?_; intro σ s hH hS
 have hH : Heap σ0 σ [.own false 4 t1 (Sl.t (⟨false, [a0, a1]⟩ : Sl DPattern)), .box b3 [i4 0, i4 0, .str ⟨#[]⟩, (nt DPattern)], .box b2 [i4 a1.Kind, i4 a1.Num, .str a1.Text, a1.Kids.t], .box b1 [i4 a0.Kind, i4 a0.Num, .str a0.Text, a0.Kids.t]] := hH
 refine t_bk h hS hH ?_
 refine aS_ 1 ?_
 refine t_N ?_
 exact k_eW (rC 0 rN) E_DPattern_p
noncomputable def cw_ (a0 : (Sl DNamed)) (a1 : DPattern) (a2 : ByteArray) (a3 : Int) (a4 : Int) : Option ((Sl (Iv .i64)) × Int) := ((dh_ a0 a1 a2 a4).bind fun y1 => ((bt_ a3 0 (a2.size : Int)).bind fun y2 => ((cW_ y2 3).bind fun y3 => ((ex_ (⟨false, [⟨y1⟩, ⟨y3⟩]⟩)).bind fun y4 => (if (!decide (y4 = 0)) = true then (some (⟨true, []⟩, y4)) else ((bL_ a0 a1 a2 (⟨false, [⟨a3⟩]⟩) a4).bind fun y5 => (if (!decide (y5.2 = 0)) = true then (some (⟨true, []⟩, y5.2)) else ((aA_ (S := (Int × (Sl (Iv .i64)))) (R := (Sl (Iv .i64))) (fun st1 => (if (decide (st1.1 < (y5.1.l.length : Int))) = true then ((elt y5.1 st1.1).bind fun y7 => ((appS 8 st1.2 (⟨false, [⟨y7.End⟩]⟩ : Sl (Iv .i64))).bind fun y8 => (some (.inl ((w4 (st1.1 + 1)), y8))))) else (some (.inr st1.2)))) (0, (⟨false, []⟩ : Sl (Iv .i64)))).bind fun y6 => (some (y6, 0))))))))))
theorem gH_ (a0 : (Sl DNamed)) (a1 : DPattern) (a2 : ByteArray) (a3 : Int) (a4 : Int) (r : ((Sl (Iv .i64)) × Int)) (h : cw_ a0 a1 a2 a3 a4 = some r) : bP_ a0 a1 a2 a3 a4 = some r := by
 unfold cw_ at h
 refine k_W ok_19 E_t2_sl_i64_i64_inj h (fun σ0 => ?_)
 refine t_R ?_
 refine cm_ (fun b1 => ?_)
 refine t_N ?_
 refine t_RU 1 ?_
 refine ae_ 0 ?_
 refine t_U 2 ?_
 refine aw_ fun y1 hy1 => ?_
 refine t_U 3 ?_
 refine aw_ fun y2 hy2 => ?_
 refine aw_ fun y3 hy3 => ?_
 refine k_bs (z := true) (⟨false, [⟨y1⟩, ⟨y3⟩]⟩ : Sl (Iv .i64)) (fun t1 ht1 => ?_)
 refine hG_ (fun y4 hy4 => ?_)
 refine t_N ?_
 refine t_RN ?_
 refine t_if (fun hc1 => ?_) fun hc1 => ?_
 ·refine t_RN ?_
  exact k_eW (rT (rT rN)) E_t2_sl_i64_i64_p
 refine t_RU 1 ?_
 refine ae_ 1 ?_
 refine t_U 2 ?_
 refine k_bs (z := true) (⟨false, [⟨a3⟩]⟩ : Sl (Iv .i64)) (fun t2 ht2 => ?_)
 refine t_U 1 ?_
 refine d5_ (fun y5 t3 hy5 ht3 => ?_)
 refine t_N ?_
 refine t_RN ?_
 refine t_if (fun hc2 => ?_) fun hc2 => ?_
 ·refine t_RN ?_
  exact k_eW (rT (rT rN)) E_t2_sl_i64_i64_p
 refine t_R ?_
 refine hM_ (α := (Iv .i64)) (fun t4 ht4 => ?_)
 refine t_N ?_
 refine t_RU 1 ?_
 refine hi_ (a := y5.1) 1 ?_
 refine t_N ?_
 refine a4_ (fun st1 fr => ∃ t6, ap_ t6 ∧ Sub [(15, t6), (47, t3), (48, i4 (y5.1.l.length : Int)), (49, i4 st1.1)] fr.s ∧ Heap σ0 fr.σ [.own true 1 t6 st1.2.t, .own true 3 t3 y5.1.t]) (fun y6 e fr => ∃ t7, ap_ t7 ∧ e = (.exit 0) ∧ Sub [(15, t7)] fr.s ∧ Heap σ0 fr.σ [.own true 1 t7 y6.t]) (fun hS hH => ⟨t4, ht4, (ad_ hS (by kernel_rfl)), (Heap.sel hH [0, 1] rfl (by kernel_rfl))⟩) (fun st1 x fr h HI => ?_) fun y6 e fr h HF => ?_
 ·obtain ⟨s, σ⟩ := fr; obtain ⟨t6, ht6, ⟨hS, hH⟩⟩ := HI
  refine t_bk h hS hH ?_
  refine t_RN ?_
  refine t_if (fun hc3 => ?_) fun hc3 => ?_
  ·refine t_R ?_
   refine hh_ 1 (fun hb1 hb1e y7 hy7 hl_hb1 => ?_)
   refine t_h Heap.up1 ?_
   intro h s σ hS hH
   refine o2_ (a := y5.1) (j := st1.1) (y := y7) (off := 2) (c := [i4 y7.Start, i4 y7.End, y7.Captures.t]) (q := (y7.Captures : Sl DCapture)) (fun _ _ _ _ _ => trivial) rfl hS hH hl_hb1 rfl hy7 rfl (by kernel_rfl) (by kernel_rfl) rfl (by kernel_rfl) (by kernel_rfl) (by kernel_rfl) ?_; intro F1 σk1 t8 s ht8 hH hcl1 hcl1s hcl1p hcl1k hcl1f hS
   refine t_bk h hS hH ?_
   refine bS_ fun b2 => ?_
   refine aS_ 0 ?_ (h1 := by simp [ht8.1, ht8.2])
   refine t_h (·.up2.up2) ?_
   intro h s σ hS hH
   have hH := hcl1s _ _ hH
   have hH : Heap σ0 σ [.own true 3 t3 y5.1.t, .box b2 [i4 y7.Start, i4 y7.End, t8], .own true 1 t6 st1.2.t] := hH
   refine t_bk h hS hH ?_
   refine t_N ?_
   refine t_RU 2 ?_
   refine ae_ 1 ?_
   refine k_bs (z := true) (⟨false, [⟨y7.End⟩]⟩ : Sl (Iv .i64)) (fun t9 ht9 => ?_)
   refine jZ_ 3 0 (fun y8 t10 hy8 ht10 => ?_)
   refine t_N ?_
   refine t_RN ?_
   exact t_e fun he hS hH => he ▸ ⟨t10, ht10, (ad_ hS (by kernel_rfl)), (Heap.sel hH [0, 1] rfl (by kernel_rfl))⟩
  exact t_e fun he hS hH => he ▸ ⟨t6, ht6, rfl, (ad_ hS (by kernel_rfl)), (Heap.sel hH [0] rfl (by kernel_rfl))⟩
 obtain ⟨s, σ⟩ := fr
 obtain ⟨t7, ht7, ⟨rfl, hS, hH⟩⟩ := HF
 refine t_bx h hS hH ?_
 refine t_RN ?_
 intro h s σ hS hH
 obtain rfl := si_1 h
 exact oX_ (ents := [.own true 1 t7 y6.t]) (z := false) hH (br_ (v := t7) hS rfl (br_ (v := i4 0) hS rfl r_nil)) (HL.tup (es1 := [.own true 1 t7 y6.t]) (es2 := []) (HL.own rfl (HLi HL.nil)) HL.nil) (by simp [pureT, pureL, E_t2_sl_i64_i64])
noncomputable def gR_ (a0 : Int) (a1 : ByteArray) (a2 : (Sl DPattern)) : Option DPattern := (some (⟨a0, 0, a1, a2⟩ : DPattern))
theorem jG_ (a0 : Int) (a1 : ByteArray) (a2 : (Sl DPattern)) (r : DPattern) (h : gR_ a0 a1 a2 = some r) : fs_ a0 a1 a2 = some r := by
 unfold gR_ at h
 refine k_W ok_20 E_DPattern_inj h (fun σ0 => ?_)
 refine t_R ?_
 refine bS_ fun b1 => ?_
 refine t_N ?_
 refine t_RU 4 ?_
 refine aS_ 0 ?_
 refine t_N ?_
 exact k_eW (rC 0 rN) E_DPattern_p
noncomputable def dm_ (a0 : DPattern) : Option DPattern := ((bw_ a0).bind fun y1 => (((if (decide (a0.Kind = 14)) = true then (some (decide (a0.Kind = 14))) else (some (decide (a0.Kind = 17)))) : Option Bool).bind fun y2 => (if y2 = true then (some (⟨1, 0, ⟨#[]⟩, ⟨true, []⟩⟩ : DPattern)) else (if (decide (a0.Kind = 15)) = true then (some (⟨16, 0, ⟨#[]⟩, ⟨true, []⟩⟩ : DPattern)) else ((aA_ (S := (Int × (Sl DPattern))) (R := (Sl DPattern)) (fun st1 => (if (decide (st1.1 < (a0.Kids.l.length : Int))) = true then ((elt a0.Kids st1.1).bind fun y4 => ((bv_ y4).bind fun y5 => ((elt st1.2 st1.1).bind fun y6 => (some (.inl ((w4 (st1.1 + 1)), (setS st1.2 st1.1 (y5 : DPattern)))))))) else (some (.inr st1.2)))) (0, y1.Kids)).bind fun y3 => (some (⟨y1.Kind, y1.Num, y1.Text, y3⟩ : DPattern)))))))
theorem iw_ (a0 : DPattern) (r : DPattern) (h : dm_ a0 = some r) : bv_ a0 = some r := by
 unfold dm_ at h
 refine k_O ok_35 h (fun σ0 => ?_)
 refine t_R ?_
 refine cm_ (fun b1 => ?_)
 refine bS_ fun b2 => ?_
 refine t_N ?_
 refine t_R ?_
 refine ae_ 1 ?_
 refine d5_ (fun y1 t1 hy1 ht1 => ?_)
 refine bS_ fun b3 => ?_
 refine aS_ 0 ?_ (h1 := by simp [ht1.1, ht1.2])
 refine t_N ?_
 refine t_RU 1 ?_
 refine ae_ 3 ?_
 refine t_N ?_
 refine t_RN ?_
 refine et_ 0 (fun y2 e fr => e = .normal ∧ Sub [(1, .ptr b1 0 0 4), (2, .ptr b2 0 0 4), (3, .ptr b3 0 0 4), (8, i4 a0.Kind), (9, .bool y2)] fr.s ∧ Heap σ0 fr.σ [.box b3 [i4 y1.Kind, i4 y1.Num, .str y1.Text, t1], .box b2 [i4 0, i4 0, .str ⟨#[]⟩, (nt DPattern)], .box b1 [i4 a0.Kind, i4 a0.Num, .str a0.Text, a0.Kids.t], .own true 4 t1 y1.Kids.t]) (fun y2 e fr h HF => ?_) fun y2 => ?_
 ·obtain ⟨s, σ⟩ := fr
  obtain ⟨rfl, hS, hH⟩ := HF
  refine t_bx h hS hH ?_
  refine t_if (fun hc1 => ?_) fun hc1 => ?_
  ·refine t_RU 1 ?_
   refine aS_ 1 ?_
   refine t_N ?_
   refine t_h (Heap.addNil · true 4) ?_
   exact k_eO [(T.row true 0 [])] (rC 1 rN)
  refine t_RN ?_
  refine t_if (fun hc2 => ?_) fun hc2 => ?_
  ·refine t_RU 1 ?_
   refine aS_ 1 ?_
   refine t_N ?_
   refine t_h (Heap.addNil · true 4) ?_
   exact k_eO [(T.row true 0 [])] (rC 1 rN)
  refine t_RN ?_
  refine a4_ (fun st1 fr => Sub [(1, .ptr b1 0 0 4), (2, .ptr b2 0 0 4), (3, .ptr b3 0 0 4), (4, i4 st1.1)] fr.s ∧ Heap σ0 fr.σ [.box b3 [i4 y1.Kind, i4 y1.Num, .str y1.Text, t1], .box b2 [i4 0, i4 0, .str ⟨#[]⟩, (nt DPattern)], .box b1 [i4 a0.Kind, i4 a0.Num, .str a0.Text, a0.Kids.t], .own true 4 t1 st1.2.t]) (fun y3 e fr => e = (.exit 1) ∧ Sub [(2, .ptr b2 0 0 4), (3, .ptr b3 0 0 4)] fr.s ∧ Heap σ0 fr.σ [.box b3 [i4 y1.Kind, i4 y1.Num, .str y1.Text, t1], .box b2 [i4 0, i4 0, .str ⟨#[]⟩, (nt DPattern)], .own true 4 t1 y3.t]) (fun hS hH => ⟨(ad_ hS (by kernel_rfl)), hH⟩) (fun st1 x fr h HI => ?_) fun y3 e fr h HF => ?_
  ·obtain ⟨s, σ⟩ := fr; obtain ⟨hS, hH⟩ := HI
   refine t_bk h hS hH ?_
   refine t_RU 2 ?_
   refine ae_ 2 ?_
   refine t_N ?_
   refine t_if (fun hc3 => ?_) fun hc3 => ?_
   ·refine a9_ [(10, RN)] ext_x fun mb σs hn0 hlt hlto => ?_
    have hlt_b3 : b3 < mb := hlt b3 _ (List.Mem.head _)
    refine t_U 1 ?_
    refine ae_ 0 ?_ (hlt := by exact (Or.inr ⟨hlt_b3, (Wc.cons (.inl (by kernel_rfl)) Wc.nil)⟩))
    refine t_U 2 ?_
    refine ae_ 2 ?_ (hlt := by exact (Or.inl (by kernel_rfl)))
    refine t_U 1 ?_
    refine b7_ fun y4 rest1 hy4 => ?_
    refine t_U 1 ?_
    refine d5_ (fun y5 t2 hy5 ht2 => ?_)
    refine hh_ 4 (fun hb1 hb1e y6 hy6 hl_hb1 => ?_) (hlt := by exact (fun _ _ _ _ _ => Or.inl (by kernel_rfl)))
    refine t_h Heap.up4 ?_
    intro h s σ hS hH
    refine ka_ rfl (ents := [.own true 4 t2 y5.Kids.t]) (a := st1.2) (j := st1.1) (y := y6) (y' := (y5 : DPattern)) (off := 0) (c := [i4 y6.Kind, i4 y6.Num, .str y6.Text, y6.Kids.t]) (us := [i4 y5.Kind, i4 y5.Num, .str y5.Text, t2]) (vs := [i4 y5.Kind, i4 y5.Num, .str y5.Text, y5.Kids.t]) (v := .agg [i4 y5.Kind, i4 y5.Num, .str y5.Text, t2]) (by exact Or.inr ⟨10, by kernel_rfl, fun h => h⟩) rfl hS hH hl_hb1 rfl rfl rfl (by simp [ht2.1, ht2.2]) (by kernel_rfl) rfl hy6 (DPattern.cells_eq _) (HLi (HLi (HLs (HL.own rfl HL.nil)))) rfl (by rw [DPattern.enc_eq]; rfl) ?_; intro σ s hH hS
    refine t_bk h hS hH ?_
    refine t_N ?_
    refine t_RN ?_
    exact t_e fun he hS hH => he ▸ ⟨(ad_ hS (by kernel_rfl)), (Heap.sel hH [1, 2, 3, 0] rfl (by kernel_rfl))⟩
   exact t_e fun he hS hH => he ▸ ⟨rfl, (ad_ hS (by kernel_rfl)), (Heap.sel hH [0, 1, 3] rfl (by kernel_rfl))⟩
  obtain ⟨s, σ⟩ := fr
  obtain ⟨rfl, hS, hH⟩ := HF
  refine t_bx h hS hH ?_
  refine t_R ?_
  refine ae_ 0 ?_
  refine aS_ 1 ?_ (h1 := by simp [ht1.1, ht1.2])
  refine t_N ?_
  refine t_h Heap.up2 ?_
  exact k_eO [t1] (rC 1 rN)
 refine t_if (fun hc4 => ?_) fun hc4 => ?_
 ·exact t_e fun he hS hH => he ▸ ⟨rfl, (ad_ hS (by kernel_rfl)), (Heap.sel hH [0, 2, 3, 1] rfl (by kernel_rfl))⟩
 refine t_RN ?_
 exact t_e fun he hS hH => he ▸ ⟨rfl, (ad_ hS (by kernel_rfl)), (Heap.sel hH [0, 2, 3, 1] rfl (by kernel_rfl))⟩
noncomputable def dS_ (a0 : (Sl DNamed)) (a1 : DPattern) (a2 : ByteArray) (a3 : Int) (a4 : Int) : Option ((Sl (Iv .i64)) × Int) := ((fo_ a0 a1 a2 a4).bind fun y1 => (if (!decide (y1 = 0)) = true then (some (⟨false, []⟩, y1)) else ((bX_ a3 0 (a2.size : Int)).bind fun y2 => (if (!y2) = true then (some (⟨false, []⟩, 3)) else ((eO_ a0 a1 a2 a3 a4).bind fun y3 => (if (!decide (y3.2 = 0)) = true then (some (⟨false, []⟩, y3.2)) else (some (y3.1, 0))))))))
theorem jE_ (a0 : (Sl DNamed)) (a1 : DPattern) (a2 : ByteArray) (a3 : Int) (a4 : Int) (r : ((Sl (Iv .i64)) × Int)) (h : dS_ a0 a1 a2 a3 a4 = some r) : fw_ a0 a1 a2 a3 a4 = some r := by
 unfold dS_ at h
 refine k_O ok_39 h (fun σ0 => ?_)
 refine t_R ?_
 refine cm_ (fun b1 => ?_)
 refine t_N ?_
 refine t_RU 1 ?_
 refine ae_ 0 ?_
 refine t_U 2 ?_
 refine aw_ fun y1 hy1 => ?_
 refine t_N ?_
 refine t_RN ?_
 refine t_if (fun hc1 => ?_) fun hc1 => ?_
 ·refine t_R ?_
  refine hM_ (α := (Iv .i64)) (fun t1 ht1 => ?_)
  refine t_N ?_
  exact k_eO [t1] (rT (rT rN))
 refine t_RU 3 ?_
 refine aw_ fun y2 hy2 => ?_
 refine t_N ?_
 refine t_if (fun hc2 => ?_) fun hc2 => ?_
 ·refine t_R ?_
  refine hM_ (α := (Iv .i64)) (fun t2 ht2 => ?_)
  refine t_N ?_
  exact k_eO [t2] (rT (rT rN))
 refine t_RU 1 ?_
 refine ae_ 0 ?_
 refine t_U 3 ?_
 refine d5_ (fun y3 t3 hy3 ht3 => ?_)
 refine t_N ?_
 refine t_RN ?_
 refine t_if (fun hc3 => ?_) fun hc3 => ?_
 ·refine t_R ?_
  refine hM_ (α := (Iv .i64)) (fun t4 ht4 => ?_)
  refine t_N ?_
  exact k_eO [t4] (rT (rT rN))
 refine t_RN ?_
 exact k_eO [t3] (rT (rT rN))
noncomputable def fI_ (a0 : (Sl (Iv .i64))) : Option Int := ((aA_ (S := Int) (R := (Unit ⊕ Int)) (fun st1 => (if (decide (st1 < (a0.l.length : Int))) = true then ((elt a0 st1).bind fun y2 => (if (!decide (y2.v = 0)) = true then (some (.inr (.inr y2.v))) else (some (.inl (w4 (st1 + 1)))))) else (some (.inr (.inl ()))))) 0).bind fun y1 => (Sum.elim (fun y1 => (some 0)) (fun y1 => (some y1)) y1))
theorem kE_ (a0 : (Sl (Iv .i64))) (r : Int) (h : fI_ a0 = some r) : ex_ a0 = some r := by
 unfold fI_ at h
 refine k_W ok_40 E_i64_inj h (fun σ0 => ?_)
 refine t_RN ?_
 refine t_RN ?_
 refine a4_ (fun st1 fr => Sub [(5, a0.t), (6, i4 (a0.l.length : Int)), (7, i4 st1)] fr.s ∧ Heap σ0 fr.σ []) (fun y1 e fr => (Sum.elim (fun y => e = (.exit 0) ∧ Sub [] fr.s ∧ Heap σ0 fr.σ []) (fun y => e = .ret ∧ endW Tryz.prog (Tryz.f40.results.toList) σ0 (E_i64 y) .ret fr)) y1) (fun hS hH => ⟨(ad_ hS (by kernel_rfl)), hH⟩) (fun st1 x fr h HI => ?_) fun y1 e fr h HF => ?_
 ·obtain ⟨s, σ⟩ := fr; obtain ⟨hS, hH⟩ := HI
  refine t_bk h hS hH ?_
  refine t_RN ?_
  refine t_if (fun hc1 => ?_) fun hc1 => ?_
  ·refine t_R ?_
   refine b7_ fun y2 rest1 hy2 => ?_
   refine t_N ?_
   refine t_RN ?_
   refine t_if (fun hc2 => ?_) fun hc2 => ?_
   ·refine t_RN ?_
    exact t_e fun he hS hH => he ▸ ⟨rfl, (eW hS hH (rT rN) E_i64_p)⟩
   refine t_RN ?_
   exact t_e fun he hS hH => he ▸ ⟨(ad_ hS (by kernel_rfl)), hH⟩
  exact t_e fun he hS hH => he ▸ ⟨rfl, (ad_ hS (by kernel_rfl)), hH⟩
 obtain ⟨s, σ⟩ := fr
 rcases y1 with y1 | y1
 ·have h := el_l h
  obtain ⟨rfl, hS, hH⟩ := HF
  refine t_bx h hS hH ?_
  refine t_RN ?_
  exact k_eW (rT rN) E_i64_p
 have h := el_r h
 obtain ⟨rfl, HE⟩ := HF
 obtain rfl := si_1 h; exact HE
noncomputable def dk_ (a0 : (Sl DNamed)) (a1 : DPattern) (a2 : ByteArray) (a3 : Int) : Option Int := ((((eg_ a0).bind fun y6 => (if y6 = true then ((b6_ a1).bind fun y7 => (if y7 = true then ((cL_ a2).bind fun y8 => (some y8)) else (some false))) else (some false))) : Option Bool).bind fun y1 => ((cW_ y1 1).bind fun y2 => ((bt_ a3 0 20000).bind fun y3 => ((cW_ y3 3).bind fun y4 => ((ex_ (⟨false, [⟨y2⟩, ⟨y4⟩]⟩)).bind fun y5 => (some y5))))))
theorem hf_ (a0 : (Sl DNamed)) (a1 : DPattern) (a2 : ByteArray) (a3 : Int) (r : Int) (h : dk_ a0 a1 a2 a3 = some r) : dh_ a0 a1 a2 a3 = some r := by
 unfold dk_ at h
 refine k_W ok_41 E_i64_inj h (fun σ0 => ?_)
 refine t_R ?_
 refine cm_ (fun b1 => ?_)
 refine t_N ?_
 refine et_ 0 (fun y1 e fr => e = .normal ∧ Sub [(3, i4 a3), (9, .bool y1)] fr.s ∧ Heap σ0 fr.σ []) (fun y1 e fr h HF => ?_) fun y1 => ?_
 ·obtain ⟨s, σ⟩ := fr
  obtain ⟨rfl, hS, hH⟩ := HF
  refine t_bx h hS hH ?_
  refine t_RU 1 ?_
  refine aw_ fun y2 hy2 => ?_
  refine t_U 1 ?_
  refine aw_ fun y3 hy3 => ?_
  refine aw_ fun y4 hy4 => ?_
  refine k_bs (z := true) (⟨false, [⟨y2⟩, ⟨y4⟩]⟩ : Sl (Iv .i64)) (fun t1 ht1 => ?_)
  refine hG_ (fun y5 hy5 => ?_)
  refine t_N ?_
  exact k_eW (rT rN) E_i64_p
 refine t_RU 1 ?_
 refine aw_ fun y6 hy6 => ?_
 refine t_U 1 ?_
 refine aO_ 12 (fun hc1 => ?_) fun hc1 => ?_
 ·refine ae_ 0 ?_
  refine aw_ fun y7 hy7 => ?_
  refine t_U 2 ?_
  refine aO_ 16 (fun hc2 => ?_) fun hc2 => ?_
  ·refine t_U 1 ?_
   refine aw_ fun y8 hy8 => ?_
   refine t_N ?_
   exact t_e fun he hS hH => he ▸ ⟨rfl, (ad_ hS (by kernel_rfl)), (Heap.sel hH [] rfl (by kernel_rfl))⟩
  refine t_N ?_
  exact t_e fun he hS hH => he ▸ ⟨rfl, (ad_ hS (by kernel_rfl)), (Heap.sel hH [] rfl (by kernel_rfl))⟩
 refine t_N ?_
 exact t_e fun he hS hH => he ▸ ⟨rfl, (ad_ hS (by kernel_rfl)), (Heap.sel hH [] rfl (by kernel_rfl))⟩
noncomputable def fq_ (a0 : Bool) (a1 : Int) : Option Int := (if a0 = true then (some 0) else (some a1))
theorem i8_ (a0 : Bool) (a1 : Int) (r : Int) (h : fq_ a0 a1 = some r) : cW_ a0 a1 = some r := by
 unfold fq_ at h
 refine k_W ok_42 E_i64_inj h (fun σ0 => ?_)
 refine t_RN ?_
 refine t_RN ?_
 refine t_if (fun hc1 => ?_) fun hc1 => ?_
 ·refine t_RN ?_
  exact k_eW (rT rN) E_i64_p
 refine t_RN ?_
 exact k_eW (rT rN) E_i64_p
noncomputable def fi_ (a0 : Int) (a1 : Int) (a2 : Int) : Option Bool := (if (decide (a1 ≤ a0)) = true then (some (decide (a0 ≤ a2))) else (some false))
theorem jb_ (a0 : Int) (a1 : Int) (a2 : Int) (r : Bool) (h : fi_ a0 a1 a2 = some r) : bt_ a0 a1 a2 = some r := by
 unfold fi_ at h
 refine k_W ok_43 E_bool_inj h (fun σ0 => ?_)
 refine t_RN ?_
 refine t_RU 4 ?_
 refine aO_ 10 (fun hc1 => ?_) fun hc1 => ?_
 ·refine t_N ?_
  exact k_eW (rT rN) E_bool_p
 refine t_N ?_
 exact k_eW (rT rN) E_bool_p
end Go.Am
