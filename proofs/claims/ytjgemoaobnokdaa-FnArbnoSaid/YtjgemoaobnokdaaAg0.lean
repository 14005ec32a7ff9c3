/- Functions of the program. -/
import Derived.Test.YtjgemoaobnokdaaAd0
set_option maxRecDepth 100000
set_option maxHeartbeats 4000000
set_option linter.unusedVariables false
set_option linter.unusedSimpArgs false
namespace Go.Am
open Go.Proofs
noncomputable def eA_ (a0 : (Sl (Iv .u8))) : Option Bool := (if (decide (1048576 < (a0.l.length : Int))) = true then (some true) else ((dG_ a0).bind fun y1 => ((eo_ 1 a0).bind fun y2 => ((e5_ y2).bind fun y3 => ((eo_ 2 a0).bind fun y4 => ((dE_ y4).bind fun y5 => ((gn_ a0 3 (w4 ((y5.size : Int) + 1))).bind fun y6 => ((e1_ 20 ⟨#[]⟩ ⟨false, [y3]⟩).bind fun y7 => ((bO_ y1 y7 y5 y6 2000).bind fun y8 => ((bO_ y1 y3 y5 y6 1000).bind fun y9 => (if (!decide (y9.2 = 0)) = true then (some true) else (if (!decide (y8.2 = 0)) = true then (some true) else ((aC_ (S := (Int × (Sl (Iv .i64)))) (R := ((Sl (Iv .i64)) ⊕ Bool)) (fun st1 => (if (decide (st1.1 < (y9.1.l.length : Int))) = true then ((elt y9.1 st1.1).bind fun y11 => (if (decide (y11.v ≤ y6)) = true then (some (.inl ((w4 (st1.1 + 1)), st1.2))) else ((elt y9.1 st1.1).bind fun y12 => ((bO_ y1 y7 y5 y12.v 2000).bind fun y13 => (if (!decide (y13.2 = 0)) = true then (some (.inr (.inr true))) else ((appS 8 st1.2 y13.1).bind fun y14 => (some (.inl ((w4 (st1.1 + 1)), y14))))))))) else (some (.inr (.inl st1.2))))) (0, (⟨false, [⟨y6⟩]⟩ : Sl (Iv .i64)))).bind fun y10 => (Sum.elim (fun y10 => ((fo_ y8.1 y10).bind fun y15 => (some y15))) (fun y10 => (some y10)) y10))))))))))))))
theorem ie_ (a0 : (Sl (Iv .u8))) (r : Bool) (h : eA_ a0 = some r) : f5_ a0 = some r := by
 unfold eA_ at h
 refine k_W ok_4 E_bool_inj h (fun σ0 => ?_)
 refine t_RN ?_
 refine t_RN ?_
 refine t_if (fun hc1 => ?_) fun hc1 => ?_
 ·refine t_RN ?_
  exact k_eW (rT rN) E_bool_p
 refine t_RU 1 ?_
 refine aA_ fun y1 hy1 => ?_
 refine t_N ?_
 refine t_RU 1 ?_
 refine aA_ fun y2 hy2 => ?_
 refine aA_ fun y3 hy3 => ?_
 refine bU_ fun b1 => ?_
 refine aW_ 0 ?_
 refine t_N ?_
 refine t_RU 1 ?_
 refine aA_ fun y4 hy4 => ?_
 refine aA_ fun y5 hy5 => ?_
 refine t_N ?_
 refine t_RU 4 ?_
 refine aA_ fun y6 hy6 => ?_
 refine t_N ?_
 refine t_R ?_
 refine ae_ 0 ?_
 refine k_bs (z := false) (⟨false, [y3]⟩ : Sl DPattern) (fun t1 ht1 => ?_)
 intro h s σ hS hH
 obtain ⟨y7, hy7, h⟩ := bind_some h
 refine n5_ (ents := [.own false 4 t1 (Sl.t (⟨false, [y3]⟩ : Sl DPattern))]) (z := false) (ts := [i4 20, .str ⟨#[]⟩, t1]) (vs := [i4 20, .str ⟨#[]⟩, (Sl.t (⟨false, [y3]⟩ : Sl DPattern))]) rfl hS rfl rfl rfl hH rfl (HLi (HLs (HL.own rfl HL.nil))) hy7 (by kernel_rfl) ?_; intro σ s hH hS
 have hH : Heap σ0 σ [.own false 4 t1 (Sl.t (⟨false, [y3]⟩ : Sl DPattern)), .box b1 [i4 y3.Kind, i4 y3.Num, .str y3.Text, y3.Kids.t]] := hH
 refine t_bk h hS hH ?_
 refine bU_ fun b2 => ?_
 refine aW_ 0 ?_
 refine t_N ?_
 refine t_RU 1 ?_
 refine ae_ 0 ?_
 refine t_U 2 ?_
 refine aA_ fun y8 hy8 => ?_
 refine t_N ?_
 refine t_RU 1 ?_
 refine ae_ 2 ?_
 refine t_U 2 ?_
 refine aA_ fun y9 hy9 => ?_
 refine t_N ?_
 refine t_RU 3 ?_
 refine aU_ 53 (fun hc2 => ?_) fun hc2 => ?_
 ·refine t_N ?_
  refine t_cT rfl ?_
  refine t_RN ?_
  exact k_eW (rT rN) E_bool_p
 refine t_N ?_
 refine t_if (fun hc3 => ?_) fun hc3 => ?_
 ·refine t_RN ?_
  exact k_eW (rT rN) E_bool_p
 refine t_RU 1 ?_
 refine k_bs (z := true) (⟨false, [⟨y6⟩]⟩ : Sl (Iv .i64)) (fun t2 ht2 => ?_)
 refine t_N ?_
 refine t_RN ?_
 refine a7_ (fun st1 fr => ∃ t4, ar_ t4 ∧ Sub [(3, y1.t), (5, .str y5), (6, i4 y6), (7, .ptr b2 0 0 4), (8, y8.1.t), (10, y9.1.t), (12, t4), (13, i4 st1.1)] fr.s ∧ Heap σ0 fr.σ [.box b2 [i4 y7.Kind, i4 y7.Num, .str y7.Text, y7.Kids.t], .own true 1 t4 st1.2.t]) (fun y10 e fr => (Sum.elim (fun y => ∃ t5, ar_ t5 ∧ e = (.exit 0) ∧ Sub [(8, y8.1.t), (12, t5)] fr.s ∧ Heap σ0 fr.σ [.own true 1 t5 y.t]) (fun y => e = .ret ∧ endW Try.prog (Try.f4.results.toList) σ0 (E_bool y) .ret fr)) y10) (fun hS hH => ⟨t2, ht2, (ad_ hS (by kernel_rfl)), (Heap.sel hH [1, 0] rfl (by kernel_rfl))⟩) (fun st1 x fr h HI => ?_) fun y10 e fr h HF => ?_
 ·obtain ⟨s, σ⟩ := fr; obtain ⟨t4, ht4, ⟨hS, hH⟩⟩ := HI
  refine t_bk h hS hH ?_
  refine t_RN ?_
  refine t_if (fun hc4 => ?_) fun hc4 => ?_
  ·refine t_RU 2 ?_
   refine ck_ fun y11 rest1 hy11 => ?_
   refine t_N ?_
   refine t_if (fun hc5 => ?_) fun hc5 => ?_
   ·refine t_RN ?_
    exact t_e fun he hS hH => he ▸ ⟨t4, ht4, (ad_ hS (by kernel_rfl)), hH⟩
   refine t_D fun mb => ?_
   refine t_U 1 ?_
   refine ae_ 0 ?_
   refine t_U 3 ?_
   refine ck_ fun y12 rest2 hy12 => ?_
   refine t_U 1 ?_
   refine aA_ fun y13 hy13 => ?_
   refine t_N ?_
   refine t_RN ?_
   refine t_if (fun hc6 => ?_) fun hc6 => ?_
   ·refine t_RN ?_
    exact t_e fun he hS hH => he ▸ ⟨rfl, (eW hS hH (rT rN) E_bool_p)⟩
   refine t_RU 2 ?_
   refine nx_ 1 (fun y14 t6 hy14 ht6 => ?_)
   refine t_N ?_
   refine t_RN ?_
   exact t_e fun he hS hH => he ▸ ⟨t6, ht6, (ad_ hS (by kernel_rfl)), (Heap.sel hH [1, 0] rfl (by kernel_rfl))⟩
  exact t_e fun he hS hH => he ▸ ⟨t4, ht4, rfl, (ad_ hS (by kernel_rfl)), (Heap.sel hH [1] rfl (by kernel_rfl))⟩
 obtain ⟨s, σ⟩ := fr
 rcases y10 with y10 | y10
 ·have h := el_l h
  obtain ⟨t5, ht5, ⟨rfl, hS, hH⟩⟩ := HF
  refine t_bx h hS hH ?_
  refine t_RU 2 ?_
  refine i1_ (fun y15 hy15 => ?_)
  refine t_N ?_
  exact k_eW (rT rN) E_bool_p
 have h := el_r h
 obtain ⟨rfl, HE⟩ := HF
 obtain rfl := si_1 h; exact HE
noncomputable def br_ (a0 : ag_) : Option (Int × ag_) := (((if (decide (a0.at_ < (a0.code_.l.length : Int))) = true then ((elt a0.code_ a0.at_).bind fun y2 => (some (w4 y2.v))) else (some 0)) : Option Int).bind fun y1 => (if ((decide ((w4 (a0.at_ + 1)) ≤ (a0.code_.l.length : Int)))) = true then (some (y1, (⟨a0.code_, (w4 (a0.at_ + 1)), (IntKind.u64.wrap ((IntKind.u64.wrap ((IntKind.u64.wrap (a0.seed_ * 6364136223846793005)) + (IntKind.u64.wrap y1))) + 1442695040888963407))⟩ : ag_))) else (some ((w4 ((andI .u64 ((((IntKind.u64.wrap ((IntKind.u64.wrap ((IntKind.u64.wrap (a0.seed_ * 6364136223846793005)) + (IntKind.u64.wrap y1))) + 1442695040888963407))).fdiv (2 ^ 40))) 255))), (⟨a0.code_, (w4 (a0.at_ + 1)), (IntKind.u64.wrap ((IntKind.u64.wrap ((IntKind.u64.wrap (a0.seed_ * 6364136223846793005)) + (IntKind.u64.wrap y1))) + 1442695040888963407))⟩ : ag_)))))
theorem ew_ (a0 : ag_) (r : (Int × ag_)) (h : br_ a0 = some r) (bp0 : Nat) : RawS Try.prog md ext 109 [.ptr bp0 0 0 3] 0 (fun hs => E_i64 r.1) [.box bp0 (ag_.cells a0)] (fun hs => [.box bp0 (ag_.cells r.2)]) := by
 unfold br_ at h
 refine b4_ rfl rfl ok_109 rfl ?_
 intro σ0 σ F σk s hS hH
 have hS := ad_ (L' := [(0, .ptr bp0 0 0 3)]) hS (by kernel_rfl)
 refine t_go h hS hH ?_
 refine t_RN ?_
 refine t_RN ?_
 refine t_D fun mb => ?_
 refine t_U 3 ?_
 refine ae_ 0 ?_
 refine t_U 3 ?_
 refine ae_ 0 ?_
 refine t_N ?_
 refine ek_ 0 (fun y1 e fr => e = .normal ∧ Sub [(0, .ptr bp0 0 0 3), (3, i4 y1)] fr.s ∧ Heap σ0 fr.σ [.box bp0 (ag_.cells a0), .keep F σk]) (fun y1 e fr h HF => ?_) fun y1 => ?_
 ·obtain ⟨s, σ⟩ := fr
  obtain ⟨rfl, hS, hH⟩ := HF
  refine t_bx h hS hH ?_
  refine t_RU 3 ?_
  refine ae_ 0 ?_
  refine t_U 3 ?_
  refine aL_ 0 ?_
  refine t_N ?_
  refine t_RU 4 ?_
  refine ae_ 0 ?_
  refine t_U 7 ?_
  refine aL_ 0 ?_
  refine t_N ?_
  refine t_D fun mb => ?_
  refine t_U 3 ?_
  refine ae_ 0 ?_
  refine t_U 3 ?_
  refine ae_ 0 ?_
  refine t_N ?_
  refine t_if (fun hc1 => ?_) fun hc1 => ?_
  ·refine t_RN ?_
   intro h s σ hS hH
   obtain rfl := si_1 h
   exact aP_ [] (bt_ (v := i4 y1) hS rfl r_nil) rfl rfl hH
  refine t_RU 3 ?_
  refine ae_ 0 ?_
  refine t_N ?_
  intro h s σ hS hH
  obtain rfl := si_1 h
  exact aP_ [] (bt_ (v := i4 ((w4 ((andI .u64 ((((IntKind.u64.wrap ((IntKind.u64.wrap ((IntKind.u64.wrap (a0.seed_ * 6364136223846793005)) + (IntKind.u64.wrap y1))) + 1442695040888963407))).fdiv (2 ^ 40))) 255))))) hS rfl r_nil) rfl rfl hH
 refine t_if (fun hc2 => ?_) fun hc2 => ?_
 ·refine t_D fun mb => ?_
  refine t_U 3 ?_
  refine ae_ 0 ?_
  refine t_U 3 ?_
  refine ae_ 0 ?_
  refine ck_ fun y2 rest1 hy2 => ?_
  refine t_N ?_
  exact t_e fun he hS hH => he ▸ ⟨rfl, (ad_ hS (by kernel_rfl)), hH⟩
 exact t_e fun he hS hH => he ▸ ⟨rfl, (ad_ hS (by kernel_rfl)), hH⟩
noncomputable def aG_ (a0 : ag_) (a1 : Int) : Option (Int × ag_) := (if (decide (a1 ≤ 1)) = true then (some (0, a0)) else ((br_ a0).bind fun y1 => (if (decide (200 < a1)) = true then ((br_ y1.2).bind fun y2 => ((remI (w4 ((w4 (y1.1 * 256)) + y2.1)) a1).bind fun y3 => (some (y3, y2.2)))) else ((remI y1.1 a1).bind fun y4 => (some (y4, y1.2))))))
theorem a8_ (a0 : ag_) (a1 : Int) (r : (Int × ag_)) (h : aG_ a0 a1 = some r) (bp0 : Nat) : RawS Try.prog md ext 66 [.ptr bp0 0 0 3, i4 a1] 0 (fun hs => E_i64 r.1) [.box bp0 (ag_.cells a0)] (fun hs => [.box bp0 (ag_.cells r.2)]) := by
 unfold aG_ at h
 refine b4_ rfl rfl ok_66 rfl ?_
 intro σ0 σ F σk s hS hH
 have hS := ad_ (L' := [(0, .ptr bp0 0 0 3), (1, i4 a1)]) hS (by kernel_rfl)
 refine t_go h hS hH ?_
 refine t_RN ?_
 refine t_RN ?_
 refine t_if (fun hc1 => ?_) fun hc1 => ?_
 ·refine t_RN ?_
  intro h s σ hS hH
  obtain rfl := si_1 h
  exact aP_ [] (bt_ (v := i4 0) hS rfl r_nil) rfl rfl hH
 refine t_RU 1 ?_
 refine aJ_ (fun y1 hs hy1 hl => ?_) (hr := by exact fun y1 hy1 => ew_ _ y1 hy1 bp0)
 obtain rfl := len0 hl
 refine bi_ ?_
 refine t_N ?_
 refine t_RN ?_
 refine t_if (fun hc2 => ?_) fun hc2 => ?_
 ·refine t_RU 3 ?_
  refine aJ_ (fun y2 hs hy2 hl => ?_) (hr := by exact fun y2 hy2 => ew_ _ y2 hy2 bp0)
  obtain rfl := len0 hl
  refine bi_ ?_
  refine t_N ?_
  refine t_RU 2 ?_
  intro h s σ hS hH
  obtain ⟨y3, hy3, h⟩ := bind_some h
  refine ir_ rfl hS rfl rfl hy3 ?_; intro s hS
  refine t_bk h hS hH ?_
  refine t_N ?_
  intro h s σ hS hH
  obtain rfl := si_1 h
  exact aP_ [] (bt_ (v := i4 y3) hS rfl r_nil) rfl rfl hH
 refine t_RU 2 ?_
 intro h s σ hS hH
 obtain ⟨y4, hy4, h⟩ := bind_some h
 refine ir_ rfl hS rfl rfl hy4 ?_; intro s hS
 refine t_bk h hS hH ?_
 refine t_N ?_
 intro h s σ hS hH
 obtain rfl := si_1 h
 exact aP_ [] (bt_ (v := i4 y4) hS rfl r_nil) rfl rfl hH
noncomputable def a0_ (a0 : ag_) (a1 : Int) : Option (Bool × ag_) := ((aG_ a0 a1).bind fun y1 => (some ((decide (y1.1 = 0)), y1.2)))
theorem cu_ (a0 : ag_) (a1 : Int) (r : (Bool × ag_)) (h : a0_ a0 a1 = some r) (bp0 : Nat) : RawS Try.prog md ext 103 [.ptr bp0 0 0 3, i4 a1] 0 (fun hs => E_bool r.1) [.box bp0 (ag_.cells a0)] (fun hs => [.box bp0 (ag_.cells r.2)]) := by
 unfold a0_ at h
 refine b4_ rfl rfl ok_103 rfl ?_
 intro σ0 σ F σk s hS hH
 have hS := ad_ (L' := [(0, .ptr bp0 0 0 3), (1, i4 a1)]) hS (by kernel_rfl)
 refine t_go h hS hH ?_
 refine t_RN ?_
 refine t_RU 2 ?_
 refine aJ_ (fun y1 hs hy1 hl => ?_) (hr := by exact fun y1 hy1 => a8_ _ _ y1 hy1 bp0)
 obtain rfl := len0 hl
 refine bi_ ?_
 refine t_N ?_
 intro h s σ hS hH
 obtain rfl := si_1 h
 exact aP_ [] (bt_ (v := .bool (decide (y1.1 = 0))) hS rfl r_nil) rfl rfl hH
noncomputable def a3_ (a0 : ag_) (a1 : (Sl ByteArray)) : Option (ByteArray × ag_ × (Sl ByteArray)) := ((aG_ a0 (a1.l.length : Int)).bind fun y1 => ((elt a1 y1.1).bind fun y2 => (some (y2, y1.2, a1))))
theorem cR_ (a0 : ag_) (a1 : (Sl ByteArray)) (r : (ByteArray × ag_ × (Sl ByteArray))) (h : a3_ a0 a1 = some r) (bp0 : Nat) (wp1_1 : Nat) (p1_1 : T) : RawS Try.prog md ext 110 [.ptr bp0 0 0 3, p1_1] 0 (fun hs => E_str r.1) [.box bp0 (ag_.cells a0), .own true wp1_1 p1_1 a1.t] (fun hs => [.box bp0 (ag_.cells r.2.1), .own true wp1_1 p1_1 r.2.2.t]) := by
 unfold a3_ at h
 refine b4_ rfl rfl ok_110 rfl ?_
 intro σ0 σ F σk s hS hH
 have hp1_1 : ar_ p1_1 := Heap.one (hH.at 1 rfl)
 have hS := ad_ (L' := [(0, .ptr bp0 0 0 3), (1, p1_1)]) hS (by kernel_rfl)
 refine t_go h hS hH ?_
 refine t_RN ?_
 refine t_RU 3 ?_
 refine hN_ (a := a1) 1 ?_
 refine aJ_ (fun y1 hs hy1 hl => ?_) (hr := by exact fun y1 hy1 => a8_ _ _ y1 hy1 bp0)
 obtain rfl := len0 hl
 refine bi_ ?_
 refine hG_ 1 (fun hb1 hb1e y2 hy2 hl_hb1 => ?_)
 refine k0_ 1 0 hl_hb1 hy2 ?_
 refine t_N ?_
 intro h s σ hS hH
 obtain rfl := si_1 h
 exact aP_ [] (bt_ (v := .str y2) hS rfl r_nil) rfl rfl hH
noncomputable def bI_ (a0 : ag_) : Option (ByteArray × ag_) := ((a3_ a0 (⟨false, [⟨#[97]⟩, ⟨#[98]⟩, ⟨#[97, 98]⟩, ⟨#[98, 97]⟩, ⟨#[97, 98, 99]⟩, ⟨#[40]⟩, ⟨#[41]⟩, ⟨#[40, 41]⟩, ⟨#[120]⟩, ⟨#[97, 97]⟩, ⟨#[99]⟩, ⟨#[34]⟩, ⟨#[97, 34, 98]⟩, ⟨#[0]⟩, ⟨#[120, 121]⟩, ⟨#[98, 99]⟩]⟩)).bind fun y1 => (some (y1.1, y1.2.1)))
theorem fu_ (a0 : ag_) (r : (ByteArray × ag_)) (h : bI_ a0 = some r) (bp0 : Nat) : RawS Try.prog md ext 87 [.ptr bp0 0 0 3] 0 (fun hs => E_str r.1) [.box bp0 (ag_.cells a0)] (fun hs => [.box bp0 (ag_.cells r.2)]) := by
 unfold bI_ at h
 refine b4_ rfl rfl ok_87 rfl ?_
 intro σ0 σ F σk s hS hH
 have hS := ad_ (L' := [(0, .ptr bp0 0 0 3)]) hS (by kernel_rfl)
 refine t_go h hS hH ?_
 refine t_RN ?_
 refine t_RU 1 ?_
 refine k_bs (z := true) (⟨false, [⟨#[97]⟩, ⟨#[98]⟩, ⟨#[97, 98]⟩, ⟨#[98, 97]⟩, ⟨#[97, 98, 99]⟩, ⟨#[40]⟩, ⟨#[41]⟩, ⟨#[40, 41]⟩, ⟨#[120]⟩, ⟨#[97, 97]⟩, ⟨#[99]⟩, ⟨#[34]⟩, ⟨#[97, 34, 98]⟩, ⟨#[0]⟩, ⟨#[120, 121]⟩, ⟨#[98, 99]⟩]⟩ : Sl ByteArray) (fun t1 ht1 => ?_)
 refine t_h Heap.up1 ?_
 refine aJ_ (fun y1 hs hy1 hl => ?_) (hr := by exact fun y1 hy1 => cR_ _ _ y1 hy1 bp0 1 t1)
 obtain rfl := len0 hl
 refine bi_ ?_
 refine t_N ?_
 intro h s σ hS hH
 obtain rfl := si_1 h
 exact aP_ [] (bt_ (v := .str y1.1) hS rfl r_nil) rfl rfl (Heap.sel hH [0, 2] rfl (by kernel_rfl))
noncomputable def bl_ (a0 : ag_) (a1 : (Sl (Iv .i64))) : Option (Int × ag_ × (Sl (Iv .i64))) := ((aG_ a0 (a1.l.length : Int)).bind fun y1 => ((elt a1 y1.1).bind fun y2 => (some (y2.v, y1.2, a1))))
theorem d1_ (a0 : ag_) (a1 : (Sl (Iv .i64))) (r : (Int × ag_ × (Sl (Iv .i64)))) (h : bl_ a0 a1 = some r) (bp0 : Nat) (wp1_1 : Nat) (p1_1 : T) : RawS Try.prog md ext 106 [.ptr bp0 0 0 3, p1_1] 0 (fun hs => E_i64 r.1) [.box bp0 (ag_.cells a0), .own true wp1_1 p1_1 a1.t] (fun hs => [.box bp0 (ag_.cells r.2.1), .own true wp1_1 p1_1 r.2.2.t]) := by
 unfold bl_ at h
 refine b4_ rfl rfl ok_106 rfl ?_
 intro σ0 σ F σk s hS hH
 have hp1_1 : ar_ p1_1 := Heap.one (hH.at 1 rfl)
 have hS := ad_ (L' := [(0, .ptr bp0 0 0 3), (1, p1_1)]) hS (by kernel_rfl)
 refine t_go h hS hH ?_
 refine t_RN ?_
 refine t_RU 3 ?_
 refine hN_ (a := a1) 1 ?_
 refine aJ_ (fun y1 hs hy1 hl => ?_) (hr := by exact fun y1 hy1 => a8_ _ _ y1 hy1 bp0)
 obtain rfl := len0 hl
 refine bi_ ?_
 refine hG_ 1 (fun hb1 hb1e y2 hy2 hl_hb1 => ?_)
 refine k0_ 1 0 hl_hb1 hy2 ?_
 refine t_N ?_
 intro h s σ hS hH
 obtain rfl := si_1 h
 exact aP_ [] (bt_ (v := i4 y2.v) hS rfl r_nil) rfl rfl hH
noncomputable def cg_ (a0 : ag_) : Option (ByteArray × ag_) := ((a3_ a0 (⟨false, [⟨#[120]⟩, ⟨#[121]⟩, ⟨#[122]⟩, ⟨#[80, 97, 116]⟩, ⟨#[97, 95, 49]⟩]⟩)).bind fun y1 => (some (y1.1, y1.2.1)))
theorem fZ_ (a0 : ag_) (r : (ByteArray × ag_)) (h : cg_ a0 = some r) (bp0 : Nat) : RawS Try.prog md ext 108 [.ptr bp0 0 0 3] 0 (fun hs => E_str r.1) [.box bp0 (ag_.cells a0)] (fun hs => [.box bp0 (ag_.cells r.2)]) := by
 unfold cg_ at h
 refine b4_ rfl rfl ok_108 rfl ?_
 intro σ0 σ F σk s hS hH
 have hS := ad_ (L' := [(0, .ptr bp0 0 0 3)]) hS (by kernel_rfl)
 refine t_go h hS hH ?_
 refine t_RN ?_
 refine t_RU 1 ?_
 refine k_bs (z := true) (⟨false, [⟨#[120]⟩, ⟨#[121]⟩, ⟨#[122]⟩, ⟨#[80, 97, 116]⟩, ⟨#[97, 95, 49]⟩]⟩ : Sl ByteArray) (fun t1 ht1 => ?_)
 refine t_h Heap.up1 ?_
 refine aJ_ (fun y1 hs hy1 hl => ?_) (hr := by exact fun y1 hy1 => cR_ _ _ y1 hy1 bp0 1 t1)
 obtain rfl := len0 hl
 refine bi_ ?_
 refine t_N ?_
 intro h s σ hS hH
 obtain rfl := si_1 h
 exact aP_ [] (bt_ (v := .str y1.1) hS rfl r_nil) rfl rfl (Heap.sel hH [0, 2] rfl (by kernel_rfl))
noncomputable def ce_ (a0 : ag_) : Option (DPattern × ag_) := ((bl_ a0 (⟨false, [⟨1⟩, ⟨1⟩, ⟨1⟩, ⟨2⟩, ⟨3⟩, ⟨4⟩, ⟨5⟩, ⟨6⟩, ⟨6⟩, ⟨7⟩, ⟨8⟩, ⟨9⟩, ⟨10⟩, ⟨11⟩, ⟨12⟩, ⟨12⟩, ⟨13⟩, ⟨14⟩, ⟨15⟩, ⟨16⟩, ⟨17⟩, ⟨23⟩, ⟨24⟩, ⟨24⟩]⟩)).bind fun y1 => ((ci_ y1.1).bind fun y2 => (if (decide (y2.2 = (⟨#[115]⟩ : ByteArray))) = true then ((bI_ y1.2.1).bind fun y3 => (((if (decide (y1.1 = 1)) = true then ((a0_ y3.2 4).bind fun y5 => (some (y5.1, y5.2.code_, y5.2.at_, y5.2.seed_))) else (some (false, y3.2.code_, y3.2.at_, y3.2.seed_))) : Option (Bool × (Sl (Iv .u8)) × Int × Int)).bind fun y4 => (if y4.1 = true then (some ((⟨y1.1, 0, ⟨#[]⟩, ⟨true, []⟩⟩ : DPattern), (⟨y4.2.1, y4.2.2.1, y4.2.2.2⟩ : ag_))) else (some ((⟨y1.1, 0, y3.1, ⟨true, []⟩⟩ : DPattern), (⟨y4.2.1, y4.2.2.1, y4.2.2.2⟩ : ag_)))))) else (if (decide (y2.2 = (⟨#[110]⟩ : ByteArray))) = true then ((aG_ y1.2.1 4).bind fun y6 => (some ((⟨y1.1, y6.1, ⟨#[]⟩, ⟨true, []⟩⟩ : DPattern), y6.2))) else (if (decide (y2.2 = (⟨#[120]⟩ : ByteArray))) = true then ((cg_ y1.2.1).bind fun y7 => (some ((⟨y1.1, 0, y7.1, ⟨true, []⟩⟩ : DPattern), y7.2))) else (some ((⟨y1.1, 0, ⟨#[]⟩, ⟨true, []⟩⟩ : DPattern), y1.2.1)))))))
theorem f0_ (a0 : ag_) (r : (DPattern × ag_)) (h : ce_ a0 = some r) (bp0 : Nat) : RawS Try.prog md ext 105 [.ptr bp0 0 0 3] Sh_DPattern.n (fun hs => Sh_DPattern.tree hs r.1) [.box bp0 (ag_.cells a0)] (fun hs => Sh_DPattern.en hs r.1 ++ [.box bp0 (ag_.cells r.2)]) := by
 unfold ce_ at h
 refine b4_ rfl rfl ok_105 rfl ?_
 intro σ0 σ F σk s hS hH
 have hS := ad_ (L' := [(0, .ptr bp0 0 0 3)]) hS (by kernel_rfl)
 refine t_go h hS hH ?_
 refine t_R ?_
 refine bU_ fun b1 => ?_
 refine t_N ?_
 refine t_RU 1 ?_
 refine k_bs (z := true) (⟨false, [⟨1⟩, ⟨1⟩, ⟨1⟩, ⟨2⟩, ⟨3⟩, ⟨4⟩, ⟨5⟩, ⟨6⟩, ⟨6⟩, ⟨7⟩, ⟨8⟩, ⟨9⟩, ⟨10⟩, ⟨11⟩, ⟨12⟩, ⟨12⟩, ⟨13⟩, ⟨14⟩, ⟨15⟩, ⟨16⟩, ⟨17⟩, ⟨23⟩, ⟨24⟩, ⟨24⟩]⟩ : Sl (Iv .i64)) (fun t1 ht1 => ?_)
 refine t_h Heap.up2 ?_
 refine aJ_ (fun y1 hs hy1 hl => ?_) (hr := by exact fun y1 hy1 => d1_ _ _ y1 hy1 bp0 1 t1)
 obtain rfl := len0 hl
 refine bi_ ?_
 refine t_N ?_
 refine t_RU 2 ?_
 refine bU_ fun b2 => ?_
 refine aW_ 0 ?_
 refine t_N ?_
 refine t_RU 1 ?_
 refine aA_ fun y2 hy2 => ?_
 refine t_N ?_
 refine t_RN ?_
 refine t_RN ?_
 refine t_if (fun hc1 => ?_) fun hc1 => ?_
 ·refine t_RU 1 ?_
  refine t_h Heap.up1 ?_
  refine aJ_ (fun y3 hs hy3 hl => ?_) (hr := by exact fun y3 hy3 => fu_ _ y3 hy3 bp0)
  obtain rfl := len0 hl
  refine bi_ ?_
  refine t_U 1 ?_
  refine aL_ 1 ?_
  refine t_N ?_
  refine ek_ 0 (fun y4 e fr => e = .normal ∧ Sub [(2, .ptr b1 0 0 4), (4, .ptr b2 0 0 4), (28, .bool y4.1)] fr.s ∧ Heap σ0 fr.σ [.box b2 [i4 y1.1, i4 0, .str y3.1, (nt DPattern)], .box bp0 [y4.2.1.t, i4 y4.2.2.1, .int .u64 y4.2.2.2], .box b1 [i4 0, i4 0, .str ⟨#[]⟩, (nt DPattern)], .keep F σk]) (fun y4 e fr h HF => ?_) fun y4 => ?_
  ·obtain ⟨s, σ⟩ := fr
   obtain ⟨rfl, hS, hH⟩ := HF
   refine t_bx h hS hH ?_
   refine t_if (fun hc2 => ?_) fun hc2 => ?_
   ·refine t_RU 1 ?_
    refine aL_ 0 ?_
    refine t_N ?_
    refine t_R ?_
    refine ae_ 0 ?_
    refine aW_ 2 ?_
    refine t_N ?_
    intro h s σ hS hH
    obtain rfl := si_1 h
    have hH := Heap.addNil hH true 4
    exact aP_ [(T.row true 0 [])] (fv_ (v := .agg [i4 y1.1, i4 0, .str ⟨#[]⟩, (nt DPattern)]) hS (hH.at 1 rfl) rfl (by kernel_rfl) r_nil) rfl rfl (Heap.sel hH [0, 3, 4] rfl (by kernel_rfl))
   refine t_R ?_
   refine ae_ 0 ?_
   refine aW_ 2 ?_
   refine t_N ?_
   intro h s σ hS hH
   obtain rfl := si_1 h
   have hH := Heap.addNil hH true 4
   exact aP_ [(T.row true 0 [])] (fv_ (v := .agg [i4 y1.1, i4 0, .str y3.1, (nt DPattern)]) hS (hH.at 1 rfl) rfl (by kernel_rfl) r_nil) rfl rfl (Heap.sel hH [0, 3, 4] rfl (by kernel_rfl))
  refine t_RU 3 ?_
  refine aU_ 25 (fun hc3 => ?_) fun hc3 => ?_
  ·refine t_U 1 ?_
   refine t_h Heap.up1 ?_
   refine aJ_ (fun y5 hs hy5 hl => ?_) (hr := by exact fun y5 hy5 => cu_ _ _ y5 hy5 bp0)
   obtain rfl := len0 hl
   refine bi_ ?_
   refine t_N ?_
   exact t_e fun he hS hH => he ▸ ⟨rfl, (ad_ hS (by kernel_rfl)), (Heap.sel hH [1, 0, 3, 4] rfl (by kernel_rfl))⟩
  refine t_N ?_
  exact t_e fun he hS hH => he ▸ ⟨rfl, (ad_ hS (by kernel_rfl)), (Heap.sel hH [0, 1, 3, 4] rfl (by kernel_rfl))⟩
 refine t_RN ?_
 refine t_if (fun hc4 => ?_) fun hc4 => ?_
 ·refine t_RU 1 ?_
  refine t_h Heap.up1 ?_
  refine aJ_ (fun y6 hs hy6 hl => ?_) (hr := by exact fun y6 hy6 => a8_ _ _ y6 hy6 bp0)
  obtain rfl := len0 hl
  refine bi_ ?_
  refine t_U 1 ?_
  refine aL_ 1 ?_
  refine t_N ?_
  refine t_R ?_
  refine ae_ 0 ?_
  refine aW_ 3 ?_
  refine t_N ?_
  intro h s σ hS hH
  obtain rfl := si_1 h
  have hH := Heap.addNil hH true 4
  exact aP_ [(T.row true 0 [])] (fv_ (v := .agg [i4 y1.1, i4 y6.1, .str ⟨#[]⟩, (nt DPattern)]) hS (hH.at 1 rfl) rfl (by kernel_rfl) r_nil) rfl rfl (Heap.sel hH [0, 3, 5] rfl (by kernel_rfl))
 refine t_RN ?_
 refine t_if (fun hc5 => ?_) fun hc5 => ?_
 ·refine t_RU 1 ?_
  refine t_h Heap.up1 ?_
  refine aJ_ (fun y7 hs hy7 hl => ?_) (hr := by exact fun y7 hy7 => fZ_ _ y7 hy7 bp0)
  obtain rfl := len0 hl
  refine bi_ ?_
  refine t_U 1 ?_
  refine aL_ 1 ?_
  refine t_N ?_
  refine t_R ?_
  refine ae_ 0 ?_
  refine aW_ 3 ?_
  refine t_N ?_
  intro h s σ hS hH
  obtain rfl := si_1 h
  have hH := Heap.addNil hH true 4
  exact aP_ [(T.row true 0 [])] (fv_ (v := .agg [i4 y1.1, i4 0, .str y7.1, (nt DPattern)]) hS (hH.at 1 rfl) rfl (by kernel_rfl) r_nil) rfl rfl (Heap.sel hH [0, 3, 5] rfl (by kernel_rfl))
 refine t_R ?_
 refine ae_ 0 ?_
 refine aW_ 3 ?_
 refine t_N ?_
 intro h s σ hS hH
 obtain rfl := si_1 h
 have hH := Heap.addNil hH true 4
 exact aP_ [(T.row true 0 [])] (fv_ (v := .agg [i4 y1.1, i4 0, .str ⟨#[]⟩, (nt DPattern)]) hS (hH.at 1 rfl) rfl (by kernel_rfl) r_nil) rfl rfl (Heap.sel hH [0, 3, 5] rfl (by kernel_rfl))
def eh_ (R : ag_ → Int → Option (DPattern × ag_)) : Prop := ∀ (a0 : ag_) (a1 : Int) (r : (DPattern × ag_)), R a0 a1 = some r → ∀ (bp0 : Nat), RawS Try.prog md ext 65 [.ptr bp0 0 0 3, i4 a1] Sh_DPattern.n (fun hs => Sh_DPattern.tree hs r.1) [.box bp0 (ag_.cells a0)] (fun hs => Sh_DPattern.en hs r.1 ++ [.box bp0 (ag_.cells r.2)])
noncomputable def bK_ (R_65 : ag_ → Int → Option (DPattern × ag_)) (a0 : ag_) (a1 : Int) : Option (DPattern × ag_) := (if (decide (a1 ≤ 0)) = true then ((ce_ a0).bind fun y1 => (some (y1.1, y1.2))) else ((a0_ a0 4).bind fun y2 => (if y2.1 = true then ((ce_ y2.2).bind fun y3 => (some (y3.1, y3.2))) else ((bl_ y2.2 (⟨false, [⟨18⟩, ⟨18⟩, ⟨19⟩, ⟨19⟩, ⟨19⟩, ⟨20⟩, ⟨21⟩, ⟨22⟩]⟩)).bind fun y4 => ((ci_ y4.1).bind fun y5 => ((aC_ (S := (Int × (Sl (Iv .u8)) × Int × Int × (Sl DPattern))) (R := ((Sl (Iv .u8)) × Int × Int × (Sl DPattern))) (fun st1 => (if (decide (st1.1 < y5.1)) = true then ((R_65 (⟨st1.2.1, st1.2.2.1, st1.2.2.2.1⟩ : ag_) (w4 (a1 - 1))).bind fun y7 => ((appS 56 st1.2.2.2.2 (⟨false, [y7.1]⟩ : Sl DPattern)).bind fun y8 => (some (.inl ((w4 (st1.1 + 1)), y7.2.code_, y7.2.at_, y7.2.seed_, y8))))) else (some (.inr (st1.2.1, st1.2.2.1, st1.2.2.2.1, st1.2.2.2.2))))) (0, y4.2.1.code_, y4.2.1.at_, y4.2.1.seed_, (⟨true, []⟩ : Sl DPattern))).bind fun y6 => (if (decide (y5.2 = (⟨#[120]⟩ : ByteArray))) = true then ((cg_ (⟨y6.1, y6.2.1, y6.2.2.1⟩ : ag_)).bind fun y9 => (some ((⟨y4.1, 0, y9.1, y6.2.2.2⟩ : DPattern), y9.2))) else (some ((⟨y4.1, 0, ⟨#[]⟩, y6.2.2.2⟩ : DPattern), (⟨y6.1, y6.2.1, y6.2.2.1⟩ : ag_))))))))))
theorem hF_ (R_65 : ag_ → Int → Option (DPattern × ag_)) (hR_65 : eh_ R_65) : eh_ (bK_ R_65) := by
 intro a0 a1 r h bp0
 unfold bK_ at h
 refine b4_ rfl rfl ok_65 rfl ?_
 intro σ0 σ F σk s hS hH
 have hS := ad_ (L' := [(0, .ptr bp0 0 0 3), (1, i4 a1)]) hS (by kernel_rfl)
 refine t_go h hS hH ?_
 refine t_R ?_
 refine bU_ fun b1 => ?_
 refine t_N ?_
 refine t_RU 3 ?_
 refine aU_ 12 (fun hc1 => ?_) fun hc1 => ?_
 ·refine t_N ?_
  refine t_cT rfl ?_
  refine t_RU 1 ?_
  refine t_h Heap.up1 ?_
  refine aJ_ (fun y1 hs hy1 hl => ?_) (hr := by exact fun y1 hy1 => f0_ _ y1 hy1 bp0)
  obtain ⟨t1, rfl⟩ := len1 hl
  refine bi_ ?_
  refine aw_ 0 fun ht1 => ?_
  refine aW_ 2 ?_ (h1 := by simp [ht1.1, ht1.2])
  refine t_N ?_
  intro h s σ hS hH
  obtain rfl := si_1 h
  exact aP_ [t1] (fv_ (v := .agg [i4 y1.1.Kind, i4 y1.1.Num, .str y1.1.Text, t1]) hS hH rfl (by kernel_rfl) r_nil) rfl rfl (Heap.sel hH [1, 2, 3] rfl (by kernel_rfl))
 refine t_U 1 ?_
 refine t_h Heap.up1 ?_
 refine aJ_ (fun y2 hs hy2 hl => ?_) (hr := by exact fun y2 hy2 => cu_ _ _ y2 hy2 bp0)
 obtain rfl := len0 hl
 refine bi_ ?_
 refine t_N ?_
 refine t_if (fun hc2 => ?_) fun hc2 => ?_
 ·refine t_RU 1 ?_
  refine aJ_ (fun y3 hs hy3 hl => ?_) (hr := by exact fun y3 hy3 => f0_ _ y3 hy3 bp0)
  obtain ⟨t2, rfl⟩ := len1 hl
  refine bi_ ?_
  refine aw_ 0 fun ht2 => ?_
  refine aW_ 2 ?_ (h1 := by simp [ht2.1, ht2.2])
  refine t_N ?_
  intro h s σ hS hH
  obtain rfl := si_1 h
  exact aP_ [t2] (fv_ (v := .agg [i4 y3.1.Kind, i4 y3.1.Num, .str y3.1.Text, t2]) hS hH rfl (by kernel_rfl) r_nil) rfl rfl (Heap.sel hH [1, 2, 3] rfl (by kernel_rfl))
 refine t_RU 1 ?_
 refine k_bs (z := true) (⟨false, [⟨18⟩, ⟨18⟩, ⟨19⟩, ⟨19⟩, ⟨19⟩, ⟨20⟩, ⟨21⟩, ⟨22⟩]⟩ : Sl (Iv .i64)) (fun t3 ht3 => ?_)
 refine t_h Heap.up1 ?_
 refine aJ_ (fun y4 hs hy4 hl => ?_) (hr := by exact fun y4 hy4 => d1_ _ _ y4 hy4 bp0 1 t3)
 obtain rfl := len0 hl
 refine bi_ ?_
 refine t_N ?_
 refine t_RU 2 ?_
 refine bU_ fun b2 => ?_
 refine aW_ 0 ?_
 refine t_N ?_
 refine t_RU 1 ?_
 refine aA_ fun y5 hy5 => ?_
 refine t_N ?_
 refine t_RN ?_
 refine t_h (Heap.addNil · true 4) ?_
 refine a7_ (fun st1 fr => ∃ t5, ar_ t5 ∧ Sub [(0, .ptr bp0 0 0 3), (1, i4 a1), (4, .ptr b1 0 0 4), (6, .ptr b2 0 0 4), (7, i4 y5.1), (8, .str y5.2), (9, i4 st1.1)] fr.s ∧ Heap σ0 fr.σ [.box b2 [i4 y4.1, i4 0, .str ⟨#[]⟩, t5], .box bp0 [st1.2.1.t, i4 st1.2.2.1, .int .u64 st1.2.2.2.1], .box b1 [i4 0, i4 0, .str ⟨#[]⟩, (nt DPattern)], .own true 4 t5 st1.2.2.2.2.t, .keep F σk]) (fun y6 e fr => ∃ t6, ar_ t6 ∧ e = (.exit 0) ∧ Sub [(0, .ptr bp0 0 0 3), (4, .ptr b1 0 0 4), (6, .ptr b2 0 0 4), (8, .str y5.2)] fr.s ∧ Heap σ0 fr.σ [.box b2 [i4 y4.1, i4 0, .str ⟨#[]⟩, t6], .box bp0 [y6.1.t, i4 y6.2.1, .int .u64 y6.2.2.1], .box b1 [i4 0, i4 0, .str ⟨#[]⟩, (nt DPattern)], .own true 4 t6 y6.2.2.2.t, .keep F σk]) (fun hS hH => ⟨(T.row true 0 []), ⟨rfl, rfl⟩, (ad_ hS (by kernel_rfl)), (Heap.sel hH [1, 2, 4, 0, 5] rfl (by kernel_rfl))⟩) (fun st1 x fr h HI => ?_) fun y6 e fr h HF => ?_
 ·obtain ⟨s, σ⟩ := fr; obtain ⟨t5, ht5, ⟨hS, hH⟩⟩ := HI
  refine t_bk h hS hH ?_
  refine t_RN ?_
  refine t_if (fun hc3 => ?_) fun hc3 => ?_
  ·refine bj_ [(5, (RB b2 RN)), (7, RN), (9, RN)] ext_x fun mb σs hn0 hlt hlto => ?_
   have hlt_b2 : b2 < mb := hlt b2 _ (List.Mem.head _)
   refine t_U 1 ?_
   refine ae_ 0 ?_ (hlt := by exact (Or.inr ⟨hlt_b2, (Wc.cons (.inr (Or.inl rfl)) (Wc.cons (.inl (by kernel_rfl)) (Wc.cons (.inl (by kernel_rfl)) Wc.nil)))⟩))
   refine t_U 3 ?_
   refine t_h Heap.up1 ?_
   refine dN_ (RB b2 RN) ext_x (Stay.box (List.Mem.head _) Stay.nil) (by exact fun x hx => Or.inr ⟨5, by kernel_rfl, hx⟩) (fun y7 hs hy7 hl => ?_) (hr := by exact fun y7 hy7 => hR_65 _ _ y7 hy7 bp0)
   obtain ⟨t7, rfl⟩ := len1 hl
   refine bi_ ?_
   refine aw_ 0 fun ht7 => ?_
   refine k_bs (z := true) (⟨false, [y7.1]⟩ : Sl DPattern) (fun t8 ht8 => ?_) (hb := by exact hn0) (h1 := by simp [ht7.1, ht7.2])
   refine mq_ 4 0 (fun y8 t9 hy8 ht9 => ?_) (hb := by exact hn0) (hwr := by exact fun hH b e o n h0 => Or.inr ⟨7, by kernel_rfl, fun h => h⟩)
   refine t_U 1 ?_
   refine b7_ 2 ht9 ?_ (hwr := by exact fun hH => Or.inr ⟨9, by kernel_rfl, fun h => h⟩)
   refine t_N ?_
   refine t_RN ?_
   exact t_e fun he hS hH => he ▸ ⟨t9, ht9, (ad_ hS (by kernel_rfl)), (Heap.sel hH [0, 2, 3, 1, 4] rfl (by kernel_rfl))⟩
  exact t_e fun he hS hH => he ▸ ⟨t5, ht5, rfl, (ad_ hS (by kernel_rfl)), hH⟩
 obtain ⟨s, σ⟩ := fr
 obtain ⟨t6, ht6, ⟨rfl, hS, hH⟩⟩ := HF
 refine t_bx h hS hH ?_
 refine t_RN ?_
 refine t_if (fun hc4 => ?_) fun hc4 => ?_
 ·refine t_RU 1 ?_
  refine t_h Heap.up1 ?_
  refine aJ_ (fun y9 hs hy9 hl => ?_) (hr := by exact fun y9 hy9 => fZ_ _ y9 hy9 bp0)
  obtain rfl := len0 hl
  refine bi_ ?_
  refine t_U 1 ?_
  refine aL_ 1 ?_
  refine t_N ?_
  refine t_R ?_
  refine ae_ 0 ?_
  refine aW_ 2 ?_ (h1 := by simp [ht6.1, ht6.2])
  refine t_N ?_
  intro h s σ hS hH
  obtain rfl := si_1 h
  exact aP_ [t6] (fv_ (v := .agg [i4 y4.1, i4 0, .str y9.1, t6]) hS hH rfl (by kernel_rfl) r_nil) rfl rfl (Heap.sel hH [3, 2, 4] rfl (by kernel_rfl))
 refine t_R ?_
 refine ae_ 0 ?_
 refine aW_ 2 ?_ (h1 := by simp [ht6.1, ht6.2])
 refine t_N ?_
 intro h s σ hS hH
 obtain rfl := si_1 h
 exact aP_ [t6] (fv_ (v := .agg [i4 y4.1, i4 0, .str ⟨#[]⟩, t6]) hS hH rfl (by kernel_rfl) r_nil) rfl rfl (Heap.sel hH [3, 2, 4] rfl (by kernel_rfl))
noncomputable def BG_spec_l11Draw : Nat → (ag_ → Int → Option (DPattern × ag_))
 | 0 => (fun _ _ => none)
 | n + 1 => bK_ (BG_spec_l11Draw n)
theorem uBG_spec_l11Draw : ∀ n, eh_ ((BG_spec_l11Draw n))
 | 0 => (by intro _ _ r h; have h : none = some r := h; cases h)
 | n + 1 => hF_ (BG_spec_l11Draw n) (uBG_spec_l11Draw n)
noncomputable def ch_ (a0 : ag_) (a1 : Int) : Option (DPattern × ag_) := (BG_spec_l11Draw bigN) a0 a1
theorem f7_ (a0 : ag_) (a1 : Int) (r : (DPattern × ag_)) (h : ch_ a0 a1 = some r) (bp0 : Nat) : RawS Try.prog md ext 65 [.ptr bp0 0 0 3, i4 a1] Sh_DPattern.n (fun hs => Sh_DPattern.tree hs r.1) [.box bp0 (ag_.cells a0)] (fun hs => Sh_DPattern.en hs r.1 ++ [.box bp0 (ag_.cells r.2)]) := (uBG_spec_l11Draw bigN) a0 a1 r h bp0
noncomputable def fb_ (a0 : (Sl (Iv .u8))) : Option DPattern := ((aG_ (⟨a0, 0, 0⟩ : ag_) 3).bind fun y1 => ((ch_ y1.2 y1.1).bind fun y2 => ((bA_ y2.1).bind fun y3 => (some y3))))
theorem jm_ (a0 : (Sl (Iv .u8))) (r : DPattern) (h : fb_ a0 = some r) : e5_ a0 = some r := by
 unfold fb_ at h
 refine k_W ok_16 E_DPattern_inj h (fun σ0 => ?_)
 refine t_R ?_
 refine bU_ fun b1 => ?_
 refine t_N ?_
 refine t_RU 1 ?_
 refine d4_ ok_62 ?_
 refine t_RN ?_
 refine t_RU 2 ?_
 refine cU_ (fun b2 => ?_)
 refine t_N ?_
 refine k_eI (rT rN) ?_
 refine t_N ?_
 refine t_RU 2 ?_
 refine aJ_ (fun y1 hs hy1 hl => ?_) (hr := by exact fun y1 hy1 => a8_ _ _ y1 hy1 b2)
 obtain rfl := len0 hl
 refine bi_ ?_
 refine aJ_ (fun y2 hs hy2 hl => ?_) (hr := by exact fun y2 hy2 => f7_ _ _ y2 hy2 b2)
 obtain ⟨t1, rfl⟩ := len1 hl
 refine bi_ ?_
 refine aw_ 0 fun ht1 => ?_
 refine fT_ (fun y3 t2 hy3 ht2 => ?_)
 refine aW_ 3 ?_ (h1 := by simp [ht2.1, ht2.2])
 refine t_N ?_
 intro h s σ hS hH
 obtain rfl := si_1 h
 have hH := hH.up1
 exact oq_ (ents := [.own true 4 t2 y3.Kids.t]) (z := false) hH (fv_ (v := .agg [i4 y3.Kind, i4 y3.Num, .str y3.Text, t2]) hS (hH.at 1 rfl) rfl (by kernel_rfl) r_nil) (HL.agg (es1 := [.own true 4 t2 y3.Kids.t]) (es2 := []) (HLi (HLi (HLs (HL.own rfl HL.nil)))) HL.nil) (by simp [pureT, pureL, E_DPattern])
noncomputable def fG_ (a0 : Int) (a1 : (Sl (Iv .u8))) : Option (Sl (Iv .u8)) := ((appS 1 ((⟨false, [⟨(IntKind.u8.wrap a0)⟩]⟩ : Sl (Iv .u8))) a1).bind fun y1 => (some y1))
theorem ki_ (a0 : Int) (a1 : (Sl (Iv .u8))) (r : (Sl (Iv .u8))) (h : fG_ a0 a1 = some r) : eo_ a0 a1 = some r := by
 unfold fG_ at h
 refine k_W ok_17 E_sl_u8_inj h (fun σ0 => ?_)
 refine t_RN ?_
 refine t_RU 2 ?_
 refine k_bs (z := true) (⟨false, [⟨(IntKind.u8.wrap a0)⟩]⟩ : Sl (Iv .u8)) (fun t1 ht1 => ?_)
 refine t_U 1 ?_
 refine nx_ 0 (fun y1 t2 hy1 ht2 => ?_)
 refine t_N ?_
 intro h s σ hS hH
 obtain rfl := si_1 h
 exact oq_ (ents := [.own true 1 t2 y1.t]) (z := false) hH (bt_ (v := t2) hS rfl r_nil) (HL.own rfl HL.nil) (by simp [pureT, pureL, E_sl_u8])
noncomputable def bY_ (a0 : ag_) : Option (ByteArray × ag_) := ((a0_ a0 4).bind fun y1 => (if y1.1 = true then ((a3_ y1.2 (⟨false, [⟨#[]⟩, ⟨#[97]⟩, ⟨#[97, 98]⟩, ⟨#[40, 97, 41, 40, 98, 41]⟩, ⟨#[40, 40, 97, 41, 98, 41]⟩, ⟨#[97, 97, 97, 97]⟩, ⟨#[97, 98, 99, 97, 98, 99]⟩, ⟨#[120, 40, 121]⟩, ⟨#[41, 40]⟩, ⟨#[97, 98, 34, 99]⟩]⟩)).bind fun y2 => (some (y2.1, y2.2.1))) else ((aG_ y1.2 6).bind fun y3 => ((aC_ (S := (ByteArray × Int × (Sl (Iv .u8)) × Int × Int)) (R := (ByteArray × (Sl (Iv .u8)) × Int × Int)) (fun st1 => (if (decide (0 < st1.2.1)) = true then ((bI_ (⟨st1.2.2.1, st1.2.2.2.1, st1.2.2.2.2⟩ : ag_)).bind fun y5 => ((catB st1.1 y5.1).bind fun y6 => (some (.inl (y6, (w4 (st1.2.1 - 1)), y5.2.code_, y5.2.at_, y5.2.seed_))))) else (some (.inr (st1.1, st1.2.2.1, st1.2.2.2.1, st1.2.2.2.2))))) (⟨#[]⟩, y3.1, y3.2.code_, y3.2.at_, y3.2.seed_)).bind fun y4 => (some (y4.1, (⟨y4.2.1, y4.2.2.1, y4.2.2.2⟩ : ag_)))))))
theorem gR_ (a0 : ag_) (r : (ByteArray × ag_)) (h : bY_ a0 = some r) (bp0 : Nat) : RawS Try.prog md ext 67 [.ptr bp0 0 0 3] 0 (fun hs => E_str r.1) [.box bp0 (ag_.cells a0)] (fun hs => [.box bp0 (ag_.cells r.2)]) := by
 unfold bY_ at h
 refine b4_ rfl rfl ok_67 rfl ?_
 intro σ0 σ F σk s hS hH
 have hS := ad_ (L' := [(0, .ptr bp0 0 0 3)]) hS (by kernel_rfl)
 refine t_go h hS hH ?_
 refine t_RN ?_
 refine t_RU 1 ?_
 refine aJ_ (fun y1 hs hy1 hl => ?_) (hr := by exact fun y1 hy1 => cu_ _ _ y1 hy1 bp0)
 obtain rfl := len0 hl
 refine bi_ ?_
 refine t_N ?_
 refine t_if (fun hc1 => ?_) fun hc1 => ?_
 ·refine t_RU 1 ?_
  refine k_bs (z := true) (⟨false, [⟨#[]⟩, ⟨#[97]⟩, ⟨#[97, 98]⟩, ⟨#[40, 97, 41, 40, 98, 41]⟩, ⟨#[40, 40, 97, 41, 98, 41]⟩, ⟨#[97, 97, 97, 97]⟩, ⟨#[97, 98, 99, 97, 98, 99]⟩, ⟨#[120, 40, 121]⟩, ⟨#[41, 40]⟩, ⟨#[97, 98, 34, 99]⟩]⟩ : Sl ByteArray) (fun t1 ht1 => ?_)
  refine t_h Heap.up1 ?_
  refine aJ_ (fun y2 hs hy2 hl => ?_) (hr := by exact fun y2 hy2 => cR_ _ _ y2 hy2 bp0 1 t1)
  obtain rfl := len0 hl
  refine bi_ ?_
  refine t_N ?_
  intro h s σ hS hH
  obtain rfl := si_1 h
  exact aP_ [] (bt_ (v := .str y2.1) hS rfl r_nil) rfl rfl (Heap.sel hH [0, 2] rfl (by kernel_rfl))
 refine t_RN ?_
 refine t_RU 1 ?_
 refine aJ_ (fun y3 hs hy3 hl => ?_) (hr := by exact fun y3 hy3 => a8_ _ _ y3 hy3 bp0)
 obtain rfl := len0 hl
 refine bi_ ?_
 refine t_N ?_
 refine a7_ (fun st1 fr => Sub [(0, .ptr bp0 0 0 3), (3, .str st1.1), (4, i4 st1.2.1)] fr.s ∧ Heap σ0 fr.σ [.box bp0 [st1.2.2.1.t, i4 st1.2.2.2.1, .int .u64 st1.2.2.2.2], .keep F σk]) (fun y4 e fr => e = (.exit 0) ∧ Sub [(3, .str y4.1)] fr.s ∧ Heap σ0 fr.σ [.box bp0 [y4.2.1.t, i4 y4.2.2.1, .int .u64 y4.2.2.2], .keep F σk]) (fun hS hH => ⟨(ad_ hS (by kernel_rfl)), hH⟩) (fun st1 x fr h HI => ?_) fun y4 e fr h HF => ?_
 ·obtain ⟨s, σ⟩ := fr; obtain ⟨hS, hH⟩ := HI
  refine t_bk h hS hH ?_
  refine t_RN ?_
  refine t_if (fun hc2 => ?_) fun hc2 => ?_
  ·refine t_RU 2 ?_
   refine aJ_ (fun y5 hs hy5 hl => ?_) (hr := by exact fun y5 hy5 => fu_ _ y5 hy5 bp0)
   obtain rfl := len0 hl
   refine bi_ ?_
   refine rT_ fun y6 hy6 => ?_
   refine t_N ?_
   refine t_RN ?_
   exact t_e fun he hS hH => he ▸ ⟨(ad_ hS (by kernel_rfl)), hH⟩
  exact t_e fun he hS hH => he ▸ ⟨rfl, (ad_ hS (by kernel_rfl)), hH⟩
 obtain ⟨s, σ⟩ := fr
 obtain ⟨rfl, hS, hH⟩ := HF
 refine t_bx h hS hH ?_
 refine t_RN ?_
 intro h s σ hS hH
 obtain rfl := si_1 h
 exact aP_ [] (bt_ (v := .str y4.1) hS rfl r_nil) rfl rfl hH
noncomputable def dC_ (a0 : (Sl (Iv .u8))) : Option ByteArray := ((bY_ (⟨a0, 0, 0⟩ : ag_)).bind fun y1 => (some y1.1))
theorem hi_ (a0 : (Sl (Iv .u8))) (r : ByteArray) (h : dC_ a0 = some r) : dE_ a0 = some r := by
 unfold dC_ at h
 refine k_W ok_18 E_str_inj h (fun σ0 => ?_)
 refine t_RN ?_
 refine t_RU 1 ?_
 refine d4_ ok_62 ?_
 refine t_RN ?_
 refine t_RU 2 ?_
 refine cU_ (fun b1 => ?_)
 refine t_N ?_
 refine k_eI (rT rN) ?_
 refine t_N ?_
 refine t_RU 1 ?_
 refine aJ_ (fun y1 hs hy1 hl => ?_) (hr := by exact fun y1 hy1 => gR_ _ y1 hy1 b1)
 obtain rfl := len0 hl
 refine bi_ ?_
 refine t_N ?_
 exact k_eW (rT rN) E_str_p
noncomputable def e4_ (a0 : (Sl (Iv .u8))) (a1 : Int) (a2 : Int) : Option Int := (if (decide (a2 ≤ 1)) = true then (some 0) else (if (decide ((a0.l.length : Int) = 0)) = true then ((remI (w4 (a1 * 7)) a2).bind fun y1 => (some y1)) else ((remI a1 (a0.l.length : Int)).bind fun y2 => ((elt a0 y2).bind fun y3 => ((remI (w4 (a1 + 1)) (a0.l.length : Int)).bind fun y4 => ((elt a0 y4).bind fun y5 => ((quoI .i64 a1 (a0.l.length : Int)).bind fun y6 => ((remI ((w4 ((w4 ((w4 ((w4 y3.v) * 31)) + (w4 y5.v))) + y6))) a2).bind fun y7 => (some y7)))))))))
theorem kL_ (a0 : (Sl (Iv .u8))) (a1 : Int) (a2 : Int) (r : Int) (h : e4_ a0 a1 a2 = some r) : gn_ a0 a1 a2 = some r := by
 unfold e4_ at h
 refine k_W ok_19 E_i64_inj h (fun σ0 => ?_)
 refine t_RN ?_
 refine t_RN ?_
 refine t_if (fun hc1 => ?_) fun hc1 => ?_
 ·refine t_RN ?_
  exact k_eW (rT rN) E_i64_p
 refine t_RN ?_
 refine t_if (fun hc2 => ?_) fun hc2 => ?_
 ·refine t_RU 3 ?_
  intro h s σ hS hH
  obtain ⟨y1, hy1, h⟩ := bind_some h
  refine ir_ rfl hS rfl rfl hy1 ?_; intro s hS
  refine t_bk h hS hH ?_
  refine t_N ?_
  exact k_eW (rT rN) E_i64_p
 refine t_RN ?_
 refine t_D fun mb => ?_
 refine t_U 3 ?_
 intro h s σ hS hH
 obtain ⟨y2, hy2, h⟩ := bind_some h
 refine ir_ rfl hS rfl rfl hy2 ?_; intro s hS
 refine t_bk h hS hH ?_
 refine ck_ fun y3 rest1 hy3 => ?_
 refine t_U 7 ?_
 intro h s σ hS hH
 obtain ⟨y4, hy4, h⟩ := bind_some h
 refine ir_ rfl hS rfl rfl hy4 ?_; intro s hS
 refine t_bk h hS hH ?_
 refine ck_ fun y5 rest2 hy5 => ?_
 refine t_U 5 ?_
 intro h s σ hS hH
 obtain ⟨y6, hy6, h⟩ := bind_some h
 refine r6_ rfl hS rfl rfl hy6 ?_; intro s hS
 refine t_bk h hS hH ?_
 refine t_U 2 ?_
 intro h s σ hS hH
 obtain ⟨y7, hy7, h⟩ := bind_some h
 refine ir_ rfl hS rfl rfl hy7 ?_; intro s hS
 refine t_bk h hS hH ?_
 refine t_N ?_
 exact k_eW (rT rN) E_i64_p
noncomputable def gs_ (a0 : Int) (a1 : ByteArray) (a2 : (Sl DPattern)) : Option DPattern := (some (⟨a0, 0, a1, a2⟩ : DPattern))
theorem jy_ (a0 : Int) (a1 : ByteArray) (a2 : (Sl DPattern)) (r : DPattern) (h : gs_ a0 a1 a2 = some r) : e1_ a0 a1 a2 = some r := by
 unfold gs_ at h
 refine k_W ok_23 E_DPattern_inj h (fun σ0 => ?_)
 refine t_R ?_
 refine bU_ fun b1 => ?_
 refine t_N ?_
 refine t_RU 4 ?_
 refine aW_ 0 ?_
 refine t_N ?_
 exact k_eW (rC 0 rN) E_DPattern_p
noncomputable def b0_ (a0 : ag_) : Option ((Sl DNamed) × ag_) := ((aC_ (S := (Int × (Sl (Iv .u8)) × Int × Int × (Sl DNamed))) (R := ((Sl (Iv .u8)) × Int × Int × (Sl DNamed))) (fun st1 => (if (decide (st1.1 < 5)) = true then ((a0_ (⟨st1.2.1, st1.2.2.1, st1.2.2.2.1⟩ : ag_) 3).bind fun y2 => (if (!y2.1) = true then ((elt (⟨false, [⟨#[120]⟩, ⟨#[121]⟩, ⟨#[122]⟩, ⟨#[80, 97, 116]⟩, ⟨#[97, 95, 49]⟩]⟩ : Sl ByteArray) st1.1).bind fun y3 => ((aG_ y2.2 4).bind fun y4 => ((ch_ y4.2 y4.1).bind fun y5 => ((appS 72 st1.2.2.2.2 (⟨false, [(⟨y3, y5.1⟩ : DNamed)]⟩ : Sl DNamed)).bind fun y6 => (some (.inl ((w4 (st1.1 + 1)), y5.2.code_, y5.2.at_, y5.2.seed_, y6))))))) else (some (.inl ((w4 (st1.1 + 1)), y2.2.code_, y2.2.at_, y2.2.seed_, st1.2.2.2.2))))) else (some (.inr (st1.2.1, st1.2.2.1, st1.2.2.2.1, st1.2.2.2.2))))) (0, a0.code_, a0.at_, a0.seed_, (⟨false, []⟩ : Sl DNamed))).bind fun y1 => (some (y1.2.2.2, (⟨y1.1, y1.2.1, y1.2.2.1⟩ : ag_))))
theorem jq_ (a0 : ag_) (r : ((Sl DNamed) × ag_)) (h : b0_ a0 = some r) (bp0 : Nat) : RawS Try.prog md ext 63 [.ptr bp0 0 0 3] Sh_sl_DNamed.n (fun hs => Sh_sl_DNamed.tree hs r.1) [.box bp0 (ag_.cells a0)] (fun hs => Sh_sl_DNamed.en hs r.1 ++ [.box bp0 (ag_.cells r.2)]) := by
 unfold b0_ at h
 refine b4_ rfl rfl ok_63 rfl ?_
 intro σ0 σ F σk s hS hH
 have hS := ad_ (L' := [(0, .ptr bp0 0 0 3)]) hS (by kernel_rfl)
 refine t_go h hS hH ?_
 refine t_RN ?_
 refine t_R ?_
 refine qs_ (α := DNamed) (fun t1 ht1 => ?_)
 refine t_N ?_
 refine t_R ?_
 refine k_bs (z := true) (⟨false, [⟨#[120]⟩, ⟨#[121]⟩, ⟨#[122]⟩, ⟨#[80, 97, 116]⟩, ⟨#[97, 95, 49]⟩]⟩ : Sl ByteArray) (fun t2 ht2 => ?_)
 refine t_N ?_
 refine t_RN ?_
 refine a7_ (fun st1 fr => ∃ t4, ar_ t4 ∧ Sub [(0, .ptr bp0 0 0 3), (3, t4), (4, t2), (5, i4 st1.1)] fr.s ∧ Heap σ0 fr.σ [.box bp0 [st1.2.1.t, i4 st1.2.2.1, .int .u64 st1.2.2.2.1], .own true 5 t4 st1.2.2.2.2.t, .own true 1 t2 (Sl.t (⟨false, [⟨#[120]⟩, ⟨#[121]⟩, ⟨#[122]⟩, ⟨#[80, 97, 116]⟩, ⟨#[97, 95, 49]⟩]⟩ : Sl ByteArray)), .keep F σk]) (fun y1 e fr => ∃ t5, ar_ t5 ∧ e = (.exit 0) ∧ Sub [(3, t5)] fr.s ∧ Heap σ0 fr.σ [.box bp0 [y1.1.t, i4 y1.2.1, .int .u64 y1.2.2.1], .own true 5 t5 y1.2.2.2.t, .keep F σk]) (fun hS hH => ⟨t1, ht1, (ad_ hS (by kernel_rfl)), (Heap.sel hH [2, 1, 0, 3] rfl (by kernel_rfl))⟩) (fun st1 x fr h HI => ?_) fun y1 e fr h HF => ?_
 ·obtain ⟨s, σ⟩ := fr; obtain ⟨t4, ht4, ⟨hS, hH⟩⟩ := HI
  refine t_bk h hS hH ?_
  refine t_RN ?_
  refine t_if (fun hc1 => ?_) fun hc1 => ?_
  ·refine t_RU 1 ?_
   refine aJ_ (fun y2 hs hy2 hl => ?_) (hr := by exact fun y2 hy2 => cu_ _ _ y2 hy2 bp0)
   obtain rfl := len0 hl
   refine bi_ ?_
   refine t_N ?_
   refine t_if (fun hc2 => ?_) fun hc2 => ?_
   ·refine bj_ [(7, (RT t2 RN)), (8, (RT t2 RN)), (11, RN)] ext_x fun mb σs hn0 hlt hlto => ?_
    have hlt_t2 : ∀ b e o n, t2 = .ref b e o n → b < mb := fun b e o n h => hlto _ _ _ _ (List.Mem.tail _ (List.Mem.tail _ (List.Mem.head _))) b e o n h
    refine t_U 3 ?_
    refine hG_ 2 (fun hb1 hb1e y3 hy3 hl_hb1 => ?_) (hlt := by exact (fun b e o n h => Or.inr ⟨hlt_t2 b e o n h, (Wc.cons (.inr (Or.inl ⟨_, _, _, h⟩)) (Wc.cons (.inr (Or.inl ⟨_, _, _, h⟩)) (Wc.cons (.inl (by kernel_rfl)) Wc.nil)))⟩))
    refine k0_ 2 0 hl_hb1 hy3 ?_ (hlt := by exact (fun b e o n h => Or.inr ⟨hlt_t2 b e o n h, (Wc.cons (.inr (Or.inl ⟨_, _, _, h⟩)) (Wc.cons (.inr (Or.inl ⟨_, _, _, h⟩)) (Wc.cons (.inl (by kernel_rfl)) Wc.nil)))⟩))
    refine t_U 2 ?_
    refine dN_ (RT t2 RN) ext_x (Stay.own (List.Mem.tail _ (List.Mem.head _)) Stay.nil) (by exact fun x hx => Or.inr ⟨7, by kernel_rfl, hx⟩) (fun y4 hs hy4 hl => ?_) (hr := by exact fun y4 hy4 => a8_ _ _ y4 hy4 bp0)
    obtain rfl := len0 hl
    refine bi_ ?_
    refine dN_ (RT t2 RN) ext_x (Stay.own (List.Mem.tail _ (List.Mem.head _)) Stay.nil) (by exact fun x hx => Or.inr ⟨8, by kernel_rfl, hx⟩) (fun y5 hs hy5 hl => ?_) (hr := by exact fun y5 hy5 => f7_ _ _ y5 hy5 bp0)
    obtain ⟨t6, rfl⟩ := len1 hl
    refine bi_ ?_
    refine aw_ 0 fun ht6 => ?_
    intro h s σ hS hH
    refine k4_ (qs := [(0, .str y3), (1, .agg [i4 y5.1.Kind, i4 y5.1.Num, .str y5.1.Text, t6])]) (z := [.str ⟨#[]⟩, i4 0, i4 0, .str ⟨#[]⟩, (nt DPattern)]) (r := [.str y3, i4 y5.1.Kind, i4 y5.1.Num, .str y5.1.Text, t6]) [[.str y3], [i4 y5.1.Kind, i4 y5.1.Num, .str y5.1.Text, t6]] rfl hS rfl (by kernel_rfl) (by kernel_rfl) (⟨rfl, (by kernel_rfl), rfl, (by simp [ht6.1, ht6.2]), trivial⟩) (by kernel_rfl) ?_; intro s hS
    refine t_bk h hS hH ?_
    refine k_bs (z := true) (⟨false, [(⟨y3, y5.1⟩ : DNamed)]⟩ : Sl DNamed) (fun t7 ht7 => ?_) (hb := by exact hn0) (h1 := by simp [ht6.1, ht6.2])
    refine mq_ 2 0 (fun y6 t8 hy6 ht8 => ?_) (hb := by exact hn0) (hwr := by exact fun hH b e o n h0 => Or.inr ⟨11, by kernel_rfl, fun h => h⟩)
    refine t_N ?_
    refine t_RN ?_
    exact t_e fun he hS hH => he ▸ ⟨t8, ht8, (ad_ hS (by kernel_rfl)), (Heap.sel hH [1, 0, 2, 3] rfl (by kernel_rfl))⟩
   refine t_RN ?_
   exact t_e fun he hS hH => he ▸ ⟨t4, ht4, (ad_ hS (by kernel_rfl)), hH⟩
  exact t_e fun he hS hH => he ▸ ⟨t4, ht4, rfl, (ad_ hS (by kernel_rfl)), (Heap.sel hH [0, 1, 3] rfl (by kernel_rfl))⟩
 obtain ⟨s, σ⟩ := fr
 obtain ⟨t5, ht5, ⟨rfl, hS, hH⟩⟩ := HF
 refine t_bx h hS hH ?_
 refine t_RN ?_
 intro h s σ hS hH
 obtain rfl := si_1 h
 exact aP_ [t5] (bt_ (v := t5) hS rfl r_nil) rfl rfl (Heap.sel hH [1, 0, 2] rfl (by kernel_rfl))
noncomputable def dD_ (a0 : (Sl (Iv .u8))) : Option (Sl DNamed) := ((b0_ (⟨a0, 0, 0⟩ : ag_)).bind fun y1 => ((aC_ (S := (Int × (Sl DNamed))) (R := (Sl DNamed)) (fun st1 => (if (decide (st1.1 < (st1.2.l.length : Int))) = true then ((elt st1.2 st1.1).bind fun y3 => ((bA_ y3.Pattern).bind fun y4 => ((elt st1.2 st1.1).bind fun y5 => (some (.inl ((w4 (st1.1 + 1)), (setS st1.2 st1.1 ((⟨y5.Name, y4⟩ : DNamed) : DNamed)))))))) else (some (.inr st1.2)))) (0, y1.1)).bind fun y2 => (some y2)))
theorem he_ (a0 : (Sl (Iv .u8))) (r : (Sl DNamed)) (h : dD_ a0 = some r) : dG_ a0 = some r := by
 unfold dD_ at h
 refine k_W ok_26 E_sl_DNamed_inj h (fun σ0 => ?_)
 refine t_RN ?_
 refine t_RU 1 ?_
 refine d4_ ok_62 ?_
 refine t_RN ?_
 refine t_RU 2 ?_
 refine cU_ (fun b1 => ?_)
 refine t_N ?_
 refine k_eI (rT rN) ?_
 refine t_N ?_
 refine t_RU 1 ?_
 refine aJ_ (fun y1 hs hy1 hl => ?_) (hr := by exact fun y1 hy1 => jq_ _ y1 hy1 b1)
 obtain ⟨t1, rfl⟩ := len1 hl
 refine bi_ ?_
 refine aw_ 0 fun ht1 => ?_
 refine t_N ?_
 refine t_RN ?_
 refine a7_ (fun st1 fr => Sub [(4, t1), (5, i4 st1.1)] fr.s ∧ Heap σ0 fr.σ [.own true 5 t1 st1.2.t]) (fun y2 e fr => e = (.exit 0) ∧ Sub [(4, t1)] fr.s ∧ Heap σ0 fr.σ [.own true 5 t1 y2.t]) (fun hS hH => ⟨(ad_ hS (by kernel_rfl)), (Heap.sel hH [0] rfl (by kernel_rfl))⟩) (fun st1 x fr h HI => ?_) fun y2 e fr h HF => ?_
 ·obtain ⟨s, σ⟩ := fr; obtain ⟨hS, hH⟩ := HI
  refine t_bk h hS hH ?_
  refine t_RU 2 ?_
  refine hN_ (a := st1.2) 0 ?_
  refine t_N ?_
  refine t_if (fun hc1 => ?_) fun hc1 => ?_
  ·refine t_RU 4 ?_
   refine hG_ 0 (fun hb1 hb1e y3 hy3 hl_hb1 => ?_)
   refine t_U 1 ?_
   intro h s σ hS hH
   refine oD_ (a := st1.2) (j := st1.1) (y := y3) (o0 := 1) (sz := 4) (off := 4) (c := [.str y3.Name, i4 y3.Pattern.Kind, i4 y3.Pattern.Num, .str y3.Pattern.Text, y3.Pattern.Kids.t]) (q := (y3.Pattern.Kids : Sl DPattern)) (fun _ _ _ _ _ => trivial) rfl hS hH hl_hb1 rfl hy3 rfl (by kernel_rfl) (by kernel_rfl) rfl (by kernel_rfl) (by kernel_rfl) (by kernel_rfl) (by kernel_rfl) (by kernel_rfl) (by kernel_rfl) ?_; intro F1 σk1 t2 s ht2 hH hcl1 hcl1s hcl1p hcl1k hcl1f hS
   refine t_bk h hS hH ?_
   refine fT_ (fun y4 t3 hy4 ht3 => ?_)
   refine t_h (·.up2.up2) ?_
   intro h s σ hS hH
   have hH := hcl1s _ _ hH
   have hH : Heap σ0 σ [.own true 5 t1 st1.2.t, .own true 4 t3 y4.Kids.t] := hH
   refine t_bk h hS hH ?_
   refine hG_ 0 (fun hb2 hb2e y5 hy5 hl_hb2 => ?_)
   refine t_U 1 ?_
   intro h s σ hS hH
   refine os_ (ents := [.own true 4 t3 y4.Kids.t]) (a := st1.2) (j := st1.1) (y := y5) (y' := ((⟨y5.Name, y4⟩ : DNamed) : DNamed)) (off := 1) (c := [.str y5.Name, i4 y5.Pattern.Kind, i4 y5.Pattern.Num, .str y5.Pattern.Text, y5.Pattern.Kids.t]) (us := [i4 y4.Kind, i4 y4.Num, .str y4.Text, t3]) (vs := [i4 y4.Kind, i4 y4.Num, .str y4.Text, y4.Kids.t]) (v := .agg [i4 y4.Kind, i4 y4.Num, .str y4.Text, t3]) rfl hS hH hl_hb2 rfl rfl rfl (by simp [ht3.1, ht3.2]) (by kernel_rfl) rfl hy5 rfl (HLi (HLi (HLs (HL.own rfl HL.nil)))) rfl (by kernel_rfl) ?_; intro σ s hH hS
   refine t_bk h hS hH ?_
   refine t_N ?_
   refine t_RN ?_
   exact t_e fun he hS hH => he ▸ ⟨(ad_ hS (by kernel_rfl)), hH⟩
  exact t_e fun he hS hH => he ▸ ⟨rfl, (ad_ hS (by kernel_rfl)), hH⟩
 obtain ⟨s, σ⟩ := fr
 obtain ⟨rfl, hS, hH⟩ := HF
 refine t_bx h hS hH ?_
 refine t_RN ?_
 intro h s σ hS hH
 obtain rfl := si_1 h
 exact oq_ (ents := [.own true 5 t1 y2.t]) (z := false) hH (bt_ (v := t1) hS rfl r_nil) (HL.own rfl HL.nil) (by simp [pureT, pureL, E_sl_DNamed])
noncomputable def dV_ (a0 : (Sl DNamed)) (a1 : DPattern) (a2 : ByteArray) (a3 : Int) (a4 : Int) : Option ((Sl (Iv .i64)) × Int) := ((da_ a0 a1 a2 a4).bind fun y1 => ((bw_ a3 0 (a2.size : Int)).bind fun y2 => ((cX_ y2 3).bind fun y3 => ((er_ (⟨false, [⟨y1⟩, ⟨y3⟩]⟩)).bind fun y4 => (if (!decide (y4 = 0)) = true then (some (⟨true, []⟩, y4)) else ((c1_ a0 a1 a2 (⟨false, [⟨a3⟩]⟩) a4).bind fun y5 => (if (!decide (y5.2 = 0)) = true then (some (⟨true, []⟩, y5.2)) else ((aC_ (S := (Int × (Sl (Iv .i64)))) (R := (Sl (Iv .i64))) (fun st1 => (if (decide (st1.1 < (y5.1.l.length : Int))) = true then ((elt y5.1 st1.1).bind fun y7 => ((appS 8 st1.2 (⟨false, [⟨y7.End⟩]⟩ : Sl (Iv .i64))).bind fun y8 => (some (.inl ((w4 (st1.1 + 1)), y8))))) else (some (.inr st1.2)))) (0, (⟨false, []⟩ : Sl (Iv .i64)))).bind fun y6 => (some (y6, 0))))))))))
theorem i9_ (a0 : (Sl DNamed)) (a1 : DPattern) (a2 : ByteArray) (a3 : Int) (a4 : Int) (r : ((Sl (Iv .i64)) × Int)) (h : dV_ a0 a1 a2 a3 a4 = some r) : bO_ a0 a1 a2 a3 a4 = some r := by
 unfold dV_ at h
 refine k_W ok_27 E_t2_sl_i64_i64_inj h (fun σ0 => ?_)
 refine t_R ?_
 refine cU_ (fun b1 => ?_)
 refine t_N ?_
 refine t_RU 1 ?_
 refine ae_ 0 ?_
 refine t_U 2 ?_
 refine aA_ fun y1 hy1 => ?_
 refine t_U 3 ?_
 refine aA_ fun y2 hy2 => ?_
 refine aA_ fun y3 hy3 => ?_
 refine k_bs (z := true) (⟨false, [⟨y1⟩, ⟨y3⟩]⟩ : Sl (Iv .i64)) (fun t1 ht1 => ?_)
 refine i1_ (fun y4 hy4 => ?_)
 refine t_N ?_
 refine t_RN ?_
 refine t_if (fun hc1 => ?_) fun hc1 => ?_
 ·refine t_RN ?_
  exact k_eW (rT (rT rN)) E_t2_sl_i64_i64_p
 refine t_RU 1 ?_
 refine ae_ 1 ?_
 refine t_U 2 ?_
 refine k_bs (z := true) (⟨false, [⟨a3⟩]⟩ : Sl (Iv .i64)) (fun t2 ht2 => ?_)
 refine t_U 1 ?_
 refine fT_ (fun y5 t3 hy5 ht3 => ?_)
 refine t_N ?_
 refine t_RN ?_
 refine t_if (fun hc2 => ?_) fun hc2 => ?_
 ·refine t_RN ?_
  exact k_eW (rT (rT rN)) E_t2_sl_i64_i64_p
 refine t_R ?_
 refine qs_ (α := (Iv .i64)) (fun t4 ht4 => ?_)
 refine t_N ?_
 refine t_RU 1 ?_
 refine hN_ (a := y5.1) 1 ?_
 refine t_N ?_
 refine a7_ (fun st1 fr => ∃ t6, ar_ t6 ∧ Sub [(15, t6), (47, t3), (48, i4 (y5.1.l.length : Int)), (49, i4 st1.1)] fr.s ∧ Heap σ0 fr.σ [.own true 1 t6 st1.2.t, .own true 3 t3 y5.1.t]) (fun y6 e fr => ∃ t7, ar_ t7 ∧ e = (.exit 0) ∧ Sub [(15, t7)] fr.s ∧ Heap σ0 fr.σ [.own true 1 t7 y6.t]) (fun hS hH => ⟨t4, ht4, (ad_ hS (by kernel_rfl)), (Heap.sel hH [0, 1] rfl (by kernel_rfl))⟩) (fun st1 x fr h HI => ?_) fun y6 e fr h HF => ?_
 ·obtain ⟨s, σ⟩ := fr; obtain ⟨t6, ht6, ⟨hS, hH⟩⟩ := HI
  refine t_bk h hS hH ?_
  refine t_RN ?_
  refine t_if (fun hc3 => ?_) fun hc3 => ?_
  ·refine t_R ?_
   refine hG_ 1 (fun hb1 hb1e y7 hy7 hl_hb1 => ?_)
   refine t_h Heap.up1 ?_
   intro h s σ hS hH
   refine oa_ (a := y5.1) (j := st1.1) (y := y7) (off := 2) (c := [i4 y7.Start, i4 y7.End, y7.Captures.t]) (q := (y7.Captures : Sl DCapture)) (fun _ _ _ _ _ => trivial) rfl hS hH hl_hb1 rfl hy7 rfl (by kernel_rfl) (by kernel_rfl) rfl (by kernel_rfl) (by kernel_rfl) (by kernel_rfl) ?_; intro F1 σk1 t8 s ht8 hH hcl1 hcl1s hcl1p hcl1k hcl1f hS
   refine t_bk h hS hH ?_
   refine bU_ fun b2 => ?_
   refine aW_ 0 ?_ (h1 := by simp [ht8.1, ht8.2])
   refine t_h (·.up2.up2) ?_
   intro h s σ hS hH
   have hH := hcl1s _ _ hH
   have hH : Heap σ0 σ [.own true 3 t3 y5.1.t, .box b2 [i4 y7.Start, i4 y7.End, t8], .own true 1 t6 st1.2.t] := hH
   refine t_bk h hS hH ?_
   refine t_N ?_
   refine t_RU 2 ?_
   refine ae_ 1 ?_
   refine k_bs (z := true) (⟨false, [⟨y7.End⟩]⟩ : Sl (Iv .i64)) (fun t9 ht9 => ?_)
   refine mq_ 3 0 (fun y8 t10 hy8 ht10 => ?_)
   refine t_N ?_
   refine t_RN ?_
   exact t_e fun he hS hH => he ▸ ⟨t10, ht10, (ad_ hS (by kernel_rfl)), (Heap.sel hH [0, 1] rfl (by kernel_rfl))⟩
  exact t_e fun he hS hH => he ▸ ⟨t6, ht6, rfl, (ad_ hS (by kernel_rfl)), (Heap.sel hH [0] rfl (by kernel_rfl))⟩
 obtain ⟨s, σ⟩ := fr
 obtain ⟨t7, ht7, ⟨rfl, hS, hH⟩⟩ := HF
 refine t_bx h hS hH ?_
 refine t_RN ?_
 intro h s σ hS hH
 obtain rfl := si_1 h
 exact oq_ (ents := [.own true 1 t7 y6.t]) (z := false) hH (bt_ (v := t7) hS rfl (bt_ (v := i4 0) hS rfl r_nil)) (HL.tup (es1 := [.own true 1 t7 y6.t]) (es2 := []) (HL.own rfl (HLi HL.nil)) HL.nil) (by simp [pureT, pureL, E_t2_sl_i64_i64])
noncomputable def e6_ (a0 : (Sl (Iv .i64))) (a1 : (Sl (Iv .i64))) : Option Bool := (if ((!decide ((a0.l.length : Int) = (a1.l.length : Int)))) = true then (some false) else ((aC_ (S := Int) (R := (Unit ⊕ Bool)) (fun st1 => (if (decide (st1 < (a0.l.length : Int))) = true then ((elt a0 st1).bind fun y2 => ((elt a1 st1).bind fun y3 => (if (!decide (y2.v = y3.v)) = true then (some (.inr (.inr false))) else (some (.inl (w4 (st1 + 1))))))) else (some (.inr (.inl ()))))) 0).bind fun y1 => (Sum.elim (fun y1 => (some true)) (fun y1 => (some y1)) y1)))
theorem iX_ (a0 : (Sl (Iv .i64))) (a1 : (Sl (Iv .i64))) (r : Bool) (h : e6_ a0 a1 = some r) : fo_ a0 a1 = some r := by
 unfold e6_ at h
 refine k_W ok_28 E_bool_inj h (fun σ0 => ?_)
 refine t_RN ?_
 refine t_RN ?_
 refine t_if (fun hc1 => ?_) fun hc1 => ?_
 ·refine t_RN ?_
  exact k_eW (rT rN) E_bool_p
 refine t_RN ?_
 refine a7_ (fun st1 fr => Sub [(0, a0.t), (1, a1.t), (5, i4 st1)] fr.s ∧ Heap σ0 fr.σ []) (fun y1 e fr => (Sum.elim (fun y => e = (.exit 0) ∧ Sub [] fr.s ∧ Heap σ0 fr.σ []) (fun y => e = .ret ∧ endW Try.prog (Try.f28.results.toList) σ0 (E_bool y) .ret fr)) y1) (fun hS hH => ⟨(ad_ hS (by kernel_rfl)), hH⟩) (fun st1 x fr h HI => ?_) fun y1 e fr h HF => ?_
 ·obtain ⟨s, σ⟩ := fr; obtain ⟨hS, hH⟩ := HI
  refine t_bk h hS hH ?_
  refine t_RN ?_
  refine t_if (fun hc2 => ?_) fun hc2 => ?_
  ·refine t_D fun mb => ?_
   refine t_U 2 ?_
   refine ck_ fun y2 rest1 hy2 => ?_
   refine t_U 3 ?_
   refine ck_ fun y3 rest2 hy3 => ?_
   refine t_N ?_
   refine t_if (fun hc3 => ?_) fun hc3 => ?_
   ·refine t_RN ?_
    exact t_e fun he hS hH => he ▸ ⟨rfl, (eW hS hH (rT rN) E_bool_p)⟩
   refine t_RN ?_
   exact t_e fun he hS hH => he ▸ ⟨(ad_ hS (by kernel_rfl)), hH⟩
  exact t_e fun he hS hH => he ▸ ⟨rfl, (ad_ hS (by kernel_rfl)), hH⟩
 obtain ⟨s, σ⟩ := fr
 rcases y1 with y1 | y1
 ·have h := el_l h
  obtain ⟨rfl, hS, hH⟩ := HF
  refine t_bx h hS hH ?_
  refine t_RN ?_
  exact k_eW (rT rN) E_bool_p
 have h := el_r h
 obtain ⟨rfl, HE⟩ := HF
 obtain rfl := si_1 h; exact HE
noncomputable def cK_ (a0 : DPattern) : Option Bool := ((aD_ a0 0).bind fun y1 => (some (decide (y1 ≤ 60))))
theorem f9_ (a0 : DPattern) (r : Bool) (h : cK_ a0 = some r) : b5_ a0 = some r := by
 unfold cK_ at h
 refine k_W ok_33 E_bool_inj h (fun σ0 => ?_)
 refine t_R ?_
 refine cU_ (fun b1 => ?_)
 refine t_N ?_
 refine t_R ?_
 refine ae_ 0 ?_
 refine aA_ fun y1 hy1 => ?_
 refine t_N ?_
 exact k_eW (rT rN) E_bool_p
noncomputable def dl_ (a0 : DPattern) : Option DPattern := ((bB_ a0).bind fun y1 => (((if (decide (a0.Kind = 14)) = true then (some (decide (a0.Kind = 14))) else (some (decide (a0.Kind = 17)))) : Option Bool).bind fun y2 => (if y2 = true then (some (⟨1, 0, ⟨#[]⟩, ⟨true, []⟩⟩ : DPattern)) else (if (decide (a0.Kind = 15)) = true then (some (⟨16, 0, ⟨#[]⟩, ⟨true, []⟩⟩ : DPattern)) else ((aC_ (S := (Int × (Sl DPattern))) (R := (Sl DPattern)) (fun st1 => (if (decide (st1.1 < (a0.Kids.l.length : Int))) = true then ((elt a0.Kids st1.1).bind fun y4 => ((bA_ y4).bind fun y5 => ((elt st1.2 st1.1).bind fun y6 => (some (.inl ((w4 (st1.1 + 1)), (setS st1.2 st1.1 (y5 : DPattern)))))))) else (some (.inr st1.2)))) (0, y1.Kids)).bind fun y3 => (some (⟨y1.Kind, y1.Num, y1.Text, y3⟩ : DPattern)))))))
theorem if_ (a0 : DPattern) (r : DPattern) (h : dl_ a0 = some r) : bA_ a0 = some r := by
 unfold dl_ at h
 refine k_O ok_64 h (fun σ0 => ?_)
 refine t_R ?_
 refine cU_ (fun b1 => ?_)
 refine bU_ fun b2 => ?_
 refine t_N ?_
 refine t_R ?_
 refine ae_ 1 ?_
 refine fT_ (fun y1 t1 hy1 ht1 => ?_)
 refine bU_ fun b3 => ?_
 refine aW_ 0 ?_ (h1 := by simp [ht1.1, ht1.2])
 refine t_N ?_
 refine t_RU 1 ?_
 refine ae_ 3 ?_
 refine t_N ?_
 refine t_RN ?_
 refine ek_ 0 (fun y2 e fr => e = .normal ∧ Sub [(1, .ptr b1 0 0 4), (2, .ptr b2 0 0 4), (3, .ptr b3 0 0 4), (8, i4 a0.Kind), (9, .bool y2)] fr.s ∧ Heap σ0 fr.σ [.box b3 [i4 y1.Kind, i4 y1.Num, .str y1.Text, t1], .box b2 [i4 0, i4 0, .str ⟨#[]⟩, (nt DPattern)], .box b1 [i4 a0.Kind, i4 a0.Num, .str a0.Text, a0.Kids.t], .own true 4 t1 y1.Kids.t]) (fun y2 e fr h HF => ?_) fun y2 => ?_
 ·obtain ⟨s, σ⟩ := fr
  obtain ⟨rfl, hS, hH⟩ := HF
  refine t_bx h hS hH ?_
  refine t_if (fun hc1 => ?_) fun hc1 => ?_
  ·refine t_RU 1 ?_
   refine aW_ 1 ?_
   refine t_N ?_
   refine t_h (Heap.addNil · true 4) ?_
   exact k_eO [(T.row true 0 [])] (rC 1 rN)
  refine t_RN ?_
  refine t_if (fun hc2 => ?_) fun hc2 => ?_
  ·refine t_RU 1 ?_
   refine aW_ 1 ?_
   refine t_N ?_
   refine t_h (Heap.addNil · true 4) ?_
   exact k_eO [(T.row true 0 [])] (rC 1 rN)
  refine t_RN ?_
  refine a7_ (fun st1 fr => Sub [(1, .ptr b1 0 0 4), (2, .ptr b2 0 0 4), (3, .ptr b3 0 0 4), (4, i4 st1.1)] fr.s ∧ Heap σ0 fr.σ [.box b3 [i4 y1.Kind, i4 y1.Num, .str y1.Text, t1], .box b2 [i4 0, i4 0, .str ⟨#[]⟩, (nt DPattern)], .box b1 [i4 a0.Kind, i4 a0.Num, .str a0.Text, a0.Kids.t], .own true 4 t1 st1.2.t]) (fun y3 e fr => e = (.exit 1) ∧ Sub [(2, .ptr b2 0 0 4), (3, .ptr b3 0 0 4)] fr.s ∧ Heap σ0 fr.σ [.box b3 [i4 y1.Kind, i4 y1.Num, .str y1.Text, t1], .box b2 [i4 0, i4 0, .str ⟨#[]⟩, (nt DPattern)], .own true 4 t1 y3.t]) (fun hS hH => ⟨(ad_ hS (by kernel_rfl)), hH⟩) (fun st1 x fr h HI => ?_) fun y3 e fr h HF => ?_
  ·obtain ⟨s, σ⟩ := fr; obtain ⟨hS, hH⟩ := HI
   refine t_bk h hS hH ?_
   refine t_RU 2 ?_
   refine ae_ 2 ?_
   refine t_N ?_
   refine t_if (fun hc3 => ?_) fun hc3 => ?_
   ·refine bj_ [(10, RN)] ext_x fun mb σs hn0 hlt hlto => ?_
    have hlt_b3 : b3 < mb := hlt b3 _ (List.Mem.head _)
    refine t_U 1 ?_
    refine ae_ 0 ?_ (hlt := by exact (Or.inr ⟨hlt_b3, (Wc.cons (.inl (by kernel_rfl)) Wc.nil)⟩))
    refine t_U 2 ?_
    refine ae_ 2 ?_ (hlt := by exact (Or.inl (by kernel_rfl)))
    refine t_U 1 ?_
    refine ck_ fun y4 rest1 hy4 => ?_
    refine t_U 1 ?_
    refine fT_ (fun y5 t2 hy5 ht2 => ?_)
    refine hG_ 4 (fun hb1 hb1e y6 hy6 hl_hb1 => ?_) (hlt := by exact (fun _ _ _ _ _ => Or.inl (by kernel_rfl)))
    refine t_h Heap.up4 ?_
    intro h s σ hS hH
    refine kt_ rfl (ents := [.own true 4 t2 y5.Kids.t]) (a := st1.2) (j := st1.1) (y := y6) (y' := (y5 : DPattern)) (off := 0) (c := [i4 y6.Kind, i4 y6.Num, .str y6.Text, y6.Kids.t]) (us := [i4 y5.Kind, i4 y5.Num, .str y5.Text, t2]) (vs := [i4 y5.Kind, i4 y5.Num, .str y5.Text, y5.Kids.t]) (v := .agg [i4 y5.Kind, i4 y5.Num, .str y5.Text, t2]) (by exact Or.inr ⟨10, by kernel_rfl, fun h => h⟩) rfl hS hH hl_hb1 rfl rfl rfl (by simp [ht2.1, ht2.2]) (by kernel_rfl) rfl hy6 (DPattern.cells_eq _) (HLi (HLi (HLs (HL.own rfl HL.nil)))) rfl (by rw [DPattern.enc_eq]; rfl) ?_; intro σ s hH hS
    refine t_bk h hS hH ?_
    refine t_N ?_
    refine t_RN ?_
    exact t_e fun he hS hH => he ▸ ⟨(ad_ hS (by kernel_rfl)), (Heap.sel hH [1, 2, 3, 0] rfl (by kernel_rfl))⟩
   exact t_e fun he hS hH => he ▸ ⟨rfl, (ad_ hS (by kernel_rfl)), (Heap.sel hH [0, 1, 3] rfl (by kernel_rfl))⟩
  obtain ⟨s, σ⟩ := fr
  obtain ⟨rfl, hS, hH⟩ := HF
  refine t_bx h hS hH ?_
  refine t_R ?_
  refine ae_ 0 ?_
  refine aW_ 1 ?_ (h1 := by simp [ht1.1, ht1.2])
  refine t_N ?_
  refine t_h Heap.up2 ?_
  exact k_eO [t1] (rC 1 rN)
 refine t_if (fun hc4 => ?_) fun hc4 => ?_
 ·exact t_e fun he hS hH => he ▸ ⟨rfl, (ad_ hS (by kernel_rfl)), (Heap.sel hH [0, 2, 3, 1] rfl (by kernel_rfl))⟩
 refine t_RN ?_
 exact t_e fun he hS hH => he ▸ ⟨rfl, (ad_ hS (by kernel_rfl)), (Heap.sel hH [0, 2, 3, 1] rfl (by kernel_rfl))⟩
noncomputable def c8_ (a0 : (Sl DNamed)) (a1 : DPattern) (a2 : ByteArray) (a3 : Int) : Option Int := ((((d0_ a0).bind fun y6 => (if y6 = true then ((b5_ a1).bind fun y7 => (if y7 = true then ((cC_ a2).bind fun y8 => (some y8)) else (some false))) else (some false))) : Option Bool).bind fun y1 => ((cX_ y1 1).bind fun y2 => ((bw_ a3 0 20000).bind fun y3 => ((cX_ y3 3).bind fun y4 => ((er_ (⟨false, [⟨y2⟩, ⟨y4⟩]⟩)).bind fun y5 => (some y5))))))
theorem gX_ (a0 : (Sl DNamed)) (a1 : DPattern) (a2 : ByteArray) (a3 : Int) (r : Int) (h : c8_ a0 a1 a2 a3 = some r) : da_ a0 a1 a2 a3 = some r := by
 unfold c8_ at h
 refine k_W ok_68 E_i64_inj h (fun σ0 => ?_)
 refine t_R ?_
 refine cU_ (fun b1 => ?_)
 refine t_N ?_
 refine ek_ 0 (fun y1 e fr => e = .normal ∧ Sub [(3, i4 a3), (9, .bool y1)] fr.s ∧ Heap σ0 fr.σ []) (fun y1 e fr h HF => ?_) fun y1 => ?_
 ·obtain ⟨s, σ⟩ := fr
  obtain ⟨rfl, hS, hH⟩ := HF
  refine t_bx h hS hH ?_
  refine t_RU 1 ?_
  refine aA_ fun y2 hy2 => ?_
  refine t_U 1 ?_
  refine aA_ fun y3 hy3 => ?_
  refine aA_ fun y4 hy4 => ?_
  refine k_bs (z := true) (⟨false, [⟨y2⟩, ⟨y4⟩]⟩ : Sl (Iv .i64)) (fun t1 ht1 => ?_)
  refine i1_ (fun y5 hy5 => ?_)
  refine t_N ?_
  exact k_eW (rT rN) E_i64_p
 refine t_RU 1 ?_
 refine aA_ fun y6 hy6 => ?_
 refine t_U 1 ?_
 refine aU_ 12 (fun hc1 => ?_) fun hc1 => ?_
 ·refine ae_ 0 ?_
  refine aA_ fun y7 hy7 => ?_
  refine t_U 2 ?_
  refine aU_ 16 (fun hc2 => ?_) fun hc2 => ?_
  ·refine t_U 1 ?_
   refine aA_ fun y8 hy8 => ?_
   refine t_N ?_
   exact t_e fun he hS hH => he ▸ ⟨rfl, (ad_ hS (by kernel_rfl)), (Heap.sel hH [] rfl (by kernel_rfl))⟩
  refine t_N ?_
  exact t_e fun he hS hH => he ▸ ⟨rfl, (ad_ hS (by kernel_rfl)), (Heap.sel hH [] rfl (by kernel_rfl))⟩
 refine t_N ?_
 exact t_e fun he hS hH => he ▸ ⟨rfl, (ad_ hS (by kernel_rfl)), (Heap.sel hH [] rfl (by kernel_rfl))⟩
end Go.Am
