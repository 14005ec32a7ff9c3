/- Functions of the program. -/
import Derived.Test.YthpmndnnpnojjaaAd0
import Derived.Test.YthpmndnnpnojjaaAg0
set_option maxRecDepth 100000
set_option maxHeartbeats 4000000
set_option linter.unusedVariables false
set_option linter.unusedSimpArgs false
namespace Go.Am
open Go.Proofs
noncomputable def bv_ (a0 : ap_) : Option (ByteArray × ap_) := ((br_ a0 4).bind fun y1 => (if y1.1 = true then ((a2_ y1.2 (⟨false, [⟨#[]⟩, ⟨#[97]⟩, ⟨#[97, 98]⟩, ⟨#[40, 97, 41, 40, 98, 41]⟩, ⟨#[40, 40, 97, 41, 98, 41]⟩, ⟨#[97, 97, 97, 97]⟩, ⟨#[97, 98, 99, 97, 98, 99]⟩, ⟨#[120, 40, 121]⟩, ⟨#[41, 40]⟩, ⟨#[97, 98, 34, 99]⟩]⟩)).bind fun y2 => (some (y2.1, y2.2.1))) else ((aV_ y1.2 6).bind fun y3 => ((aI_ (S := (ByteArray × Int × (Sl (Iv .u8)) × Int × Int)) (R := (ByteArray × (Sl (Iv .u8)) × Int × Int)) (fun st1 => (if (decide (0 < st1.2.1)) = true then ((bw_ (⟨st1.2.2.1, st1.2.2.2.1, st1.2.2.2.2⟩ : ap_)).bind fun y5 => ((catB st1.1 y5.1).bind fun y6 => (some (.inl (y6, (w4 (st1.2.1 - 1)), y5.2.code_, y5.2.at_, y5.2.seed_))))) else (some (.inr (st1.1, st1.2.2.1, st1.2.2.2.1, st1.2.2.2.2))))) (⟨#[]⟩, y3.1, y3.2.code_, y3.2.at_, y3.2.seed_)).bind fun y4 => (some (y4.1, (⟨y4.2.1, y4.2.2.1, y4.2.2.2⟩ : ap_)))))))
theorem gh_ (a0 : ap_) (r : (ByteArray × ap_)) (h : bv_ a0 = some r) (bp0 : Nat) : RawS Try.prog md ext 92 [.ptr bp0 0 0 3] 0 (fun hs => E_str r.1) [.box bp0 (ap_.cells a0)] (fun hs => [.box bp0 (ap_.cells r.2)]) := by
 unfold bv_ at h
 refine cl_ rfl rfl ok_92 rfl ?_
 intro σ0 σ F σk s hS hH
 have hS := ac_ (L' := [(0, .ptr bp0 0 0 3)]) hS (by kernel_rfl)
 refine t_go h hS hH ?_
 refine t_RN ?_
 refine t_RU 1 ?_
 refine aQ_ (fun y1 hs hy1 hl => ?_) (hr := by exact fun y1 hy1 => gg_ _ _ y1 hy1 bp0)
 obtain rfl := len0 hl
 refine bJ_ ?_
 refine t_N ?_
 refine t_if (fun hc1 => ?_) fun hc1 => ?_
 ·refine t_RU 1 ?_
  refine k_bs (z := true) (⟨false, [⟨#[]⟩, ⟨#[97]⟩, ⟨#[97, 98]⟩, ⟨#[40, 97, 41, 40, 98, 41]⟩, ⟨#[40, 40, 97, 41, 98, 41]⟩, ⟨#[97, 97, 97, 97]⟩, ⟨#[97, 98, 99, 97, 98, 99]⟩, ⟨#[120, 40, 121]⟩, ⟨#[41, 40]⟩, ⟨#[97, 98, 34, 99]⟩]⟩ : Sl ByteArray) (fun t1 ht1 => ?_)
  refine t_h Heap.up1 ?_
  refine aQ_ (fun y2 hs hy2 hl => ?_) (hr := by exact fun y2 hy2 => dM_ _ _ y2 hy2 bp0 1 t1)
  obtain rfl := len0 hl
  refine bJ_ ?_
  refine t_N ?_
  intro h s σ hS hH
  obtain rfl := si_1 h
  exact aJ_ [] (bg_ (v := .str y2.1) hS rfl r_nil) rfl rfl (Heap.sel hH [0, 2] rfl (by kernel_rfl))
 refine t_RN ?_
 refine t_RU 1 ?_
 refine aQ_ (fun y3 hs hy3 hl => ?_) (hr := by exact fun y3 hy3 => cg_ _ _ y3 hy3 bp0)
 obtain rfl := len0 hl
 refine bJ_ ?_
 refine t_N ?_
 refine a4_ (fun st1 fr => Sub [(0, .ptr bp0 0 0 3), (3, .str st1.1), (4, i4 st1.2.1)] fr.s ∧ Heap σ0 fr.σ [.box bp0 [st1.2.2.1.t, i4 st1.2.2.2.1, .int .u64 st1.2.2.2.2], .keep F σk]) (fun y4 e fr => e = (.exit 0) ∧ Sub [(3, .str y4.1)] fr.s ∧ Heap σ0 fr.σ [.box bp0 [y4.2.1.t, i4 y4.2.2.1, .int .u64 y4.2.2.2], .keep F σk]) (fun hS hH => ⟨(ac_ hS (by kernel_rfl)), hH⟩) (fun st1 x fr h HI => ?_) fun y4 e fr h HF => ?_
 ·obtain ⟨s, σ⟩ := fr; obtain ⟨hS, hH⟩ := HI
  refine t_bk h hS hH ?_
  refine t_RN ?_
  refine t_if (fun hc2 => ?_) fun hc2 => ?_
  ·refine t_RU 2 ?_
   refine aQ_ (fun y5 hs hy5 hl => ?_) (hr := by exact fun y5 hy5 => gI_ _ y5 hy5 bp0)
   obtain rfl := len0 hl
   refine bJ_ ?_
   refine pb_ fun y6 hy6 => ?_
   refine t_N ?_
   refine t_RN ?_
   exact t_e fun he hS hH => he ▸ ⟨(ac_ hS (by kernel_rfl)), hH⟩
  exact t_e fun he hS hH => he ▸ ⟨rfl, (ac_ hS (by kernel_rfl)), hH⟩
 obtain ⟨s, σ⟩ := fr
 obtain ⟨rfl, hS, hH⟩ := HF
 refine t_bx h hS hH ?_
 refine t_RN ?_
 intro h s σ hS hH
 obtain rfl := si_1 h
 exact aJ_ [] (bg_ (v := .str y4.1) hS rfl r_nil) rfl rfl hH
noncomputable def cV_ (a0 : (Sl (Iv .u8))) : Option ByteArray := ((bv_ (⟨a0, 0, 0⟩ : ap_)).bind fun y1 => (some y1.1))
theorem gp_ (a0 : (Sl (Iv .u8))) (r : ByteArray) (h : cV_ a0 = some r) : cU_ a0 = some r := by
 unfold cV_ at h
 refine k_W ok_48 E_str_inj h (fun σ0 => ?_)
 refine t_RN ?_
 refine t_RU 1 ?_
 refine dU_ ok_74 ?_
 refine t_RN ?_
 refine t_RU 2 ?_
 refine cB_ (fun b1 => ?_)
 refine t_N ?_
 refine k_eI (rT rN) ?_
 refine t_N ?_
 refine t_RU 1 ?_
 refine aQ_ (fun y1 hs hy1 hl => ?_) (hr := by exact fun y1 hy1 => gh_ _ y1 hy1 b1)
 obtain rfl := len0 hl
 refine bJ_ ?_
 refine t_N ?_
 exact k_eW (rT rN) E_str_p
noncomputable def fI_ (a0 : Int) (a1 : ByteArray) (a2 : (Sl DPattern)) : Option DPattern := (some (⟨a0, 0, a1, a2⟩ : DPattern))
theorem h4_ (a0 : Int) (a1 : ByteArray) (a2 : (Sl DPattern)) (r : DPattern) (h : fI_ a0 a1 a2 = some r) : dd_ a0 a1 a2 = some r := by
 unfold fI_ at h
 refine k_W ok_50 E_DPattern_inj h (fun σ0 => ?_)
 refine t_R ?_
 refine b8_ fun b1 => ?_
 refine t_N ?_
 refine t_RU 4 ?_
 refine bk_ 0 ?_
 refine t_N ?_
 exact k_eW (rC 0 rN) E_DPattern_p
noncomputable def ek_ (a0 : (Sl (Iv .u8))) (a1 : Int) (a2 : Int) : Option Int := (if (decide (a2 ≤ 1)) = true then (some 0) else (if (decide ((a0.l.length : Int) = 0)) = true then ((remI (w4 (a1 * 7)) a2).bind fun y1 => (some y1)) else ((remI a1 (a0.l.length : Int)).bind fun y2 => ((elt a0 y2).bind fun y3 => ((remI (w4 (a1 + 1)) (a0.l.length : Int)).bind fun y4 => ((elt a0 y4).bind fun y5 => ((quoI .i64 a1 (a0.l.length : Int)).bind fun y6 => ((remI ((w4 ((w4 ((w4 ((w4 y3.v) * 31)) + (w4 y5.v))) + y6))) a2).bind fun y7 => (some y7)))))))))
theorem jD_ (a0 : (Sl (Iv .u8))) (a1 : Int) (a2 : Int) (r : Int) (h : ek_ a0 a1 a2 = some r) : er_ a0 a1 a2 = some r := by
 unfold ek_ at h
 refine k_W ok_52 E_i64_inj h (fun σ0 => ?_)
 refine t_RN ?_
 refine t_RN ?_
 refine t_if (fun hc1 => ?_) fun hc1 => ?_
 ·refine t_RN ?_
  exact k_eW (rT rN) E_i64_p
 refine t_RN ?_
 refine t_if (fun hc2 => ?_) fun hc2 => ?_
 ·refine t_RU 3 ?_
  intro h s σ hS hH
  obtain ⟨y1, hy1, h⟩ := bind_some h
  refine hv_ rfl hS rfl rfl hy1 ?_; intro s hS
  refine t_bk h hS hH ?_
  refine t_N ?_
  exact k_eW (rT rN) E_i64_p
 refine t_RN ?_
 refine t_D fun mb => ?_
 refine t_U 3 ?_
 intro h s σ hS hH
 obtain ⟨y2, hy2, h⟩ := bind_some h
 refine hv_ rfl hS rfl rfl hy2 ?_; intro s hS
 refine t_bk h hS hH ?_
 refine bY_ fun y3 rest1 hy3 => ?_
 refine t_U 7 ?_
 intro h s σ hS hH
 obtain ⟨y4, hy4, h⟩ := bind_some h
 refine hv_ rfl hS rfl rfl hy4 ?_; intro s hS
 refine t_bk h hS hH ?_
 refine bY_ fun y5 rest2 hy5 => ?_
 refine t_U 5 ?_
 intro h s σ hS hH
 obtain ⟨y6, hy6, h⟩ := bind_some h
 refine pu_ rfl hS rfl rfl hy6 ?_; intro s hS
 refine t_bk h hS hH ?_
 refine t_U 2 ?_
 intro h s σ hS hH
 obtain ⟨y7, hy7, h⟩ := bind_some h
 refine hv_ rfl hS rfl rfl hy7 ?_; intro s hS
 refine t_bk h hS hH ?_
 refine t_N ?_
 exact k_eW (rT rN) E_i64_p
noncomputable def eJ_ (a0 : DPattern) (a1 : DPattern) : Option DPattern := ((dd_ 19 ⟨#[]⟩ ⟨false, [a0, a1]⟩).bind fun y1 => (some y1))
theorem iA_ (a0 : DPattern) (a1 : DPattern) (r : DPattern) (h : eJ_ a0 a1 = some r) : cd_ a0 a1 = some r := by
 unfold eJ_ at h
 refine k_W ok_53 E_DPattern_inj h (fun σ0 => ?_)
 refine t_R ?_
 refine cB_ (fun b1 => ?_)
 refine cB_ (fun b2 => ?_)
 refine b8_ fun b3 => ?_
 refine t_N ?_
 refine t_R ?_
 refine ab_ 2 ?_
 refine ab_ 1 ?_
 refine k_bs (z := false) (⟨false, [a0, a1]⟩ : Sl DPattern) (fun t1 ht1 => ?_)
 intro h s σ hS hH
 obtain ⟨y1, hy1, h⟩ := bind_some h
 refine mR_ (ents := [.own false 4 t1 (Sl.t (⟨false, [a0, a1]⟩ : Sl DPattern))]) (z := false) (ts := [i4 19, .str ⟨#[]⟩, t1]) (vs := [i4 19, .str ⟨#[]⟩, (Sl.t (⟨false, [a0, a1]⟩ : Sl DPattern))]) rfl hS rfl rfl rfl hH rfl (HLi (HLs (HL.own rfl HL.nil))) hy1 (by kernel_rfl) ?_; intro σ s hH hS
 have hH : Heap σ0 σ [.own false 4 t1 (Sl.t (⟨false, [a0, a1]⟩ : Sl DPattern)), .box b3 [i4 0, i4 0, .str ⟨#[]⟩, (nt DPattern)], .box b2 [i4 a1.Kind, i4 a1.Num, .str a1.Text, a1.Kids.t], .box b1 [i4 a0.Kind, i4 a0.Num, .str a0.Text, a0.Kids.t]] := hH
 refine t_bk h hS hH ?_
 refine bk_ 1 ?_
 refine t_N ?_
 exact k_eW (rC 0 rN) E_DPattern_p
noncomputable def ev_ (a0 : (Sl (Iv .i64))) (a1 : (Sl (Iv .i64))) : Option Bool := (if ((!decide ((a0.l.length : Int) = (a1.l.length : Int)))) = true then (some false) else ((aI_ (S := Int) (R := (Unit ⊕ Bool)) (fun st1 => (if (decide (st1 < (a0.l.length : Int))) = true then ((elt a0 st1).bind fun y2 => ((elt a1 st1).bind fun y3 => (if (!decide (y2.v = y3.v)) = true then (some (.inr (.inr false))) else (some (.inl (w4 (st1 + 1))))))) else (some (.inr (.inl ()))))) 0).bind fun y1 => (Sum.elim (fun y1 => (some true)) (fun y1 => (some y1)) y1)))
theorem id_ (a0 : (Sl (Iv .i64))) (a1 : (Sl (Iv .i64))) (r : Bool) (h : ev_ a0 a1 = some r) : af_ a0 a1 = some r := by
 unfold ev_ at h
 refine k_W ok_54 E_bool_inj h (fun σ0 => ?_)
 refine t_RN ?_
 refine t_RN ?_
 refine t_if (fun hc1 => ?_) fun hc1 => ?_
 ·refine t_RN ?_
  exact k_eW (rT rN) E_bool_p
 refine t_RN ?_
 refine a4_ (fun st1 fr => Sub [(0, a0.t), (1, a1.t), (5, i4 st1)] fr.s ∧ Heap σ0 fr.σ []) (fun y1 e fr => (Sum.elim (fun y => e = (.exit 0) ∧ Sub [] fr.s ∧ Heap σ0 fr.σ []) (fun y => e = .ret ∧ endW Try.prog (Try.f54.results.toList) σ0 (E_bool y) .ret fr)) y1) (fun hS hH => ⟨(ac_ hS (by kernel_rfl)), hH⟩) (fun st1 x fr h HI => ?_) fun y1 e fr h HF => ?_
 ·obtain ⟨s, σ⟩ := fr; obtain ⟨hS, hH⟩ := HI
  refine t_bk h hS hH ?_
  refine t_RN ?_
  refine t_if (fun hc2 => ?_) fun hc2 => ?_
  ·refine t_D fun mb => ?_
   refine t_U 2 ?_
   refine bY_ fun y2 rest1 hy2 => ?_
   refine t_U 3 ?_
   refine bY_ fun y3 rest2 hy3 => ?_
   refine t_N ?_
   refine t_if (fun hc3 => ?_) fun hc3 => ?_
   ·refine t_RN ?_
    exact t_e fun he hS hH => he ▸ ⟨rfl, (eW hS hH (rT rN) E_bool_p)⟩
   refine t_RN ?_
   exact t_e fun he hS hH => he ▸ ⟨(ac_ hS (by kernel_rfl)), hH⟩
  exact t_e fun he hS hH => he ▸ ⟨rfl, (ac_ hS (by kernel_rfl)), hH⟩
 obtain ⟨s, σ⟩ := fr
 rcases y1 with y1 | y1
 ·have h := el_l h
  obtain ⟨rfl, hS, hH⟩ := HF
  refine t_bx h hS hH ?_
  refine t_RN ?_
  exact k_eW (rT rN) E_bool_p
 have h := el_r h
 obtain ⟨rfl, HE⟩ := HF
 obtain rfl := si_1 h; exact HE
noncomputable def cK_ (a0 : (Sl al_)) (a1 : ByteArray) : Option Int := ((aI_ (S := Int) (R := (Unit ⊕ Int)) (fun st1 => (if (decide (st1 < (a0.l.length : Int))) = true then ((elt a0 st1).bind fun y2 => (if (decide (y2.Name = a1)) = true then (some (.inr (.inr st1))) else (some (.inl (w4 (st1 + 1)))))) else (some (.inr (.inl ()))))) 0).bind fun y1 => (Sum.elim (fun y1 => (some (-1))) (fun y1 => (some y1)) y1))
theorem fe_ (a0 : (Sl al_)) (a1 : ByteArray) (r : Int) (h : cK_ a0 a1 = some r) : cN_ a0 a1 = some r := by
 unfold cK_ at h
 refine k_W ok_66 E_i64_inj h (fun σ0 => ?_)
 refine t_RN ?_
 refine t_RN ?_
 refine a4_ (fun st1 fr => Sub [(0, a0.t), (1, .str a1), (5, i4 st1)] fr.s ∧ Heap σ0 fr.σ []) (fun y1 e fr => (Sum.elim (fun y => e = (.exit 0) ∧ Sub [] fr.s ∧ Heap σ0 fr.σ []) (fun y => e = .ret ∧ endW Try.prog (Try.f66.results.toList) σ0 (E_i64 y) .ret fr)) y1) (fun hS hH => ⟨(ac_ hS (by kernel_rfl)), hH⟩) (fun st1 x fr h HI => ?_) fun y1 e fr h HF => ?_
 ·obtain ⟨s, σ⟩ := fr; obtain ⟨hS, hH⟩ := HI
  refine t_bk h hS hH ?_
  refine t_RN ?_
  refine t_if (fun hc1 => ?_) fun hc1 => ?_
  ·refine t_RU 2 ?_
   refine bY_ fun y2 rest1 hy2 => ?_
   refine t_N ?_
   refine t_if (fun hc2 => ?_) fun hc2 => ?_
   ·refine t_RN ?_
    exact t_e fun he hS hH => he ▸ ⟨rfl, (eW hS hH (rT rN) E_i64_p)⟩
   refine t_RN ?_
   exact t_e fun he hS hH => he ▸ ⟨(ac_ hS (by kernel_rfl)), hH⟩
  exact t_e fun he hS hH => he ▸ ⟨rfl, (ac_ hS (by kernel_rfl)), hH⟩
 obtain ⟨s, σ⟩ := fr
 rcases y1 with y1 | y1
 ·have h := el_l h
  obtain ⟨rfl, hS, hH⟩ := HF
  refine t_bx h hS hH ?_
  refine t_RN ?_
  exact k_eW (rT rN) E_i64_p
 have h := el_r h
 obtain ⟨rfl, HE⟩ := HF
 obtain rfl := si_1 h; exact HE
noncomputable def dq_ (a0 : (Sl al_)) : Option Bool := (if (decide (40 < (a0.l.length : Int))) = true then (some false) else ((aI_ (S := Int) (R := (Unit ⊕ Bool)) (fun st1 => (if (decide (st1 < (a0.l.length : Int))) = true then ((elt a0 st1).bind fun y2 => ((de_ y2.Name).bind fun y3 => (if (!y3) = true then (some (.inr (.inr false))) else ((elt a0 st1).bind fun y4 => ((bC_ y4.Pattern).bind fun y5 => (if (!y5) = true then (some (.inr (.inr false))) else ((aI_ (S := Int) (R := (Unit ⊕ Bool)) (fun st2 => (if (decide (st2 < st1)) = true then ((elt a0 st2).bind fun y7 => ((elt a0 st1).bind fun y8 => (if (decide (y7.Name = y8.Name)) = true then (some (.inr (.inr false))) else (some (.inl (w4 (st2 + 1))))))) else (some (.inr (.inl ()))))) 0).bind fun y6 => (Sum.elim (fun y6 => (some (.inl (w4 (st1 + 1))))) (fun y6 => (some (.inr (.inr y6)))) y6)))))))) else (some (.inr (.inl ()))))) 0).bind fun y1 => (Sum.elim (fun y1 => (some true)) (fun y1 => (some y1)) y1)))
theorem gV_ (a0 : (Sl al_)) (r : Bool) (h : dq_ a0 = some r) : di_ a0 = some r := by
 unfold dq_ at h
 refine k_W ok_67 E_bool_inj h (fun σ0 => ?_)
 refine t_RN ?_
 refine t_RN ?_
 refine t_if (fun hc1 => ?_) fun hc1 => ?_
 ·refine t_RN ?_
  exact k_eW (rT rN) E_bool_p
 refine t_RN ?_
 refine a4_ (fun st1 fr => Sub [(0, a0.t), (3, i4 st1)] fr.s ∧ Heap σ0 fr.σ []) (fun y1 e fr => (Sum.elim (fun y => e = (.exit 0) ∧ Sub [] fr.s ∧ Heap σ0 fr.σ []) (fun y => e = .ret ∧ endW Try.prog (Try.f67.results.toList) σ0 (E_bool y) .ret fr)) y1) (fun hS hH => ⟨(ac_ hS (by kernel_rfl)), hH⟩) (fun st1 x fr h HI => ?_) fun y1 e fr h HF => ?_
 ·obtain ⟨s, σ⟩ := fr; obtain ⟨hS, hH⟩ := HI
  refine t_bk h hS hH ?_
  refine t_RN ?_
  refine t_if (fun hc2 => ?_) fun hc2 => ?_
  ·refine t_RU 2 ?_
   refine bY_ fun y2 rest1 hy2 => ?_
   refine t_U 2 ?_
   refine ao_ fun y3 hy3 => ?_
   refine t_U 2 ?_
   refine ae_ 21 (fun hc3 => ?_) fun hc3 => ?_
   ·refine t_N ?_
    refine t_cT rfl ?_
    refine t_RN ?_
    exact t_e fun he hS hH => he ▸ ⟨rfl, (eW hS hH (rT rN) E_bool_p)⟩
   refine t_U 2 ?_
   refine bY_ fun y4 rest2 hy4 => ?_
   refine t_U 2 ?_
   refine ao_ fun y5 hy5 => ?_
   refine t_N ?_
   refine t_if (fun hc4 => ?_) fun hc4 => ?_
   ·refine t_RN ?_
    exact t_e fun he hS hH => he ▸ ⟨rfl, (eW hS hH (rT rN) E_bool_p)⟩
   refine t_RN ?_
   refine a4_ (fun st2 fr => Sub [(0, a0.t), (3, i4 st1), (4, i4 st2)] fr.s ∧ Heap σ0 fr.σ []) (fun y6 e fr => (Sum.elim (fun y => e = (.exit 2) ∧ Sub [(0, a0.t), (3, i4 st1)] fr.s ∧ Heap σ0 fr.σ []) (fun y => e = .ret ∧ endW Try.prog (Try.f67.results.toList) σ0 (E_bool y) .ret fr)) y6) (fun hS hH => ⟨(ac_ hS (by kernel_rfl)), hH⟩) (fun st2 x fr h HI => ?_) fun y6 e fr h HF => ?_
   ·obtain ⟨s, σ⟩ := fr; obtain ⟨hS, hH⟩ := HI
    refine t_bk h hS hH ?_
    refine t_RN ?_
    refine t_if (fun hc5 => ?_) fun hc5 => ?_
    ·refine t_D fun mb => ?_
     refine t_U 2 ?_
     refine bY_ fun y7 rest3 hy7 => ?_
     refine t_U 4 ?_
     refine bY_ fun y8 rest4 hy8 => ?_
     refine t_N ?_
     refine t_if (fun hc6 => ?_) fun hc6 => ?_
     ·refine t_RN ?_
      exact t_e fun he hS hH => he ▸ ⟨rfl, (eW hS hH (rT rN) E_bool_p)⟩
     refine t_RN ?_
     exact t_e fun he hS hH => he ▸ ⟨(ac_ hS (by kernel_rfl)), hH⟩
    exact t_e fun he hS hH => he ▸ ⟨rfl, (ac_ hS (by kernel_rfl)), hH⟩
   obtain ⟨s, σ⟩ := fr
   rcases y6 with y6 | y6
   ·have h := el_l h
    obtain ⟨rfl, hS, hH⟩ := HF
    refine t_bx h hS hH ?_
    refine t_RN ?_
    exact t_e fun he hS hH => he ▸ ⟨(ac_ hS (by kernel_rfl)), hH⟩
   have h := el_r h
   obtain ⟨rfl, HE⟩ := HF
   obtain rfl := si_1 h; exact ⟨rfl, HE⟩
  exact t_e fun he hS hH => he ▸ ⟨rfl, (ac_ hS (by kernel_rfl)), hH⟩
 obtain ⟨s, σ⟩ := fr
 rcases y1 with y1 | y1
 ·have h := el_l h
  obtain ⟨rfl, hS, hH⟩ := HF
  refine t_bx h hS hH ?_
  refine t_RN ?_
  exact k_eW (rT rN) E_bool_p
 have h := el_r h
 obtain ⟨rfl, HE⟩ := HF
 obtain rfl := si_1 h; exact HE
noncomputable def db_ (a0 : (Sl al_)) (a1 : ByteArray) : Option (DPattern × Bool) := ((((aI_ (S := Int) (R := (Unit ⊕ Int)) (fun st1 => (if (decide (st1 < (a0.l.length : Int))) = true then ((elt a0 st1).bind fun y3 => (if (decide (y3.Name = a1)) = true then (some (.inr (.inr st1))) else (some (.inl (w4 (st1 + 1)))))) else (some (.inr (.inl ()))))) 0).bind fun y2 => (Sum.elim (fun y2 => (some (-1))) (fun y2 => (some y2)) y2)) : Option Int).bind fun y1 => (if (decide (y1 < 0)) = true then (some ((⟨0, 0, ⟨#[]⟩, ⟨true, []⟩⟩ : DPattern), false)) else ((elt a0 y1).bind fun y4 => (some (y4.Pattern, true)))))
theorem fu_ (a0 : (Sl al_)) (a1 : ByteArray) (r : (DPattern × Bool)) (h : db_ a0 a1 = some r) : c7_ a0 a1 = some r := by
 unfold db_ at h
 refine k_W ok_70 E_t2_DPattern_bool_inj h (fun σ0 => ?_)
 refine t_R ?_
 refine cB_ (fun b1 => ?_)
 refine b8_ fun b2 => ?_
 refine t_N ?_
 refine t_RU 2 ?_
 refine d4_ (fun y1 s σ => Sub [(0, a0.t), (4, .ptr b2 0 0 4), (9, i4 y1)] s ∧ Heap σ0 σ [.box b2 [i4 0, i4 0, .str ⟨#[]⟩, (nt DPattern)]]) ok_110 (fun y1 => ?_) fun y1 s σ HF h => ?_
 ·refine t_RN ?_
  refine t_RN ?_
  refine a4_ (fun st1 fr => Sub [(0, a0.t), (1, T.fn 111 [] [.ptr b1 0 0 1]), (7, i4 (a0.l.length : Int)), (8, i4 st1)] fr.s ∧ Heap σ0 fr.σ [.box b2 [i4 0, i4 0, .str ⟨#[]⟩, (nt DPattern)], .box b1 [.str a1]]) (fun y2 e fr => (Sum.elim (fun y => e = (.exit 0) ∧ Sub [] fr.s ∧ Heap σ0 fr.σ [.box b2 [i4 0, i4 0, .str ⟨#[]⟩, (nt DPattern)]]) (fun y => e = .ret ∧ Sub [(4, i4 y)] fr.s ∧ Heap σ0 fr.σ [.box b2 [i4 0, i4 0, .str ⟨#[]⟩, (nt DPattern)]])) y2) (fun hS hH => ⟨(ac_ hS (by kernel_rfl)), hH⟩) (fun st1 x fr h HI => ?_) fun y2 e fr h HF => ?_
  ·obtain ⟨s, σ⟩ := fr; obtain ⟨hS, hH⟩ := HI
   refine t_bk h hS hH ?_
   refine t_RN ?_
   refine t_if (fun hc1 => ?_) fun hc1 => ?_
   ·refine t_RN ?_
    refine t_RU 3 ?_
    refine bY_ fun y3 rest1 hy3 => ?_
    refine t_U 1 ?_
    refine dU_ ok_111 ?_
    refine t_R ?_
    refine cB_ (fun b3 => ?_)
    refine t_N ?_
    refine t_RU 1 ?_
    refine ab_ 0 ?_
    refine ab_ 2 ?_
    refine t_N ?_
    refine k_eI (rT rN) ?_
    refine t_N ?_
    refine t_if (fun hc2 => ?_) fun hc2 => ?_
    ·refine t_RN ?_
     exact t_e fun he hS hH => he ▸ ⟨rfl, (ac_ hS (by kernel_rfl)), (Heap.sel hH [1] rfl (by kernel_rfl))⟩
    refine t_RN ?_
    exact t_e fun he hS hH => he ▸ ⟨(ac_ hS (by kernel_rfl)), (Heap.sel hH [1, 2] rfl (by kernel_rfl))⟩
   exact t_e fun he hS hH => he ▸ ⟨rfl, (ac_ hS (by kernel_rfl)), (Heap.sel hH [0] rfl (by kernel_rfl))⟩
  obtain ⟨s, σ⟩ := fr
  rcases y2 with y2 | y2
  ·have h := el_l h
   obtain ⟨rfl, hS, hH⟩ := HF
   refine t_bx h hS hH ?_
   refine t_RN ?_
   exact bN_ (rT rN) fun he hS hH => he ▸ ⟨(ac_ hS (by kernel_rfl)), hH⟩
  have h := el_r h
  obtain ⟨rfl, hS, hH⟩ := HF
  refine t_bx h hS hH ?_
  exact bN_ (rT rN) fun he hS hH => he ▸ ⟨(ac_ hS (by kernel_rfl)), hH⟩
 obtain ⟨hS, hH⟩ := HF
 refine t_bk h hS hH ?_
 refine t_N ?_
 refine t_RN ?_
 refine t_if (fun hc3 => ?_) fun hc3 => ?_
 ·refine t_RU 1 ?_
  refine bk_ 0 ?_
  refine t_N ?_
  exact k_eW (rC 0 (rT rN)) E_t2_DPattern_bool_p
 refine t_RU 2 ?_
 refine bY_ fun y4 rest2 hy4 => ?_
 refine t_U 2 ?_
 refine bk_ 0 ?_
 refine t_N ?_
 exact k_eW (rC 0 (rT rN)) E_t2_DPattern_bool_p
noncomputable def dz_ (a0 : (Sl al_)) : Option Bool := (if (decide (40 < (a0.l.length : Int))) = true then (some false) else ((ca_ a0 (T.fn 113 [] [])).bind fun y1 => (if (!y1) = true then (some false) else ((aI_ (S := Int) (R := (Unit ⊕ Bool)) (fun st1 => (if (decide (st1 < (a0.l.length : Int))) = true then ((elt a0 st1).bind fun y3 => ((subS a0 0 st1).bind fun y4 => ((c7_ y4 y3.Name).bind fun y5 => (if y5.2 = true then (some (.inr (.inr false))) else (some (.inl (w4 (st1 + 1)))))))) else (some (.inr (.inl ()))))) 0).bind fun y2 => (Sum.elim (fun y2 => (some true)) (fun y2 => (some y2)) y2)))))
theorem gW_ (a0 : (Sl al_)) (r : Bool) (h : dz_ a0 = some r) : dl_ a0 = some r := by
 unfold dz_ at h
 refine k_W ok_71 E_bool_inj h (fun σ0 => ?_)
 refine t_RN ?_
 refine t_RU 4 ?_
 refine ae_ 10 (fun hc1 => ?_) fun hc1 => ?_
 ·refine t_N ?_
  refine t_cT rfl ?_
  refine t_RN ?_
  exact k_eW (rT rN) E_bool_p
 refine t_U 1 ?_
 refine ao_ fun y1 hy1 => ?_
 refine t_N ?_
 refine t_if (fun hc2 => ?_) fun hc2 => ?_
 ·refine t_RN ?_
  exact k_eW (rT rN) E_bool_p
 refine t_RN ?_
 refine a4_ (fun st1 fr => Sub [(0, a0.t), (15, a0.t), (16, i4 (a0.l.length : Int)), (17, i4 st1)] fr.s ∧ Heap σ0 fr.σ []) (fun y2 e fr => (Sum.elim (fun y => e = (.exit 0) ∧ Sub [] fr.s ∧ Heap σ0 fr.σ []) (fun y => e = .ret ∧ endW Try.prog (Try.f71.results.toList) σ0 (E_bool y) .ret fr)) y2) (fun hS hH => ⟨(ac_ hS (by kernel_rfl)), hH⟩) (fun st1 x fr h HI => ?_) fun y2 e fr h HF => ?_
 ·obtain ⟨s, σ⟩ := fr; obtain ⟨hS, hH⟩ := HI
  refine t_bk h hS hH ?_
  refine t_RN ?_
  refine t_if (fun hc3 => ?_) fun hc3 => ?_
  ·refine t_RU 1 ?_
   refine bY_ fun y3 rest1 hy3 => ?_
   refine t_U 1 ?_
   refine b8_ fun b1 => ?_
   refine t_U 1 ?_
   refine bk_ 0 ?_
   refine t_N ?_
   refine be_ [(10, RN)] ext_x fun mb σs hn0 hlt hlto => ?_
   refine t_U 2 ?_
   refine pS_ fun y4 hy4 => ?_
   refine t_U 1 ?_
   refine ab_ 0 ?_ (hlt := by exact (Or.inl (by kernel_rfl)))
   refine ao_ fun y5 hy5 => ?_
   refine t_U 3 ?_
   refine jT_ (by exact hn0) fun b2 hwr_b2 => ?_
   refine bk_ 0 ?_ (hwr := by exact fun _ => Or.inl hwr_b2)
   refine t_N ?_
   refine t_RN ?_
   refine t_if (fun hc4 => ?_) fun hc4 => ?_
   ·refine t_RN ?_
    exact t_e fun he hS hH => he ▸ ⟨rfl, (eW hS hH (rT rN) E_bool_p)⟩
   refine t_RN ?_
   exact t_e fun he hS hH => he ▸ ⟨(ac_ hS (by kernel_rfl)), (Heap.sel hH [] rfl (by kernel_rfl))⟩
  exact t_e fun he hS hH => he ▸ ⟨rfl, (ac_ hS (by kernel_rfl)), hH⟩
 obtain ⟨s, σ⟩ := fr
 rcases y2 with y2 | y2
 ·have h := el_l h
  obtain ⟨rfl, hS, hH⟩ := HF
  refine t_bx h hS hH ?_
  refine t_RN ?_
  exact k_eW (rT rN) E_bool_p
 have h := el_r h
 obtain ⟨rfl, HE⟩ := HF
 obtain rfl := si_1 h; exact HE
noncomputable def b7_ (a0 : DPattern) : Option Bool := ((av_ a0 0).bind fun y1 => (some (decide (y1 ≤ 60))))
theorem fp_ (a0 : DPattern) (r : Bool) (h : b7_ a0 = some r) : bE_ a0 = some r := by
 unfold b7_ at h
 refine k_W ok_78 E_bool_inj h (fun σ0 => ?_)
 refine t_R ?_
 refine cB_ (fun b1 => ?_)
 refine t_N ?_
 refine t_R ?_
 refine ab_ 0 ?_
 refine ao_ fun y1 hy1 => ?_
 refine t_N ?_
 exact k_eW (rT rN) E_bool_p
noncomputable def eg_ (a0 : (Sl al_)) (a1 : DPattern) (a2 : ByteArray) (a3 : Int) : Option Int := ((di_ a0).bind fun y1 => (if (!y1) = true then (some 1) else ((bC_ a1).bind fun y2 => (if (!y2) = true then (some 1) else (if (decide (200 < (a2.size : Int))) = true then (some 1) else ((bL_ a3 0 20000).bind fun y3 => (if (!y3) = true then (some 3) else (some 0))))))))
theorem ia_ (a0 : (Sl al_)) (a1 : DPattern) (a2 : ByteArray) (a3 : Int) (r : Int) (h : eg_ a0 a1 a2 a3 = some r) : fS_ a0 a1 a2 a3 = some r := by
 unfold eg_ at h
 refine k_W ok_84 E_i64_inj h (fun σ0 => ?_)
 refine t_R ?_
 refine cB_ (fun b1 => ?_)
 refine t_N ?_
 refine t_RU 1 ?_
 refine ao_ fun y1 hy1 => ?_
 refine t_U 2 ?_
 refine ae_ 12 (fun hc1 => ?_) fun hc1 => ?_
 ·refine t_N ?_
  refine t_cT rfl ?_
  refine t_RN ?_
  exact k_eW (rT rN) E_i64_p
 refine ab_ 0 ?_
 refine ao_ fun y2 hy2 => ?_
 refine t_U 3 ?_
 refine ae_ 17 (fun hc2 => ?_) fun hc2 => ?_
 ·refine t_N ?_
  refine t_cT rfl ?_
  refine t_RN ?_
  exact k_eW (rT rN) E_i64_p
 refine t_N ?_
 refine t_if (fun hc3 => ?_) fun hc3 => ?_
 ·refine t_RN ?_
  exact k_eW (rT rN) E_i64_p
 refine t_RU 1 ?_
 refine ao_ fun y3 hy3 => ?_
 refine t_N ?_
 refine t_if (fun hc4 => ?_) fun hc4 => ?_
 ·refine t_RN ?_
  exact k_eW (rT rN) E_i64_p
 refine t_RN ?_
 exact k_eW (rT rN) E_i64_p
noncomputable def eD_ (a0 : Int) (a1 : Int) (a2 : Int) : Option Bool := (if (decide (a1 ≤ a0)) = true then (some (decide (a0 ≤ a2))) else (some false))
theorem iJ_ (a0 : Int) (a1 : Int) (a2 : Int) (r : Bool) (h : eD_ a0 a1 a2 = some r) : bL_ a0 a1 a2 = some r := by
 unfold eD_ at h
 refine k_W ok_85 E_bool_inj h (fun σ0 => ?_)
 refine t_RN ?_
 refine t_RU 4 ?_
 refine ae_ 10 (fun hc1 => ?_) fun hc1 => ?_
 ·refine t_N ?_
  exact k_eW (rT rN) E_bool_p
 refine t_N ?_
 exact k_eW (rT rN) E_bool_p
noncomputable def eI_ (a0 : (Sl (Iv .i64))) : Option Int := ((aI_ (S := Int) (R := (Unit ⊕ Int)) (fun st1 => (if (decide (st1 < (a0.l.length : Int))) = true then ((elt a0 st1).bind fun y2 => (if (!decide (y2.v = 0)) = true then (some (.inr (.inr y2.v))) else (some (.inl (w4 (st1 + 1)))))) else (some (.inr (.inl ()))))) 0).bind fun y1 => (Sum.elim (fun y1 => (some 0)) (fun y1 => (some y1)) y1))
theorem i1_ (a0 : (Sl (Iv .i64))) (r : Int) (h : eI_ a0 = some r) : dO_ a0 = some r := by
 unfold eI_ at h
 refine k_W ok_87 E_i64_inj h (fun σ0 => ?_)
 refine t_RN ?_
 refine t_RN ?_
 refine a4_ (fun st1 fr => Sub [(5, a0.t), (6, i4 (a0.l.length : Int)), (7, i4 st1)] fr.s ∧ Heap σ0 fr.σ []) (fun y1 e fr => (Sum.elim (fun y => e = (.exit 0) ∧ Sub [] fr.s ∧ Heap σ0 fr.σ []) (fun y => e = .ret ∧ endW Try.prog (Try.f87.results.toList) σ0 (E_i64 y) .ret fr)) y1) (fun hS hH => ⟨(ac_ hS (by kernel_rfl)), hH⟩) (fun st1 x fr h HI => ?_) fun y1 e fr h HF => ?_
 ·obtain ⟨s, σ⟩ := fr; obtain ⟨hS, hH⟩ := HI
  refine t_bk h hS hH ?_
  refine t_RN ?_
  refine t_if (fun hc1 => ?_) fun hc1 => ?_
  ·refine t_R ?_
   refine bY_ fun y2 rest1 hy2 => ?_
   refine t_N ?_
   refine t_RN ?_
   refine t_if (fun hc2 => ?_) fun hc2 => ?_
   ·refine t_RN ?_
    exact t_e fun he hS hH => he ▸ ⟨rfl, (eW hS hH (rT rN) E_i64_p)⟩
   refine t_RN ?_
   exact t_e fun he hS hH => he ▸ ⟨(ac_ hS (by kernel_rfl)), hH⟩
  exact t_e fun he hS hH => he ▸ ⟨rfl, (ac_ hS (by kernel_rfl)), hH⟩
 obtain ⟨s, σ⟩ := fr
 rcases y1 with y1 | y1
 ·have h := el_l h
  obtain ⟨rfl, hS, hH⟩ := HF
  refine t_bx h hS hH ?_
  refine t_RN ?_
  exact k_eW (rT rN) E_i64_p
 have h := el_r h
 obtain ⟨rfl, HE⟩ := HF
 obtain rfl := si_1 h; exact HE
noncomputable def cC_ (a0 : (Sl al_)) (a1 : DPattern) (a2 : ByteArray) (a3 : Int) : Option Int := ((((dl_ a0).bind fun y6 => (if y6 = true then ((bE_ a1).bind fun y7 => (if y7 = true then ((b5_ a2).bind fun y8 => (some y8)) else (some false))) else (some false))) : Option Bool).bind fun y1 => ((cn_ y1 1).bind fun y2 => ((a8_ a3 0 20000).bind fun y3 => ((cn_ y3 3).bind fun y4 => ((dO_ (⟨false, [⟨y2⟩, ⟨y4⟩]⟩)).bind fun y5 => (some y5))))))
theorem fY_ (a0 : (Sl al_)) (a1 : DPattern) (a2 : ByteArray) (a3 : Int) (r : Int) (h : cC_ a0 a1 a2 a3 = some r) : cu_ a0 a1 a2 a3 = some r := by
 unfold cC_ at h
 refine k_W ok_88 E_i64_inj h (fun σ0 => ?_)
 refine t_R ?_
 refine cB_ (fun b1 => ?_)
 refine t_N ?_
 refine d8_ 0 (fun y1 e fr => e = .normal ∧ Sub [(3, i4 a3), (9, .bool y1)] fr.s ∧ Heap σ0 fr.σ []) (fun y1 e fr h HF => ?_) fun y1 => ?_
 ·obtain ⟨s, σ⟩ := fr
  obtain ⟨rfl, hS, hH⟩ := HF
  refine t_bx h hS hH ?_
  refine t_RU 1 ?_
  refine ao_ fun y2 hy2 => ?_
  refine t_U 1 ?_
  refine ao_ fun y3 hy3 => ?_
  refine ao_ fun y4 hy4 => ?_
  refine k_bs (z := true) (⟨false, [⟨y2⟩, ⟨y4⟩]⟩ : Sl (Iv .i64)) (fun t1 ht1 => ?_)
  refine ar_ (fun y5 hy5 => ?_)
  refine t_N ?_
  exact k_eW (rT rN) E_i64_p
 refine t_RU 1 ?_
 refine ao_ fun y6 hy6 => ?_
 refine t_U 1 ?_
 refine ae_ 12 (fun hc1 => ?_) fun hc1 => ?_
 ·refine ab_ 0 ?_
  refine ao_ fun y7 hy7 => ?_
  refine t_U 2 ?_
  refine ae_ 16 (fun hc2 => ?_) fun hc2 => ?_
  ·refine t_U 1 ?_
   refine ao_ fun y8 hy8 => ?_
   refine t_N ?_
   exact t_e fun he hS hH => he ▸ ⟨rfl, (ac_ hS (by kernel_rfl)), (Heap.sel hH [] rfl (by kernel_rfl))⟩
  refine t_N ?_
  exact t_e fun he hS hH => he ▸ ⟨rfl, (ac_ hS (by kernel_rfl)), (Heap.sel hH [] rfl (by kernel_rfl))⟩
 refine t_N ?_
 exact t_e fun he hS hH => he ▸ ⟨rfl, (ac_ hS (by kernel_rfl)), (Heap.sel hH [] rfl (by kernel_rfl))⟩
noncomputable def el_ (a0 : Bool) (a1 : Int) : Option Int := (if a0 = true then (some 0) else (some a1))
theorem hO_ (a0 : Bool) (a1 : Int) (r : Int) (h : el_ a0 a1 = some r) : cn_ a0 a1 = some r := by
 unfold el_ at h
 refine k_W ok_89 E_i64_inj h (fun σ0 => ?_)
 refine t_RN ?_
 refine t_RN ?_
 refine t_if (fun hc1 => ?_) fun hc1 => ?_
 ·refine t_RN ?_
  exact k_eW (rT rN) E_i64_p
 refine t_RN ?_
 exact k_eW (rT rN) E_i64_p
noncomputable def ep_ (a0 : Int) (a1 : Int) (a2 : Int) : Option Bool := (if (decide (a1 ≤ a0)) = true then (some (decide (a0 ≤ a2))) else (some false))
theorem hS_ (a0 : Int) (a1 : Int) (a2 : Int) (r : Bool) (h : ep_ a0 a1 a2 = some r) : a8_ a0 a1 a2 = some r := by
 unfold ep_ at h
 refine k_W ok_90 E_bool_inj h (fun σ0 => ?_)
 refine t_RN ?_
 refine t_RU 4 ?_
 refine ae_ 10 (fun hc1 => ?_) fun hc1 => ?_
 ·refine t_N ?_
  exact k_eW (rT rN) E_bool_p
 refine t_N ?_
 exact k_eW (rT rN) E_bool_p
end Go.Am
