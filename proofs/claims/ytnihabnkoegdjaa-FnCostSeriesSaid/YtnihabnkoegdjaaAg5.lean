/- Functions of the program. -/
import Derived.Test.YtnihabnkoegdjaaAd0
set_option maxRecDepth 100000
set_option maxHeartbeats 4000000
set_option linter.unusedVariables false
set_option linter.unusedSimpArgs false
namespace Go.Am
open Go.Proofs
noncomputable def eY_ (a0 : ByteArray) (a1 : Int) (a2 : Int) : Option Int := ((aA_ (S := (Int × Int)) (R := (Unit ⊕ Int)) (fun st1 => (if (decide (st1.2 < (a0.size : Int))) = true then ((aO_ a0 st1.2).bind fun y2 => (((if (decide (y2 = 40)) = true then (some (w4 (st1.1 + 1))) else (some st1.1)) : Option Int).bind fun y3 => ((aO_ a0 st1.2).bind fun y4 => (((if (decide (y4 = 41)) = true then (some (w4 (y3 - 1))) else (some y3)) : Option Int).bind fun y5 => (if (decide (y5 < 0)) = true then (some (.inr (.inr (-1)))) else (if (decide (y5 = 0)) = true then (if (decide (a2 < (w4 (st1.2 + 1)))) = true then (some (.inr (.inr (w4 (st1.2 + 1))))) else (some (.inl (y5, (w4 (st1.2 + 1)))))) else (some (.inl (y5, (w4 (st1.2 + 1))))))))))) else (some (.inr (.inl ()))))) (0, a1)).bind fun y1 => (Sum.elim (fun y1 => (some (-1))) (fun y1 => (some y1)) y1))
theorem i0_ (a0 : ByteArray) (a1 : Int) (a2 : Int) (r : Int) (h : eY_ a0 a1 a2 = some r) : bT_ a0 a1 a2 = some r := by
 unfold eY_ at h
 refine k_W ok_150 E_i64_inj h (fun σ0 => ?_)
 refine t_RN ?_
 refine t_RN ?_
 refine t_RN ?_
 refine a2_ (fun st1 fr => Sub [(0, .str a0), (2, i4 a2), (7, i4 st1.1), (8, i4 st1.2)] fr.s ∧ Heap σ0 fr.σ []) (fun y1 e fr => (Sum.elim (fun y => e = (.exit 0) ∧ Sub [] fr.s ∧ Heap σ0 fr.σ []) (fun y => e = .ret ∧ endW Try.prog (Try.f150.results.toList) σ0 (E_i64 y) .ret fr)) y1) (fun hS hH => ⟨(ad_ hS (by kernel_rfl)), hH⟩) (fun st1 x fr h HI => ?_) fun y1 e fr h HF => ?_
 ·obtain ⟨s, σ⟩ := fr; obtain ⟨hS, hH⟩ := HI
  refine t_bk h hS hH ?_
  refine t_RN ?_
  refine t_if (fun hc1 => ?_) fun hc1 => ?_
  ·refine t_RU 2 ?_
   refine dn_ fun y2 hy2 => ?_
   refine t_N ?_
   refine dA_ 0 (fun y3 e fr => e = .normal ∧ Sub [(0, .str a0), (2, i4 a2), (7, i4 y3), (8, i4 st1.2)] fr.s ∧ Heap σ0 fr.σ []) (fun y3 e fr h HF => ?_) fun y3 => ?_
   ·obtain ⟨s, σ⟩ := fr
    obtain ⟨rfl, hS, hH⟩ := HF
    refine t_bx h hS hH ?_
    refine t_RU 2 ?_
    refine dn_ fun y4 hy4 => ?_
    refine t_N ?_
    refine dA_ 0 (fun y5 e fr => e = .normal ∧ Sub [(0, .str a0), (2, i4 a2), (7, i4 y5), (8, i4 st1.2)] fr.s ∧ Heap σ0 fr.σ []) (fun y5 e fr h HF => ?_) fun y5 => ?_
    ·obtain ⟨s, σ⟩ := fr
     obtain ⟨rfl, hS, hH⟩ := HF
     refine t_bx h hS hH ?_
     refine t_RN ?_
     refine t_if (fun hc2 => ?_) fun hc2 => ?_
     ·refine t_RN ?_
      exact t_e fun he hS hH => he ▸ ⟨rfl, (eW hS hH (rT rN) E_i64_p)⟩
     refine t_RU 3 ?_
     refine aH_ 32 (fun hc3 => ?_) fun hc3 => ?_
     ·refine t_N ?_
      refine t_if (fun hc4 => ?_) fun hc4 => ?_
      ·refine t_RN ?_
       exact t_e fun he hS hH => he ▸ ⟨rfl, (eW hS hH (rT rN) E_i64_p)⟩
      refine t_RN ?_
      exact t_e fun he hS hH => he ▸ ⟨(ad_ hS (by kernel_rfl)), hH⟩
     refine t_N ?_
     refine t_cF ff_ne ?_
     refine t_RN ?_
     exact t_e fun he hS hH => he ▸ ⟨(ad_ hS (by kernel_rfl)), hH⟩
    refine t_if (fun hc5 => ?_) fun hc5 => ?_
    ·refine t_RN ?_
     exact t_e fun he hS hH => he ▸ ⟨rfl, (ad_ hS (by kernel_rfl)), hH⟩
    exact t_e fun he hS hH => he ▸ ⟨rfl, (ad_ hS (by kernel_rfl)), hH⟩
   refine t_if (fun hc6 => ?_) fun hc6 => ?_
   ·refine t_RN ?_
    exact t_e fun he hS hH => he ▸ ⟨rfl, (ad_ hS (by kernel_rfl)), hH⟩
   exact t_e fun he hS hH => he ▸ ⟨rfl, (ad_ hS (by kernel_rfl)), hH⟩
  exact t_e fun he hS hH => he ▸ ⟨rfl, (ad_ hS (by kernel_rfl)), hH⟩
 obtain ⟨s, σ⟩ := fr
 rcases y1 with y1 | y1
 ·have h := el_l h
  obtain ⟨rfl, hS, hH⟩ := HF
  refine t_bx h hS hH ?_
  refine t_RN ?_
  exact k_eW (rT rN) E_i64_p
 have h := el_r h
 obtain ⟨rfl, HE⟩ := HF
 obtain rfl := si_1 h; exact HE
noncomputable def b3_ (a0 : (Sl DNamed)) (a1 : ByteArray) : Option Int := ((aA_ (S := Int) (R := (Unit ⊕ Int)) (fun st1 => (if (decide (st1 < (a0.l.length : Int))) = true then ((elt a0 st1).bind fun y2 => (if (decide (y2.Name = a1)) = true then (some (.inr (.inr st1))) else (some (.inl (w4 (st1 + 1)))))) else (some (.inr (.inl ()))))) 0).bind fun y1 => (Sum.elim (fun y1 => (some (-1))) (fun y1 => (some y1)) y1))
theorem dj_ (a0 : (Sl DNamed)) (a1 : ByteArray) (r : Int) (h : b3_ a0 a1 = some r) : b0_ a0 a1 = some r := by
 unfold b3_ at h
 refine k_W ok_153 E_i64_inj h (fun σ0 => ?_)
 refine t_RN ?_
 refine t_RN ?_
 refine a2_ (fun st1 fr => Sub [(0, a0.t), (1, .str a1), (5, i4 st1)] fr.s ∧ Heap σ0 fr.σ []) (fun y1 e fr => (Sum.elim (fun y => e = (.exit 0) ∧ Sub [] fr.s ∧ Heap σ0 fr.σ []) (fun y => e = .ret ∧ endW Try.prog (Try.f153.results.toList) σ0 (E_i64 y) .ret fr)) y1) (fun hS hH => ⟨(ad_ hS (by kernel_rfl)), hH⟩) (fun st1 x fr h HI => ?_) fun y1 e fr h HF => ?_
 ·obtain ⟨s, σ⟩ := fr; obtain ⟨hS, hH⟩ := HI
  refine t_bk h hS hH ?_
  refine t_RN ?_
  refine t_if (fun hc1 => ?_) fun hc1 => ?_
  ·refine t_RU 2 ?_
   refine cw_ fun y2 rest1 hy2 => ?_
   refine t_N ?_
   refine t_if (fun hc2 => ?_) fun hc2 => ?_
   ·refine t_RN ?_
    exact t_e fun he hS hH => he ▸ ⟨rfl, (eW hS hH (rT rN) E_i64_p)⟩
   refine t_RN ?_
   exact t_e fun he hS hH => he ▸ ⟨(ad_ hS (by kernel_rfl)), hH⟩
  exact t_e fun he hS hH => he ▸ ⟨rfl, (ad_ hS (by kernel_rfl)), hH⟩
 obtain ⟨s, σ⟩ := fr
 rcases y1 with y1 | y1
 ·have h := el_l h
  obtain ⟨rfl, hS, hH⟩ := HF
  refine t_bx h hS hH ?_
  refine t_RN ?_
  exact k_eW (rT rN) E_i64_p
 have h := el_r h
 obtain ⟨rfl, HE⟩ := HF
 obtain rfl := si_1 h; exact HE
noncomputable def dH_ (a0 : DPattern) (a1 : ByteArray) (a2 : Int) : Option Int := (((((if (decide (a0.Kind = 1)) = true then (if ((decide ((w4 (a2 + (a0.Text.size : Int))) ≤ (a1.size : Int)))) = true then ((subB a1 a2 (w4 (a2 + (a0.Text.size : Int)))).bind fun y3 => (if (decide (y3 = a0.Text)) = true then (some (.inr (w4 (a2 + (a0.Text.size : Int))))) else (some (.inl ())))) else (some (.inl ()))) else (((if (decide (a0.Kind = 2)) = true then (if (decide (a2 < (a1.size : Int))) = true then ((aO_ a1 a2).bind fun y5 => ((a4_ a0.Text y5).bind fun y6 => (if y6 = true then (some (.inr (w4 (a2 + 1)))) else (some (.inl ()))))) else (some (.inl ()))) else (((if (decide (a0.Kind = 3)) = true then (if (decide (a2 < (a1.size : Int))) = true then ((aO_ a1 a2).bind fun y8 => ((a4_ a0.Text y8).bind fun y9 => (if (!y9) = true then (some (.inr (w4 (a2 + 1)))) else (some (.inl ()))))) else (some (.inl ()))) else (((if (decide (a0.Kind = 4)) = true then ((aA_ (S := Int) (R := Int) (fun st1 => (if (decide (st1 < (a1.size : Int))) = true then ((aO_ a1 st1).bind fun y12 => ((a4_ a0.Text y12).bind fun y13 => (if y13 = true then (some (.inl (w4 (st1 + 1)))) else (some (.inr st1))))) else (some (.inr st1)))) a2).bind fun y11 => (if (decide (a2 < y11)) = true then (some (.inr y11)) else (some (.inl ())))) else (if (decide (a0.Kind = 5)) = true then ((aA_ (S := Int) (R := (Unit ⊕ Int)) (fun st2 => (if (decide (st2 < (a1.size : Int))) = true then ((aO_ a1 st2).bind fun y15 => ((a4_ a0.Text y15).bind fun y16 => (if y16 = true then (some (.inr (.inr st2))) else (some (.inl (w4 (st2 + 1))))))) else (some (.inr (.inl ()))))) a2).bind fun y14 => (Sum.elim (fun y14 => (some (.inl ()))) (fun y14 => (some (.inr y14))) y14)) else (if (decide (a0.Kind = 6)) = true then (if ((decide ((w4 (a2 + a0.Num)) ≤ (a1.size : Int)))) = true then (some (.inr (w4 (a2 + a0.Num)))) else (some (.inl ()))) else (if (decide (a0.Kind = 7)) = true then (if (decide (a2 = a0.Num)) = true then (some (.inr a2)) else (some (.inl ()))) else (if (decide (a0.Kind = 8)) = true then (if (decide (a2 = (w4 ((a1.size : Int) - a0.Num)))) = true then (some (.inr a2)) else (some (.inl ()))) else (if (decide (a0.Kind = 9)) = true then ((b9_ a0.Num a2 (a1.size : Int)).bind fun y17 => (if y17 = true then (some (.inr a0.Num)) else (some (.inl ())))) else (if (decide (a0.Kind = 10)) = true then ((b9_ (w4 ((a1.size : Int) - a0.Num)) a2 (a1.size : Int)).bind fun y18 => (if y18 = true then (some (.inr (w4 ((a1.size : Int) - a0.Num)))) else (some (.inl ())))) else (if (decide (a0.Kind = 11)) = true then (some (.inr (a1.size : Int))) else (some (.inl ())))))))))) : Option (Unit ⊕ Int)).bind fun y10 => (Sum.elim (fun y10 => (some (.inl ()))) (fun y10 => (some (.inr y10))) y10))) : Option (Unit ⊕ Int)).bind fun y7 => (Sum.elim (fun y7 => (some (.inl ()))) (fun y7 => (some (.inr y7))) y7))) : Option (Unit ⊕ Int)).bind fun y4 => (Sum.elim (fun y4 => (some (.inl ()))) (fun y4 => (some (.inr y4))) y4))) : Option (Unit ⊕ Int)).bind fun y2 => (Sum.elim (fun y2 => (some (.inl ()))) (fun y2 => (some (.inr y2))) y2)) : Option (Unit ⊕ Int)).bind fun y1 => (Sum.elim (fun y1 => (some (-1))) (fun y1 => (some y1)) y1))
theorem i3_ (a0 : DPattern) (a1 : ByteArray) (a2 : Int) (r : Int) (h : dH_ a0 a1 a2 = some r) : fg_ a0 a1 a2 = some r := by
 unfold dH_ at h
 refine k_W ok_154 E_i64_inj h (fun σ0 => ?_)
 refine t_R ?_
 refine ct_ (fun b1 => ?_)
 refine t_N ?_
 refine t_RN ?_
 refine t_RU 1 ?_
 refine ae_ 0 ?_
 refine t_N ?_
 refine dA_ 2 (fun y1 e fr => (Sum.elim (fun y => e = .normal ∧ Sub [] fr.s ∧ Heap σ0 fr.σ []) (fun y => e = .ret ∧ endW Try.prog (Try.f154.results.toList) σ0 (E_i64 y) .ret fr)) y1) (fun y1 e fr h HF => ?_) fun y1 => ?_
 ·obtain ⟨s, σ⟩ := fr
  rcases y1 with y1 | y1
  ·have h := el_l h
   obtain ⟨rfl, hS, hH⟩ := HF
   refine t_bx h hS hH ?_
   refine t_RN ?_
   exact k_eW (rT rN) E_i64_p
  have h := el_r h
  obtain ⟨rfl, HE⟩ := HF
  obtain rfl := si_1 h; exact HE
 refine t_RN ?_
 refine dA_ 0 (fun y2 e fr => (Sum.elim (fun y => e = .normal ∧ Sub [] fr.s ∧ Heap σ0 fr.σ []) (fun y => e = .ret ∧ endW Try.prog (Try.f154.results.toList) σ0 (E_i64 y) .ret fr)) y2) (fun y2 e fr h HF => ?_) fun y2 => ?_
 ·obtain ⟨s, σ⟩ := fr
  rcases y2 with y2 | y2
  ·have h := el_l h
   obtain ⟨rfl, hS, hH⟩ := HF
   refine t_bx h hS hH ?_
   exact t_e fun he hS hH => he ▸ ⟨rfl, (ad_ hS (by kernel_rfl)), hH⟩
  have h := el_r h
  obtain ⟨rfl, HE⟩ := HF
  obtain rfl := si_1 h; exact ⟨rfl, HE⟩
 refine t_if (fun hc1 => ?_) fun hc1 => ?_
 ·refine t_RU 1 ?_
  refine ae_ 0 ?_
  refine t_N ?_
  refine t_D fun mb => ?_
  refine t_U 6 ?_
  refine aH_ 25 (fun hc2 => ?_) fun hc2 => ?_
  ·refine t_U 5 ?_
   refine h1_ fun y3 hy3 => ?_
   refine t_U 1 ?_
   refine ae_ 0 ?_
   refine t_N ?_
   refine t_if (fun hc3 => ?_) fun hc3 => ?_
   ·refine t_RN ?_
    exact t_e fun he hS hH => he ▸ ⟨rfl, (eW hS hH (rT rN) E_i64_p)⟩
   exact t_e fun he hS hH => he ▸ ⟨rfl, (ad_ hS (by kernel_rfl)), (Heap.sel hH [] rfl (by kernel_rfl))⟩
  refine t_N ?_
  refine t_cF ff_ne ?_
  exact t_e fun he hS hH => he ▸ ⟨rfl, (ad_ hS (by kernel_rfl)), (Heap.sel hH [] rfl (by kernel_rfl))⟩
 refine t_RN ?_
 refine dA_ 0 (fun y4 e fr => (Sum.elim (fun y => e = .normal ∧ Sub [] fr.s ∧ Heap σ0 fr.σ []) (fun y => e = .ret ∧ endW Try.prog (Try.f154.results.toList) σ0 (E_i64 y) .ret fr)) y4) (fun y4 e fr h HF => ?_) fun y4 => ?_
 ·obtain ⟨s, σ⟩ := fr
  rcases y4 with y4 | y4
  ·have h := el_l h
   obtain ⟨rfl, hS, hH⟩ := HF
   refine t_bx h hS hH ?_
   exact t_e fun he hS hH => he ▸ ⟨rfl, (ad_ hS (by kernel_rfl)), hH⟩
  have h := el_r h
  obtain ⟨rfl, HE⟩ := HF
  obtain rfl := si_1 h; exact ⟨rfl, HE⟩
 refine t_if (fun hc4 => ?_) fun hc4 => ?_
 ·refine t_D fun mb => ?_
  refine t_U 4 ?_
  refine aH_ 44 (fun hc5 => ?_) fun hc5 => ?_
  ·refine t_U 1 ?_
   refine ae_ 0 ?_
   refine t_U 2 ?_
   refine dn_ fun y5 hy5 => ?_
   refine ar_ fun y6 hy6 => ?_
   refine t_N ?_
   refine t_if (fun hc6 => ?_) fun hc6 => ?_
   ·refine t_RN ?_
    exact t_e fun he hS hH => he ▸ ⟨rfl, (eW hS hH (rT rN) E_i64_p)⟩
   exact t_e fun he hS hH => he ▸ ⟨rfl, (ad_ hS (by kernel_rfl)), (Heap.sel hH [] rfl (by kernel_rfl))⟩
  refine t_N ?_
  refine t_cF ff_ne ?_
  exact t_e fun he hS hH => he ▸ ⟨rfl, (ad_ hS (by kernel_rfl)), (Heap.sel hH [] rfl (by kernel_rfl))⟩
 refine t_RN ?_
 refine dA_ 0 (fun y7 e fr => (Sum.elim (fun y => e = .normal ∧ Sub [] fr.s ∧ Heap σ0 fr.σ []) (fun y => e = .ret ∧ endW Try.prog (Try.f154.results.toList) σ0 (E_i64 y) .ret fr)) y7) (fun y7 e fr h HF => ?_) fun y7 => ?_
 ·obtain ⟨s, σ⟩ := fr
  rcases y7 with y7 | y7
  ·have h := el_l h
   obtain ⟨rfl, hS, hH⟩ := HF
   refine t_bx h hS hH ?_
   exact t_e fun he hS hH => he ▸ ⟨rfl, (ad_ hS (by kernel_rfl)), hH⟩
  have h := el_r h
  obtain ⟨rfl, HE⟩ := HF
  obtain rfl := si_1 h; exact ⟨rfl, HE⟩
 refine t_if (fun hc7 => ?_) fun hc7 => ?_
 ·refine t_D fun mb => ?_
  refine t_U 4 ?_
  refine aH_ 59 (fun hc8 => ?_) fun hc8 => ?_
  ·refine t_U 1 ?_
   refine ae_ 0 ?_
   refine t_U 2 ?_
   refine dn_ fun y8 hy8 => ?_
   refine ar_ fun y9 hy9 => ?_
   refine t_N ?_
   refine t_if (fun hc9 => ?_) fun hc9 => ?_
   ·refine t_RN ?_
    exact t_e fun he hS hH => he ▸ ⟨rfl, (eW hS hH (rT rN) E_i64_p)⟩
   exact t_e fun he hS hH => he ▸ ⟨rfl, (ad_ hS (by kernel_rfl)), (Heap.sel hH [] rfl (by kernel_rfl))⟩
  refine t_N ?_
  refine t_cF ff_ne ?_
  exact t_e fun he hS hH => he ▸ ⟨rfl, (ad_ hS (by kernel_rfl)), (Heap.sel hH [] rfl (by kernel_rfl))⟩
 refine t_RN ?_
 refine dA_ 0 (fun y10 e fr => (Sum.elim (fun y => e = .normal ∧ Sub [] fr.s ∧ Heap σ0 fr.σ []) (fun y => e = .ret ∧ endW Try.prog (Try.f154.results.toList) σ0 (E_i64 y) .ret fr)) y10) (fun y10 e fr h HF => ?_) fun y10 => ?_
 ·obtain ⟨s, σ⟩ := fr
  rcases y10 with y10 | y10
  ·have h := el_l h
   obtain ⟨rfl, hS, hH⟩ := HF
   refine t_bx h hS hH ?_
   exact t_e fun he hS hH => he ▸ ⟨rfl, (ad_ hS (by kernel_rfl)), hH⟩
  have h := el_r h
  obtain ⟨rfl, HE⟩ := HF
  obtain rfl := si_1 h; exact ⟨rfl, HE⟩
 refine t_if (fun hc10 => ?_) fun hc10 => ?_
 ·refine t_RN ?_
  refine a2_ (fun st1 fr => Sub [(1, .str a1), (2, i4 a2), (3, .ptr b1 0 0 4), (7, i4 (a1.size : Int)), (9, i4 st1)] fr.s ∧ Heap σ0 fr.σ [.box b1 [i4 a0.Kind, i4 a0.Num, .str a0.Text, a0.Kids.t]]) (fun y11 e fr => e = (.exit 1) ∧ Sub [(2, i4 a2), (9, i4 y11)] fr.s ∧ Heap σ0 fr.σ []) (fun hS hH => ⟨(ad_ hS (by kernel_rfl)), hH⟩) (fun st1 x fr h HI => ?_) fun y11 e fr h HF => ?_
  ·obtain ⟨s, σ⟩ := fr; obtain ⟨hS, hH⟩ := HI
   refine t_bk h hS hH ?_
   refine t_D fun mb => ?_
   refine t_U 4 ?_
   refine aH_ 76 (fun hc11 => ?_) fun hc11 => ?_
   ·refine t_U 1 ?_
    refine ae_ 0 ?_
    refine t_U 2 ?_
    refine dn_ fun y12 hy12 => ?_
    refine ar_ fun y13 hy13 => ?_
    refine t_N ?_
    refine t_if (fun hc12 => ?_) fun hc12 => ?_
    ·refine t_RN ?_
     exact t_e fun he hS hH => he ▸ ⟨(ad_ hS (by kernel_rfl)), hH⟩
    exact t_e fun he hS hH => he ▸ ⟨rfl, (ad_ hS (by kernel_rfl)), (Heap.sel hH [] rfl (by kernel_rfl))⟩
   refine t_N ?_
   refine t_cF ff_ne ?_
   exact t_e fun he hS hH => he ▸ ⟨rfl, (ad_ hS (by kernel_rfl)), (Heap.sel hH [] rfl (by kernel_rfl))⟩
  obtain ⟨s, σ⟩ := fr
  obtain ⟨rfl, hS, hH⟩ := HF
  refine t_bx h hS hH ?_
  refine t_RN ?_
  refine t_if (fun hc13 => ?_) fun hc13 => ?_
  ·refine t_RN ?_
   exact t_e fun he hS hH => he ▸ ⟨rfl, (eW hS hH (rT rN) E_i64_p)⟩
  exact t_e fun he hS hH => he ▸ ⟨rfl, (ad_ hS (by kernel_rfl)), hH⟩
 refine t_RN ?_
 refine t_if (fun hc14 => ?_) fun hc14 => ?_
 ·refine t_RN ?_
  refine a2_ (fun st2 fr => Sub [(1, .str a1), (3, .ptr b1 0 0 4), (7, i4 (a1.size : Int)), (10, i4 st2)] fr.s ∧ Heap σ0 fr.σ [.box b1 [i4 a0.Kind, i4 a0.Num, .str a0.Text, a0.Kids.t]]) (fun y14 e fr => (Sum.elim (fun y => e = (.exit 3) ∧ Sub [] fr.s ∧ Heap σ0 fr.σ []) (fun y => e = .ret ∧ endW Try.prog (Try.f154.results.toList) σ0 (E_i64 y) .ret fr)) y14) (fun hS hH => ⟨(ad_ hS (by kernel_rfl)), hH⟩) (fun st2 x fr h HI => ?_) fun y14 e fr h HF => ?_
  ·obtain ⟨s, σ⟩ := fr; obtain ⟨hS, hH⟩ := HI
   refine t_bk h hS hH ?_
   refine t_RN ?_
   refine t_if (fun hc15 => ?_) fun hc15 => ?_
   ·refine t_D fun mb => ?_
    refine t_U 1 ?_
    refine ae_ 0 ?_
    refine t_U 2 ?_
    refine dn_ fun y15 hy15 => ?_
    refine ar_ fun y16 hy16 => ?_
    refine t_N ?_
    refine t_if (fun hc16 => ?_) fun hc16 => ?_
    ·refine t_RN ?_
     exact t_e fun he hS hH => he ▸ ⟨rfl, (eW hS hH (rT rN) E_i64_p)⟩
    refine t_RN ?_
    exact t_e fun he hS hH => he ▸ ⟨(ad_ hS (by kernel_rfl)), hH⟩
   exact t_e fun he hS hH => he ▸ ⟨rfl, (ad_ hS (by kernel_rfl)), (Heap.sel hH [] rfl (by kernel_rfl))⟩
  obtain ⟨s, σ⟩ := fr
  rcases y14 with y14 | y14
  ·have h := el_l h
   obtain ⟨rfl, hS, hH⟩ := HF
   refine t_bx h hS hH ?_
   exact t_e fun he hS hH => he ▸ ⟨rfl, (ad_ hS (by kernel_rfl)), hH⟩
  have h := el_r h
  obtain ⟨rfl, HE⟩ := HF
  obtain rfl := si_1 h; exact ⟨rfl, HE⟩
 refine t_RN ?_
 refine t_if (fun hc17 => ?_) fun hc17 => ?_
 ·refine t_RU 2 ?_
  refine ae_ 0 ?_
  refine t_N ?_
  refine t_if (fun hc18 => ?_) fun hc18 => ?_
  ·refine t_RU 2 ?_
   refine ae_ 0 ?_
   refine t_N ?_
   exact t_e fun he hS hH => he ▸ ⟨rfl, (eW hS hH (rT rN) E_i64_p)⟩
  exact t_e fun he hS hH => he ▸ ⟨rfl, (ad_ hS (by kernel_rfl)), (Heap.sel hH [] rfl (by kernel_rfl))⟩
 refine t_RN ?_
 refine t_if (fun hc19 => ?_) fun hc19 => ?_
 ·refine t_RU 2 ?_
  refine ae_ 0 ?_
  refine t_N ?_
  refine t_if (fun hc20 => ?_) fun hc20 => ?_
  ·refine t_RN ?_
   exact t_e fun he hS hH => he ▸ ⟨rfl, (eW hS hH (rT rN) E_i64_p)⟩
  exact t_e fun he hS hH => he ▸ ⟨rfl, (ad_ hS (by kernel_rfl)), (Heap.sel hH [] rfl (by kernel_rfl))⟩
 refine t_RN ?_
 refine t_if (fun hc21 => ?_) fun hc21 => ?_
 ·refine t_RU 3 ?_
  refine ae_ 0 ?_
  refine t_N ?_
  refine t_if (fun hc22 => ?_) fun hc22 => ?_
  ·refine t_RN ?_
   exact t_e fun he hS hH => he ▸ ⟨rfl, (eW hS hH (rT rN) E_i64_p)⟩
  exact t_e fun he hS hH => he ▸ ⟨rfl, (ad_ hS (by kernel_rfl)), (Heap.sel hH [] rfl (by kernel_rfl))⟩
 refine t_RN ?_
 refine t_if (fun hc23 => ?_) fun hc23 => ?_
 ·refine t_RU 1 ?_
  refine ae_ 0 ?_
  refine t_U 2 ?_
  refine ar_ fun y17 hy17 => ?_
  refine t_N ?_
  refine t_if (fun hc24 => ?_) fun hc24 => ?_
  ·refine t_RU 1 ?_
   refine ae_ 0 ?_
   refine t_N ?_
   exact t_e fun he hS hH => he ▸ ⟨rfl, (eW hS hH (rT rN) E_i64_p)⟩
  exact t_e fun he hS hH => he ▸ ⟨rfl, (ad_ hS (by kernel_rfl)), (Heap.sel hH [] rfl (by kernel_rfl))⟩
 refine t_RN ?_
 refine t_if (fun hc25 => ?_) fun hc25 => ?_
 ·refine t_RU 2 ?_
  refine ae_ 0 ?_
  refine t_U 3 ?_
  refine ar_ fun y18 hy18 => ?_
  refine t_N ?_
  refine t_if (fun hc26 => ?_) fun hc26 => ?_
  ·refine t_RU 2 ?_
   refine ae_ 0 ?_
   refine t_N ?_
   exact t_e fun he hS hH => he ▸ ⟨rfl, (eW hS hH (rT rN) E_i64_p)⟩
  exact t_e fun he hS hH => he ▸ ⟨rfl, (ad_ hS (by kernel_rfl)), (Heap.sel hH [] rfl (by kernel_rfl))⟩
 refine t_RN ?_
 refine t_if (fun hc27 => ?_) fun hc27 => ?_
 ·refine t_RN ?_
  exact t_e fun he hS hH => he ▸ ⟨rfl, (eW hS hH (rT rN) E_i64_p)⟩
 exact t_e fun he hS hH => he ▸ ⟨rfl, (ad_ hS (by kernel_rfl)), (Heap.sel hH [] rfl (by kernel_rfl))⟩
noncomputable def fb_ (a0 : Int) : Option Bool := ((bc_ a0 2 5).bind fun y1 => (some y1))
theorem jp_ (a0 : Int) (r : Bool) (h : fb_ a0 = some r) : e6_ a0 = some r := by
 unfold fb_ at h
 refine k_W ok_155 E_bool_inj h (fun σ0 => ?_)
 refine t_RN ?_
 refine t_RU 1 ?_
 refine ar_ fun y1 hy1 => ?_
 refine t_N ?_
 exact k_eW (rT rN) E_bool_p
noncomputable def dq_ (a0 : Int) : Option Bool := ((bc_ a0 6 10).bind fun y1 => (some y1))
theorem hk_ (a0 : Int) (r : Bool) (h : dq_ a0 = some r) : dw_ a0 = some r := by
 unfold dq_ at h
 refine k_W ok_156 E_bool_inj h (fun σ0 => ?_)
 refine t_RN ?_
 refine t_RU 1 ?_
 refine ar_ fun y1 hy1 => ?_
 refine t_N ?_
 exact k_eW (rT rN) E_bool_p
noncomputable def ew_ (a0 : Int) : Option Bool := ((bc_ a0 21 24).bind fun y1 => (some y1))
theorem it_ (a0 : Int) (r : Bool) (h : ew_ a0 = some r) : ey_ a0 = some r := by
 unfold ew_ at h
 refine k_W ok_157 E_bool_inj h (fun σ0 => ?_)
 refine t_RN ?_
 refine t_RU 1 ?_
 refine ar_ fun y1 hy1 => ?_
 refine t_N ?_
 exact k_eW (rT rN) E_bool_p
noncomputable def cq_ (a0 : Int) : Option Bool := ((bc_ a0 1 24).bind fun y1 => (some y1))
theorem fV_ (a0 : Int) (r : Bool) (h : cq_ a0 = some r) : cp_ a0 = some r := by
 unfold cq_ at h
 refine k_W ok_158 E_bool_inj h (fun σ0 => ?_)
 refine t_RN ?_
 refine t_RU 1 ?_
 refine ar_ fun y1 hy1 => ?_
 refine t_N ?_
 exact k_eW (rT rN) E_bool_p
noncomputable def fu_ (a0 : Int) : Option Bool := (if (decide (65 ≤ a0)) = true then (if (decide (a0 ≤ 90)) = true then (some true) else (if (decide (97 ≤ a0)) = true then (some (decide (a0 ≤ 122))) else (some false))) else (if (decide (97 ≤ a0)) = true then (some (decide (a0 ≤ 122))) else (some false)))
theorem hC_ (a0 : Int) (r : Bool) (h : fu_ a0 = some r) : cS_ a0 = some r := by
 unfold fu_ at h
 refine k_W ok_159 E_bool_inj h (fun σ0 => ?_)
 refine t_RN ?_
 refine t_RU 3 ?_
 refine aH_ 5 (fun hc1 => ?_) fun hc1 => ?_
 ·refine t_U 4 ?_
  refine aH_ 9 (fun hc2 => ?_) fun hc2 => ?_
  ·refine t_N ?_
   exact k_eW (rT rN) E_bool_p
  refine t_U 3 ?_
  refine aH_ 12 (fun hc3 => ?_) fun hc3 => ?_
  ·refine t_N ?_
   exact k_eW (rT rN) E_bool_p
  refine t_N ?_
  exact k_eW (rT rN) E_bool_p
 refine t_U 7 ?_
 refine aH_ 12 (fun hc4 => ?_) fun hc4 => ?_
 ·refine t_N ?_
  exact k_eW (rT rN) E_bool_p
 refine t_N ?_
 exact k_eW (rT rN) E_bool_p
noncomputable def cL_ (a0 : (Sl (Iv .u8))) (a1 : T) : Option Bool := (if flat1 a1 = true then ((aA_ (S := Int) (R := (Unit ⊕ Bool)) (fun st1 => (if (decide (st1 < (a0.l.length : Int))) = true then ((elt a0 st1).bind fun y2 => ((jd_ Try.prog md ext E_bool a1 [.int .u8 y2.v]).bind fun y3 => (if (!y3) = true then (some (.inr (.inr false))) else (some (.inl (w4 (st1 + 1))))))) else (some (.inr (.inl ()))))) 0).bind fun y1 => (Sum.elim (fun y1 => (some true)) (fun y1 => (some y1)) y1)) else none)
theorem gs_ (a0 : (Sl (Iv .u8))) (a1 : T) (r : Bool) (h : cL_ a0 a1 = some r) : eh_ a0 a1 = some r := by
 unfold cL_ at h
 obtain ⟨hf_a1, h⟩ := jh_ h
 refine k_W ok_160 E_bool_inj h (fun σ0 => ?_) (hf := (all_cons (by kernel_rfl) (all_cons (ll_ hf_a1) all_nil)))
 refine t_RN ?_
 refine t_RN ?_
 refine a2_ (fun st1 fr => Sub [(1, a1), (7, a0.t), (8, i4 (a0.l.length : Int)), (9, i4 st1)] fr.s ∧ Heap σ0 fr.σ []) (fun y1 e fr => (Sum.elim (fun y => e = (.exit 0) ∧ Sub [] fr.s ∧ Heap σ0 fr.σ []) (fun y => e = .ret ∧ endW Try.prog (Try.f160.results.toList) σ0 (E_bool y) .ret fr)) y1) (fun hS hH => ⟨(ad_ hS (by kernel_rfl)), hH⟩) (fun st1 x fr h HI => ?_) fun y1 e fr h HF => ?_
 ·obtain ⟨s, σ⟩ := fr; obtain ⟨hS, hH⟩ := HI
  refine t_bk h hS hH ?_
  refine t_RN ?_
  refine t_if (fun hc1 => ?_) fun hc1 => ?_
  ·refine t_R ?_
   refine cw_ fun y2 rest1 hy2 => ?_
   refine t_N ?_
   refine t_RU 2 ?_
   refine nU_ fun y3 hy3 => ?_
   refine t_N ?_
   refine t_if (fun hc2 => ?_) fun hc2 => ?_
   ·refine t_RN ?_
    exact t_e fun he hS hH => he ▸ ⟨rfl, (eW hS hH (rT rN) E_bool_p)⟩
   refine t_RN ?_
   exact t_e fun he hS hH => he ▸ ⟨(ad_ hS (by kernel_rfl)), hH⟩
  exact t_e fun he hS hH => he ▸ ⟨rfl, (ad_ hS (by kernel_rfl)), hH⟩
 obtain ⟨s, σ⟩ := fr
 rcases y1 with y1 | y1
 ·have h := el_l h
  obtain ⟨rfl, hS, hH⟩ := HF
  refine t_bx h hS hH ?_
  refine t_RN ?_
  exact k_eW (rT rN) E_bool_p
 have h := el_r h
 obtain ⟨rfl, HE⟩ := HF
 obtain rfl := si_1 h; exact HE
noncomputable def c4_ (a0 : Int) : Option Bool := ((cS_ a0).bind fun y1 => (if y1 = true then (some true) else ((ev_ a0).bind fun y2 => (if y2 = true then (some true) else (some (decide (a0 = 95)))))))
theorem gZ_ (a0 : Int) (r : Bool) (h : c4_ a0 = some r) : dd_ a0 = some r := by
 unfold c4_ at h
 refine k_W ok_161 E_bool_inj h (fun σ0 => ?_)
 refine t_RN ?_
 refine t_RU 1 ?_
 refine ar_ fun y1 hy1 => ?_
 refine t_U 1 ?_
 refine aH_ 5 (fun hc1 => ?_) fun hc1 => ?_
 ·refine t_N ?_
  exact k_eW (rT rN) E_bool_p
 refine t_U 1 ?_
 refine ar_ fun y2 hy2 => ?_
 refine t_U 2 ?_
 refine aH_ 9 (fun hc2 => ?_) fun hc2 => ?_
 ·refine t_N ?_
  exact k_eW (rT rN) E_bool_p
 refine t_N ?_
 exact k_eW (rT rN) E_bool_p
noncomputable def a7_ (a0 : ByteArray) (a1 : ByteArray) : Option Bool := (if ((decide ((a1.size : Int) ≤ (a0.size : Int)))) = true then ((subB a0 0 (a1.size : Int)).bind fun y1 => (some (decide (y1 = a1)))) else (some false))
theorem cX_ (a0 : ByteArray) (a1 : ByteArray) (r : Bool) (h : a7_ a0 a1 = some r) : a8_ a0 a1 = some r := by
 unfold a7_ at h
 refine k_W ok_165 E_bool_inj h (fun σ0 => ?_)
 refine t_RN ?_
 refine t_RU 6 ?_
 refine aH_ 10 (fun hc1 => ?_) fun hc1 => ?_
 ·refine t_U 3 ?_
  refine h1_ fun y1 hy1 => ?_
  refine t_N ?_
  exact k_eW (rT rN) E_bool_p
 refine t_N ?_
 exact k_eW (rT rN) E_bool_p
noncomputable def d3_ (a0 : Int) (a1 : ByteArray) : Option Bool := ((cB_ a1 a0).bind fun y1 => (some (decide (0 ≤ y1))))
theorem hV_ (a0 : Int) (a1 : ByteArray) (r : Bool) (h : d3_ a0 a1 = some r) : bf_ a0 a1 = some r := by
 unfold d3_ at h
 refine qq_ E_bool_inj rfl rfl ok_170 (fun bs hb => by obtain ⟨bp1, rfl⟩ := bl1 hb; exact rfl) (fun bs hb => by obtain ⟨bp1, rfl⟩ := bl1 hb; exact (all_cons (by kernel_rfl) (all_cons rfl all_nil))) ?_
 intro σ0 bs s hL hS hH
 obtain ⟨bp1, rfl, hL_bp1⟩ := tE_ hL
 clear hL
 have hS := ad_ (L' := [(0, .int .u8 a0), (1, .ptr bp1 0 0 1)]) hS (by kernel_rfl)
 refine t_go h hS hH ?_
 refine t_RN ?_
 refine t_R ?_
 refine pV_ hL_bp1 ?_
 refine t_U 1 ?_
 refine ar_ fun y1 hy1 => ?_
 refine t_N ?_
 exact k_eW (rT rN) E_bool_p
noncomputable def cI_ (a0 : ByteArray) (a1 : Int) : Option Int := ((ba_ a0 a1).bind fun y1 => (some y1))
theorem gk_ (a0 : ByteArray) (a1 : Int) (r : Int) (h : cI_ a0 a1 = some r) : cB_ a0 a1 = some r := by
 unfold cI_ at h
 refine k_W ok_171 E_i64_inj h (fun σ0 => ?_)
 refine t_RN ?_
 refine t_RU 2 ?_
 refine ar_ fun y1 hy1 => ?_
 refine t_N ?_
 exact k_eW (rT rN) E_i64_p
noncomputable def eu_ (a0 : Int) (a1 : Int) (a2 : Bool) : Option Int := (if a2 = true then (some (w4 (a1 - a0))) else (some a0))
theorem ir_ (a0 : Int) (a1 : Int) (a2 : Bool) (r : Int) (h : eu_ a0 a1 a2 = some r) : dg_ a0 a1 a2 = some r := by
 unfold eu_ at h
 refine k_W ok_174 E_i64_inj h (fun σ0 => ?_)
 refine t_RN ?_
 refine t_RN ?_
 refine t_if (fun hc1 => ?_) fun hc1 => ?_
 ·refine t_RN ?_
  exact k_eW (rT rN) E_i64_p
 refine t_RN ?_
 exact k_eW (rT rN) E_i64_p
noncomputable def ce_ (a0 : ByteArray) (a1 : Int) : Option Int := (if (decide ((a0.size : Int) ≤ a1)) = true then (some a1) else ((aO_ a0 a1).bind fun y1 => ((bX_ y1).bind fun y2 => (if (!y2) = true then (some a1) else ((aA_ (S := Int) (R := Int) (fun st1 => (if (decide (st1 < (a0.size : Int))) = true then ((aO_ a0 st1).bind fun y4 => ((bX_ y4).bind fun y5 => (if y5 = true then (some (.inl (w4 (st1 + 1)))) else ((aO_ a0 st1).bind fun y6 => ((cO_ y6).bind fun y7 => (if y7 = true then (some (.inl (w4 (st1 + 1)))) else ((aO_ a0 st1).bind fun y8 => (if (decide (y8 = 95)) = true then (some (.inl (w4 (st1 + 1)))) else (some (.inr st1)))))))))) else (some (.inr st1)))) a1).bind fun y3 => (some y3))))))
theorem gX_ (a0 : ByteArray) (a1 : Int) (r : Int) (h : ce_ a0 a1 = some r) : dc_ a0 a1 = some r := by
 unfold ce_ at h
 refine k_W ok_176 E_i64_inj h (fun σ0 => ?_)
 refine t_RN ?_
 refine t_RU 5 ?_
 refine aH_ 9 (fun hc1 => ?_) fun hc1 => ?_
 ·refine t_N ?_
  refine t_cT rfl ?_
  refine t_RN ?_
  exact k_eW (rT rN) E_i64_p
 refine t_U 2 ?_
 refine dn_ fun y1 hy1 => ?_
 refine ar_ fun y2 hy2 => ?_
 refine t_N ?_
 refine t_if (fun hc2 => ?_) fun hc2 => ?_
 ·refine t_RN ?_
  exact k_eW (rT rN) E_i64_p
 refine a2_ (fun st1 fr => Sub [(0, .str a0), (1, i4 st1)] fr.s ∧ Heap σ0 fr.σ []) (fun y3 e fr => e = (.exit 0) ∧ Sub [(1, i4 y3)] fr.s ∧ Heap σ0 fr.σ []) (fun hS hH => ⟨(ad_ hS (by kernel_rfl)), hH⟩) (fun st1 x fr h HI => ?_) fun y3 e fr h HF => ?_
 ·obtain ⟨s, σ⟩ := fr; obtain ⟨hS, hH⟩ := HI
  refine t_bk h hS hH ?_
  refine t_RU 5 ?_
  refine aH_ 21 (fun hc3 => ?_) fun hc3 => ?_
  ·refine t_U 2 ?_
   refine dn_ fun y4 hy4 => ?_
   refine ar_ fun y5 hy5 => ?_
   refine t_U 1 ?_
   refine aH_ 26 (fun hc4 => ?_) fun hc4 => ?_
   ·refine t_N ?_
    refine t_cT rfl ?_
    refine t_RN ?_
    exact t_e fun he hS hH => he ▸ ⟨(ad_ hS (by kernel_rfl)), hH⟩
   refine t_U 2 ?_
   refine dn_ fun y6 hy6 => ?_
   refine ar_ fun y7 hy7 => ?_
   refine t_U 2 ?_
   refine aH_ 32 (fun hc5 => ?_) fun hc5 => ?_
   ·refine t_N ?_
    refine t_cT rfl ?_
    refine t_RN ?_
    exact t_e fun he hS hH => he ▸ ⟨(ad_ hS (by kernel_rfl)), hH⟩
   refine t_U 2 ?_
   refine dn_ fun y8 hy8 => ?_
   refine t_N ?_
   refine t_if (fun hc6 => ?_) fun hc6 => ?_
   ·refine t_RN ?_
    exact t_e fun he hS hH => he ▸ ⟨(ad_ hS (by kernel_rfl)), hH⟩
   exact t_e fun he hS hH => he ▸ ⟨rfl, (ad_ hS (by kernel_rfl)), hH⟩
  refine t_N ?_
  refine t_cF ff_ne ?_
  exact t_e fun he hS hH => he ▸ ⟨rfl, (ad_ hS (by kernel_rfl)), hH⟩
 obtain ⟨s, σ⟩ := fr
 obtain ⟨rfl, hS, hH⟩ := HF
 refine t_bx h hS hH ?_
 refine t_RN ?_
 exact k_eW (rT rN) E_i64_p
noncomputable def dZ_ (a0 : ByteArray) (a1 : Int) : Option Bool := ((aA_ (S := Int) (R := (Unit ⊕ Bool)) (fun st1 => (if (decide (st1 < (a0.size : Int))) = true then ((aO_ a0 st1).bind fun y2 => (if (decide (y2 = a1)) = true then (some (.inr (.inr true))) else (some (.inl (w4 (st1 + 1)))))) else (some (.inr (.inl ()))))) 0).bind fun y1 => (Sum.elim (fun y1 => (some false)) (fun y1 => (some y1)) y1))
theorem h2_ (a0 : ByteArray) (a1 : Int) (r : Bool) (h : dZ_ a0 a1 = some r) : a4_ a0 a1 = some r := by
 unfold dZ_ at h
 refine k_W ok_178 E_bool_inj h (fun σ0 => ?_)
 refine t_RN ?_
 refine t_RN ?_
 refine a2_ (fun st1 fr => Sub [(0, .str a0), (1, .int .u8 a1), (5, i4 st1)] fr.s ∧ Heap σ0 fr.σ []) (fun y1 e fr => (Sum.elim (fun y => e = (.exit 0) ∧ Sub [] fr.s ∧ Heap σ0 fr.σ []) (fun y => e = .ret ∧ endW Try.prog (Try.f178.results.toList) σ0 (E_bool y) .ret fr)) y1) (fun hS hH => ⟨(ad_ hS (by kernel_rfl)), hH⟩) (fun st1 x fr h HI => ?_) fun y1 e fr h HF => ?_
 ·obtain ⟨s, σ⟩ := fr; obtain ⟨hS, hH⟩ := HI
  refine t_bk h hS hH ?_
  refine t_RN ?_
  refine t_if (fun hc1 => ?_) fun hc1 => ?_
  ·refine t_RU 2 ?_
   refine dn_ fun y2 hy2 => ?_
   refine t_N ?_
   refine t_if (fun hc2 => ?_) fun hc2 => ?_
   ·refine t_RN ?_
    exact t_e fun he hS hH => he ▸ ⟨rfl, (eW hS hH (rT rN) E_bool_p)⟩
   refine t_RN ?_
   exact t_e fun he hS hH => he ▸ ⟨(ad_ hS (by kernel_rfl)), hH⟩
  exact t_e fun he hS hH => he ▸ ⟨rfl, (ad_ hS (by kernel_rfl)), hH⟩
 obtain ⟨s, σ⟩ := fr
 rcases y1 with y1 | y1
 ·have h := el_l h
  obtain ⟨rfl, hS, hH⟩ := HF
  refine t_bx h hS hH ?_
  refine t_RN ?_
  exact k_eW (rT rN) E_bool_p
 have h := el_r h
 obtain ⟨rfl, HE⟩ := HF
 obtain rfl := si_1 h; exact HE
noncomputable def fY_ (a0 : Int) : Option Bool := (if (decide (48 ≤ a0)) = true then (some (decide (a0 ≤ 57))) else (some false))
theorem iu_ (a0 : Int) (r : Bool) (h : fY_ a0 = some r) : ev_ a0 = some r := by
 unfold fY_ at h
 refine k_W ok_179 E_bool_inj h (fun σ0 => ?_)
 refine t_RN ?_
 refine t_RU 3 ?_
 refine aH_ 5 (fun hc1 => ?_) fun hc1 => ?_
 ·refine t_N ?_
  exact k_eW (rT rN) E_bool_p
 refine t_N ?_
 exact k_eW (rT rN) E_bool_p
noncomputable def a9_ (a0 : ByteArray) (a1 : Int) : Option Int := ((bA_ a0 a1).bind fun y1 => (some y1))
theorem cV_ (a0 : ByteArray) (a1 : Int) (r : Int) (h : a9_ a0 a1 = some r) : ba_ a0 a1 = some r := by
 unfold a9_ at h
 refine k_W ok_181 E_i64_inj h (fun σ0 => ?_)
 refine t_RN ?_
 refine t_RU 2 ?_
 refine ar_ fun y1 hy1 => ?_
 refine t_N ?_
 exact k_eW (rT rN) E_i64_p
noncomputable def fj_ (a0 : Int) : Option Bool := (if (decide (65 ≤ a0)) = true then (if (decide (a0 ≤ 90)) = true then (some true) else (if (decide (97 ≤ a0)) = true then (some (decide (a0 ≤ 122))) else (some false))) else (if (decide (97 ≤ a0)) = true then (some (decide (a0 ≤ 122))) else (some false)))
theorem he_ (a0 : Int) (r : Bool) (h : fj_ a0 = some r) : bX_ a0 = some r := by
 unfold fj_ at h
 refine k_W ok_182 E_bool_inj h (fun σ0 => ?_)
 refine t_RN ?_
 refine t_RU 3 ?_
 refine aH_ 5 (fun hc1 => ?_) fun hc1 => ?_
 ·refine t_U 4 ?_
  refine aH_ 9 (fun hc2 => ?_) fun hc2 => ?_
  ·refine t_N ?_
   exact k_eW (rT rN) E_bool_p
  refine t_U 3 ?_
  refine aH_ 12 (fun hc3 => ?_) fun hc3 => ?_
  ·refine t_N ?_
   exact k_eW (rT rN) E_bool_p
  refine t_N ?_
  exact k_eW (rT rN) E_bool_p
 refine t_U 7 ?_
 refine aH_ 12 (fun hc4 => ?_) fun hc4 => ?_
 ·refine t_N ?_
  exact k_eW (rT rN) E_bool_p
 refine t_N ?_
 exact k_eW (rT rN) E_bool_p
noncomputable def fH_ (a0 : Int) : Option Bool := (if (decide (48 ≤ a0)) = true then (some (decide (a0 ≤ 57))) else (some false))
theorem hK_ (a0 : Int) (r : Bool) (h : fH_ a0 = some r) : cO_ a0 = some r := by
 unfold fH_ at h
 refine k_W ok_183 E_bool_inj h (fun σ0 => ?_)
 refine t_RN ?_
 refine t_RU 3 ?_
 refine aH_ 5 (fun hc1 => ?_) fun hc1 => ?_
 ·refine t_N ?_
  exact k_eW (rT rN) E_bool_p
 refine t_N ?_
 exact k_eW (rT rN) E_bool_p
end Go.Am
