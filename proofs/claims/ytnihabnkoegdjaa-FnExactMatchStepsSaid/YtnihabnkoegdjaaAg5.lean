/- Functions of the program. -/
import Derived.Test.YtnihabnkoegdjaaAd0
set_option maxRecDepth 100000
set_option maxHeartbeats 4000000
set_option linter.unusedVariables false
set_option linter.unusedSimpArgs false
namespace Go.Am
open Go.Proofs
noncomputable def dC_ (a0 : DPattern) (a1 : ByteArray) (a2 : Int) : Option Int := (((((if (decide (a0.Kind = 1)) = true then (if ((decide ((w4 (a2 + (a0.Text.size : Int))) ≤ (a1.size : Int)))) = true then ((subB a1 a2 (w4 (a2 + (a0.Text.size : Int)))).bind fun y3 => (if (decide (y3 = a0.Text)) = true then (some (.inr (w4 (a2 + (a0.Text.size : Int))))) else (some (.inl ())))) else (some (.inl ()))) else (((if (decide (a0.Kind = 2)) = true then (if (decide (a2 < (a1.size : Int))) = true then ((aN_ a1 a2).bind fun y5 => ((aY_ a0.Text y5).bind fun y6 => (if y6 = true then (some (.inr (w4 (a2 + 1)))) else (some (.inl ()))))) else (some (.inl ()))) else (((if (decide (a0.Kind = 3)) = true then (if (decide (a2 < (a1.size : Int))) = true then ((aN_ a1 a2).bind fun y8 => ((aY_ a0.Text y8).bind fun y9 => (if (!y9) = true then (some (.inr (w4 (a2 + 1)))) else (some (.inl ()))))) else (some (.inl ()))) else (((if (decide (a0.Kind = 4)) = true then ((aD_ (S := Int) (R := Int) (fun st1 => (if (decide (st1 < (a1.size : Int))) = true then ((aN_ a1 st1).bind fun y12 => ((aY_ a0.Text y12).bind fun y13 => (if y13 = true then (some (.inl (w4 (st1 + 1)))) else (some (.inr st1))))) else (some (.inr st1)))) a2).bind fun y11 => (if (decide (a2 < y11)) = true then (some (.inr y11)) else (some (.inl ())))) else (if (decide (a0.Kind = 5)) = true then ((aD_ (S := Int) (R := (Unit ⊕ Int)) (fun st2 => (if (decide (st2 < (a1.size : Int))) = true then ((aN_ a1 st2).bind fun y15 => ((aY_ a0.Text y15).bind fun y16 => (if y16 = true then (some (.inr (.inr st2))) else (some (.inl (w4 (st2 + 1))))))) else (some (.inr (.inl ()))))) a2).bind fun y14 => (Sum.elim (fun y14 => (some (.inl ()))) (fun y14 => (some (.inr y14))) y14)) else (if (decide (a0.Kind = 6)) = true then (if ((decide ((w4 (a2 + a0.Num)) ≤ (a1.size : Int)))) = true then (some (.inr (w4 (a2 + a0.Num)))) else (some (.inl ()))) else (if (decide (a0.Kind = 7)) = true then (if (decide (a2 = a0.Num)) = true then (some (.inr a2)) else (some (.inl ()))) else (if (decide (a0.Kind = 8)) = true then (if (decide (a2 = (w4 ((a1.size : Int) - a0.Num)))) = true then (some (.inr a2)) else (some (.inl ()))) else (if (decide (a0.Kind = 9)) = true then ((bP_ a0.Num a2 (a1.size : Int)).bind fun y17 => (if y17 = true then (some (.inr a0.Num)) else (some (.inl ())))) else (if (decide (a0.Kind = 10)) = true then ((bP_ (w4 ((a1.size : Int) - a0.Num)) a2 (a1.size : Int)).bind fun y18 => (if y18 = true then (some (.inr (w4 ((a1.size : Int) - a0.Num)))) else (some (.inl ())))) else (if (decide (a0.Kind = 11)) = true then (some (.inr (a1.size : Int))) else (some (.inl ())))))))))) : Option (Unit ⊕ Int)).bind fun y10 => (Sum.elim (fun y10 => (some (.inl ()))) (fun y10 => (some (.inr y10))) y10))) : Option (Unit ⊕ Int)).bind fun y7 => (Sum.elim (fun y7 => (some (.inl ()))) (fun y7 => (some (.inr y7))) y7))) : Option (Unit ⊕ Int)).bind fun y4 => (Sum.elim (fun y4 => (some (.inl ()))) (fun y4 => (some (.inr y4))) y4))) : Option (Unit ⊕ Int)).bind fun y2 => (Sum.elim (fun y2 => (some (.inl ()))) (fun y2 => (some (.inr y2))) y2)) : Option (Unit ⊕ Int)).bind fun y1 => (Sum.elim (fun y1 => (some (-1))) (fun y1 => (some y1)) y1))
theorem iK_ (a0 : DPattern) (a1 : ByteArray) (a2 : Int) (r : Int) (h : dC_ a0 a1 a2 = some r) : e3_ a0 a1 a2 = some r := by
 unfold dC_ at h
 refine k_W ok_154 E_i64_inj h (fun σ0 => ?_)
 refine t_R ?_
 refine bQ_ (fun b1 => ?_)
 refine t_N ?_
 refine t_RN ?_
 refine t_RU 1 ?_
 refine ae_ 0 ?_
 refine t_N ?_
 refine eK_ 2 (fun y1 e fr => (Sum.elim (fun y => e = .normal ∧ Sub [] fr.s ∧ Heap σ0 fr.σ []) (fun y => e = .ret ∧ endW Try.prog (Try.f154.results.toList) σ0 (E_i64 y) .ret fr)) y1) (fun y1 e fr h HF => ?_) fun y1 => ?_
 ·obtain ⟨s, σ⟩ := fr
  rcases y1 with y1 | y1
  ·have h := el_l h
   obtain ⟨rfl, hS, hH⟩ := HF
   refine t_bx h hS hH ?_
   refine t_RN ?_
   exact k_eW (rT rN) E_i64_p
  have h := el_r h
  obtain ⟨rfl, HE⟩ := HF
  obtain rfl := si_1 h; exact HE
 refine t_RN ?_
 refine eK_ 0 (fun y2 e fr => (Sum.elim (fun y => e = .normal ∧ Sub [] fr.s ∧ Heap σ0 fr.σ []) (fun y => e = .ret ∧ endW Try.prog (Try.f154.results.toList) σ0 (E_i64 y) .ret fr)) y2) (fun y2 e fr h HF => ?_) fun y2 => ?_
 ·obtain ⟨s, σ⟩ := fr
  rcases y2 with y2 | y2
  ·have h := el_l h
   obtain ⟨rfl, hS, hH⟩ := HF
   refine t_bx h hS hH ?_
   exact t_e fun he hS hH => he ▸ ⟨rfl, (af_ hS (by kernel_rfl)), hH⟩
  have h := el_r h
  obtain ⟨rfl, HE⟩ := HF
  obtain rfl := si_1 h; exact ⟨rfl, HE⟩
 refine t_if (fun hc1 => ?_) fun hc1 => ?_
 ·refine t_RU 1 ?_
  refine ae_ 0 ?_
  refine t_N ?_
  refine t_D fun mb => ?_
  refine t_U 6 ?_
  refine aK_ 25 (fun hc2 => ?_) fun hc2 => ?_
  ·refine t_U 5 ?_
   refine hG_ fun y3 hy3 => ?_
   refine t_U 1 ?_
   refine ae_ 0 ?_
   refine t_N ?_
   refine t_if (fun hc3 => ?_) fun hc3 => ?_
   ·refine t_RN ?_
    exact t_e fun he hS hH => he ▸ ⟨rfl, (eW hS hH (rT rN) E_i64_p)⟩
   exact t_e fun he hS hH => he ▸ ⟨rfl, (af_ hS (by kernel_rfl)), (Heap.sel hH [] rfl (by kernel_rfl))⟩
  refine t_N ?_
  refine t_cF ff_ne ?_
  exact t_e fun he hS hH => he ▸ ⟨rfl, (af_ hS (by kernel_rfl)), (Heap.sel hH [] rfl (by kernel_rfl))⟩
 refine t_RN ?_
 refine eK_ 0 (fun y4 e fr => (Sum.elim (fun y => e = .normal ∧ Sub [] fr.s ∧ Heap σ0 fr.σ []) (fun y => e = .ret ∧ endW Try.prog (Try.f154.results.toList) σ0 (E_i64 y) .ret fr)) y4) (fun y4 e fr h HF => ?_) fun y4 => ?_
 ·obtain ⟨s, σ⟩ := fr
  rcases y4 with y4 | y4
  ·have h := el_l h
   obtain ⟨rfl, hS, hH⟩ := HF
   refine t_bx h hS hH ?_
   exact t_e fun he hS hH => he ▸ ⟨rfl, (af_ hS (by kernel_rfl)), hH⟩
  have h := el_r h
  obtain ⟨rfl, HE⟩ := HF
  obtain rfl := si_1 h; exact ⟨rfl, HE⟩
 refine t_if (fun hc4 => ?_) fun hc4 => ?_
 ·refine t_D fun mb => ?_
  refine t_U 4 ?_
  refine aK_ 44 (fun hc5 => ?_) fun hc5 => ?_
  ·refine t_U 1 ?_
   refine ae_ 0 ?_
   refine t_U 2 ?_
   refine dd_ fun y5 hy5 => ?_
   refine av_ fun y6 hy6 => ?_
   refine t_N ?_
   refine t_if (fun hc6 => ?_) fun hc6 => ?_
   ·refine t_RN ?_
    exact t_e fun he hS hH => he ▸ ⟨rfl, (eW hS hH (rT rN) E_i64_p)⟩
   exact t_e fun he hS hH => he ▸ ⟨rfl, (af_ hS (by kernel_rfl)), (Heap.sel hH [] rfl (by kernel_rfl))⟩
  refine t_N ?_
  refine t_cF ff_ne ?_
  exact t_e fun he hS hH => he ▸ ⟨rfl, (af_ hS (by kernel_rfl)), (Heap.sel hH [] rfl (by kernel_rfl))⟩
 refine t_RN ?_
 refine eK_ 0 (fun y7 e fr => (Sum.elim (fun y => e = .normal ∧ Sub [] fr.s ∧ Heap σ0 fr.σ []) (fun y => e = .ret ∧ endW Try.prog (Try.f154.results.toList) σ0 (E_i64 y) .ret fr)) y7) (fun y7 e fr h HF => ?_) fun y7 => ?_
 ·obtain ⟨s, σ⟩ := fr
  rcases y7 with y7 | y7
  ·have h := el_l h
   obtain ⟨rfl, hS, hH⟩ := HF
   refine t_bx h hS hH ?_
   exact t_e fun he hS hH => he ▸ ⟨rfl, (af_ hS (by kernel_rfl)), hH⟩
  have h := el_r h
  obtain ⟨rfl, HE⟩ := HF
  obtain rfl := si_1 h; exact ⟨rfl, HE⟩
 refine t_if (fun hc7 => ?_) fun hc7 => ?_
 ·refine t_D fun mb => ?_
  refine t_U 4 ?_
  refine aK_ 59 (fun hc8 => ?_) fun hc8 => ?_
  ·refine t_U 1 ?_
   refine ae_ 0 ?_
   refine t_U 2 ?_
   refine dd_ fun y8 hy8 => ?_
   refine av_ fun y9 hy9 => ?_
   refine t_N ?_
   refine t_if (fun hc9 => ?_) fun hc9 => ?_
   ·refine t_RN ?_
    exact t_e fun he hS hH => he ▸ ⟨rfl, (eW hS hH (rT rN) E_i64_p)⟩
   exact t_e fun he hS hH => he ▸ ⟨rfl, (af_ hS (by kernel_rfl)), (Heap.sel hH [] rfl (by kernel_rfl))⟩
  refine t_N ?_
  refine t_cF ff_ne ?_
  exact t_e fun he hS hH => he ▸ ⟨rfl, (af_ hS (by kernel_rfl)), (Heap.sel hH [] rfl (by kernel_rfl))⟩
 refine t_RN ?_
 refine eK_ 0 (fun y10 e fr => (Sum.elim (fun y => e = .normal ∧ Sub [] fr.s ∧ Heap σ0 fr.σ []) (fun y => e = .ret ∧ endW Try.prog (Try.f154.results.toList) σ0 (E_i64 y) .ret fr)) y10) (fun y10 e fr h HF => ?_) fun y10 => ?_
 ·obtain ⟨s, σ⟩ := fr
  rcases y10 with y10 | y10
  ·have h := el_l h
   obtain ⟨rfl, hS, hH⟩ := HF
   refine t_bx h hS hH ?_
   exact t_e fun he hS hH => he ▸ ⟨rfl, (af_ hS (by kernel_rfl)), hH⟩
  have h := el_r h
  obtain ⟨rfl, HE⟩ := HF
  obtain rfl := si_1 h; exact ⟨rfl, HE⟩
 refine t_if (fun hc10 => ?_) fun hc10 => ?_
 ·refine t_RN ?_
  refine aZ_ (fun st1 fr => Sub [(1, .str a1), (2, i4 a2), (3, .ptr b1 0 0 4), (7, i4 (a1.size : Int)), (9, i4 st1)] fr.s ∧ Heap σ0 fr.σ [.box b1 [i4 a0.Kind, i4 a0.Num, .str a0.Text, a0.Kids.t]]) (fun y11 e fr => e = (.exit 1) ∧ Sub [(2, i4 a2), (9, i4 y11)] fr.s ∧ Heap σ0 fr.σ []) (fun hS hH => ⟨(af_ hS (by kernel_rfl)), hH⟩) (fun st1 x fr h HI => ?_) fun y11 e fr h HF => ?_
  ·obtain ⟨s, σ⟩ := fr; obtain ⟨hS, hH⟩ := HI
   refine t_bk h hS hH ?_
   refine t_D fun mb => ?_
   refine t_U 4 ?_
   refine aK_ 76 (fun hc11 => ?_) fun hc11 => ?_
   ·refine t_U 1 ?_
    refine ae_ 0 ?_
    refine t_U 2 ?_
    refine dd_ fun y12 hy12 => ?_
    refine av_ fun y13 hy13 => ?_
    refine t_N ?_
    refine t_if (fun hc12 => ?_) fun hc12 => ?_
    ·refine t_RN ?_
     exact t_e fun he hS hH => he ▸ ⟨(af_ hS (by kernel_rfl)), hH⟩
    exact t_e fun he hS hH => he ▸ ⟨rfl, (af_ hS (by kernel_rfl)), (Heap.sel hH [] rfl (by kernel_rfl))⟩
   refine t_N ?_
   refine t_cF ff_ne ?_
   exact t_e fun he hS hH => he ▸ ⟨rfl, (af_ hS (by kernel_rfl)), (Heap.sel hH [] rfl (by kernel_rfl))⟩
  obtain ⟨s, σ⟩ := fr
  obtain ⟨rfl, hS, hH⟩ := HF
  refine t_bx h hS hH ?_
  refine t_RN ?_
  refine t_if (fun hc13 => ?_) fun hc13 => ?_
  ·refine t_RN ?_
   exact t_e fun he hS hH => he ▸ ⟨rfl, (eW hS hH (rT rN) E_i64_p)⟩
  exact t_e fun he hS hH => he ▸ ⟨rfl, (af_ hS (by kernel_rfl)), hH⟩
 refine t_RN ?_
 refine t_if (fun hc14 => ?_) fun hc14 => ?_
 ·refine t_RN ?_
  refine aZ_ (fun st2 fr => Sub [(1, .str a1), (3, .ptr b1 0 0 4), (7, i4 (a1.size : Int)), (10, i4 st2)] fr.s ∧ Heap σ0 fr.σ [.box b1 [i4 a0.Kind, i4 a0.Num, .str a0.Text, a0.Kids.t]]) (fun y14 e fr => (Sum.elim (fun y => e = (.exit 3) ∧ Sub [] fr.s ∧ Heap σ0 fr.σ []) (fun y => e = .ret ∧ endW Try.prog (Try.f154.results.toList) σ0 (E_i64 y) .ret fr)) y14) (fun hS hH => ⟨(af_ hS (by kernel_rfl)), hH⟩) (fun st2 x fr h HI => ?_) fun y14 e fr h HF => ?_
  ·obtain ⟨s, σ⟩ := fr; obtain ⟨hS, hH⟩ := HI
   refine t_bk h hS hH ?_
   refine t_RN ?_
   refine t_if (fun hc15 => ?_) fun hc15 => ?_
   ·refine t_D fun mb => ?_
    refine t_U 1 ?_
    refine ae_ 0 ?_
    refine t_U 2 ?_
    refine dd_ fun y15 hy15 => ?_
    refine av_ fun y16 hy16 => ?_
    refine t_N ?_
    refine t_if (fun hc16 => ?_) fun hc16 => ?_
    ·refine t_RN ?_
     exact t_e fun he hS hH => he ▸ ⟨rfl, (eW hS hH (rT rN) E_i64_p)⟩
    refine t_RN ?_
    exact t_e fun he hS hH => he ▸ ⟨(af_ hS (by kernel_rfl)), hH⟩
   exact t_e fun he hS hH => he ▸ ⟨rfl, (af_ hS (by kernel_rfl)), (Heap.sel hH [] rfl (by kernel_rfl))⟩
  obtain ⟨s, σ⟩ := fr
  rcases y14 with y14 | y14
  ·have h := el_l h
   obtain ⟨rfl, hS, hH⟩ := HF
   refine t_bx h hS hH ?_
   exact t_e fun he hS hH => he ▸ ⟨rfl, (af_ hS (by kernel_rfl)), hH⟩
  have h := el_r h
  obtain ⟨rfl, HE⟩ := HF
  obtain rfl := si_1 h; exact ⟨rfl, HE⟩
 refine t_RN ?_
 refine t_if (fun hc17 => ?_) fun hc17 => ?_
 ·refine t_RU 2 ?_
  refine ae_ 0 ?_
  refine t_N ?_
  refine t_if (fun hc18 => ?_) fun hc18 => ?_
  ·refine t_RU 2 ?_
   refine ae_ 0 ?_
   refine t_N ?_
   exact t_e fun he hS hH => he ▸ ⟨rfl, (eW hS hH (rT rN) E_i64_p)⟩
  exact t_e fun he hS hH => he ▸ ⟨rfl, (af_ hS (by kernel_rfl)), (Heap.sel hH [] rfl (by kernel_rfl))⟩
 refine t_RN ?_
 refine t_if (fun hc19 => ?_) fun hc19 => ?_
 ·refine t_RU 2 ?_
  refine ae_ 0 ?_
  refine t_N ?_
  refine t_if (fun hc20 => ?_) fun hc20 => ?_
  ·refine t_RN ?_
   exact t_e fun he hS hH => he ▸ ⟨rfl, (eW hS hH (rT rN) E_i64_p)⟩
  exact t_e fun he hS hH => he ▸ ⟨rfl, (af_ hS (by kernel_rfl)), (Heap.sel hH [] rfl (by kernel_rfl))⟩
 refine t_RN ?_
 refine t_if (fun hc21 => ?_) fun hc21 => ?_
 ·refine t_RU 3 ?_
  refine ae_ 0 ?_
  refine t_N ?_
  refine t_if (fun hc22 => ?_) fun hc22 => ?_
  ·refine t_RN ?_
   exact t_e fun he hS hH => he ▸ ⟨rfl, (eW hS hH (rT rN) E_i64_p)⟩
  exact t_e fun he hS hH => he ▸ ⟨rfl, (af_ hS (by kernel_rfl)), (Heap.sel hH [] rfl (by kernel_rfl))⟩
 refine t_RN ?_
 refine t_if (fun hc23 => ?_) fun hc23 => ?_
 ·refine t_RU 1 ?_
  refine ae_ 0 ?_
  refine t_U 2 ?_
  refine av_ fun y17 hy17 => ?_
  refine t_N ?_
  refine t_if (fun hc24 => ?_) fun hc24 => ?_
  ·refine t_RU 1 ?_
   refine ae_ 0 ?_
   refine t_N ?_
   exact t_e fun he hS hH => he ▸ ⟨rfl, (eW hS hH (rT rN) E_i64_p)⟩
  exact t_e fun he hS hH => he ▸ ⟨rfl, (af_ hS (by kernel_rfl)), (Heap.sel hH [] rfl (by kernel_rfl))⟩
 refine t_RN ?_
 refine t_if (fun hc25 => ?_) fun hc25 => ?_
 ·refine t_RU 2 ?_
  refine ae_ 0 ?_
  refine t_U 3 ?_
  refine av_ fun y18 hy18 => ?_
  refine t_N ?_
  refine t_if (fun hc26 => ?_) fun hc26 => ?_
  ·refine t_RU 2 ?_
   refine ae_ 0 ?_
   refine t_N ?_
   exact t_e fun he hS hH => he ▸ ⟨rfl, (eW hS hH (rT rN) E_i64_p)⟩
  exact t_e fun he hS hH => he ▸ ⟨rfl, (af_ hS (by kernel_rfl)), (Heap.sel hH [] rfl (by kernel_rfl))⟩
 refine t_RN ?_
 refine t_if (fun hc27 => ?_) fun hc27 => ?_
 ·refine t_RN ?_
  exact t_e fun he hS hH => he ▸ ⟨rfl, (eW hS hH (rT rN) E_i64_p)⟩
 exact t_e fun he hS hH => he ▸ ⟨rfl, (af_ hS (by kernel_rfl)), (Heap.sel hH [] rfl (by kernel_rfl))⟩
noncomputable def fa_ (a0 : Int) : Option Bool := ((bt_ a0 2 5).bind fun y1 => (some y1))
theorem iM_ (a0 : Int) (r : Bool) (h : fa_ a0 = some r) : eT_ a0 = some r := by
 unfold fa_ at h
 refine k_W ok_155 E_bool_inj h (fun σ0 => ?_)
 refine t_RN ?_
 refine t_RU 1 ?_
 refine av_ fun y1 hy1 => ?_
 refine t_N ?_
 exact k_eW (rT rN) E_bool_p
noncomputable def dn_ (a0 : Int) : Option Bool := ((bt_ a0 6 10).bind fun y1 => (some y1))
theorem gZ_ (a0 : Int) (r : Bool) (h : dn_ a0 = some r) : dj_ a0 = some r := by
 unfold dn_ at h
 refine k_W ok_156 E_bool_inj h (fun σ0 => ?_)
 refine t_RN ?_
 refine t_RU 1 ?_
 refine av_ fun y1 hy1 => ?_
 refine t_N ?_
 exact k_eW (rT rN) E_bool_p
noncomputable def ek_ (a0 : Int) : Option Bool := ((bt_ a0 21 24).bind fun y1 => (some y1))
theorem h5_ (a0 : Int) (r : Bool) (h : ek_ a0 = some r) : es_ a0 = some r := by
 unfold ek_ at h
 refine k_W ok_157 E_bool_inj h (fun σ0 => ?_)
 refine t_RN ?_
 refine t_RU 1 ?_
 refine av_ fun y1 hy1 => ?_
 refine t_N ?_
 exact k_eW (rT rN) E_bool_p
noncomputable def ca_ (a0 : Int) : Option Bool := ((bt_ a0 1 24).bind fun y1 => (some y1))
theorem fL_ (a0 : Int) (r : Bool) (h : ca_ a0 = some r) : b9_ a0 = some r := by
 unfold ca_ at h
 refine k_W ok_158 E_bool_inj h (fun σ0 => ?_)
 refine t_RN ?_
 refine t_RU 1 ?_
 refine av_ fun y1 hy1 => ?_
 refine t_N ?_
 exact k_eW (rT rN) E_bool_p
noncomputable def fo_ (a0 : Int) : Option Bool := (if (decide (65 ≤ a0)) = true then (if (decide (a0 ≤ 90)) = true then (some true) else (if (decide (97 ≤ a0)) = true then (some (decide (a0 ≤ 122))) else (some false))) else (if (decide (97 ≤ a0)) = true then (some (decide (a0 ≤ 122))) else (some false)))
theorem ht_ (a0 : Int) (r : Bool) (h : fo_ a0 = some r) : cG_ a0 = some r := by
 unfold fo_ at h
 refine k_W ok_159 E_bool_inj h (fun σ0 => ?_)
 refine t_RN ?_
 refine t_RU 3 ?_
 refine aK_ 5 (fun hc1 => ?_) fun hc1 => ?_
 ·refine t_U 4 ?_
  refine aK_ 9 (fun hc2 => ?_) fun hc2 => ?_
  ·refine t_N ?_
   exact k_eW (rT rN) E_bool_p
  refine t_U 3 ?_
  refine aK_ 12 (fun hc3 => ?_) fun hc3 => ?_
  ·refine t_N ?_
   exact k_eW (rT rN) E_bool_p
  refine t_N ?_
  exact k_eW (rT rN) E_bool_p
 refine t_U 7 ?_
 refine aK_ 12 (fun hc4 => ?_) fun hc4 => ?_
 ·refine t_N ?_
  exact k_eW (rT rN) E_bool_p
 refine t_N ?_
 exact k_eW (rT rN) E_bool_p
noncomputable def cE_ (a0 : (Sl (Iv .u8))) (a1 : T) : Option Bool := (if flat1 a1 = true then ((aD_ (S := Int) (R := (Unit ⊕ Bool)) (fun st1 => (if (decide (st1 < (a0.l.length : Int))) = true then ((elt a0 st1).bind fun y2 => ((iJ_ Try.prog md ext E_bool a1 [.int .u8 y2.v]).bind fun y3 => (if (!y3) = true then (some (.inr (.inr false))) else (some (.inl (w4 (st1 + 1))))))) else (some (.inr (.inl ()))))) 0).bind fun y1 => (Sum.elim (fun y1 => (some true)) (fun y1 => (some y1)) y1)) else none)
theorem go_ (a0 : (Sl (Iv .u8))) (a1 : T) (r : Bool) (h : cE_ a0 a1 = some r) : ei_ a0 a1 = some r := by
 unfold cE_ at h
 obtain ⟨hf_a1, h⟩ := ja_ h
 refine k_W ok_160 E_bool_inj h (fun σ0 => ?_) (hf := (all_cons (by kernel_rfl) (all_cons (lq_ hf_a1) all_nil)))
 refine t_RN ?_
 refine t_RN ?_
 refine aZ_ (fun st1 fr => Sub [(1, a1), (7, a0.t), (8, i4 (a0.l.length : Int)), (9, i4 st1)] fr.s ∧ Heap σ0 fr.σ []) (fun y1 e fr => (Sum.elim (fun y => e = (.exit 0) ∧ Sub [] fr.s ∧ Heap σ0 fr.σ []) (fun y => e = .ret ∧ endW Try.prog (Try.f160.results.toList) σ0 (E_bool y) .ret fr)) y1) (fun hS hH => ⟨(af_ hS (by kernel_rfl)), hH⟩) (fun st1 x fr h HI => ?_) fun y1 e fr h HF => ?_
 ·obtain ⟨s, σ⟩ := fr; obtain ⟨hS, hH⟩ := HI
  refine t_bk h hS hH ?_
  refine t_RN ?_
  refine t_if (fun hc1 => ?_) fun hc1 => ?_
  ·refine t_R ?_
   refine bX_ fun y2 rest1 hy2 => ?_
   refine t_N ?_
   refine t_RU 2 ?_
   refine ms_ fun y3 hy3 => ?_
   refine t_N ?_
   refine t_if (fun hc2 => ?_) fun hc2 => ?_
   ·refine t_RN ?_
    exact t_e fun he hS hH => he ▸ ⟨rfl, (eW hS hH (rT rN) E_bool_p)⟩
   refine t_RN ?_
   exact t_e fun he hS hH => he ▸ ⟨(af_ hS (by kernel_rfl)), hH⟩
  exact t_e fun he hS hH => he ▸ ⟨rfl, (af_ hS (by kernel_rfl)), hH⟩
 obtain ⟨s, σ⟩ := fr
 rcases y1 with y1 | y1
 ·have h := el_l h
  obtain ⟨rfl, hS, hH⟩ := HF
  refine t_bx h hS hH ?_
  refine t_RN ?_
  exact k_eW (rT rN) E_bool_p
 have h := el_r h
 obtain ⟨rfl, HE⟩ := HF
 obtain rfl := si_1 h; exact HE
noncomputable def c5_ (a0 : Int) : Option Bool := ((cG_ a0).bind fun y1 => (if y1 = true then (some true) else ((ev_ a0).bind fun y2 => (if y2 = true then (some true) else (some (decide (a0 = 95)))))))
theorem gG_ (a0 : Int) (r : Bool) (h : c5_ a0 = some r) : cZ_ a0 = some r := by
 unfold c5_ at h
 refine k_W ok_161 E_bool_inj h (fun σ0 => ?_)
 refine t_RN ?_
 refine t_RU 1 ?_
 refine av_ fun y1 hy1 => ?_
 refine t_U 1 ?_
 refine aK_ 5 (fun hc1 => ?_) fun hc1 => ?_
 ·refine t_N ?_
  exact k_eW (rT rN) E_bool_p
 refine t_U 1 ?_
 refine av_ fun y2 hy2 => ?_
 refine t_U 2 ?_
 refine aK_ 9 (fun hc2 => ?_) fun hc2 => ?_
 ·refine t_N ?_
  exact k_eW (rT rN) E_bool_p
 refine t_N ?_
 exact k_eW (rT rN) E_bool_p
noncomputable def a1_ (a0 : ByteArray) (a1 : ByteArray) : Option Bool := (if ((decide ((a1.size : Int) ≤ (a0.size : Int)))) = true then ((subB a0 0 (a1.size : Int)).bind fun y1 => (some (decide (y1 = a1)))) else (some false))
theorem cM_ (a0 : ByteArray) (a1 : ByteArray) (r : Bool) (h : a1_ a0 a1 = some r) : a4_ a0 a1 = some r := by
 unfold a1_ at h
 refine k_W ok_165 E_bool_inj h (fun σ0 => ?_)
 refine t_RN ?_
 refine t_RU 6 ?_
 refine aK_ 10 (fun hc1 => ?_) fun hc1 => ?_
 ·refine t_U 3 ?_
  refine hG_ fun y1 hy1 => ?_
  refine t_N ?_
  exact k_eW (rT rN) E_bool_p
 refine t_N ?_
 exact k_eW (rT rN) E_bool_p
noncomputable def dU_ (a0 : Int) (a1 : ByteArray) : Option Bool := ((cr_ a1 a0).bind fun y1 => (some (decide (0 ≤ y1))))
theorem hZ_ (a0 : Int) (a1 : ByteArray) (r : Bool) (h : dU_ a0 a1 = some r) : a8_ a0 a1 = some r := by
 unfold dU_ at h
 refine o7_ E_bool_inj rfl rfl ok_170 (fun bs hb => by obtain ⟨bp1, rfl⟩ := bl1 hb; exact rfl) (fun bs hb => by obtain ⟨bp1, rfl⟩ := bl1 hb; exact (all_cons (by kernel_rfl) (all_cons rfl all_nil))) ?_
 intro σ0 bs s hL hS hH
 obtain ⟨bp1, rfl, hL_bp1⟩ := sM_ hL
 clear hL
 have hS := af_ (L' := [(0, .int .u8 a0), (1, .ptr bp1 0 0 1)]) hS (by kernel_rfl)
 refine t_go h hS hH ?_
 refine t_RN ?_
 refine t_R ?_
 refine pb_ hL_bp1 ?_
 refine t_U 1 ?_
 refine av_ fun y1 hy1 => ?_
 refine t_N ?_
 exact k_eW (rT rN) E_bool_p
noncomputable def cu_ (a0 : ByteArray) (a1 : Int) : Option Int := ((a3_ a0 a1).bind fun y1 => (some y1))
theorem f2_ (a0 : ByteArray) (a1 : Int) (r : Int) (h : cu_ a0 a1 = some r) : cr_ a0 a1 = some r := by
 unfold cu_ at h
 refine k_W ok_171 E_i64_inj h (fun σ0 => ?_)
 refine t_RN ?_
 refine t_RU 2 ?_
 refine av_ fun y1 hy1 => ?_
 refine t_N ?_
 exact k_eW (rT rN) E_i64_p
noncomputable def eu_ (a0 : Int) (a1 : Int) (a2 : Bool) : Option Int := (if a2 = true then (some (w4 (a1 - a0))) else (some a0))
theorem ib_ (a0 : Int) (a1 : Int) (a2 : Bool) (r : Int) (h : eu_ a0 a1 a2 = some r) : dc_ a0 a1 a2 = some r := by
 unfold eu_ at h
 refine k_W ok_174 E_i64_inj h (fun σ0 => ?_)
 refine t_RN ?_
 refine t_RN ?_
 refine t_if (fun hc1 => ?_) fun hc1 => ?_
 ·refine t_RN ?_
  exact k_eW (rT rN) E_i64_p
 refine t_RN ?_
 exact k_eW (rT rN) E_i64_p
noncomputable def b6_ (a0 : ByteArray) (a1 : Int) : Option Int := (if (decide ((a0.size : Int) ≤ a1)) = true then (some a1) else ((aN_ a0 a1).bind fun y1 => ((bI_ y1).bind fun y2 => (if (!y2) = true then (some a1) else ((aD_ (S := Int) (R := Int) (fun st1 => (if (decide (st1 < (a0.size : Int))) = true then ((aN_ a0 st1).bind fun y4 => ((bI_ y4).bind fun y5 => (if y5 = true then (some (.inl (w4 (st1 + 1)))) else ((aN_ a0 st1).bind fun y6 => ((cF_ y6).bind fun y7 => (if y7 = true then (some (.inl (w4 (st1 + 1)))) else ((aN_ a0 st1).bind fun y8 => (if (decide (y8 = 95)) = true then (some (.inl (w4 (st1 + 1)))) else (some (.inr st1)))))))))) else (some (.inr st1)))) a1).bind fun y3 => (some y3))))))
theorem gA_ (a0 : ByteArray) (a1 : Int) (r : Int) (h : b6_ a0 a1 = some r) : c2_ a0 a1 = some r := by
 unfold b6_ at h
 refine k_W ok_176 E_i64_inj h (fun σ0 => ?_)
 refine t_RN ?_
 refine t_RU 5 ?_
 refine aK_ 9 (fun hc1 => ?_) fun hc1 => ?_
 ·refine t_N ?_
  refine t_cT rfl ?_
  refine t_RN ?_
  exact k_eW (rT rN) E_i64_p
 refine t_U 2 ?_
 refine dd_ fun y1 hy1 => ?_
 refine av_ fun y2 hy2 => ?_
 refine t_N ?_
 refine t_if (fun hc2 => ?_) fun hc2 => ?_
 ·refine t_RN ?_
  exact k_eW (rT rN) E_i64_p
 refine aZ_ (fun st1 fr => Sub [(0, .str a0), (1, i4 st1)] fr.s ∧ Heap σ0 fr.σ []) (fun y3 e fr => e = (.exit 0) ∧ Sub [(1, i4 y3)] fr.s ∧ Heap σ0 fr.σ []) (fun hS hH => ⟨(af_ hS (by kernel_rfl)), hH⟩) (fun st1 x fr h HI => ?_) fun y3 e fr h HF => ?_
 ·obtain ⟨s, σ⟩ := fr; obtain ⟨hS, hH⟩ := HI
  refine t_bk h hS hH ?_
  refine t_RU 5 ?_
  refine aK_ 21 (fun hc3 => ?_) fun hc3 => ?_
  ·refine t_U 2 ?_
   refine dd_ fun y4 hy4 => ?_
   refine av_ fun y5 hy5 => ?_
   refine t_U 1 ?_
   refine aK_ 26 (fun hc4 => ?_) fun hc4 => ?_
   ·refine t_N ?_
    refine t_cT rfl ?_
    refine t_RN ?_
    exact t_e fun he hS hH => he ▸ ⟨(af_ hS (by kernel_rfl)), hH⟩
   refine t_U 2 ?_
   refine dd_ fun y6 hy6 => ?_
   refine av_ fun y7 hy7 => ?_
   refine t_U 2 ?_
   refine aK_ 32 (fun hc5 => ?_) fun hc5 => ?_
   ·refine t_N ?_
    refine t_cT rfl ?_
    refine t_RN ?_
    exact t_e fun he hS hH => he ▸ ⟨(af_ hS (by kernel_rfl)), hH⟩
   refine t_U 2 ?_
   refine dd_ fun y8 hy8 => ?_
   refine t_N ?_
   refine t_if (fun hc6 => ?_) fun hc6 => ?_
   ·refine t_RN ?_
    exact t_e fun he hS hH => he ▸ ⟨(af_ hS (by kernel_rfl)), hH⟩
   exact t_e fun he hS hH => he ▸ ⟨rfl, (af_ hS (by kernel_rfl)), hH⟩
  refine t_N ?_
  refine t_cF ff_ne ?_
  exact t_e fun he hS hH => he ▸ ⟨rfl, (af_ hS (by kernel_rfl)), hH⟩
 obtain ⟨s, σ⟩ := fr
 obtain ⟨rfl, hS, hH⟩ := HF
 refine t_bx h hS hH ?_
 refine t_RN ?_
 exact k_eW (rT rN) E_i64_p
noncomputable def dZ_ (a0 : ByteArray) (a1 : Int) : Option Bool := ((aD_ (S := Int) (R := (Unit ⊕ Bool)) (fun st1 => (if (decide (st1 < (a0.size : Int))) = true then ((aN_ a0 st1).bind fun y2 => (if (decide (y2 = a1)) = true then (some (.inr (.inr true))) else (some (.inl (w4 (st1 + 1)))))) else (some (.inr (.inl ()))))) 0).bind fun y1 => (Sum.elim (fun y1 => (some false)) (fun y1 => (some y1)) y1))
theorem hJ_ (a0 : ByteArray) (a1 : Int) (r : Bool) (h : dZ_ a0 a1 = some r) : aY_ a0 a1 = some r := by
 unfold dZ_ at h
 refine k_W ok_178 E_bool_inj h (fun σ0 => ?_)
 refine t_RN ?_
 refine t_RN ?_
 refine aZ_ (fun st1 fr => Sub [(0, .str a0), (1, .int .u8 a1), (5, i4 st1)] fr.s ∧ Heap σ0 fr.σ []) (fun y1 e fr => (Sum.elim (fun y => e = (.exit 0) ∧ Sub [] fr.s ∧ Heap σ0 fr.σ []) (fun y => e = .ret ∧ endW Try.prog (Try.f178.results.toList) σ0 (E_bool y) .ret fr)) y1) (fun hS hH => ⟨(af_ hS (by kernel_rfl)), hH⟩) (fun st1 x fr h HI => ?_) fun y1 e fr h HF => ?_
 ·obtain ⟨s, σ⟩ := fr; obtain ⟨hS, hH⟩ := HI
  refine t_bk h hS hH ?_
  refine t_RN ?_
  refine t_if (fun hc1 => ?_) fun hc1 => ?_
  ·refine t_RU 2 ?_
   refine dd_ fun y2 hy2 => ?_
   refine t_N ?_
   refine t_if (fun hc2 => ?_) fun hc2 => ?_
   ·refine t_RN ?_
    exact t_e fun he hS hH => he ▸ ⟨rfl, (eW hS hH (rT rN) E_bool_p)⟩
   refine t_RN ?_
   exact t_e fun he hS hH => he ▸ ⟨(af_ hS (by kernel_rfl)), hH⟩
  exact t_e fun he hS hH => he ▸ ⟨rfl, (af_ hS (by kernel_rfl)), hH⟩
 obtain ⟨s, σ⟩ := fr
 rcases y1 with y1 | y1
 ·have h := el_l h
  obtain ⟨rfl, hS, hH⟩ := HF
  refine t_bx h hS hH ?_
  refine t_RN ?_
  exact k_eW (rT rN) E_bool_p
 have h := el_r h
 obtain ⟨rfl, HE⟩ := HF
 obtain rfl := si_1 h; exact HE
noncomputable def fM_ (a0 : Int) : Option Bool := (if (decide (48 ≤ a0)) = true then (some (decide (a0 ≤ 57))) else (some false))
theorem h4_ (a0 : Int) (r : Bool) (h : fM_ a0 = some r) : ev_ a0 = some r := by
 unfold fM_ at h
 refine k_W ok_179 E_bool_inj h (fun σ0 => ?_)
 refine t_RN ?_
 refine t_RU 3 ?_
 refine aK_ 5 (fun hc1 => ?_) fun hc1 => ?_
 ·refine t_N ?_
  exact k_eW (rT rN) E_bool_p
 refine t_N ?_
 exact k_eW (rT rN) E_bool_p
noncomputable def a2_ (a0 : ByteArray) (a1 : Int) : Option Int := ((bm_ a0 a1).bind fun y1 => (some y1))
theorem cL_ (a0 : ByteArray) (a1 : Int) (r : Int) (h : a2_ a0 a1 = some r) : a3_ a0 a1 = some r := by
 unfold a2_ at h
 refine k_W ok_181 E_i64_inj h (fun σ0 => ?_)
 refine t_RN ?_
 refine t_RU 2 ?_
 refine av_ fun y1 hy1 => ?_
 refine t_N ?_
 exact k_eW (rT rN) E_i64_p
noncomputable def fb_ (a0 : Int) : Option Bool := (if (decide (65 ≤ a0)) = true then (if (decide (a0 ≤ 90)) = true then (some true) else (if (decide (97 ≤ a0)) = true then (some (decide (a0 ≤ 122))) else (some false))) else (if (decide (97 ≤ a0)) = true then (some (decide (a0 ≤ 122))) else (some false)))
theorem gX_ (a0 : Int) (r : Bool) (h : fb_ a0 = some r) : bI_ a0 = some r := by
 unfold fb_ at h
 refine k_W ok_182 E_bool_inj h (fun σ0 => ?_)
 refine t_RN ?_
 refine t_RU 3 ?_
 refine aK_ 5 (fun hc1 => ?_) fun hc1 => ?_
 ·refine t_U 4 ?_
  refine aK_ 9 (fun hc2 => ?_) fun hc2 => ?_
  ·refine t_N ?_
   exact k_eW (rT rN) E_bool_p
  refine t_U 3 ?_
  refine aK_ 12 (fun hc3 => ?_) fun hc3 => ?_
  ·refine t_N ?_
   exact k_eW (rT rN) E_bool_p
  refine t_N ?_
  exact k_eW (rT rN) E_bool_p
 refine t_U 7 ?_
 refine aK_ 12 (fun hc4 => ?_) fun hc4 => ?_
 ·refine t_N ?_
  exact k_eW (rT rN) E_bool_p
 refine t_N ?_
 exact k_eW (rT rN) E_bool_p
noncomputable def fr_ (a0 : Int) : Option Bool := (if (decide (48 ≤ a0)) = true then (some (decide (a0 ≤ 57))) else (some false))
theorem hA_ (a0 : Int) (r : Bool) (h : fr_ a0 = some r) : cF_ a0 = some r := by
 unfold fr_ at h
 refine k_W ok_183 E_bool_inj h (fun σ0 => ?_)
 refine t_RN ?_
 refine t_RU 3 ?_
 refine aK_ 5 (fun hc1 => ?_) fun hc1 => ?_
 ·refine t_N ?_
  exact k_eW (rT rN) E_bool_p
 refine t_N ?_
 exact k_eW (rT rN) E_bool_p
end Go.Am
