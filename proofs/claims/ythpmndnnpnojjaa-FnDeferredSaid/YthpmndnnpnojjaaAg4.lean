/- Functions of the program. -/
import Derived.Test.YthpmndnnpnojjaaAd0
import Derived.Test.YthpmndnnpnojjaaAg3
import Derived.Test.YthpmndnnpnojjaaAg1
set_option maxRecDepth 100000
set_option maxHeartbeats 4000000
set_option linter.unusedVariables false
set_option linter.unusedSimpArgs false
namespace Go.Am
open Go.Proofs
noncomputable def eB_ (a0 : Int) : Option (ByteArray × ByteArray) := (if (decide (a0 = 2)) = true then (some (⟨#[97, 110, 121]⟩, ⟨#[115]⟩)) else (if (decide (a0 = 3)) = true then (some (⟨#[110, 111, 116, 97, 110, 121]⟩, ⟨#[115]⟩)) else (if (decide (a0 = 4)) = true then (some (⟨#[115, 112, 97, 110]⟩, ⟨#[115]⟩)) else (if (decide (a0 = 5)) = true then (some (⟨#[98, 114, 101, 97, 107]⟩, ⟨#[115]⟩)) else (if (decide (a0 = 6)) = true then (some (⟨#[108, 101, 110]⟩, ⟨#[110]⟩)) else (if (decide (a0 = 7)) = true then (some (⟨#[112, 111, 115]⟩, ⟨#[110]⟩)) else (if (decide (a0 = 8)) = true then (some (⟨#[114, 112, 111, 115]⟩, ⟨#[110]⟩)) else (if (decide (a0 = 9)) = true then (some (⟨#[116, 97, 98]⟩, ⟨#[110]⟩)) else (if (decide (a0 = 10)) = true then (some (⟨#[114, 116, 97, 98]⟩, ⟨#[110]⟩)) else (if (decide (a0 = 11)) = true then (some (⟨#[114, 101, 109]⟩, ⟨#[]⟩)) else (if (decide (a0 = 12)) = true then (some (⟨#[97, 114, 98]⟩, ⟨#[]⟩)) else (if (decide (a0 = 13)) = true then (some (⟨#[98, 97, 108]⟩, ⟨#[]⟩)) else (if (decide (a0 = 14)) = true then (some (⟨#[102, 101, 110, 99, 101]⟩, ⟨#[]⟩)) else (if (decide (a0 = 15)) = true then (some (⟨#[97, 98, 111, 114, 116]⟩, ⟨#[]⟩)) else (if (decide (a0 = 16)) = true then (some (⟨#[102, 97, 105, 108]⟩, ⟨#[]⟩)) else (if (decide (a0 = 17)) = true then (some (⟨#[115, 117, 99, 99, 101, 101, 100]⟩, ⟨#[]⟩)) else (if (decide (a0 = 18)) = true then (some (⟨#[97, 108, 116]⟩, ⟨#[112, 112]⟩)) else (if (decide (a0 = 19)) = true then (some (⟨#[99, 97, 116]⟩, ⟨#[112, 112]⟩)) else (if (decide (a0 = 20)) = true then (some (⟨#[97, 114, 98, 110, 111]⟩, ⟨#[112]⟩)) else (if (decide (a0 = 21)) = true then (some (⟨#[99, 111, 110, 100]⟩, ⟨#[112, 120]⟩)) else (if (decide (a0 = 22)) = true then (some (⟨#[110, 111, 119]⟩, ⟨#[112, 120]⟩)) else (if (decide (a0 = 23)) = true then (some (⟨#[99, 117, 114, 115, 111, 114]⟩, ⟨#[120]⟩)) else (if (decide (a0 = 24)) = true then (some (⟨#[100, 101, 102, 101, 114]⟩, ⟨#[120]⟩)) else (some (⟨#[]⟩, ⟨#[]⟩)))))))))))))))))))))))))
theorem ir_ (a0 : Int) (r : (ByteArray × ByteArray)) (h : eB_ a0 = some r) : ga_ a0 = some r := by
 unfold eB_ at h
 refine k_W ok_139 E_t2_str_str_inj h (fun σ0 => ?_)
 refine t_RN ?_
 refine t_RN ?_
 refine t_RN ?_
 refine t_if (fun hc1 => ?_) fun hc1 => ?_
 ·refine t_RN ?_
  exact k_eW (rT (rT rN)) E_t2_str_str_p
 refine t_RN ?_
 refine t_if (fun hc2 => ?_) fun hc2 => ?_
 ·refine t_RN ?_
  exact k_eW (rT (rT rN)) E_t2_str_str_p
 refine t_RN ?_
 refine t_if (fun hc3 => ?_) fun hc3 => ?_
 ·refine t_RN ?_
  exact k_eW (rT (rT rN)) E_t2_str_str_p
 refine t_RN ?_
 refine t_if (fun hc4 => ?_) fun hc4 => ?_
 ·refine t_RN ?_
  exact k_eW (rT (rT rN)) E_t2_str_str_p
 refine t_RN ?_
 refine t_if (fun hc5 => ?_) fun hc5 => ?_
 ·refine t_RN ?_
  exact k_eW (rT (rT rN)) E_t2_str_str_p
 refine t_RN ?_
 refine t_if (fun hc6 => ?_) fun hc6 => ?_
 ·refine t_RN ?_
  exact k_eW (rT (rT rN)) E_t2_str_str_p
 refine t_RN ?_
 refine t_if (fun hc7 => ?_) fun hc7 => ?_
 ·refine t_RN ?_
  exact k_eW (rT (rT rN)) E_t2_str_str_p
 refine t_RN ?_
 refine t_if (fun hc8 => ?_) fun hc8 => ?_
 ·refine t_RN ?_
  exact k_eW (rT (rT rN)) E_t2_str_str_p
 refine t_RN ?_
 refine t_if (fun hc9 => ?_) fun hc9 => ?_
 ·refine t_RN ?_
  exact k_eW (rT (rT rN)) E_t2_str_str_p
 refine t_RN ?_
 refine t_if (fun hc10 => ?_) fun hc10 => ?_
 ·refine t_RN ?_
  exact k_eW (rT (rT rN)) E_t2_str_str_p
 refine t_RN ?_
 refine t_if (fun hc11 => ?_) fun hc11 => ?_
 ·refine t_RN ?_
  exact k_eW (rT (rT rN)) E_t2_str_str_p
 refine t_RN ?_
 refine t_if (fun hc12 => ?_) fun hc12 => ?_
 ·refine t_RN ?_
  exact k_eW (rT (rT rN)) E_t2_str_str_p
 refine t_RN ?_
 refine t_if (fun hc13 => ?_) fun hc13 => ?_
 ·refine t_RN ?_
  exact k_eW (rT (rT rN)) E_t2_str_str_p
 refine t_RN ?_
 refine t_if (fun hc14 => ?_) fun hc14 => ?_
 ·refine t_RN ?_
  exact k_eW (rT (rT rN)) E_t2_str_str_p
 refine t_RN ?_
 refine t_if (fun hc15 => ?_) fun hc15 => ?_
 ·refine t_RN ?_
  exact k_eW (rT (rT rN)) E_t2_str_str_p
 refine t_RN ?_
 refine t_if (fun hc16 => ?_) fun hc16 => ?_
 ·refine t_RN ?_
  exact k_eW (rT (rT rN)) E_t2_str_str_p
 refine t_RN ?_
 refine t_if (fun hc17 => ?_) fun hc17 => ?_
 ·refine t_RN ?_
  exact k_eW (rT (rT rN)) E_t2_str_str_p
 refine t_RN ?_
 refine t_if (fun hc18 => ?_) fun hc18 => ?_
 ·refine t_RN ?_
  exact k_eW (rT (rT rN)) E_t2_str_str_p
 refine t_RN ?_
 refine t_if (fun hc19 => ?_) fun hc19 => ?_
 ·refine t_RN ?_
  exact k_eW (rT (rT rN)) E_t2_str_str_p
 refine t_RN ?_
 refine t_if (fun hc20 => ?_) fun hc20 => ?_
 ·refine t_RN ?_
  exact k_eW (rT (rT rN)) E_t2_str_str_p
 refine t_RN ?_
 refine t_if (fun hc21 => ?_) fun hc21 => ?_
 ·refine t_RN ?_
  exact k_eW (rT (rT rN)) E_t2_str_str_p
 refine t_RN ?_
 refine t_if (fun hc22 => ?_) fun hc22 => ?_
 ·refine t_RN ?_
  exact k_eW (rT (rT rN)) E_t2_str_str_p
 refine t_RN ?_
 refine t_if (fun hc23 => ?_) fun hc23 => ?_
 ·refine t_RN ?_
  exact k_eW (rT (rT rN)) E_t2_str_str_p
 refine t_RN ?_
 exact k_eW (rT (rT rN)) E_t2_str_str_p
noncomputable def db_ (a0 : Int) (a1 : Int) (a2 : ByteArray) : Option Bool := (if (decide (a0 = 1)) = true then (if (decide (a1 = 0)) = true then ((cx_ a2).bind fun y1 => (some y1)) else (some false)) else ((fd_ a0).bind fun y2 => (if y2 = true then (if (decide (a1 = 0)) = true then (if (!decide (a2 = (⟨#[]⟩ : ByteArray))) = true then ((cx_ a2).bind fun y3 => (some y3)) else (some false)) else (some false)) else ((dG_ a0).bind fun y4 => (if y4 = true then (if (decide (a2 = (⟨#[]⟩ : ByteArray))) = true then ((bH_ a1 0 200).bind fun y5 => (some y5)) else (some false)) else ((eE_ a0).bind fun y6 => (if y6 = true then (if (decide (a1 = 0)) = true then ((dY_ a2).bind fun y7 => (some y7)) else (some false)) else ((cv_ a0).bind fun y8 => (if y8 = true then (if (decide (a1 = 0)) = true then (some (decide (a2 = (⟨#[]⟩ : ByteArray)))) else (some false)) else (some false))))))))))
theorem gU_ (a0 : Int) (a1 : Int) (a2 : ByteArray) (r : Bool) (h : db_ a0 a1 a2 = some r) : df_ a0 a1 a2 = some r := by
 unfold db_ at h
 refine k_W ok_140 E_bool_inj h (fun σ0 => ?_)
 refine t_RN ?_
 refine t_RN ?_
 refine t_if (fun hc1 => ?_) fun hc1 => ?_
 ·refine t_RU 3 ?_
  refine aK_ 12 (fun hc2 => ?_) fun hc2 => ?_
  ·refine t_U 1 ?_
   refine aw_ fun y1 hy1 => ?_
   refine t_N ?_
   exact k_eW (rT rN) E_bool_p
  refine t_N ?_
  exact k_eW (rT rN) E_bool_p
 refine t_RU 1 ?_
 refine aw_ fun y2 hy2 => ?_
 refine t_N ?_
 refine t_if (fun hc3 => ?_) fun hc3 => ?_
 ·refine t_RU 3 ?_
  refine aK_ 21 (fun hc4 => ?_) fun hc4 => ?_
  ·refine t_U 4 ?_
   refine aK_ 25 (fun hc5 => ?_) fun hc5 => ?_
   ·refine t_U 1 ?_
    refine aw_ fun y3 hy3 => ?_
    refine t_N ?_
    exact k_eW (rT rN) E_bool_p
   refine t_N ?_
   exact k_eW (rT rN) E_bool_p
  refine t_N ?_
  exact k_eW (rT rN) E_bool_p
 refine t_RU 1 ?_
 refine aw_ fun y4 hy4 => ?_
 refine t_N ?_
 refine t_if (fun hc6 => ?_) fun hc6 => ?_
 ·refine t_RU 3 ?_
  refine aK_ 34 (fun hc7 => ?_) fun hc7 => ?_
  ·refine t_U 1 ?_
   refine aw_ fun y5 hy5 => ?_
   refine t_N ?_
   exact k_eW (rT rN) E_bool_p
  refine t_N ?_
  exact k_eW (rT rN) E_bool_p
 refine t_RU 1 ?_
 refine aw_ fun y6 hy6 => ?_
 refine t_N ?_
 refine t_if (fun hc8 => ?_) fun hc8 => ?_
 ·refine t_RU 3 ?_
  refine aK_ 43 (fun hc9 => ?_) fun hc9 => ?_
  ·refine t_U 1 ?_
   refine aw_ fun y7 hy7 => ?_
   refine t_N ?_
   exact k_eW (rT rN) E_bool_p
  refine t_N ?_
  exact k_eW (rT rN) E_bool_p
 refine t_RU 1 ?_
 refine aw_ fun y8 hy8 => ?_
 refine t_U 1 ?_
 refine aK_ 49 (fun hc10 => ?_) fun hc10 => ?_
 ·refine t_U 4 ?_
  refine aK_ 53 (fun hc11 => ?_) fun hc11 => ?_
  ·refine t_N ?_
   exact k_eW (rT rN) E_bool_p
  refine t_N ?_
  exact k_eW (rT rN) E_bool_p
 refine t_N ?_
 exact k_eW (rT rN) E_bool_p
noncomputable def fe_ (a0 : Int) : Option Int := (((if (decide (a0 = 18)) = true then (some (decide (a0 = 18))) else (some (decide (a0 = 19)))) : Option Bool).bind fun y1 => (if y1 = true then (some 2) else (((if (decide (a0 = 20)) = true then (some (decide (a0 = 20))) else (if (decide (a0 = 21)) = true then (some (decide (a0 = 21))) else (some (decide (a0 = 22))))) : Option Bool).bind fun y2 => (if y2 = true then (some 1) else (some 0)))))
theorem jx_ (a0 : Int) (r : Int) (h : fe_ a0 = some r) : e9_ a0 = some r := by
 unfold fe_ at h
 refine k_W ok_141 E_i64_inj h (fun σ0 => ?_)
 refine t_RN ?_
 refine t_RN ?_
 refine t_RN ?_
 refine eJ_ 0 (fun y1 e fr => e = .normal ∧ Sub [(3, i4 a0), (4, .bool y1)] fr.s ∧ Heap σ0 fr.σ []) (fun y1 e fr h HF => ?_) fun y1 => ?_
 ·obtain ⟨s, σ⟩ := fr
  obtain ⟨rfl, hS, hH⟩ := HF
  refine t_bx h hS hH ?_
  refine t_if (fun hc1 => ?_) fun hc1 => ?_
  ·refine t_RN ?_
   exact k_eW (rT rN) E_i64_p
  refine t_RN ?_
  refine eJ_ 0 (fun y2 e fr => e = .normal ∧ Sub [(7, .bool y2)] fr.s ∧ Heap σ0 fr.σ []) (fun y2 e fr h HF => ?_) fun y2 => ?_
  ·obtain ⟨s, σ⟩ := fr
   obtain ⟨rfl, hS, hH⟩ := HF
   refine t_bx h hS hH ?_
   refine t_if (fun hc2 => ?_) fun hc2 => ?_
   ·refine t_RN ?_
    exact k_eW (rT rN) E_i64_p
   refine t_RN ?_
   exact k_eW (rT rN) E_i64_p
  refine t_if (fun hc3 => ?_) fun hc3 => ?_
  ·exact t_e fun he hS hH => he ▸ ⟨rfl, (ad_ hS (by kernel_rfl)), hH⟩
  refine t_RN ?_
  refine t_if (fun hc4 => ?_) fun hc4 => ?_
  ·exact t_e fun he hS hH => he ▸ ⟨rfl, (ad_ hS (by kernel_rfl)), hH⟩
  refine t_RN ?_
  exact t_e fun he hS hH => he ▸ ⟨rfl, (ad_ hS (by kernel_rfl)), hH⟩
 refine t_if (fun hc5 => ?_) fun hc5 => ?_
 ·exact t_e fun he hS hH => he ▸ ⟨rfl, (ad_ hS (by kernel_rfl)), hH⟩
 refine t_RN ?_
 exact t_e fun he hS hH => he ▸ ⟨rfl, (ad_ hS (by kernel_rfl)), hH⟩

noncomputable def e4_ (a0 : ByteArray) (a1 : Int) (a2 : Int) : Option Int := ((aA_ (S := (Int × Int)) (R := (Unit ⊕ Int)) (fun st1 => (if (decide (st1.2 < (a0.size : Int))) = true then ((aU_ a0 st1.2).bind fun y2 => (((if (decide (y2 = 40)) = true then (some (w4 (st1.1 + 1))) else (some st1.1)) : Option Int).bind fun y3 => ((aU_ a0 st1.2).bind fun y4 => (((if (decide (y4 = 41)) = true then (some (w4 (y3 - 1))) else (some y3)) : Option Int).bind fun y5 => (if (decide (y5 < 0)) = true then (some (.inr (.inr (-1)))) else (if (decide (y5 = 0)) = true then (if (decide (a2 < (w4 (st1.2 + 1)))) = true then (some (.inr (.inr (w4 (st1.2 + 1))))) else (some (.inl (y5, (w4 (st1.2 + 1)))))) else (some (.inl (y5, (w4 (st1.2 + 1))))))))))) else (some (.inr (.inl ()))))) (0, a1)).bind fun y1 => (Sum.elim (fun y1 => (some (-1))) (fun y1 => (some y1)) y1))
theorem iZ_ (a0 : ByteArray) (a1 : Int) (a2 : Int) (r : Int) (h : e4_ a0 a1 a2 = some r) : bX_ a0 a1 a2 = some r := by
 unfold e4_ at h
 refine k_W ok_145 E_i64_inj h (fun σ0 => ?_)
 refine t_RN ?_
 refine t_RN ?_
 refine t_RN ?_
 refine a8_ (fun st1 fr => Sub [(0, .str a0), (2, i4 a2), (7, i4 st1.1), (8, i4 st1.2)] fr.s ∧ Heap σ0 fr.σ []) (fun y1 e fr => (Sum.elim (fun y => e = (.exit 0) ∧ Sub [] fr.s ∧ Heap σ0 fr.σ []) (fun y => e = .ret ∧ endW Try.prog (Try.f145.results.toList) σ0 (E_i64 y) .ret fr)) y1) (fun hS hH => ⟨(ad_ hS (by kernel_rfl)), hH⟩) (fun st1 x fr h HI => ?_) fun y1 e fr h HF => ?_
 ·obtain ⟨s, σ⟩ := fr; obtain ⟨hS, hH⟩ := HI
  refine t_bk h hS hH ?_
  refine t_RN ?_
  refine t_if (fun hc1 => ?_) fun hc1 => ?_
  ·refine t_RU 2 ?_
   refine dx_ fun y2 hy2 => ?_
   refine t_N ?_
   refine eJ_ 0 (fun y3 e fr => e = .normal ∧ Sub [(0, .str a0), (2, i4 a2), (7, i4 y3), (8, i4 st1.2)] fr.s ∧ Heap σ0 fr.σ []) (fun y3 e fr h HF => ?_) fun y3 => ?_
   ·obtain ⟨s, σ⟩ := fr
    obtain ⟨rfl, hS, hH⟩ := HF
    refine t_bx h hS hH ?_
    refine t_RU 2 ?_
    refine dx_ fun y4 hy4 => ?_
    refine t_N ?_
    refine eJ_ 0 (fun y5 e fr => e = .normal ∧ Sub [(0, .str a0), (2, i4 a2), (7, i4 y5), (8, i4 st1.2)] fr.s ∧ Heap σ0 fr.σ []) (fun y5 e fr h HF => ?_) fun y5 => ?_
    ·obtain ⟨s, σ⟩ := fr
     obtain ⟨rfl, hS, hH⟩ := HF
     refine t_bx h hS hH ?_
     refine t_RN ?_
     refine t_if (fun hc2 => ?_) fun hc2 => ?_
     ·refine t_RN ?_
      exact t_e fun he hS hH => he ▸ ⟨rfl, (eW hS hH (rT rN) E_i64_p)⟩
     refine t_RU 3 ?_
     refine aK_ 32 (fun hc3 => ?_) fun hc3 => ?_
     ·refine t_N ?_
      refine t_if (fun hc4 => ?_) fun hc4 => ?_
      ·refine t_RN ?_
       exact t_e fun he hS hH => he ▸ ⟨rfl, (eW hS hH (rT rN) E_i64_p)⟩
      refine t_RN ?_
      exact t_e fun he hS hH => he ▸ ⟨(ad_ hS (by kernel_rfl)), hH⟩
     refine t_N ?_
     refine t_cF ff_ne ?_
     refine t_RN ?_
     exact t_e fun he hS hH => he ▸ ⟨(ad_ hS (by kernel_rfl)), hH⟩
    refine t_if (fun hc5 => ?_) fun hc5 => ?_
    ·refine t_RN ?_
     exact t_e fun he hS hH => he ▸ ⟨rfl, (ad_ hS (by kernel_rfl)), hH⟩
    exact t_e fun he hS hH => he ▸ ⟨rfl, (ad_ hS (by kernel_rfl)), hH⟩
   refine t_if (fun hc6 => ?_) fun hc6 => ?_
   ·refine t_RN ?_
    exact t_e fun he hS hH => he ▸ ⟨rfl, (ad_ hS (by kernel_rfl)), hH⟩
   exact t_e fun he hS hH => he ▸ ⟨rfl, (ad_ hS (by kernel_rfl)), hH⟩
  exact t_e fun he hS hH => he ▸ ⟨rfl, (ad_ hS (by kernel_rfl)), hH⟩
 obtain ⟨s, σ⟩ := fr
 rcases y1 with y1 | y1
 ·have h := el_l h
  obtain ⟨rfl, hS, hH⟩ := HF
  refine t_bx h hS hH ?_
  refine t_RN ?_
  exact k_eW (rT rN) E_i64_p
 have h := el_r h
 obtain ⟨rfl, HE⟩ := HF
 obtain rfl := si_1 h; exact HE
noncomputable def dZ_ (a0 : DPattern) (a1 : ByteArray) (a2 : Int) : Option Int := (((((if (decide (a0.Kind = 1)) = true then (if ((decide ((w4 (a2 + (a0.Text.size : Int))) ≤ (a1.size : Int)))) = true then ((subB a1 a2 (w4 (a2 + (a0.Text.size : Int)))).bind fun y3 => (if (decide (y3 = a0.Text)) = true then (some (.inr (w4 (a2 + (a0.Text.size : Int))))) else (some (.inl ())))) else (some (.inl ()))) else (((if (decide (a0.Kind = 2)) = true then (if (decide (a2 < (a1.size : Int))) = true then ((aU_ a1 a2).bind fun y5 => ((a9_ a0.Text y5).bind fun y6 => (if y6 = true then (some (.inr (w4 (a2 + 1)))) else (some (.inl ()))))) else (some (.inl ()))) else (((if (decide (a0.Kind = 3)) = true then (if (decide (a2 < (a1.size : Int))) = true then ((aU_ a1 a2).bind fun y8 => ((a9_ a0.Text y8).bind fun y9 => (if (!y9) = true then (some (.inr (w4 (a2 + 1)))) else (some (.inl ()))))) else (some (.inl ()))) else (((if (decide (a0.Kind = 4)) = true then ((aA_ (S := Int) (R := Int) (fun st1 => (if (decide (st1 < (a1.size : Int))) = true then ((aU_ a1 st1).bind fun y12 => ((a9_ a0.Text y12).bind fun y13 => (if y13 = true then (some (.inl (w4 (st1 + 1)))) else (some (.inr st1))))) else (some (.inr st1)))) a2).bind fun y11 => (if (decide (a2 < y11)) = true then (some (.inr y11)) else (some (.inl ())))) else (if (decide (a0.Kind = 5)) = true then ((aA_ (S := Int) (R := (Unit ⊕ Int)) (fun st2 => (if (decide (st2 < (a1.size : Int))) = true then ((aU_ a1 st2).bind fun y15 => ((a9_ a0.Text y15).bind fun y16 => (if y16 = true then (some (.inr (.inr st2))) else (some (.inl (w4 (st2 + 1))))))) else (some (.inr (.inl ()))))) a2).bind fun y14 => (Sum.elim (fun y14 => (some (.inl ()))) (fun y14 => (some (.inr y14))) y14)) else (if (decide (a0.Kind = 6)) = true then (if ((decide ((w4 (a2 + a0.Num)) ≤ (a1.size : Int)))) = true then (some (.inr (w4 (a2 + a0.Num)))) else (some (.inl ()))) else (if (decide (a0.Kind = 7)) = true then (if (decide (a2 = a0.Num)) = true then (some (.inr a2)) else (some (.inl ()))) else (if (decide (a0.Kind = 8)) = true then (if (decide (a2 = (w4 ((a1.size : Int) - a0.Num)))) = true then (some (.inr a2)) else (some (.inl ()))) else (if (decide (a0.Kind = 9)) = true then ((cg_ a0.Num a2 (a1.size : Int)).bind fun y17 => (if y17 = true then (some (.inr a0.Num)) else (some (.inl ())))) else (if (decide (a0.Kind = 10)) = true then ((cg_ (w4 ((a1.size : Int) - a0.Num)) a2 (a1.size : Int)).bind fun y18 => (if y18 = true then (some (.inr (w4 ((a1.size : Int) - a0.Num)))) else (some (.inl ())))) else (if (decide (a0.Kind = 11)) = true then (some (.inr (a1.size : Int))) else (some (.inl ())))))))))) : Option (Unit ⊕ Int)).bind fun y10 => (Sum.elim (fun y10 => (some (.inl ()))) (fun y10 => (some (.inr y10))) y10))) : Option (Unit ⊕ Int)).bind fun y7 => (Sum.elim (fun y7 => (some (.inl ()))) (fun y7 => (some (.inr y7))) y7))) : Option (Unit ⊕ Int)).bind fun y4 => (Sum.elim (fun y4 => (some (.inl ()))) (fun y4 => (some (.inr y4))) y4))) : Option (Unit ⊕ Int)).bind fun y2 => (Sum.elim (fun y2 => (some (.inl ()))) (fun y2 => (some (.inr y2))) y2)) : Option (Unit ⊕ Int)).bind fun y1 => (Sum.elim (fun y1 => (some (-1))) (fun y1 => (some y1)) y1))
theorem jj_ (a0 : DPattern) (a1 : ByteArray) (a2 : Int) (r : Int) (h : dZ_ a0 a1 a2 = some r) : fb_ a0 a1 a2 = some r := by
 unfold dZ_ at h
 refine k_W ok_148 E_i64_inj h (fun σ0 => ?_)
 refine t_R ?_
 refine cK_ (fun b1 => ?_)
 refine t_N ?_
 refine t_RN ?_
 refine t_RU 1 ?_
 refine ae_ 0 ?_
 refine t_N ?_
 refine eJ_ 2 (fun y1 e fr => (Sum.elim (fun y => e = .normal ∧ Sub [] fr.s ∧ Heap σ0 fr.σ []) (fun y => e = .ret ∧ endW Try.prog (Try.f148.results.toList) σ0 (E_i64 y) .ret fr)) y1) (fun y1 e fr h HF => ?_) fun y1 => ?_
 ·obtain ⟨s, σ⟩ := fr
  rcases y1 with y1 | y1
  ·have h := el_l h
   obtain ⟨rfl, hS, hH⟩ := HF
   refine t_bx h hS hH ?_
   refine t_RN ?_
   exact k_eW (rT rN) E_i64_p
  have h := el_r h
  obtain ⟨rfl, HE⟩ := HF
  obtain rfl := si_1 h; exact HE
 refine t_RN ?_
 refine eJ_ 0 (fun y2 e fr => (Sum.elim (fun y => e = .normal ∧ Sub [] fr.s ∧ Heap σ0 fr.σ []) (fun y => e = .ret ∧ endW Try.prog (Try.f148.results.toList) σ0 (E_i64 y) .ret fr)) y2) (fun y2 e fr h HF => ?_) fun y2 => ?_
 ·obtain ⟨s, σ⟩ := fr
  rcases y2 with y2 | y2
  ·have h := el_l h
   obtain ⟨rfl, hS, hH⟩ := HF
   refine t_bx h hS hH ?_
   exact t_e fun he hS hH => he ▸ ⟨rfl, (ad_ hS (by kernel_rfl)), hH⟩
  have h := el_r h
  obtain ⟨rfl, HE⟩ := HF
  obtain rfl := si_1 h; exact ⟨rfl, HE⟩
 refine t_if (fun hc1 => ?_) fun hc1 => ?_
 ·refine t_RU 1 ?_
  refine ae_ 0 ?_
  refine t_N ?_
  refine t_D fun mb => ?_
  refine t_U 6 ?_
  refine aK_ 25 (fun hc2 => ?_) fun hc2 => ?_
  ·refine t_U 5 ?_
   refine hF_ fun y3 hy3 => ?_
   refine t_U 1 ?_
   refine ae_ 0 ?_
   refine t_N ?_
   refine t_if (fun hc3 => ?_) fun hc3 => ?_
   ·refine t_RN ?_
    exact t_e fun he hS hH => he ▸ ⟨rfl, (eW hS hH (rT rN) E_i64_p)⟩
   exact t_e fun he hS hH => he ▸ ⟨rfl, (ad_ hS (by kernel_rfl)), (Heap.sel hH [] rfl (by kernel_rfl))⟩
  refine t_N ?_
  refine t_cF ff_ne ?_
  exact t_e fun he hS hH => he ▸ ⟨rfl, (ad_ hS (by kernel_rfl)), (Heap.sel hH [] rfl (by kernel_rfl))⟩
 refine t_RN ?_
 refine eJ_ 0 (fun y4 e fr => (Sum.elim (fun y => e = .normal ∧ Sub [] fr.s ∧ Heap σ0 fr.σ []) (fun y => e = .ret ∧ endW Try.prog (Try.f148.results.toList) σ0 (E_i64 y) .ret fr)) y4) (fun y4 e fr h HF => ?_) fun y4 => ?_
 ·obtain ⟨s, σ⟩ := fr
  rcases y4 with y4 | y4
  ·have h := el_l h
   obtain ⟨rfl, hS, hH⟩ := HF
   refine t_bx h hS hH ?_
   exact t_e fun he hS hH => he ▸ ⟨rfl, (ad_ hS (by kernel_rfl)), hH⟩
  have h := el_r h
  obtain ⟨rfl, HE⟩ := HF
  obtain rfl := si_1 h; exact ⟨rfl, HE⟩
 refine t_if (fun hc4 => ?_) fun hc4 => ?_
 ·refine t_D fun mb => ?_
  refine t_U 4 ?_
  refine aK_ 44 (fun hc5 => ?_) fun hc5 => ?_
  ·refine t_U 1 ?_
   refine ae_ 0 ?_
   refine t_U 2 ?_
   refine dx_ fun y5 hy5 => ?_
   refine aw_ fun y6 hy6 => ?_
   refine t_N ?_
   refine t_if (fun hc6 => ?_) fun hc6 => ?_
   ·refine t_RN ?_
    exact t_e fun he hS hH => he ▸ ⟨rfl, (eW hS hH (rT rN) E_i64_p)⟩
   exact t_e fun he hS hH => he ▸ ⟨rfl, (ad_ hS (by kernel_rfl)), (Heap.sel hH [] rfl (by kernel_rfl))⟩
  refine t_N ?_
  refine t_cF ff_ne ?_
  exact t_e fun he hS hH => he ▸ ⟨rfl, (ad_ hS (by kernel_rfl)), (Heap.sel hH [] rfl (by kernel_rfl))⟩
 refine t_RN ?_
 refine eJ_ 0 (fun y7 e fr => (Sum.elim (fun y => e = .normal ∧ Sub [] fr.s ∧ Heap σ0 fr.σ []) (fun y => e = .ret ∧ endW Try.prog (Try.f148.results.toList) σ0 (E_i64 y) .ret fr)) y7) (fun y7 e fr h HF => ?_) fun y7 => ?_
 ·obtain ⟨s, σ⟩ := fr
  rcases y7 with y7 | y7
  ·have h := el_l h
   obtain ⟨rfl, hS, hH⟩ := HF
   refine t_bx h hS hH ?_
   exact t_e fun he hS hH => he ▸ ⟨rfl, (ad_ hS (by kernel_rfl)), hH⟩
  have h := el_r h
  obtain ⟨rfl, HE⟩ := HF
  obtain rfl := si_1 h; exact ⟨rfl, HE⟩
 refine t_if (fun hc7 => ?_) fun hc7 => ?_
 ·refine t_D fun mb => ?_
  refine t_U 4 ?_
  refine aK_ 59 (fun hc8 => ?_) fun hc8 => ?_
  ·refine t_U 1 ?_
   refine ae_ 0 ?_
   refine t_U 2 ?_
   refine dx_ fun y8 hy8 => ?_
   refine aw_ fun y9 hy9 => ?_
   refine t_N ?_
   refine t_if (fun hc9 => ?_) fun hc9 => ?_
   ·refine t_RN ?_
    exact t_e fun he hS hH => he ▸ ⟨rfl, (eW hS hH (rT rN) E_i64_p)⟩
   exact t_e fun he hS hH => he ▸ ⟨rfl, (ad_ hS (by kernel_rfl)), (Heap.sel hH [] rfl (by kernel_rfl))⟩
  refine t_N ?_
  refine t_cF ff_ne ?_
  exact t_e fun he hS hH => he ▸ ⟨rfl, (ad_ hS (by kernel_rfl)), (Heap.sel hH [] rfl (by kernel_rfl))⟩
 refine t_RN ?_
 refine eJ_ 0 (fun y10 e fr => (Sum.elim (fun y => e = .normal ∧ Sub [] fr.s ∧ Heap σ0 fr.σ []) (fun y => e = .ret ∧ endW Try.prog (Try.f148.results.toList) σ0 (E_i64 y) .ret fr)) y10) (fun y10 e fr h HF => ?_) fun y10 => ?_
 ·obtain ⟨s, σ⟩ := fr
  rcases y10 with y10 | y10
  ·have h := el_l h
   obtain ⟨rfl, hS, hH⟩ := HF
   refine t_bx h hS hH ?_
   exact t_e fun he hS hH => he ▸ ⟨rfl, (ad_ hS (by kernel_rfl)), hH⟩
  have h := el_r h
  obtain ⟨rfl, HE⟩ := HF
  obtain rfl := si_1 h; exact ⟨rfl, HE⟩
 refine t_if (fun hc10 => ?_) fun hc10 => ?_
 ·refine t_RN ?_
  refine a8_ (fun st1 fr => Sub [(1, .str a1), (2, i4 a2), (3, .ptr b1 0 0 4), (7, i4 (a1.size : Int)), (9, i4 st1)] fr.s ∧ Heap σ0 fr.σ [.box b1 [i4 a0.Kind, i4 a0.Num, .str a0.Text, a0.Kids.t]]) (fun y11 e fr => e = (.exit 1) ∧ Sub [(2, i4 a2), (9, i4 y11)] fr.s ∧ Heap σ0 fr.σ []) (fun hS hH => ⟨(ad_ hS (by kernel_rfl)), hH⟩) (fun st1 x fr h HI => ?_) fun y11 e fr h HF => ?_
  ·obtain ⟨s, σ⟩ := fr; obtain ⟨hS, hH⟩ := HI
   refine t_bk h hS hH ?_
   refine t_D fun mb => ?_
   refine t_U 4 ?_
   refine aK_ 76 (fun hc11 => ?_) fun hc11 => ?_
   ·refine t_U 1 ?_
    refine ae_ 0 ?_
    refine t_U 2 ?_
    refine dx_ fun y12 hy12 => ?_
    refine aw_ fun y13 hy13 => ?_
    refine t_N ?_
    refine t_if (fun hc12 => ?_) fun hc12 => ?_
    ·refine t_RN ?_
     exact t_e fun he hS hH => he ▸ ⟨(ad_ hS (by kernel_rfl)), hH⟩
    exact t_e fun he hS hH => he ▸ ⟨rfl, (ad_ hS (by kernel_rfl)), (Heap.sel hH [] rfl (by kernel_rfl))⟩
   refine t_N ?_
   refine t_cF ff_ne ?_
   exact t_e fun he hS hH => he ▸ ⟨rfl, (ad_ hS (by kernel_rfl)), (Heap.sel hH [] rfl (by kernel_rfl))⟩
  obtain ⟨s, σ⟩ := fr
  obtain ⟨rfl, hS, hH⟩ := HF
  refine t_bx h hS hH ?_
  refine t_RN ?_
  refine t_if (fun hc13 => ?_) fun hc13 => ?_
  ·refine t_RN ?_
   exact t_e fun he hS hH => he ▸ ⟨rfl, (eW hS hH (rT rN) E_i64_p)⟩
  exact t_e fun he hS hH => he ▸ ⟨rfl, (ad_ hS (by kernel_rfl)), hH⟩
 refine t_RN ?_
 refine t_if (fun hc14 => ?_) fun hc14 => ?_
 ·refine t_RN ?_
  refine a8_ (fun st2 fr => Sub [(1, .str a1), (3, .ptr b1 0 0 4), (7, i4 (a1.size : Int)), (10, i4 st2)] fr.s ∧ Heap σ0 fr.σ [.box b1 [i4 a0.Kind, i4 a0.Num, .str a0.Text, a0.Kids.t]]) (fun y14 e fr => (Sum.elim (fun y => e = (.exit 3) ∧ Sub [] fr.s ∧ Heap σ0 fr.σ []) (fun y => e = .ret ∧ endW Try.prog (Try.f148.results.toList) σ0 (E_i64 y) .ret fr)) y14) (fun hS hH => ⟨(ad_ hS (by kernel_rfl)), hH⟩) (fun st2 x fr h HI => ?_) fun y14 e fr h HF => ?_
  ·obtain ⟨s, σ⟩ := fr; obtain ⟨hS, hH⟩ := HI
   refine t_bk h hS hH ?_
   refine t_RN ?_
   refine t_if (fun hc15 => ?_) fun hc15 => ?_
   ·refine t_D fun mb => ?_
    refine t_U 1 ?_
    refine ae_ 0 ?_
    refine t_U 2 ?_
    refine dx_ fun y15 hy15 => ?_
    refine aw_ fun y16 hy16 => ?_
    refine t_N ?_
    refine t_if (fun hc16 => ?_) fun hc16 => ?_
    ·refine t_RN ?_
     exact t_e fun he hS hH => he ▸ ⟨rfl, (eW hS hH (rT rN) E_i64_p)⟩
    refine t_RN ?_
    exact t_e fun he hS hH => he ▸ ⟨(ad_ hS (by kernel_rfl)), hH⟩
   exact t_e fun he hS hH => he ▸ ⟨rfl, (ad_ hS (by kernel_rfl)), (Heap.sel hH [] rfl (by kernel_rfl))⟩
  obtain ⟨s, σ⟩ := fr
  rcases y14 with y14 | y14
  ·have h := el_l h
   obtain ⟨rfl, hS, hH⟩ := HF
   refine t_bx h hS hH ?_
   exact t_e fun he hS hH => he ▸ ⟨rfl, (ad_ hS (by kernel_rfl)), hH⟩
  have h := el_r h
  obtain ⟨rfl, HE⟩ := HF
  obtain rfl := si_1 h; exact ⟨rfl, HE⟩
 refine t_RN ?_
 refine t_if (fun hc17 => ?_) fun hc17 => ?_
 ·refine t_RU 2 ?_
  refine ae_ 0 ?_
  refine t_N ?_
  refine t_if (fun hc18 => ?_) fun hc18 => ?_
  ·refine t_RU 2 ?_
   refine ae_ 0 ?_
   refine t_N ?_
   exact t_e fun he hS hH => he ▸ ⟨rfl, (eW hS hH (rT rN) E_i64_p)⟩
  exact t_e fun he hS hH => he ▸ ⟨rfl, (ad_ hS (by kernel_rfl)), (Heap.sel hH [] rfl (by kernel_rfl))⟩
 refine t_RN ?_
 refine t_if (fun hc19 => ?_) fun hc19 => ?_
 ·refine t_RU 2 ?_
  refine ae_ 0 ?_
  refine t_N ?_
  refine t_if (fun hc20 => ?_) fun hc20 => ?_
  ·refine t_RN ?_
   exact t_e fun he hS hH => he ▸ ⟨rfl, (eW hS hH (rT rN) E_i64_p)⟩
  exact t_e fun he hS hH => he ▸ ⟨rfl, (ad_ hS (by kernel_rfl)), (Heap.sel hH [] rfl (by kernel_rfl))⟩
 refine t_RN ?_
 refine t_if (fun hc21 => ?_) fun hc21 => ?_
 ·refine t_RU 3 ?_
  refine ae_ 0 ?_
  refine t_N ?_
  refine t_if (fun hc22 => ?_) fun hc22 => ?_
  ·refine t_RN ?_
   exact t_e fun he hS hH => he ▸ ⟨rfl, (eW hS hH (rT rN) E_i64_p)⟩
  exact t_e fun he hS hH => he ▸ ⟨rfl, (ad_ hS (by kernel_rfl)), (Heap.sel hH [] rfl (by kernel_rfl))⟩
 refine t_RN ?_
 refine t_if (fun hc23 => ?_) fun hc23 => ?_
 ·refine t_RU 1 ?_
  refine ae_ 0 ?_
  refine t_U 2 ?_
  refine aw_ fun y17 hy17 => ?_
  refine t_N ?_
  refine t_if (fun hc24 => ?_) fun hc24 => ?_
  ·refine t_RU 1 ?_
   refine ae_ 0 ?_
   refine t_N ?_
   exact t_e fun he hS hH => he ▸ ⟨rfl, (eW hS hH (rT rN) E_i64_p)⟩
  exact t_e fun he hS hH => he ▸ ⟨rfl, (ad_ hS (by kernel_rfl)), (Heap.sel hH [] rfl (by kernel_rfl))⟩
 refine t_RN ?_
 refine t_if (fun hc25 => ?_) fun hc25 => ?_
 ·refine t_RU 2 ?_
  refine ae_ 0 ?_
  refine t_U 3 ?_
  refine aw_ fun y18 hy18 => ?_
  refine t_N ?_
  refine t_if (fun hc26 => ?_) fun hc26 => ?_
  ·refine t_RU 2 ?_
   refine ae_ 0 ?_
   refine t_N ?_
   exact t_e fun he hS hH => he ▸ ⟨rfl, (eW hS hH (rT rN) E_i64_p)⟩
  exact t_e fun he hS hH => he ▸ ⟨rfl, (ad_ hS (by kernel_rfl)), (Heap.sel hH [] rfl (by kernel_rfl))⟩
 refine t_RN ?_
 refine t_if (fun hc27 => ?_) fun hc27 => ?_
 ·refine t_RN ?_
  exact t_e fun he hS hH => he ▸ ⟨rfl, (eW hS hH (rT rN) E_i64_p)⟩
 exact t_e fun he hS hH => he ▸ ⟨rfl, (ad_ hS (by kernel_rfl)), (Heap.sel hH [] rfl (by kernel_rfl))⟩
noncomputable def eb_ (a0 : ByteArray) (a1 : Int) (a2 : Int) : Option Int := ((aA_ (S := (Int × Int)) (R := (Unit ⊕ Int)) (fun st1 => (if (decide (st1.2 < (a0.size : Int))) = true then ((aU_ a0 st1.2).bind fun y2 => (((if (decide (y2 = 40)) = true then (some (w4 (st1.1 + 1))) else (if (decide (y2 = 41)) = true then (some (w4 (st1.1 - 1))) else (some st1.1))) : Option Int).bind fun y3 => (if (decide (y3 < 0)) = true then (some (.inr (.inr (-1)))) else (if (decide (y3 = 0)) = true then (if (decide (a2 < (w4 (st1.2 + 1)))) = true then (some (.inr (.inr (w4 (st1.2 + 1))))) else (some (.inl (y3, (w4 (st1.2 + 1)))))) else (some (.inl (y3, (w4 (st1.2 + 1))))))))) else (some (.inr (.inl ()))))) (0, a1)).bind fun y1 => (Sum.elim (fun y1 => (some (-1))) (fun y1 => (some y1)) y1))
theorem h9_ (a0 : ByteArray) (a1 : Int) (a2 : Int) (r : Int) (h : eb_ a0 a1 a2 = some r) : bw_ a0 a1 a2 = some r := by
 unfold eb_ at h
 refine k_W ok_150 E_i64_inj h (fun σ0 => ?_)
 refine t_RN ?_
 refine t_RN ?_
 refine t_RN ?_
 refine a8_ (fun st1 fr => Sub [(0, .str a0), (2, i4 a2), (7, i4 st1.1), (8, i4 st1.2)] fr.s ∧ Heap σ0 fr.σ []) (fun y1 e fr => (Sum.elim (fun y => e = (.exit 0) ∧ Sub [] fr.s ∧ Heap σ0 fr.σ []) (fun y => e = .ret ∧ endW Try.prog (Try.f150.results.toList) σ0 (E_i64 y) .ret fr)) y1) (fun hS hH => ⟨(ad_ hS (by kernel_rfl)), hH⟩) (fun st1 x fr h HI => ?_) fun y1 e fr h HF => ?_
 ·obtain ⟨s, σ⟩ := fr; obtain ⟨hS, hH⟩ := HI
  refine t_bk h hS hH ?_
  refine t_RN ?_
  refine t_if (fun hc1 => ?_) fun hc1 => ?_
  ·refine t_RU 2 ?_
   refine dx_ fun y2 hy2 => ?_
   refine t_N ?_
   refine eJ_ 2 (fun y3 e fr => e = .normal ∧ Sub [(0, .str a0), (2, i4 a2), (7, i4 y3), (8, i4 st1.2)] fr.s ∧ Heap σ0 fr.σ []) (fun y3 e fr h HF => ?_) fun y3 => ?_
   ·obtain ⟨s, σ⟩ := fr
    obtain ⟨rfl, hS, hH⟩ := HF
    refine t_bx h hS hH ?_
    refine t_RN ?_
    refine t_if (fun hc2 => ?_) fun hc2 => ?_
    ·refine t_RN ?_
     exact t_e fun he hS hH => he ▸ ⟨rfl, (eW hS hH (rT rN) E_i64_p)⟩
    refine t_RU 3 ?_
    refine aK_ 31 (fun hc3 => ?_) fun hc3 => ?_
    ·refine t_N ?_
     refine t_if (fun hc4 => ?_) fun hc4 => ?_
     ·refine t_RN ?_
      exact t_e fun he hS hH => he ▸ ⟨rfl, (eW hS hH (rT rN) E_i64_p)⟩
     refine t_RN ?_
     exact t_e fun he hS hH => he ▸ ⟨(ad_ hS (by kernel_rfl)), hH⟩
    refine t_N ?_
    refine t_cF ff_ne ?_
    refine t_RN ?_
    exact t_e fun he hS hH => he ▸ ⟨(ad_ hS (by kernel_rfl)), hH⟩
   refine t_RN ?_
   refine t_if (fun hc5 => ?_) fun hc5 => ?_
   ·refine t_RN ?_
    exact t_e fun he hS hH => he ▸ ⟨rfl, (ad_ hS (by kernel_rfl)), hH⟩
   refine t_RN ?_
   refine t_if (fun hc6 => ?_) fun hc6 => ?_
   ·refine t_RN ?_
    exact t_e fun he hS hH => he ▸ ⟨rfl, (ad_ hS (by kernel_rfl)), hH⟩
   exact t_e fun he hS hH => he ▸ ⟨rfl, (ad_ hS (by kernel_rfl)), hH⟩
  exact t_e fun he hS hH => he ▸ ⟨rfl, (ad_ hS (by kernel_rfl)), hH⟩
 obtain ⟨s, σ⟩ := fr
 rcases y1 with y1 | y1
 ·have h := el_l h
  obtain ⟨rfl, hS, hH⟩ := HF
  refine t_bx h hS hH ?_
  refine t_RN ?_
  exact k_eW (rT rN) E_i64_p
 have h := el_r h
 obtain ⟨rfl, HE⟩ := HF
 obtain rfl := si_1 h; exact HE

noncomputable def dT_ (a0 : Int) (a1 : Int) (a2 : ByteArray) (a3 : ByteArray) (a4 : Int) : Option Int := (((((if (decide (a0 = 1)) = true then ((subB a3 a4 (a3.size : Int)).bind fun y3 => ((cB_ y3 a2).bind fun y4 => (if y4 = true then (some (.inr (w4 (a4 + (a2.size : Int))))) else (some (.inl ()))))) else (((if (decide (a0 = 2)) = true then (some (decide (a0 = 2))) else (some (decide (a0 = 3)))) : Option Bool).bind fun y5 => (if y5 = true then (if (decide (a4 < (a3.size : Int))) = true then ((aU_ a3 a4).bind fun y6 => ((bj_ y6 a2).bind fun y7 => (if (y7 == (decide (a0 = 2))) = true then (some (.inr (w4 (a4 + 1)))) else (some (.inl ()))))) else (some (.inl ()))) else (if (decide (a0 = 4)) = true then ((aA_ (S := Int) (R := Int) (fun st1 => (if (decide (st1 < (a3.size : Int))) = true then ((aU_ a3 st1).bind fun y9 => ((bj_ y9 a2).bind fun y10 => (if y10 = true then (some (.inl (w4 (st1 + 1)))) else (some (.inr st1))))) else (some (.inr st1)))) a4).bind fun y8 => (if (decide (0 < (w4 (y8 - a4)))) = true then (some (.inr (w4 (a4 + (w4 (y8 - a4)))))) else (some (.inl ())))) else (if (decide (a0 = 5)) = true then ((aA_ (S := Int) (R := Int) (fun st2 => (if (decide (st2 < (a3.size : Int))) = true then ((aU_ a3 st2).bind fun y12 => ((bj_ y12 a2).bind fun y13 => (if (!y13) = true then (some (.inl (w4 (st2 + 1)))) else (some (.inr st2))))) else (some (.inr st2)))) a4).bind fun y11 => (if ((decide ((w4 (a4 + (w4 (y11 - a4)))) < (a3.size : Int)))) = true then (some (.inr (w4 (a4 + (w4 (y11 - a4)))))) else (some (.inl ())))) else (if (decide (a0 = 6)) = true then (if ((decide ((w4 (a4 + a1)) ≤ (a3.size : Int)))) = true then (some (.inr (w4 (a4 + a1)))) else (some (.inl ()))) else (((if (decide (a0 = 7)) = true then (some (decide (a0 = 7))) else (some (decide (a0 = 8)))) : Option Bool).bind fun y14 => (if y14 = true then ((dq_ a1 (a3.size : Int) (decide (a0 = 8))).bind fun y15 => (if (decide (a4 = y15)) = true then (some (.inr a4)) else (some (.inl ())))) else (((if (decide (a0 = 9)) = true then (some (decide (a0 = 9))) else (some (decide (a0 = 10)))) : Option Bool).bind fun y16 => (if y16 = true then ((dq_ a1 (a3.size : Int) (decide (a0 = 10))).bind fun y17 => (if (decide (a4 ≤ y17)) = true then (if (decide (y17 ≤ (a3.size : Int))) = true then (some (.inr y17)) else (some (.inl ()))) else (some (.inl ())))) else (if (decide (a0 = 11)) = true then (some (.inr (a3.size : Int))) else (some (.inl ()))))))))))))) : Option (Unit ⊕ Int)).bind fun y2 => (Sum.elim (fun y2 => (some (.inl ()))) (fun y2 => (some (.inr y2))) y2)) : Option (Unit ⊕ Int)).bind fun y1 => (Sum.elim (fun y1 => (some (-1))) (fun y1 => (some y1)) y1))
theorem ji_ (a0 : Int) (a1 : Int) (a2 : ByteArray) (a3 : ByteArray) (a4 : Int) (r : Int) (h : dT_ a0 a1 a2 a3 a4 = some r) : dU_ a0 a1 a2 a3 a4 = some r := by
 unfold dT_ at h
 refine k_W ok_155 E_i64_inj h (fun σ0 => ?_)
 refine t_R ?_
 refine cK_ (fun b1 => ?_)
 refine t_N ?_
 refine t_RN ?_
 refine t_RU 1 ?_
 refine bL_ fun b2 => ?_
 refine aI_ 0 ?_
 refine t_N ?_
 refine t_RN ?_
 refine eJ_ 2 (fun y1 e fr => (Sum.elim (fun y => e = .normal ∧ Sub [] fr.s ∧ Heap σ0 fr.σ []) (fun y => e = .ret ∧ endW Try.prog (Try.f155.results.toList) σ0 (E_i64 y) .ret fr)) y1) (fun y1 e fr h HF => ?_) fun y1 => ?_
 ·obtain ⟨s, σ⟩ := fr
  rcases y1 with y1 | y1
  ·have h := el_l h
   obtain ⟨rfl, hS, hH⟩ := HF
   refine t_bx h hS hH ?_
   refine t_RN ?_
   exact k_eW (rT rN) E_i64_p
  have h := el_r h
  obtain ⟨rfl, HE⟩ := HF
  obtain rfl := si_1 h; exact HE
 refine t_RN ?_
 refine eJ_ 0 (fun y2 e fr => (Sum.elim (fun y => e = .normal ∧ Sub [] fr.s ∧ Heap σ0 fr.σ []) (fun y => e = .ret ∧ endW Try.prog (Try.f155.results.toList) σ0 (E_i64 y) .ret fr)) y2) (fun y2 e fr h HF => ?_) fun y2 => ?_
 ·obtain ⟨s, σ⟩ := fr
  rcases y2 with y2 | y2
  ·have h := el_l h
   obtain ⟨rfl, hS, hH⟩ := HF
   refine t_bx h hS hH ?_
   exact t_e fun he hS hH => he ▸ ⟨rfl, (ad_ hS (by kernel_rfl)), hH⟩
  have h := el_r h
  obtain ⟨rfl, HE⟩ := HF
  obtain rfl := si_1 h; exact ⟨rfl, HE⟩
 refine t_if (fun hc1 => ?_) fun hc1 => ?_
 ·refine t_D fun mb => ?_
  refine t_U 2 ?_
  refine hF_ fun y3 hy3 => ?_
  refine ae_ 1 ?_
  refine aw_ fun y4 hy4 => ?_
  refine t_N ?_
  refine t_if (fun hc2 => ?_) fun hc2 => ?_
  ·refine t_RU 1 ?_
   refine ae_ 1 ?_
   refine t_N ?_
   exact t_e fun he hS hH => he ▸ ⟨rfl, (eW hS hH (rT rN) E_i64_p)⟩
  exact t_e fun he hS hH => he ▸ ⟨rfl, (ad_ hS (by kernel_rfl)), (Heap.sel hH [] rfl (by kernel_rfl))⟩
 refine t_RN ?_
 refine eJ_ 0 (fun y5 e fr => e = .normal ∧ Sub [(0, i4 a0), (3, .str a3), (4, i4 a4), (11, i4 (a3.size : Int)), (12, i4 a1), (13, .ptr b2 0 0 1), (21, i4 a0), (33, .bool y5)] fr.s ∧ Heap σ0 fr.σ [.box b2 [T.fn 170 [] [.ptr b1 0 0 1]], .box b1 [.str a2]]) (fun y5 e fr h HF => ?_) fun y5 => ?_
 ·obtain ⟨s, σ⟩ := fr
  obtain ⟨rfl, hS, hH⟩ := HF
  refine t_bx h hS hH ?_
  refine t_if (fun hc3 => ?_) fun hc3 => ?_
  ·refine t_D fun mb => ?_
   refine t_U 4 ?_
   refine aK_ 39 (fun hc4 => ?_) fun hc4 => ?_
   ·refine ae_ 0 ?_
    refine t_U 2 ?_
    refine dx_ fun y6 hy6 => ?_
    intro h s σ hS hH
    obtain ⟨y7, hy7, h⟩ := bind_some h
    refine jt_ (xs := [.int .u8 y6]) (cs := [[.str a2]]) [b1] rfl hS rfl rfl rfl (⟨(Heap.lent (hH.at 1 rfl)), trivial⟩) hy7 ?_; intro s hS
    refine t_bk h hS hH ?_
    refine t_N ?_
    refine t_if (fun hc5 => ?_) fun hc5 => ?_
    ·refine t_RN ?_
     exact t_e fun he hS hH => he ▸ ⟨rfl, (eW hS hH (rT rN) E_i64_p)⟩
    exact t_e fun he hS hH => he ▸ ⟨rfl, (ad_ hS (by kernel_rfl)), (Heap.sel hH [] rfl (by kernel_rfl))⟩
   refine t_N ?_
   refine t_cF ff_ne ?_
   exact t_e fun he hS hH => he ▸ ⟨rfl, (ad_ hS (by kernel_rfl)), (Heap.sel hH [] rfl (by kernel_rfl))⟩
  refine t_RN ?_
  refine t_if (fun hc6 => ?_) fun hc6 => ?_
  ·refine t_RU 2 ?_
   refine ae_ 0 ?_
   refine eq_ ok_173 ?_
   refine t_RN ?_
   refine t_RN ?_
   refine a8_ (fun st1 fr => Sub [(0, .str a3), (1, i4 a4), (2, T.fn 170 [] [.ptr b1 0 0 1]), (7, i4 st1)] fr.s ∧ Heap σ0 fr.σ [.box b1 [.str a2]]) (fun y8 e fr => e = (.exit 0) ∧ Sub [(1, i4 a4), (7, i4 y8)] fr.s ∧ Heap σ0 fr.σ []) (fun hS hH => ⟨(ad_ hS (by kernel_rfl)), (Heap.sel hH [1] rfl (by kernel_rfl))⟩) (fun st1 x fr h HI => ?_) fun y8 e fr h HF => ?_
   ·obtain ⟨s, σ⟩ := fr; obtain ⟨hS, hH⟩ := HI
    refine t_bk h hS hH ?_
    refine t_RU 5 ?_
    refine aK_ 13 (fun hc7 => ?_) fun hc7 => ?_
    ·refine t_U 3 ?_
     refine dx_ fun y9 hy9 => ?_
     intro h s σ hS hH
     obtain ⟨y10, hy10, h⟩ := bind_some h
     refine jt_ (xs := [.int .u8 y9]) (cs := [[.str a2]]) [b1] rfl hS rfl rfl rfl (⟨(Heap.lent hH), trivial⟩) hy10 ?_; intro s hS
     refine t_bk h hS hH ?_
     refine t_N ?_
     refine t_if (fun hc8 => ?_) fun hc8 => ?_
     ·refine t_RN ?_
      exact t_e fun he hS hH => he ▸ ⟨(ad_ hS (by kernel_rfl)), hH⟩
     exact t_e fun he hS hH => he ▸ ⟨rfl, (ad_ hS (by kernel_rfl)), (Heap.sel hH [] rfl (by kernel_rfl))⟩
    refine t_N ?_
    refine t_cF ff_ne ?_
    exact t_e fun he hS hH => he ▸ ⟨rfl, (ad_ hS (by kernel_rfl)), (Heap.sel hH [] rfl (by kernel_rfl))⟩
   obtain ⟨s, σ⟩ := fr
   obtain ⟨rfl, hS, hH⟩ := HF
   refine t_bx h hS hH ?_
   refine t_RN ?_
   refine k_eI (rT rN) ?_
   refine t_N ?_
   refine t_RN ?_
   refine t_if (fun hc9 => ?_) fun hc9 => ?_
   ·refine t_RN ?_
    exact t_e fun he hS hH => he ▸ ⟨rfl, (eW hS hH (rT rN) E_i64_p)⟩
   exact t_e fun he hS hH => he ▸ ⟨rfl, (ad_ hS (by kernel_rfl)), hH⟩
  refine t_RN ?_
  refine t_if (fun hc10 => ?_) fun hc10 => ?_
  ·refine t_RU 4 ?_
   refine eq_ ok_173 ?_
   refine t_RN ?_
   refine t_RN ?_
   refine a8_ (fun st2 fr => Sub [(0, .str a3), (1, i4 a4), (2, T.fn 174 [] [.ptr b2 0 0 1]), (7, i4 st2)] fr.s ∧ Heap σ0 fr.σ [.box b2 [T.fn 170 [] [.ptr b1 0 0 1]], .box b1 [.str a2]]) (fun y11 e fr => e = (.exit 0) ∧ Sub [(1, i4 a4), (7, i4 y11)] fr.s ∧ Heap σ0 fr.σ []) (fun hS hH => ⟨(ad_ hS (by kernel_rfl)), hH⟩) (fun st2 x fr h HI => ?_) fun y11 e fr h HF => ?_
   ·obtain ⟨s, σ⟩ := fr; obtain ⟨hS, hH⟩ := HI
    refine t_bk h hS hH ?_
    refine t_RU 5 ?_
    refine aK_ 13 (fun hc11 => ?_) fun hc11 => ?_
    ·refine t_U 3 ?_
     refine dx_ fun y12 hy12 => ?_
     refine eq_ ok_174 ?_
     refine t_RN ?_
     refine t_R ?_
     refine ae_ 0 ?_
     refine t_U 1 ?_
     intro h s σ hS hH
     obtain ⟨y13, hy13, h⟩ := bind_some h
     refine jt_ (xs := [.int .u8 y12]) (cs := [[.str a2]]) [b1] rfl hS rfl rfl rfl (⟨(Heap.lent (hH.at 1 rfl)), trivial⟩) hy13 ?_; intro s hS
     refine t_bk h hS hH ?_
     refine t_N ?_
     refine k_eI (rT rN) ?_
     refine t_N ?_
     refine t_if (fun hc12 => ?_) fun hc12 => ?_
     ·refine t_RN ?_
      exact t_e fun he hS hH => he ▸ ⟨(ad_ hS (by kernel_rfl)), hH⟩
     exact t_e fun he hS hH => he ▸ ⟨rfl, (ad_ hS (by kernel_rfl)), (Heap.sel hH [] rfl (by kernel_rfl))⟩
    refine t_N ?_
    refine t_cF ff_ne ?_
    exact t_e fun he hS hH => he ▸ ⟨rfl, (ad_ hS (by kernel_rfl)), (Heap.sel hH [] rfl (by kernel_rfl))⟩
   obtain ⟨s, σ⟩ := fr
   obtain ⟨rfl, hS, hH⟩ := HF
   refine t_bx h hS hH ?_
   refine t_RN ?_
   refine k_eI (rT rN) ?_
   refine t_N ?_
   refine t_RN ?_
   refine t_if (fun hc13 => ?_) fun hc13 => ?_
   ·refine t_RN ?_
    exact t_e fun he hS hH => he ▸ ⟨rfl, (eW hS hH (rT rN) E_i64_p)⟩
   exact t_e fun he hS hH => he ▸ ⟨rfl, (ad_ hS (by kernel_rfl)), hH⟩
  refine t_RN ?_
  refine t_if (fun hc14 => ?_) fun hc14 => ?_
  ·refine t_RN ?_
   refine t_if (fun hc15 => ?_) fun hc15 => ?_
   ·refine t_RN ?_
    exact t_e fun he hS hH => he ▸ ⟨rfl, (eW hS hH (rT rN) E_i64_p)⟩
   exact t_e fun he hS hH => he ▸ ⟨rfl, (ad_ hS (by kernel_rfl)), (Heap.sel hH [] rfl (by kernel_rfl))⟩
  refine t_RN ?_
  refine eJ_ 0 (fun y14 e fr => e = .normal ∧ Sub [(0, i4 a0), (4, i4 a4), (11, i4 (a3.size : Int)), (12, i4 a1), (21, i4 a0), (84, .bool y14)] fr.s ∧ Heap σ0 fr.σ []) (fun y14 e fr h HF => ?_) fun y14 => ?_
  ·obtain ⟨s, σ⟩ := fr
   obtain ⟨rfl, hS, hH⟩ := HF
   refine t_bx h hS hH ?_
   refine t_if (fun hc16 => ?_) fun hc16 => ?_
   ·refine t_RU 5 ?_
    refine aw_ fun y15 hy15 => ?_
    refine t_N ?_
    refine t_if (fun hc17 => ?_) fun hc17 => ?_
    ·refine t_RN ?_
     exact t_e fun he hS hH => he ▸ ⟨rfl, (eW hS hH (rT rN) E_i64_p)⟩
    exact t_e fun he hS hH => he ▸ ⟨rfl, (ad_ hS (by kernel_rfl)), hH⟩
   refine t_RN ?_
   refine eJ_ 0 (fun y16 e fr => e = .normal ∧ Sub [(0, i4 a0), (4, i4 a4), (11, i4 (a3.size : Int)), (12, i4 a1), (21, i4 a0), (95, .bool y16)] fr.s ∧ Heap σ0 fr.σ []) (fun y16 e fr h HF => ?_) fun y16 => ?_
   ·obtain ⟨s, σ⟩ := fr
    obtain ⟨rfl, hS, hH⟩ := HF
    refine t_bx h hS hH ?_
    refine t_if (fun hc18 => ?_) fun hc18 => ?_
    ·refine t_RU 4 ?_
     refine aw_ fun y17 hy17 => ?_
     refine t_N ?_
     refine t_RU 4 ?_
     refine aK_ 106 (fun hc19 => ?_) fun hc19 => ?_
     ·refine t_N ?_
      refine t_if (fun hc20 => ?_) fun hc20 => ?_
      ·refine t_RN ?_
       exact t_e fun he hS hH => he ▸ ⟨rfl, (eW hS hH (rT rN) E_i64_p)⟩
      exact t_e fun he hS hH => he ▸ ⟨rfl, (ad_ hS (by kernel_rfl)), hH⟩
     refine t_N ?_
     refine t_cF ff_ne ?_
     exact t_e fun he hS hH => he ▸ ⟨rfl, (ad_ hS (by kernel_rfl)), hH⟩
    refine t_RN ?_
    refine t_if (fun hc21 => ?_) fun hc21 => ?_
    ·refine t_RN ?_
     exact t_e fun he hS hH => he ▸ ⟨rfl, (eW hS hH (rT rN) E_i64_p)⟩
    exact t_e fun he hS hH => he ▸ ⟨rfl, (ad_ hS (by kernel_rfl)), hH⟩
   refine t_if (fun hc22 => ?_) fun hc22 => ?_
   ·exact t_e fun he hS hH => he ▸ ⟨rfl, (ad_ hS (by kernel_rfl)), hH⟩
   refine t_RN ?_
   exact t_e fun he hS hH => he ▸ ⟨rfl, (ad_ hS (by kernel_rfl)), hH⟩
  refine t_if (fun hc23 => ?_) fun hc23 => ?_
  ·exact t_e fun he hS hH => he ▸ ⟨rfl, (ad_ hS (by kernel_rfl)), (Heap.sel hH [] rfl (by kernel_rfl))⟩
  refine t_RN ?_
  exact t_e fun he hS hH => he ▸ ⟨rfl, (ad_ hS (by kernel_rfl)), (Heap.sel hH [] rfl (by kernel_rfl))⟩
 refine t_if (fun hc24 => ?_) fun hc24 => ?_
 ·exact t_e fun he hS hH => he ▸ ⟨rfl, (ad_ hS (by kernel_rfl)), hH⟩
 refine t_RN ?_
 exact t_e fun he hS hH => he ▸ ⟨rfl, (ad_ hS (by kernel_rfl)), hH⟩
noncomputable def bq_ (a0 : (Sl (Sl DCapture))) : Option (Sl DCapture) := ((aA_ (S := (Int × Int)) (R := Int) (fun st1 => (if (decide (st1.2 < (a0.l.length : Int))) = true then ((elt a0 st1.2).bind fun y2 => (if (decide ((w4 (st1.1 + (y2.l.length : Int))) < 0)) = true then none else (some (.inl ((w4 (st1.1 + (y2.l.length : Int))), (w4 (st1.2 + 1))))))) else (some (.inr st1.1)))) (0, 0)).bind fun y1 => (((if (decide (y1 < 0)) = true then none else (some ())) : Option Unit).bind fun y3 => (if (decide (0 < (w4 (y1 - (w4 (0 - 0)))))) = true then ((kc_ 48 ((⟨⟨#[]⟩, ⟨#[]⟩, 0, 0⟩ : DCapture) : DCapture) (w4 (y1 - (w4 (0 - 0))))).bind fun y5 => ((if (!decide (y5.l.length = 0)) = true then some () else none).bind fun y6 => ((aA_ (S := (Int × (Sl DCapture))) (R := (Sl DCapture)) (fun st2 => (if (decide (st2.1 < (a0.l.length : Int))) = true then ((elt a0 st2.1).bind fun y8 => ((appS 48 st2.2 y8).bind fun y9 => (some (.inl ((w4 (st2.1 + 1)), y9))))) else (some (.inr st2.2)))) (0, (⟨false, []⟩ : Sl DCapture))).bind fun y7 => (if (y7.z || !decide (y7.l.length = 0)) = true then (some y7) else none)))) else ((aA_ (S := (Int × (Sl DCapture))) (R := (Sl DCapture)) (fun st3 => (if (decide (st3.1 < (a0.l.length : Int))) = true then ((elt a0 st3.1).bind fun y11 => ((appS 48 st3.2 y11).bind fun y12 => (some (.inl ((w4 (st3.1 + 1)), y12))))) else (some (.inr st3.2)))) (0, (⟨true, []⟩ : Sl DCapture))).bind fun y10 => (some y10)))))
theorem fi_ (a0 : (Sl (Sl DCapture))) (r : (Sl DCapture)) (h : bq_ a0 = some r) : a1_ a0 = some r := by
 unfold bq_ at h
 refine k_O ok_156 h (fun σ0 => ?_)
 refine t_RN ?_
 refine t_RN ?_
 refine t_RN ?_
 refine a8_ (fun st1 fr => Sub [(0, a0.t), (3, i4 st1.1), (9, a0.t), (10, i4 (a0.l.length : Int)), (11, i4 st1.2)] fr.s ∧ Heap σ0 fr.σ []) (fun y1 e fr => e = (.exit 0) ∧ Sub [(0, a0.t), (3, i4 y1)] fr.s ∧ Heap σ0 fr.σ []) (fun hS hH => ⟨(ad_ hS (by kernel_rfl)), hH⟩) (fun st1 x fr h HI => ?_) fun y1 e fr h HF => ?_
 ·obtain ⟨s, σ⟩ := fr; obtain ⟨hS, hH⟩ := HI
  refine t_bk h hS hH ?_
  refine t_RN ?_
  refine t_if (fun hc1 => ?_) fun hc1 => ?_
  ·refine t_R ?_
   refine bM_ fun y2 rest1 hy2 => ?_
   refine t_N ?_
   refine t_RN ?_
   refine t_RN ?_
   refine t_if (fun hc2 => ?_) fun hc2 => ?_
   ·exact t_no
   refine t_RN ?_
   exact t_e fun he hS hH => he ▸ ⟨(ad_ hS (by kernel_rfl)), hH⟩
  exact t_e fun he hS hH => he ▸ ⟨rfl, (ad_ hS (by kernel_rfl)), hH⟩
 obtain ⟨s, σ⟩ := fr
 obtain ⟨rfl, hS, hH⟩ := HF
 refine t_bx h hS hH ?_
 refine t_RU 1 ?_
 refine eq_ ok_176 ?_
 refine t_RN ?_
 refine t_RN ?_
 refine eJ_ 0 (fun y3 e fr => e = .normal ∧ Sub [(0, (nt DCapture)), (1, i4 y1)] fr.s ∧ Heap σ0 fr.σ []) (fun y3 e fr h HF => ?_) fun y3 => ?_
 ·obtain ⟨s, σ⟩ := fr
  obtain ⟨rfl, hS, hH⟩ := HF
  refine t_bx h hS hH ?_
  refine t_RU 2 ?_
  intro h s σ hS hH
  refine oN_ rfl hS rfl (by kernel_rfl) ?_; intro s hS
  refine t_bk h hS hH ?_
  refine t_N ?_
  refine t_RN ?_
  refine t_if (fun hc3 => ?_) fun hc3 => ?_
  ·refine t_RU 2 ?_
   intro h s σ hS hH
   refine oN_ rfl hS rfl (by kernel_rfl) ?_; intro s hS
   refine oZ_ (w := (⟨true, []⟩ : Sl DCapture)) (y := ⟨true, []⟩) (e := 164) (vlo := none) (vhi := (some (T.int .i64 0))) (a := 0) (b := 0) rfl hS rfl rfl rfl rfl rfl (by kernel_rfl) (by kernel_rfl) rfl ?_; intro s hS
   refine t_bk h hS hH ?_
   refine t_U 1 ?_
   intro h s σ hS hH
   obtain ⟨y5, hy5, h⟩ := bind_some h
   refine rF_ (z := true) (e := 164) (by_ := 48) (x0 := ((⟨⟨#[]⟩, ⟨#[]⟩, 0, 0⟩ : DCapture) : DCapture)) (fun σ d => by simp [Enc.cells, DCapture.cells, Iv]) rfl hS hH rfl rfl (by kernel_rfl) (by kernel_rfl) (by kernel_rfl) (by kernel_rfl) (by kernel_rfl) hy5 ?_; intro t1 σ s ht1 hH hS
   refine t_bk h hS hH ?_
   refine t_U 2 ?_
   intro h s σ hS hH
   obtain ⟨y6, hy6, h⟩ := bind_some h
   obtain ⟨hg1, _⟩ := gZ_ hy6
   refine nS_ (a := y5) (e := 164) rfl hS hH rfl rfl (by kernel_rfl) (by kernel_rfl) (by kernel_rfl) hg1 ?_; intro t2 s ht2 hH hS
   have hH : Heap σ0 σ [.frt true 4 t2 (Sl.t (⟨false, []⟩ : Sl DCapture))] := hH
   refine t_bk h hS hH ?_
   refine t_N ?_
   refine t_RN ?_
   refine k_eI (rT rN) ?_
   refine t_N ?_
   refine t_RN ?_
   refine a8_ (fun st2 fr => ∃ t4, as_ t4 ∧ Sub [(6, t4), (25, a0.t), (26, i4 (a0.l.length : Int)), (27, i4 st2.1)] fr.s ∧ Heap σ0 fr.σ [.frt true 4 t4 st2.2.t]) (fun y7 e fr => ∃ t5, as_ t5 ∧ e = (.exit 2) ∧ Sub [(6, t5)] fr.s ∧ Heap σ0 fr.σ [.frt true 4 t5 y7.t]) (fun hS hH => ⟨t2, ht2, (ad_ hS (by kernel_rfl)), hH⟩) (fun st2 x fr h HI => ?_) fun y7 e fr h HF => ?_
   ·obtain ⟨s, σ⟩ := fr; obtain ⟨t4, ht4, ⟨hS, hH⟩⟩ := HI
    refine t_bk h hS hH ?_
    refine t_RN ?_
    refine t_if (fun hc4 => ?_) fun hc4 => ?_
    ·refine t_R ?_
     refine bM_ fun y8 rest2 hy8 => ?_
     refine t_N ?_
     refine t_RU 2 ?_
     intro h s σ hS hH
     obtain ⟨y9, hy9, h⟩ := bind_some h
     refine qP_ (z := true) (t1 := t4) (a := st2.2) (b := y8) (e := 164) (by_ := 48) (zc := [.str ⟨#[]⟩, .str ⟨#[]⟩, i4 0, i4 0]) rfl hS hH rfl rfl (by kernel_rfl) (by kernel_rfl) (by kernel_rfl) (by kernel_rfl) (by kernel_rfl) (by kernel_rfl) hy9 ?_; intro t6 σ s ht6 hH hS
     refine t_bk h hS hH ?_
     refine t_N ?_
     refine t_RN ?_
     exact t_e fun he hS hH => he ▸ ⟨t6, ht6, (ad_ hS (by kernel_rfl)), hH⟩
    exact t_e fun he hS hH => he ▸ ⟨t4, ht4, rfl, (ad_ hS (by kernel_rfl)), hH⟩
   obtain ⟨s, σ⟩ := fr
   obtain ⟨t5, ht5, ⟨rfl, hS, hH⟩⟩ := HF
   refine t_bx h hS hH ?_
   refine t_RN ?_
   intro h s σ hS hH
   obtain ⟨hg2, h⟩ := gZ_ h
   have hH := Heap.ofFrt (a := y7) hH hg2
   have hH : Heap σ0 σ [.own true 4 t5 y7.t] := hH
   refine t_bk h hS hH ?_
   exact k_eO [t5] (rT rN)
  refine t_RN ?_
  refine k_eI (rT rN) ?_
  refine t_N ?_
  refine t_RN ?_
  refine t_h (Heap.addNil · true 4) ?_
  refine a8_ (fun st3 fr => ∃ t8, as_ t8 ∧ Sub [(6, t8), (25, a0.t), (26, i4 (a0.l.length : Int)), (27, i4 st3.1)] fr.s ∧ Heap σ0 fr.σ [.own true 4 t8 st3.2.t]) (fun y10 e fr => ∃ t9, as_ t9 ∧ e = (.exit 2) ∧ Sub [(6, t9)] fr.s ∧ Heap σ0 fr.σ [.own true 4 t9 y10.t]) (fun hS hH => ⟨(T.row true 0 []), ⟨rfl, rfl⟩, (ad_ hS (by kernel_rfl)), hH⟩) (fun st3 x fr h HI => ?_) fun y10 e fr h HF => ?_
  ·obtain ⟨s, σ⟩ := fr; obtain ⟨t8, ht8, ⟨hS, hH⟩⟩ := HI
   refine t_bk h hS hH ?_
   refine t_RN ?_
   refine t_if (fun hc5 => ?_) fun hc5 => ?_
   ·refine t_R ?_
    refine bM_ fun y11 rest3 hy11 => ?_
    refine t_N ?_
    refine t_RU 2 ?_
    refine oV_ 0 (fun y12 t10 hy12 ht10 => ?_)
    refine t_N ?_
    refine t_RN ?_
    exact t_e fun he hS hH => he ▸ ⟨t10, ht10, (ad_ hS (by kernel_rfl)), hH⟩
   exact t_e fun he hS hH => he ▸ ⟨t8, ht8, rfl, (ad_ hS (by kernel_rfl)), hH⟩
  obtain ⟨s, σ⟩ := fr
  obtain ⟨t9, ht9, ⟨rfl, hS, hH⟩⟩ := HF
  refine t_bx h hS hH ?_
  refine t_RN ?_
  exact k_eO [t9] (rT rN)
 refine t_if (fun hc6 => ?_) fun hc6 => ?_
 ·exact t_no
 exact t_e fun he hS hH => ⟨rfl, (ad_ hS (by kernel_rfl)), hH⟩
noncomputable def fp_ (a0 : Int) : Option Bool := (if (decide (65 ≤ a0)) = true then (if (decide (a0 ≤ 90)) = true then (some true) else (if (decide (97 ≤ a0)) = true then (some (decide (a0 ≤ 122))) else (some false))) else (if (decide (97 ≤ a0)) = true then (some (decide (a0 ≤ 122))) else (some false)))
theorem hp_ (a0 : Int) (r : Bool) (h : fp_ a0 = some r) : b4_ a0 = some r := by
 unfold fp_ at h
 refine k_W ok_158 E_bool_inj h (fun σ0 => ?_)
 refine t_RN ?_
 refine t_RU 3 ?_
 refine aK_ 5 (fun hc1 => ?_) fun hc1 => ?_
 ·refine t_U 4 ?_
  refine aK_ 9 (fun hc2 => ?_) fun hc2 => ?_
  ·refine t_N ?_
   exact k_eW (rT rN) E_bool_p
  refine t_U 3 ?_
  refine aK_ 12 (fun hc3 => ?_) fun hc3 => ?_
  ·refine t_N ?_
   exact k_eW (rT rN) E_bool_p
  refine t_N ?_
  exact k_eW (rT rN) E_bool_p
 refine t_U 7 ?_
 refine aK_ 12 (fun hc4 => ?_) fun hc4 => ?_
 ·refine t_N ?_
  exact k_eW (rT rN) E_bool_p
 refine t_N ?_
 exact k_eW (rT rN) E_bool_p
noncomputable def fO_ (a0 : Int) : Option Bool := (if (decide (48 ≤ a0)) = true then (some (decide (a0 ≤ 57))) else (some false))
theorem ig_ (a0 : Int) (r : Bool) (h : fO_ a0 = some r) : c3_ a0 = some r := by
 unfold fO_ at h
 refine k_W ok_159 E_bool_inj h (fun σ0 => ?_)
 refine t_RN ?_
 refine t_RU 3 ?_
 refine aK_ 5 (fun hc1 => ?_) fun hc1 => ?_
 ·refine t_N ?_
  exact k_eW (rT rN) E_bool_p
 refine t_N ?_
 exact k_eW (rT rN) E_bool_p
noncomputable def f9_ (a0 : Int) : Option Bool := (if (decide (48 ≤ a0)) = true then (some (decide (a0 ≤ 57))) else (some false))
theorem im_ (a0 : Int) (r : Bool) (h : f9_ a0 = some r) : eC_ a0 = some r := by
 unfold f9_ at h
 refine k_W ok_160 E_bool_inj h (fun σ0 => ?_)
 refine t_RN ?_
 refine t_RU 3 ?_
 refine aK_ 5 (fun hc1 => ?_) fun hc1 => ?_
 ·refine t_N ?_
  exact k_eW (rT rN) E_bool_p
 refine t_N ?_
 exact k_eW (rT rN) E_bool_p
noncomputable def fm_ (a0 : Int) : Option Bool := ((bH_ a0 2 5).bind fun y1 => (some y1))
theorem jy_ (a0 : Int) (r : Bool) (h : fm_ a0 = some r) : fd_ a0 = some r := by
 unfold fm_ at h
 refine k_W ok_161 E_bool_inj h (fun σ0 => ?_)
 refine t_RN ?_
 refine t_RU 1 ?_
 refine aw_ fun y1 hy1 => ?_
 refine t_N ?_
 exact k_eW (rT rN) E_bool_p
noncomputable def dH_ (a0 : Int) : Option Bool := ((bH_ a0 6 10).bind fun y1 => (some y1))
theorem hq_ (a0 : Int) (r : Bool) (h : dH_ a0 = some r) : dG_ a0 = some r := by
 unfold dH_ at h
 refine k_W ok_162 E_bool_inj h (fun σ0 => ?_)
 refine t_RN ?_
 refine t_RU 1 ?_
 refine aw_ fun y1 hy1 => ?_
 refine t_N ?_
 exact k_eW (rT rN) E_bool_p
noncomputable def eF_ (a0 : Int) : Option Bool := ((bH_ a0 21 24).bind fun y1 => (some y1))
theorem is_ (a0 : Int) (r : Bool) (h : eF_ a0 = some r) : eE_ a0 = some r := by
 unfold eF_ at h
 refine k_W ok_163 E_bool_inj h (fun σ0 => ?_)
 refine t_RN ?_
 refine t_RU 1 ?_
 refine aw_ fun y1 hy1 => ?_
 refine t_N ?_
 exact k_eW (rT rN) E_bool_p
noncomputable def cw_ (a0 : Int) : Option Bool := ((bH_ a0 1 24).bind fun y1 => (some y1))
theorem f2_ (a0 : Int) (r : Bool) (h : cw_ a0 = some r) : cv_ a0 = some r := by
 unfold cw_ at h
 refine k_W ok_164 E_bool_inj h (fun σ0 => ?_)
 refine t_RN ?_
 refine t_RU 1 ?_
 refine aw_ fun y1 hy1 => ?_
 refine t_N ?_
 exact k_eW (rT rN) E_bool_p
noncomputable def d5_ (a0 : ByteArray) (a1 : Int) : Option Bool := ((aA_ (S := Int) (R := (Unit ⊕ Bool)) (fun st1 => (if (decide (st1 < (a0.size : Int))) = true then ((aU_ a0 st1).bind fun y2 => (if (decide (y2 = a1)) = true then (some (.inr (.inr true))) else (some (.inl (w4 (st1 + 1)))))) else (some (.inr (.inl ()))))) 0).bind fun y1 => (Sum.elim (fun y1 => (some false)) (fun y1 => (some y1)) y1))
theorem hL_ (a0 : ByteArray) (a1 : Int) (r : Bool) (h : d5_ a0 a1 = some r) : a9_ a0 a1 = some r := by
 unfold d5_ at h
 refine k_W ok_166 E_bool_inj h (fun σ0 => ?_)
 refine t_RN ?_
 refine t_RN ?_
 refine a8_ (fun st1 fr => Sub [(0, .str a0), (1, .int .u8 a1), (5, i4 st1)] fr.s ∧ Heap σ0 fr.σ []) (fun y1 e fr => (Sum.elim (fun y => e = (.exit 0) ∧ Sub [] fr.s ∧ Heap σ0 fr.σ []) (fun y => e = .ret ∧ endW Try.prog (Try.f166.results.toList) σ0 (E_bool y) .ret fr)) y1) (fun hS hH => ⟨(ad_ hS (by kernel_rfl)), hH⟩) (fun st1 x fr h HI => ?_) fun y1 e fr h HF => ?_
 ·obtain ⟨s, σ⟩ := fr; obtain ⟨hS, hH⟩ := HI
  refine t_bk h hS hH ?_
  refine t_RN ?_
  refine t_if (fun hc1 => ?_) fun hc1 => ?_
  ·refine t_RU 2 ?_
   refine dx_ fun y2 hy2 => ?_
   refine t_N ?_
   refine t_if (fun hc2 => ?_) fun hc2 => ?_
   ·refine t_RN ?_
    exact t_e fun he hS hH => he ▸ ⟨rfl, (eW hS hH (rT rN) E_bool_p)⟩
   refine t_RN ?_
   exact t_e fun he hS hH => he ▸ ⟨(ad_ hS (by kernel_rfl)), hH⟩
  exact t_e fun he hS hH => he ▸ ⟨rfl, (ad_ hS (by kernel_rfl)), hH⟩
 obtain ⟨s, σ⟩ := fr
 rcases y1 with y1 | y1
 ·have h := el_l h
  obtain ⟨rfl, hS, hH⟩ := HF
  refine t_bx h hS hH ?_
  refine t_RN ?_
  exact k_eW (rT rN) E_bool_p
 have h := el_r h
 obtain ⟨rfl, HE⟩ := HF
 obtain rfl := si_1 h; exact HE
noncomputable def d1_ (a0 : Int) (a1 : ByteArray) : Option Bool := ((cE_ a1 a0).bind fun y1 => (some (decide (0 ≤ y1))))
theorem ia_ (a0 : Int) (a1 : ByteArray) (r : Bool) (h : d1_ a0 a1 = some r) : bj_ a0 a1 = some r := by
 unfold d1_ at h
 refine p7_ E_bool_inj rfl rfl ok_170 (fun bs hb => by obtain ⟨bp1, rfl⟩ := bl1 hb; exact rfl) (fun bs hb => by obtain ⟨bp1, rfl⟩ := bl1 hb; exact (all_cons (by kernel_rfl) (all_cons rfl all_nil))) ?_
 intro σ0 bs s hL hS hH
 obtain ⟨bp1, rfl, hL_bp1⟩ := tk_ hL
 clear hL
 have hS := ad_ (L' := [(0, .int .u8 a0), (1, .ptr bp1 0 0 1)]) hS (by kernel_rfl)
 refine t_go h hS hH ?_
 refine t_RN ?_
 refine t_R ?_
 refine pR_ hL_bp1 ?_
 refine t_U 1 ?_
 refine aw_ fun y1 hy1 => ?_
 refine t_N ?_
 exact k_eW (rT rN) E_bool_p
noncomputable def cD_ (a0 : ByteArray) (a1 : Int) : Option Int := ((ba_ a0 a1).bind fun y1 => (some y1))
theorem gp_ (a0 : ByteArray) (a1 : Int) (r : Int) (h : cD_ a0 a1 = some r) : cE_ a0 a1 = some r := by
 unfold cD_ at h
 refine k_W ok_171 E_i64_inj h (fun σ0 => ?_)
 refine t_RN ?_
 refine t_RU 2 ?_
 refine aw_ fun y1 hy1 => ?_
 refine t_N ?_
 exact k_eW (rT rN) E_i64_p
noncomputable def cI_ (a0 : ByteArray) (a1 : ByteArray) : Option Bool := ((bd_ a0 a1).bind fun y1 => (some y1))
theorem gl_ (a0 : ByteArray) (a1 : ByteArray) (r : Bool) (h : cI_ a0 a1 = some r) : cB_ a0 a1 = some r := by
 unfold cI_ at h
 refine k_W ok_172 E_bool_inj h (fun σ0 => ?_)
 refine t_RN ?_
 refine t_RU 2 ?_
 refine aw_ fun y1 hy1 => ?_
 refine t_N ?_
 exact k_eW (rT rN) E_bool_p
noncomputable def eG_ (a0 : Int) (a1 : Int) (a2 : Bool) : Option Int := (if a2 = true then (some (w4 (a1 - a0))) else (some a0))
theorem iq_ (a0 : Int) (a1 : Int) (a2 : Bool) (r : Int) (h : eG_ a0 a1 a2 = some r) : dq_ a0 a1 a2 = some r := by
 unfold eG_ at h
 refine k_W ok_175 E_i64_inj h (fun σ0 => ?_)
 refine t_RN ?_
 refine t_RN ?_
 refine t_if (fun hc1 => ?_) fun hc1 => ?_
 ·refine t_RN ?_
  exact k_eW (rT rN) E_i64_p
 refine t_RN ?_
 exact k_eW (rT rN) E_i64_p
noncomputable def bb_ (a0 : ByteArray) (a1 : Int) : Option Int := ((bB_ a0 a1).bind fun y1 => (some y1))
theorem c9_ (a0 : ByteArray) (a1 : Int) (r : Int) (h : bb_ a0 a1 = some r) : ba_ a0 a1 = some r := by
 unfold bb_ at h
 refine k_W ok_177 E_i64_inj h (fun σ0 => ?_)
 refine t_RN ?_
 refine t_RU 2 ?_
 refine aw_ fun y1 hy1 => ?_
 refine t_N ?_
 exact k_eW (rT rN) E_i64_p
noncomputable def bc_ (a0 : ByteArray) (a1 : ByteArray) : Option Bool := (if ((decide ((a1.size : Int) ≤ (a0.size : Int)))) = true then ((subB a0 0 (a1.size : Int)).bind fun y1 => (some (decide (y1 = a1)))) else (some false))
theorem c8_ (a0 : ByteArray) (a1 : ByteArray) (r : Bool) (h : bc_ a0 a1 = some r) : bd_ a0 a1 = some r := by
 unfold bc_ at h
 refine k_W ok_178 E_bool_inj h (fun σ0 => ?_)
 refine t_RN ?_
 refine t_RU 6 ?_
 refine aK_ 10 (fun hc1 => ?_) fun hc1 => ?_
 ·refine t_U 3 ?_
  refine hF_ fun y1 hy1 => ?_
  refine t_N ?_
  exact k_eW (rT rN) E_bool_p
 refine t_N ?_
 exact k_eW (rT rN) E_bool_p
end Go.Am
