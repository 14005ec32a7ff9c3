/- Functions of the program. -/
import Derived.Test.YthpmndnnpnojjaaAd0
set_option maxRecDepth 100000
set_option maxHeartbeats 4000000
set_option linter.unusedVariables false
set_option linter.unusedSimpArgs false
namespace Go.Am
open Go.Proofs
noncomputable def eF_ (a0 : (Sl ac_)) (a1 : DPattern) (a2 : ByteArray) (a3 : Int) (a4 : Int) : Option ((Sl (Iv .i64)) × Int) := ((da_ a0 a1 a2 (⟨false, [⟨a3⟩]⟩) a4).bind fun y1 => ((ax_ (S := (Int × (Sl (Iv .i64)))) (R := (Sl (Iv .i64))) (fun st1 => (if (decide (st1.1 < (y1.1.l.length : Int))) = true then ((elt y1.1 st1.1).bind fun y3 => ((appS 8 st1.2 (⟨false, [⟨y3.End⟩]⟩ : Sl (Iv .i64))).bind fun y4 => (some (.inl ((w4 (st1.1 + 1)), y4))))) else (some (.inr st1.2)))) (0, (⟨false, []⟩ : Sl (Iv .i64)))).bind fun y2 => (some (y2, y1.2))))
theorem iB_ (a0 : (Sl ac_)) (a1 : DPattern) (a2 : ByteArray) (a3 : Int) (a4 : Int) (r : ((Sl (Iv .i64)) × Int)) (h : eF_ a0 a1 a2 a3 a4 = some r) : eQ_ a0 a1 a2 a3 a4 = some r := by
 unfold eF_ at h
 refine k_O ok_86 h (fun σ0 => ?_)
 refine t_R ?_
 refine bX_ (fun b1 => ?_)
 refine t_N ?_
 refine t_RU 1 ?_
 refine ag_ 0 ?_
 refine t_U 2 ?_
 refine k_bs (z := true) (⟨false, [⟨a3⟩]⟩ : Sl (Iv .i64)) (fun t1 ht1 => ?_)
 refine t_U 1 ?_
 refine bv_ (fun y1 t2 hy1 ht2 => ?_)
 refine t_N ?_
 refine t_R ?_
 refine jA_ (α := (Iv .i64)) (fun t3 ht3 => ?_)
 refine t_N ?_
 refine t_RN ?_
 refine aU_ (fun st1 fr => ∃ t5, ap_ t5 ∧ Sub [(12, t2), (13, i4 y1.2), (14, t5), (15, i4 st1.1)] fr.s ∧ Heap σ0 fr.σ [.own true 3 t2 y1.1.t, .own true 1 t5 st1.2.t]) (fun y2 e fr => ∃ t6, ap_ t6 ∧ e = (.exit 0) ∧ Sub [(13, i4 y1.2), (14, t6)] fr.s ∧ Heap σ0 fr.σ [.own true 1 t6 y2.t]) (fun hS hH => ⟨t3, ht3, (af_ hS (by kernel_rfl)), (Heap.sel hH [1, 0] rfl (by kernel_rfl))⟩) (fun st1 x fr h HI => ?_) fun y2 e fr h HF => ?_
 ·obtain ⟨s, σ⟩ := fr; obtain ⟨t5, ht5, ⟨hS, hH⟩⟩ := HI
  refine t_bk h hS hH ?_
  refine t_RU 2 ?_
  refine hl_ (a := y1.1) 0 ?_
  refine t_N ?_
  refine t_if (fun hc1 => ?_) fun hc1 => ?_
  ·refine t_RU 3 ?_
   refine ex_ 0 (fun hb1 hb1e y3 hy3 hl_hb1 => ?_)
   refine t_U 1 ?_
   refine oZ_ 0 1 hl_hb1 hy3 ?_
   refine k_bs (z := true) (⟨false, [⟨y3.End⟩]⟩ : Sl (Iv .i64)) (fun t7 ht7 => ?_)
   refine nz_ 2 0 (fun y4 t8 hy4 ht8 => ?_)
   refine t_N ?_
   refine t_RN ?_
   exact t_e fun he hS hH => he ▸ ⟨t8, ht8, (af_ hS (by kernel_rfl)), (Heap.sel hH [1, 0] rfl (by kernel_rfl))⟩
  exact t_e fun he hS hH => he ▸ ⟨t5, ht5, rfl, (af_ hS (by kernel_rfl)), (Heap.sel hH [1] rfl (by kernel_rfl))⟩
 obtain ⟨s, σ⟩ := fr
 obtain ⟨t6, ht6, ⟨rfl, hS, hH⟩⟩ := HF
 refine t_bx h hS hH ?_
 refine t_RN ?_
 exact k_eO [t6] (rT (rT rN))
noncomputable def fG_ (a0 : (Sl (Iv .i64))) : Option Int := ((ax_ (S := Int) (R := (Unit ⊕ Int)) (fun st1 => (if (decide (st1 < (a0.l.length : Int))) = true then ((elt a0 st1).bind fun y2 => (if (!decide (y2.v = 0)) = true then (some (.inr (.inr y2.v))) else (some (.inl (w4 (st1 + 1)))))) else (some (.inr (.inl ()))))) 0).bind fun y1 => (Sum.elim (fun y1 => (some 0)) (fun y1 => (some y1)) y1))
theorem kl_ (a0 : (Sl (Iv .i64))) (r : Int) (h : fG_ a0 = some r) : eD_ a0 = some r := by
 unfold fG_ at h
 refine k_W ok_87 E_i64_inj h (fun σ0 => ?_)
 refine t_RN ?_
 refine t_RN ?_
 refine aU_ (fun st1 fr => Sub [(5, a0.t), (6, i4 (a0.l.length : Int)), (7, i4 st1)] fr.s ∧ Heap σ0 fr.σ []) (fun y1 e fr => (Sum.elim (fun y => e = (.exit 0) ∧ Sub [] fr.s ∧ Heap σ0 fr.σ []) (fun y => e = .ret ∧ endW Try.prog (Try.f87.results.toList) σ0 (E_i64 y) .ret fr)) y1) (fun hS hH => ⟨(af_ hS (by kernel_rfl)), hH⟩) (fun st1 x fr h HI => ?_) fun y1 e fr h HF => ?_
 ·obtain ⟨s, σ⟩ := fr; obtain ⟨hS, hH⟩ := HI
  refine t_bk h hS hH ?_
  refine t_RN ?_
  refine t_if (fun hc1 => ?_) fun hc1 => ?_
  ·refine t_R ?_
   refine bz_ fun y2 rest1 hy2 => ?_
   refine t_N ?_
   refine t_RN ?_
   refine t_if (fun hc2 => ?_) fun hc2 => ?_
   ·refine t_RN ?_
    exact t_e fun he hS hH => he ▸ ⟨rfl, (eW hS hH (rT rN) E_i64_p)⟩
   refine t_RN ?_
   exact t_e fun he hS hH => he ▸ ⟨(af_ hS (by kernel_rfl)), hH⟩
  exact t_e fun he hS hH => he ▸ ⟨rfl, (af_ hS (by kernel_rfl)), hH⟩
 obtain ⟨s, σ⟩ := fr
 rcases y1 with y1 | y1
 ·have h := el_l h
  obtain ⟨rfl, hS, hH⟩ := HF
  refine t_bx h hS hH ?_
  refine t_RN ?_
  exact k_eW (rT rN) E_i64_p
 have h := el_r h
 obtain ⟨rfl, HE⟩ := HF
 obtain rfl := si_1 h; exact HE
noncomputable def c4_ (a0 : (Sl ac_)) (a1 : DPattern) (a2 : ByteArray) (a3 : Int) : Option Int := ((((d7_ a0).bind fun y6 => (if y6 = true then ((bU_ a1).bind fun y7 => (if y7 = true then ((cz_ a2).bind fun y8 => (some y8)) else (some false))) else (some false))) : Option Bool).bind fun y1 => ((cR_ y1 1).bind fun y2 => ((bj_ a3 0 20000).bind fun y3 => ((cR_ y3 3).bind fun y4 => ((eD_ (⟨false, [⟨y2⟩, ⟨y4⟩]⟩)).bind fun y5 => (some y5))))))
theorem ha_ (a0 : (Sl ac_)) (a1 : DPattern) (a2 : ByteArray) (a3 : Int) (r : Int) (h : c4_ a0 a1 a2 a3 = some r) : c9_ a0 a1 a2 a3 = some r := by
 unfold c4_ at h
 refine k_W ok_88 E_i64_inj h (fun σ0 => ?_)
 refine t_R ?_
 refine bX_ (fun b1 => ?_)
 refine t_N ?_
 refine e8_ 0 (fun y1 e fr => e = .normal ∧ Sub [(3, i4 a3), (9, .bool y1)] fr.s ∧ Heap σ0 fr.σ []) (fun y1 e fr h HF => ?_) fun y1 => ?_
 ·obtain ⟨s, σ⟩ := fr
  obtain ⟨rfl, hS, hH⟩ := HF
  refine t_bx h hS hH ?_
  refine t_RU 1 ?_
  refine ar_ fun y2 hy2 => ?_
  refine t_U 1 ?_
  refine ar_ fun y3 hy3 => ?_
  refine ar_ fun y4 hy4 => ?_
  refine k_bs (z := true) (⟨false, [⟨y2⟩, ⟨y4⟩]⟩ : Sl (Iv .i64)) (fun t1 ht1 => ?_)
  refine eI_ (fun y5 hy5 => ?_)
  refine t_N ?_
  exact k_eW (rT rN) E_i64_p
 refine t_RU 1 ?_
 refine ar_ fun y6 hy6 => ?_
 refine t_U 1 ?_
 refine aL_ 12 (fun hc1 => ?_) fun hc1 => ?_
 ·refine ag_ 0 ?_
  refine ar_ fun y7 hy7 => ?_
  refine t_U 2 ?_
  refine aL_ 16 (fun hc2 => ?_) fun hc2 => ?_
  ·refine t_U 1 ?_
   refine ar_ fun y8 hy8 => ?_
   refine t_N ?_
   exact t_e fun he hS hH => he ▸ ⟨rfl, (af_ hS (by kernel_rfl)), (Heap.sel hH [] rfl (by kernel_rfl))⟩
  refine t_N ?_
  exact t_e fun he hS hH => he ▸ ⟨rfl, (af_ hS (by kernel_rfl)), (Heap.sel hH [] rfl (by kernel_rfl))⟩
 refine t_N ?_
 exact t_e fun he hS hH => he ▸ ⟨rfl, (af_ hS (by kernel_rfl)), (Heap.sel hH [] rfl (by kernel_rfl))⟩
noncomputable def fe_ (a0 : Bool) (a1 : Int) : Option Int := (if a0 = true then (some 0) else (some a1))
theorem jr_ (a0 : Bool) (a1 : Int) (r : Int) (h : fe_ a0 a1 = some r) : cR_ a0 a1 = some r := by
 unfold fe_ at h
 refine k_W ok_89 E_i64_inj h (fun σ0 => ?_)
 refine t_RN ?_
 refine t_RN ?_
 refine t_if (fun hc1 => ?_) fun hc1 => ?_
 ·refine t_RN ?_
  exact k_eW (rT rN) E_i64_p
 refine t_RN ?_
 exact k_eW (rT rN) E_i64_p
noncomputable def fv_ (a0 : Int) (a1 : Int) (a2 : Int) : Option Bool := (if (decide (a1 ≤ a0)) = true then (some (decide (a0 ≤ a2))) else (some false))
theorem i3_ (a0 : Int) (a1 : Int) (a2 : Int) (r : Bool) (h : fv_ a0 a1 a2 = some r) : bj_ a0 a1 a2 = some r := by
 unfold fv_ at h
 refine k_W ok_90 E_bool_inj h (fun σ0 => ?_)
 refine t_RN ?_
 refine t_RU 4 ?_
 refine aL_ 10 (fun hc1 => ?_) fun hc1 => ?_
 ·refine t_N ?_
  exact k_eW (rT rN) E_bool_p
 refine t_N ?_
 exact k_eW (rT rN) E_bool_p
end Go.Am
