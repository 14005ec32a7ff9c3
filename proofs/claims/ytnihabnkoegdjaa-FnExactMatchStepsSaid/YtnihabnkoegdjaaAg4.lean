/- Functions of the program. -/
import Derived.Test.YtnihabnkoegdjaaAd0
import Derived.Test.YtnihabnkoegdjaaAg1
import Derived.Test.YtnihabnkoegdjaaAg3
set_option maxRecDepth 100000
set_option maxHeartbeats 4000000
set_option linter.unusedVariables false
set_option linter.unusedSimpArgs false
namespace Go.Am
open Go.Proofs
noncomputable def dY_ (a0 : ByteArray) (a1 : Bool) : Option (Sl (Iv .i64)) := ((aD_ (S := (Int × (Sl (Iv .i64)))) (R := (Sl (Iv .i64))) (fun st1 => (if (decide (st1.1 ≤ (a0.size : Int))) = true then (if (!a1) = true then ((appS 8 st1.2 (⟨false, [⟨st1.1⟩]⟩ : Sl (Iv .i64))).bind fun y2 => (some (.inl ((w4 (st1.1 + 1)), y2)))) else (some (.inr st1.2))) else (some (.inr st1.2)))) (1, (⟨false, [⟨0⟩]⟩ : Sl (Iv .i64)))).bind fun y1 => (some y1))
theorem hO_ (a0 : ByteArray) (a1 : Bool) (r : (Sl (Iv .i64))) (h : dY_ a0 a1 = some r) : dM_ a0 a1 = some r := by
 unfold dY_ at h
 refine k_O ok_76 h (fun σ0 => ?_)
 refine t_RN ?_
 refine t_R ?_
 refine k_bs (z := true) (⟨false, [⟨0⟩]⟩ : Sl (Iv .i64)) (fun t1 ht1 => ?_)
 refine t_N ?_
 refine t_RN ?_
 refine aZ_ (fun st1 fr => ∃ t3, ao_ t3 ∧ Sub [(0, .str a0), (1, .bool a1), (5, t3), (6, i4 st1.1)] fr.s ∧ Heap σ0 fr.σ [.own true 1 t3 st1.2.t]) (fun y1 e fr => ∃ t4, ao_ t4 ∧ e = (.exit 0) ∧ Sub [(5, t4)] fr.s ∧ Heap σ0 fr.σ [.own true 1 t4 y1.t]) (fun hS hH => ⟨t1, ht1, (af_ hS (by kernel_rfl)), hH⟩) (fun st1 x fr h HI => ?_) fun y1 e fr h HF => ?_
 ·obtain ⟨s, σ⟩ := fr; obtain ⟨t3, ht3, ⟨hS, hH⟩⟩ := HI
  refine t_bk h hS hH ?_
  refine t_RU 5 ?_
  refine aK_ 12 (fun hc1 => ?_) fun hc1 => ?_
  ·refine t_N ?_
   refine t_if (fun hc2 => ?_) fun hc2 => ?_
   ·refine t_RU 2 ?_
    refine k_bs (z := true) (⟨false, [⟨st1.1⟩]⟩ : Sl (Iv .i64)) (fun t5 ht5 => ?_)
    refine n4_ 1 0 (fun y2 t6 hy2 ht6 => ?_)
    refine t_N ?_
    refine t_RN ?_
    exact t_e fun he hS hH => he ▸ ⟨t6, ht6, (af_ hS (by kernel_rfl)), hH⟩
   exact t_e fun he hS hH => he ▸ ⟨t3, ht3, rfl, (af_ hS (by kernel_rfl)), hH⟩
  refine t_N ?_
  refine t_cF ff_ne ?_
  exact t_e fun he hS hH => he ▸ ⟨t3, ht3, rfl, (af_ hS (by kernel_rfl)), hH⟩
 obtain ⟨s, σ⟩ := fr
 obtain ⟨t4, ht4, ⟨rfl, hS, hH⟩⟩ := HF
 refine t_bx h hS hH ?_
 refine t_RN ?_
 exact k_eO [t4] (rT rN)
noncomputable def db_ (a0 : ah_) (a1 : Int) : Option Int := (if (decide ((w4 (a1 - (a0.Name.size : Int))) < 0)) = true then (some (-1)) else ((bc_ a0.Pattern (w4 (a1 - (a0.Name.size : Int)))).bind fun y1 => (if (decide (y1 < 0)) = true then (some (-1)) else (some y1))))
theorem fS_ (a0 : ah_) (a1 : Int) (r : Int) (h : db_ a0 a1 = some r) : bK_ a0 a1 = some r := by
 unfold db_ at h
 refine k_W ok_77 E_i64_inj h (fun σ0 => ?_)
 refine t_R ?_
 refine bQ_ (fun b1 => ?_)
 refine t_N ?_
 refine t_RU 2 ?_
 refine ae_ 0 ?_
 refine t_N ?_
 refine t_RN ?_
 refine t_if (fun hc1 => ?_) fun hc1 => ?_
 ·refine t_RN ?_
  exact k_eW (rT rN) E_i64_p
 refine t_RU 1 ?_
 refine ae_ 0 ?_
 refine t_U 1 ?_
 refine av_ fun y1 hy1 => ?_
 refine t_N ?_
 refine t_RN ?_
 refine t_if (fun hc2 => ?_) fun hc2 => ?_
 ·refine t_RN ?_
  exact k_eW (rT rN) E_i64_p
 refine t_RN ?_
 exact k_eW (rT rN) E_i64_p
noncomputable def eN_ (a0 : (Sl ah_)) (a1 : DPattern) (a2 : ByteArray) (a3 : Int) : Option Int := ((dF_ a0).bind fun y1 => (if (!y1) = true then (some 1) else ((bE_ a1).bind fun y2 => (if (!y2) = true then (some 1) else (if (decide (200 < (a2.size : Int))) = true then (some 1) else ((bP_ a3 0 20000).bind fun y3 => (if (!y3) = true then (some 3) else (some 0))))))))
theorem i4_ (a0 : (Sl ah_)) (a1 : DPattern) (a2 : ByteArray) (a3 : Int) (r : Int) (h : eN_ a0 a1 a2 a3 = some r) : e5_ a0 a1 a2 a3 = some r := by
 unfold eN_ at h
 refine k_W ok_78 E_i64_inj h (fun σ0 => ?_)
 refine t_R ?_
 refine bQ_ (fun b1 => ?_)
 refine t_N ?_
 refine t_RU 1 ?_
 refine av_ fun y1 hy1 => ?_
 refine t_U 2 ?_
 refine aK_ 12 (fun hc1 => ?_) fun hc1 => ?_
 ·refine t_N ?_
  refine t_cT rfl ?_
  refine t_RN ?_
  exact k_eW (rT rN) E_i64_p
 refine ae_ 0 ?_
 refine av_ fun y2 hy2 => ?_
 refine t_U 3 ?_
 refine aK_ 17 (fun hc2 => ?_) fun hc2 => ?_
 ·refine t_N ?_
  refine t_cT rfl ?_
  refine t_RN ?_
  exact k_eW (rT rN) E_i64_p
 refine t_N ?_
 refine t_if (fun hc3 => ?_) fun hc3 => ?_
 ·refine t_RN ?_
  exact k_eW (rT rN) E_i64_p
 refine t_RU 1 ?_
 refine av_ fun y3 hy3 => ?_
 refine t_N ?_
 refine t_if (fun hc4 => ?_) fun hc4 => ?_
 ·refine t_RN ?_
  exact k_eW (rT rN) E_i64_p
 refine t_RN ?_
 exact k_eW (rT rN) E_i64_p
noncomputable def en_ (a0 : ah_) : Option ah_ := ((a0_ a0.Pattern).bind fun y1 => (some (⟨a0.Name, y1⟩ : ah_)))
theorem h8_ (a0 : ah_) (r : ah_) (h : en_ a0 = some r) : eo_ a0 = some r := by
 unfold en_ at h
 refine k_O ok_80 h (fun σ0 => ?_)
 refine t_R ?_
 refine bQ_ (fun b1 => ?_)
 refine do_ fun b2 => ?_
 refine t_N ?_
 refine t_R ?_
 refine do_ fun b3 => ?_
 refine t_N ?_
 refine t_RU 1 ?_
 refine ae_ 2 ?_
 refine t_U 1 ?_
 refine aI_ 0 ?_
 refine t_N ?_
 refine t_RU 1 ?_
 refine ae_ 2 ?_
 refine ci_ (fun y1 t1 hy1 ht1 => ?_)
 refine t_U 1 ?_
 refine aI_ 1 ?_ (h1 := by simp [ht1.1, ht1.2])
 refine t_N ?_
 refine t_R ?_
 refine ae_ 0 ?_
 refine ck_ 2 ?_ (h1 := by simp [ht1.1, ht1.2])
 refine t_N ?_
 refine t_h Heap.up2 ?_
 exact k_eO [t1] (rC 1 rN)
noncomputable def el_ (a0 : ah_) (a1 : ah_) : Option Bool := (if (!decide (a0.Name = a1.Name)) = true then (some false) else ((bd_ a0.Pattern a1.Pattern).bind fun y1 => (if (!y1) = true then (some false) else (some true))))
theorem ic_ (a0 : ah_) (a1 : ah_) (r : Bool) (h : el_ a0 a1 = some r) : et_ a0 a1 = some r := by
 unfold el_ at h
 refine k_W ok_81 E_bool_inj h (fun σ0 => ?_)
 refine t_R ?_
 refine bQ_ (fun b1 => ?_)
 refine bQ_ (fun b2 => ?_)
 refine t_N ?_
 refine t_RU 1 ?_
 refine ae_ 1 ?_
 refine t_U 1 ?_
 refine ae_ 0 ?_
 refine t_N ?_
 refine t_if (fun hc1 => ?_) fun hc1 => ?_
 ·refine t_RN ?_
  exact k_eW (rT rN) E_bool_p
 refine t_RU 1 ?_
 refine ae_ 1 ?_
 refine t_U 1 ?_
 refine ae_ 0 ?_
 refine av_ fun y1 hy1 => ?_
 refine t_N ?_
 refine t_if (fun hc2 => ?_) fun hc2 => ?_
 ·refine t_RN ?_
  exact k_eW (rT rN) E_bool_p
 refine t_RN ?_
 exact k_eW (rT rN) E_bool_p
noncomputable def bj_ (a0 : DPattern) (a1 : Int) : Option Int := (if (decide (60 < (w4 (a1 + 1)))) = true then (some 61) else ((cT_ a0.Kind a0.Num a0.Text).bind fun y1 => (if (!y1) = true then (some 61) else ((e9_ a0.Kind).bind fun y2 => (if (!decide ((a0.Kids.l.length : Int) = y2)) = true then (some 61) else ((aD_ (S := (Int × Int)) (R := Int) (fun st1 => (if (decide (st1.2 < (a0.Kids.l.length : Int))) = true then ((elt a0.Kids st1.2).bind fun y4 => ((aA_ y4 st1.1).bind fun y5 => (if (decide (60 < y5)) = true then (some (.inr y5)) else (some (.inl (y5, (w4 (st1.2 + 1)))))))) else (some (.inr st1.1)))) ((w4 (a1 + 1)), 0)).bind fun y3 => (some y3)))))))
theorem d3_ (a0 : DPattern) (a1 : Int) (r : Int) (h : bj_ a0 a1 = some r) : aA_ a0 a1 = some r := by
 unfold bj_ at h
 refine k_W ok_92 E_i64_inj h (fun σ0 => ?_)
 refine t_R ?_
 refine bQ_ (fun b1 => ?_)
 refine t_N ?_
 refine t_RN ?_
 refine t_D fun mb => ?_
 refine t_U 3 ?_
 refine aK_ 11 (fun hc1 => ?_) fun hc1 => ?_
 ·refine t_N ?_
  refine t_cT rfl ?_
  refine t_RN ?_
  exact k_eW (rT rN) E_i64_p
 refine t_U 1 ?_
 refine ae_ 0 ?_
 refine t_U 1 ?_
 refine ae_ 0 ?_
 refine t_U 1 ?_
 refine ae_ 0 ?_
 refine av_ fun y1 hy1 => ?_
 refine t_U 3 ?_
 refine aK_ 21 (fun hc2 => ?_) fun hc2 => ?_
 ·refine t_N ?_
  refine t_cT rfl ?_
  refine t_RN ?_
  exact k_eW (rT rN) E_i64_p
 refine t_U 1 ?_
 refine ae_ 0 ?_
 refine t_U 2 ?_
 refine ae_ 0 ?_
 refine av_ fun y2 hy2 => ?_
 refine t_N ?_
 refine t_if (fun hc3 => ?_) fun hc3 => ?_
 ·refine t_RN ?_
  exact k_eW (rT rN) E_i64_p
 refine t_RU 1 ?_
 refine ae_ 0 ?_
 refine t_N ?_
 refine aZ_ (fun st1 fr => Sub [(1, i4 st1.1), (31, a0.Kids.t), (32, i4 (a0.Kids.l.length : Int)), (33, i4 st1.2)] fr.s ∧ Heap σ0 fr.σ []) (fun y3 e fr => e = (.exit 0) ∧ Sub [(1, i4 y3)] fr.s ∧ Heap σ0 fr.σ []) (fun hS hH => ⟨(af_ hS (by kernel_rfl)), (Heap.sel hH [] rfl (by kernel_rfl))⟩) (fun st1 x fr h HI => ?_) fun y3 e fr h HF => ?_
 ·obtain ⟨s, σ⟩ := fr; obtain ⟨hS, hH⟩ := HI
  refine t_bk h hS hH ?_
  refine t_RN ?_
  refine t_if (fun hc4 => ?_) fun hc4 => ?_
  ·refine t_R ?_
   refine bX_ fun y4 rest1 hy4 => ?_
   refine t_U 1 ?_
   refine do_ fun b2 => ?_
   refine ck_ 0 ?_
   refine t_N ?_
   refine t_R ?_
   refine ae_ 0 ?_
   refine t_U 1 ?_
   refine av_ fun y5 hy5 => ?_
   refine t_N ?_
   refine t_RN ?_
   refine t_if (fun hc5 => ?_) fun hc5 => ?_
   ·exact t_e fun he hS hH => he ▸ ⟨rfl, (af_ hS (by kernel_rfl)), (Heap.sel hH [] rfl (by kernel_rfl))⟩
   refine t_RN ?_
   exact t_e fun he hS hH => he ▸ ⟨(af_ hS (by kernel_rfl)), (Heap.sel hH [] rfl (by kernel_rfl))⟩
  exact t_e fun he hS hH => he ▸ ⟨rfl, (af_ hS (by kernel_rfl)), hH⟩
 obtain ⟨s, σ⟩ := fr
 obtain ⟨rfl, hS, hH⟩ := HF
 refine t_bx h hS hH ?_
 refine t_RN ?_
 exact k_eW (rT rN) E_i64_p
noncomputable def eS_ (a0 : Int) (a1 : Int) (a2 : Int) : Option Bool := (if (decide (a1 ≤ a0)) = true then (some (decide (a0 ≤ a2))) else (some false))
theorem iL_ (a0 : Int) (a1 : Int) (a2 : Int) (r : Bool) (h : eS_ a0 a1 a2 = some r) : bt_ a0 a1 a2 = some r := by
 unfold eS_ at h
 refine k_W ok_94 E_bool_inj h (fun σ0 => ?_)
 refine t_RN ?_
 refine t_RU 4 ?_
 refine aK_ 10 (fun hc1 => ?_) fun hc1 => ?_
 ·refine t_N ?_
  exact k_eW (rT rN) E_bool_p
 refine t_N ?_
 exact k_eW (rT rN) E_bool_p
noncomputable def d5_ (a0 : (Sl ah_)) : Option Bool := (if (decide (40 < (a0.l.length : Int))) = true then (some false) else ((cl_ a0 (T.fn 126 [] [])).bind fun y1 => (if (!y1) = true then (some false) else ((aD_ (S := Int) (R := (Unit ⊕ Bool)) (fun st1 => (if (decide (st1 < (a0.l.length : Int))) = true then ((elt a0 st1).bind fun y3 => ((subS a0 0 st1).bind fun y4 => ((ds_ y4 y3.Name).bind fun y5 => (if y5.2 = true then (some (.inr (.inr false))) else (some (.inl (w4 (st1 + 1)))))))) else (some (.inr (.inl ()))))) 0).bind fun y2 => (Sum.elim (fun y2 => (some true)) (fun y2 => (some y2)) y2)))))
theorem hF_ (a0 : (Sl ah_)) (r : Bool) (h : d5_ a0 = some r) : dO_ a0 = some r := by
 unfold d5_ at h
 refine k_W ok_95 E_bool_inj h (fun σ0 => ?_)
 refine t_RN ?_
 refine t_RU 4 ?_
 refine aK_ 10 (fun hc1 => ?_) fun hc1 => ?_
 ·refine t_N ?_
  refine t_cT rfl ?_
  refine t_RN ?_
  exact k_eW (rT rN) E_bool_p
 refine t_U 1 ?_
 refine av_ fun y1 hy1 => ?_
 refine t_N ?_
 refine t_if (fun hc2 => ?_) fun hc2 => ?_
 ·refine t_RN ?_
  exact k_eW (rT rN) E_bool_p
 refine t_RN ?_
 refine aZ_ (fun st1 fr => Sub [(0, a0.t), (15, a0.t), (16, i4 (a0.l.length : Int)), (17, i4 st1)] fr.s ∧ Heap σ0 fr.σ []) (fun y2 e fr => (Sum.elim (fun y => e = (.exit 0) ∧ Sub [] fr.s ∧ Heap σ0 fr.σ []) (fun y => e = .ret ∧ endW Try.prog (Try.f95.results.toList) σ0 (E_bool y) .ret fr)) y2) (fun hS hH => ⟨(af_ hS (by kernel_rfl)), hH⟩) (fun st1 x fr h HI => ?_) fun y2 e fr h HF => ?_
 ·obtain ⟨s, σ⟩ := fr; obtain ⟨hS, hH⟩ := HI
  refine t_bk h hS hH ?_
  refine t_RN ?_
  refine t_if (fun hc3 => ?_) fun hc3 => ?_
  ·refine t_RU 1 ?_
   refine bX_ fun y3 rest1 hy3 => ?_
   refine t_U 1 ?_
   refine do_ fun b1 => ?_
   refine t_U 1 ?_
   refine ck_ 0 ?_
   refine t_N ?_
   refine a5_ [(10, RN)] ext_x fun mb σs hn0 hlt hlto => ?_
   refine t_U 2 ?_
   refine rs_ fun y4 hy4 => ?_
   refine t_U 1 ?_
   refine ae_ 0 ?_ (hlt := by exact (Or.inl (by kernel_rfl)))
   refine av_ fun y5 hy5 => ?_
   refine t_U 3 ?_
   refine kW_ (by exact hn0) fun b2 hwr_b2 => ?_
   refine ck_ 0 ?_ (hwr := by exact fun _ => Or.inl hwr_b2)
   refine t_N ?_
   refine t_RN ?_
   refine t_if (fun hc4 => ?_) fun hc4 => ?_
   ·refine t_RN ?_
    exact t_e fun he hS hH => he ▸ ⟨rfl, (eW hS hH (rT rN) E_bool_p)⟩
   refine t_RN ?_
   exact t_e fun he hS hH => he ▸ ⟨(af_ hS (by kernel_rfl)), (Heap.sel hH [] rfl (by kernel_rfl))⟩
  exact t_e fun he hS hH => he ▸ ⟨rfl, (af_ hS (by kernel_rfl)), hH⟩
 obtain ⟨s, σ⟩ := fr
 rcases y2 with y2 | y2
 ·have h := el_l h
  obtain ⟨rfl, hS, hH⟩ := HF
  refine t_bx h hS hH ?_
  refine t_RN ?_
  exact k_eW (rT rN) E_bool_p
 have h := el_r h
 obtain ⟨rfl, HE⟩ := HF
 obtain rfl := si_1 h; exact HE
noncomputable def dp_ (a0 : ByteArray) (a1 : Bool) : Option (Sl (Iv .i64)) := ((aD_ (S := (Int × (Sl (Iv .i64)))) (R := (Sl (Iv .i64))) (fun st1 => (if (decide (st1.1 ≤ (a0.size : Int))) = true then (if (!a1) = true then ((appS 8 st1.2 (⟨false, [⟨st1.1⟩]⟩ : Sl (Iv .i64))).bind fun y2 => (some (.inl ((w4 (st1.1 + 1)), y2)))) else (some (.inr st1.2))) else (some (.inr st1.2)))) (1, (⟨false, [⟨0⟩]⟩ : Sl (Iv .i64)))).bind fun y1 => (some y1))
theorem gW_ (a0 : ByteArray) (a1 : Bool) (r : (Sl (Iv .i64))) (h : dp_ a0 a1 = some r) : dl_ a0 a1 = some r := by
 unfold dp_ at h
 refine k_O ok_97 h (fun σ0 => ?_)
 refine t_RN ?_
 refine t_R ?_
 refine k_bs (z := true) (⟨false, [⟨0⟩]⟩ : Sl (Iv .i64)) (fun t1 ht1 => ?_)
 refine t_N ?_
 refine t_RN ?_
 refine aZ_ (fun st1 fr => ∃ t3, ao_ t3 ∧ Sub [(0, .str a0), (1, .bool a1), (5, t3), (6, i4 st1.1)] fr.s ∧ Heap σ0 fr.σ [.own true 1 t3 st1.2.t]) (fun y1 e fr => ∃ t4, ao_ t4 ∧ e = (.exit 0) ∧ Sub [(5, t4)] fr.s ∧ Heap σ0 fr.σ [.own true 1 t4 y1.t]) (fun hS hH => ⟨t1, ht1, (af_ hS (by kernel_rfl)), hH⟩) (fun st1 x fr h HI => ?_) fun y1 e fr h HF => ?_
 ·obtain ⟨s, σ⟩ := fr; obtain ⟨t3, ht3, ⟨hS, hH⟩⟩ := HI
  refine t_bk h hS hH ?_
  refine t_RU 5 ?_
  refine aK_ 12 (fun hc1 => ?_) fun hc1 => ?_
  ·refine t_N ?_
   refine t_if (fun hc2 => ?_) fun hc2 => ?_
   ·refine t_RU 2 ?_
    refine k_bs (z := true) (⟨false, [⟨st1.1⟩]⟩ : Sl (Iv .i64)) (fun t5 ht5 => ?_)
    refine n4_ 1 0 (fun y2 t6 hy2 ht6 => ?_)
    refine t_N ?_
    refine t_RN ?_
    exact t_e fun he hS hH => he ▸ ⟨t6, ht6, (af_ hS (by kernel_rfl)), hH⟩
   exact t_e fun he hS hH => he ▸ ⟨t3, ht3, rfl, (af_ hS (by kernel_rfl)), hH⟩
  refine t_N ?_
  refine t_cF ff_ne ?_
  exact t_e fun he hS hH => he ▸ ⟨t3, ht3, rfl, (af_ hS (by kernel_rfl)), hH⟩
 obtain ⟨s, σ⟩ := fr
 obtain ⟨t4, ht4, ⟨rfl, hS, hH⟩⟩ := HF
 refine t_bx h hS hH ?_
 refine t_RN ?_
 exact k_eO [t4] (rT rN)
noncomputable def er_ (a0 : Int) : Option (Int × ByteArray) := (if (decide (a0 = 1)) = true then (some (0, ⟨#[115]⟩)) else ((fN_ a0).bind fun y1 => ((aD_ (S := (Int × ByteArray × Int)) (R := (Int × ByteArray)) (fun st1 => (if (decide (st1.2.2 < (y1.2.size : Int))) = true then ((aN_ y1.2 st1.2.2).bind fun y3 => (if (decide (y3 = 112)) = true then (some (.inl ((w4 (st1.1 + 1)), st1.2.1, (w4 (st1.2.2 + 1))))) else ((subB y1.2 st1.2.2 (w4 (st1.2.2 + 1))).bind fun y4 => ((catB st1.2.1 y4).bind fun y5 => (some (.inl (st1.1, y5, (w4 (st1.2.2 + 1))))))))) else (some (.inr (st1.1, st1.2.1))))) (0, ⟨#[]⟩, 0)).bind fun y2 => (some (y2.1, y2.2)))))
theorem fO_ (a0 : Int) (r : (Int × ByteArray)) (h : er_ a0 = some r) : c9_ a0 = some r := by
 unfold er_ at h
 refine k_W ok_102 E_t2_i64_str_inj h (fun σ0 => ?_)
 refine t_RN ?_
 refine t_RN ?_
 refine t_if (fun hc1 => ?_) fun hc1 => ?_
 ·refine t_RN ?_
  exact k_eW (rT (rT rN)) E_t2_i64_str_p
 refine t_RU 1 ?_
 refine av_ fun y1 hy1 => ?_
 refine t_N ?_
 refine t_RN ?_
 refine t_RN ?_
 refine t_RN ?_
 refine aZ_ (fun st1 fr => Sub [(5, .str y1.2), (6, i4 st1.1), (7, .str st1.2.1), (8, i4 st1.2.2)] fr.s ∧ Heap σ0 fr.σ []) (fun y2 e fr => e = (.exit 0) ∧ Sub [(6, i4 y2.1), (7, .str y2.2)] fr.s ∧ Heap σ0 fr.σ []) (fun hS hH => ⟨(af_ hS (by kernel_rfl)), hH⟩) (fun st1 x fr h HI => ?_) fun y2 e fr h HF => ?_
 ·obtain ⟨s, σ⟩ := fr; obtain ⟨hS, hH⟩ := HI
  refine t_bk h hS hH ?_
  refine t_RN ?_
  refine t_if (fun hc2 => ?_) fun hc2 => ?_
  ·refine t_RU 2 ?_
   refine dd_ fun y3 hy3 => ?_
   refine t_N ?_
   refine t_if (fun hc3 => ?_) fun hc3 => ?_
   ·refine t_RN ?_
    refine t_RN ?_
    exact t_e fun he hS hH => he ▸ ⟨(af_ hS (by kernel_rfl)), hH⟩
   refine t_RU 5 ?_
   refine hG_ fun y4 hy4 => ?_
   refine ta_ fun y5 hy5 => ?_
   refine t_N ?_
   refine t_RN ?_
   exact t_e fun he hS hH => he ▸ ⟨(af_ hS (by kernel_rfl)), hH⟩
  exact t_e fun he hS hH => he ▸ ⟨rfl, (af_ hS (by kernel_rfl)), hH⟩
 obtain ⟨s, σ⟩ := fr
 obtain ⟨rfl, hS, hH⟩ := HF
 refine t_bx h hS hH ?_
 refine t_RN ?_
 exact k_eW (rT (rT rN)) E_t2_i64_str_p
noncomputable def bR_ (a0 : DPattern) (a1 : Int) : Option Int := (if (decide (a1 < 1)) = true then (some (-1)) else ((ew_ a0).bind fun y1 => (if (!y1) = true then (some (-1)) else ((aD_ (S := (Int × Int)) (R := (Int ⊕ Int)) (fun st1 => (if (decide (st1.2 < (a0.Kids.l.length : Int))) = true then ((elt a0.Kids st1.2).bind fun y3 => ((aP_ y3 (w4 (a1 - st1.1))).bind fun y4 => (if (decide (y4 < 0)) = true then (some (.inr (.inr (-1)))) else (some (.inl ((w4 (st1.1 + y4)), (w4 (st1.2 + 1)))))))) else (some (.inr (.inl st1.1))))) (1, 0)).bind fun y2 => (Sum.elim (fun y2 => (some y2)) (fun y2 => (some y2)) y2)))))
theorem fn_ (a0 : DPattern) (a1 : Int) (r : Int) (h : bR_ a0 a1 = some r) : aP_ a0 a1 = some r := by
 unfold bR_ at h
 refine k_W ok_110 E_i64_inj h (fun σ0 => ?_)
 refine t_R ?_
 refine bQ_ (fun b1 => ?_)
 refine t_N ?_
 refine t_RU 3 ?_
 refine aK_ 10 (fun hc1 => ?_) fun hc1 => ?_
 ·refine t_N ?_
  refine t_cT rfl ?_
  refine t_RN ?_
  exact k_eW (rT rN) E_i64_p
 refine ae_ 0 ?_
 refine av_ fun y1 hy1 => ?_
 refine t_N ?_
 refine t_if (fun hc2 => ?_) fun hc2 => ?_
 ·refine t_RN ?_
  exact k_eW (rT rN) E_i64_p
 refine t_RN ?_
 refine t_RN ?_
 refine aZ_ (fun st1 fr => Sub [(1, i4 a1), (2, .ptr b1 0 0 4), (5, i4 st1.1), (6, i4 st1.2)] fr.s ∧ Heap σ0 fr.σ [.box b1 [i4 a0.Kind, i4 a0.Num, .str a0.Text, a0.Kids.t]]) (fun y2 e fr => (Sum.elim (fun y => e = (.exit 0) ∧ Sub [(5, i4 y)] fr.s ∧ Heap σ0 fr.σ []) (fun y => e = .ret ∧ endW Try.prog (Try.f110.results.toList) σ0 (E_i64 y) .ret fr)) y2) (fun hS hH => ⟨(af_ hS (by kernel_rfl)), hH⟩) (fun st1 x fr h HI => ?_) fun y2 e fr h HF => ?_
 ·obtain ⟨s, σ⟩ := fr; obtain ⟨hS, hH⟩ := HI
  refine t_bk h hS hH ?_
  refine t_RU 2 ?_
  refine ae_ 0 ?_
  refine t_N ?_
  refine t_if (fun hc3 => ?_) fun hc3 => ?_
  ·refine t_RU 1 ?_
   refine ae_ 0 ?_
   refine t_U 1 ?_
   refine bX_ fun y3 rest1 hy3 => ?_
   refine t_U 4 ?_
   refine av_ fun y4 hy4 => ?_
   refine t_N ?_
   refine t_RN ?_
   refine t_if (fun hc4 => ?_) fun hc4 => ?_
   ·refine t_RN ?_
    exact t_e fun he hS hH => he ▸ ⟨rfl, (eW hS hH (rT rN) E_i64_p)⟩
   refine t_RN ?_
   refine t_RN ?_
   exact t_e fun he hS hH => he ▸ ⟨(af_ hS (by kernel_rfl)), hH⟩
  exact t_e fun he hS hH => he ▸ ⟨rfl, (af_ hS (by kernel_rfl)), (Heap.sel hH [] rfl (by kernel_rfl))⟩
 obtain ⟨s, σ⟩ := fr
 rcases y2 with y2 | y2
 ·have h := el_l h
  obtain ⟨rfl, hS, hH⟩ := HF
  refine t_bx h hS hH ?_
  refine t_RN ?_
  exact k_eW (rT rN) E_i64_p
 have h := el_r h
 obtain ⟨rfl, HE⟩ := HF
 obtain rfl := si_1 h; exact HE
noncomputable def d0_ (a0 : (Sl ah_)) : Option Bool := (if (decide (40 < (a0.l.length : Int))) = true then (some false) else ((aD_ (S := Int) (R := (Unit ⊕ Bool)) (fun st1 => (if (decide (st1 < (a0.l.length : Int))) = true then ((elt a0 st1).bind fun y2 => ((dD_ y2.Name).bind fun y3 => (if (!y3) = true then (some (.inr (.inr false))) else ((elt a0 st1).bind fun y4 => ((bE_ y4.Pattern).bind fun y5 => (if (!y5) = true then (some (.inr (.inr false))) else ((aD_ (S := Int) (R := (Unit ⊕ Bool)) (fun st2 => (if (decide (st2 < st1)) = true then ((elt a0 st2).bind fun y7 => ((elt a0 st1).bind fun y8 => (if (decide (y7.Name = y8.Name)) = true then (some (.inr (.inr false))) else (some (.inl (w4 (st2 + 1))))))) else (some (.inr (.inl ()))))) 0).bind fun y6 => (Sum.elim (fun y6 => (some (.inl (w4 (st1 + 1))))) (fun y6 => (some (.inr (.inr y6)))) y6)))))))) else (some (.inr (.inl ()))))) 0).bind fun y1 => (Sum.elim (fun y1 => (some true)) (fun y1 => (some y1)) y1)))
theorem hU_ (a0 : (Sl ah_)) (r : Bool) (h : d0_ a0 = some r) : dF_ a0 = some r := by
 unfold d0_ at h
 refine k_W ok_115 E_bool_inj h (fun σ0 => ?_)
 refine t_RN ?_
 refine t_RN ?_
 refine t_if (fun hc1 => ?_) fun hc1 => ?_
 ·refine t_RN ?_
  exact k_eW (rT rN) E_bool_p
 refine t_RN ?_
 refine aZ_ (fun st1 fr => Sub [(0, a0.t), (3, i4 st1)] fr.s ∧ Heap σ0 fr.σ []) (fun y1 e fr => (Sum.elim (fun y => e = (.exit 0) ∧ Sub [] fr.s ∧ Heap σ0 fr.σ []) (fun y => e = .ret ∧ endW Try.prog (Try.f115.results.toList) σ0 (E_bool y) .ret fr)) y1) (fun hS hH => ⟨(af_ hS (by kernel_rfl)), hH⟩) (fun st1 x fr h HI => ?_) fun y1 e fr h HF => ?_
 ·obtain ⟨s, σ⟩ := fr; obtain ⟨hS, hH⟩ := HI
  refine t_bk h hS hH ?_
  refine t_RN ?_
  refine t_if (fun hc2 => ?_) fun hc2 => ?_
  ·refine t_RU 2 ?_
   refine bX_ fun y2 rest1 hy2 => ?_
   refine t_U 2 ?_
   refine av_ fun y3 hy3 => ?_
   refine t_U 2 ?_
   refine aK_ 21 (fun hc3 => ?_) fun hc3 => ?_
   ·refine t_N ?_
    refine t_cT rfl ?_
    refine t_RN ?_
    exact t_e fun he hS hH => he ▸ ⟨rfl, (eW hS hH (rT rN) E_bool_p)⟩
   refine t_U 2 ?_
   refine bX_ fun y4 rest2 hy4 => ?_
   refine t_U 2 ?_
   refine av_ fun y5 hy5 => ?_
   refine t_N ?_
   refine t_if (fun hc4 => ?_) fun hc4 => ?_
   ·refine t_RN ?_
    exact t_e fun he hS hH => he ▸ ⟨rfl, (eW hS hH (rT rN) E_bool_p)⟩
   refine t_RN ?_
   refine aZ_ (fun st2 fr => Sub [(0, a0.t), (3, i4 st1), (4, i4 st2)] fr.s ∧ Heap σ0 fr.σ []) (fun y6 e fr => (Sum.elim (fun y => e = (.exit 2) ∧ Sub [(0, a0.t), (3, i4 st1)] fr.s ∧ Heap σ0 fr.σ []) (fun y => e = .ret ∧ endW Try.prog (Try.f115.results.toList) σ0 (E_bool y) .ret fr)) y6) (fun hS hH => ⟨(af_ hS (by kernel_rfl)), hH⟩) (fun st2 x fr h HI => ?_) fun y6 e fr h HF => ?_
   ·obtain ⟨s, σ⟩ := fr; obtain ⟨hS, hH⟩ := HI
    refine t_bk h hS hH ?_
    refine t_RN ?_
    refine t_if (fun hc5 => ?_) fun hc5 => ?_
    ·refine t_D fun mb => ?_
     refine t_U 2 ?_
     refine bX_ fun y7 rest3 hy7 => ?_
     refine t_U 4 ?_
     refine bX_ fun y8 rest4 hy8 => ?_
     refine t_N ?_
     refine t_if (fun hc6 => ?_) fun hc6 => ?_
     ·refine t_RN ?_
      exact t_e fun he hS hH => he ▸ ⟨rfl, (eW hS hH (rT rN) E_bool_p)⟩
     refine t_RN ?_
     exact t_e fun he hS hH => he ▸ ⟨(af_ hS (by kernel_rfl)), hH⟩
    exact t_e fun he hS hH => he ▸ ⟨rfl, (af_ hS (by kernel_rfl)), hH⟩
   obtain ⟨s, σ⟩ := fr
   rcases y6 with y6 | y6
   ·have h := el_l h
    obtain ⟨rfl, hS, hH⟩ := HF
    refine t_bx h hS hH ?_
    refine t_RN ?_
    exact t_e fun he hS hH => he ▸ ⟨(af_ hS (by kernel_rfl)), hH⟩
   have h := el_r h
   obtain ⟨rfl, HE⟩ := HF
   obtain rfl := si_1 h; exact ⟨rfl, HE⟩
  exact t_e fun he hS hH => he ▸ ⟨rfl, (af_ hS (by kernel_rfl)), hH⟩
 obtain ⟨s, σ⟩ := fr
 rcases y1 with y1 | y1
 ·have h := el_l h
  obtain ⟨rfl, hS, hH⟩ := HF
  refine t_bx h hS hH ?_
  refine t_RN ?_
  exact k_eW (rT rN) E_bool_p
 have h := el_r h
 obtain ⟨rfl, HE⟩ := HF
 obtain rfl := si_1 h; exact HE
noncomputable def ct_ (a0 : DPattern) : Option Bool := ((aP_ a0 60).bind fun y1 => (some (decide (0 < y1))))
theorem fZ_ (a0 : DPattern) (r : Bool) (h : ct_ a0 = some r) : bE_ a0 = some r := by
 unfold ct_ at h
 refine k_W ok_116 E_bool_inj h (fun σ0 => ?_)
 refine t_R ?_
 refine bQ_ (fun b1 => ?_)
 refine t_N ?_
 refine t_R ?_
 refine ae_ 0 ?_
 refine av_ fun y1 hy1 => ?_
 refine t_N ?_
 exact k_eW (rT rN) E_bool_p
noncomputable def fe_ (a0 : Int) (a1 : Int) (a2 : Int) : Option Bool := (if (decide (a1 ≤ a0)) = true then (some (decide (a0 ≤ a2))) else (some false))
theorem jy_ (a0 : Int) (a1 : Int) (a2 : Int) (r : Bool) (h : fe_ a0 a1 a2 = some r) : bP_ a0 a1 a2 = some r := by
 unfold fe_ at h
 refine k_W ok_117 E_bool_inj h (fun σ0 => ?_)
 refine t_RN ?_
 refine t_RU 4 ?_
 refine aK_ 10 (fun hc1 => ?_) fun hc1 => ?_
 ·refine t_N ?_
  exact k_eW (rT rN) E_bool_p
 refine t_N ?_
 exact k_eW (rT rN) E_bool_p
noncomputable def c7_ (a0 : Int) (a1 : Int) (a2 : ByteArray) : Option Bool := (if (decide (a0 = 1)) = true then (if (decide (a1 = 0)) = true then ((ce_ a2).bind fun y1 => (some y1)) else (some false)) else ((eT_ a0).bind fun y2 => (if y2 = true then (if (decide (a1 = 0)) = true then (if (!decide (a2 = (⟨#[]⟩ : ByteArray))) = true then ((ce_ a2).bind fun y3 => (some y3)) else (some false)) else (some false)) else ((dj_ a0).bind fun y4 => (if y4 = true then (if (decide (a2 = (⟨#[]⟩ : ByteArray))) = true then ((bt_ a1 0 200).bind fun y5 => (some y5)) else (some false)) else ((es_ a0).bind fun y6 => (if y6 = true then (if (decide (a1 = 0)) = true then ((dx_ a2).bind fun y7 => (some y7)) else (some false)) else ((b9_ a0).bind fun y8 => (if y8 = true then (if (decide (a1 = 0)) = true then (some (decide (a2 = (⟨#[]⟩ : ByteArray)))) else (some false)) else (some false))))))))))
theorem gM_ (a0 : Int) (a1 : Int) (a2 : ByteArray) (r : Bool) (h : c7_ a0 a1 a2 = some r) : cT_ a0 a1 a2 = some r := by
 unfold c7_ at h
 refine k_W ok_123 E_bool_inj h (fun σ0 => ?_)
 refine t_RN ?_
 refine t_RN ?_
 refine t_if (fun hc1 => ?_) fun hc1 => ?_
 ·refine t_RU 3 ?_
  refine aK_ 12 (fun hc2 => ?_) fun hc2 => ?_
  ·refine t_U 1 ?_
   refine av_ fun y1 hy1 => ?_
   refine t_N ?_
   exact k_eW (rT rN) E_bool_p
  refine t_N ?_
  exact k_eW (rT rN) E_bool_p
 refine t_RU 1 ?_
 refine av_ fun y2 hy2 => ?_
 refine t_N ?_
 refine t_if (fun hc3 => ?_) fun hc3 => ?_
 ·refine t_RU 3 ?_
  refine aK_ 21 (fun hc4 => ?_) fun hc4 => ?_
  ·refine t_U 4 ?_
   refine aK_ 25 (fun hc5 => ?_) fun hc5 => ?_
   ·refine t_U 1 ?_
    refine av_ fun y3 hy3 => ?_
    refine t_N ?_
    exact k_eW (rT rN) E_bool_p
   refine t_N ?_
   exact k_eW (rT rN) E_bool_p
  refine t_N ?_
  exact k_eW (rT rN) E_bool_p
 refine t_RU 1 ?_
 refine av_ fun y4 hy4 => ?_
 refine t_N ?_
 refine t_if (fun hc6 => ?_) fun hc6 => ?_
 ·refine t_RU 3 ?_
  refine aK_ 34 (fun hc7 => ?_) fun hc7 => ?_
  ·refine t_U 1 ?_
   refine av_ fun y5 hy5 => ?_
   refine t_N ?_
   exact k_eW (rT rN) E_bool_p
  refine t_N ?_
  exact k_eW (rT rN) E_bool_p
 refine t_RU 1 ?_
 refine av_ fun y6 hy6 => ?_
 refine t_N ?_
 refine t_if (fun hc8 => ?_) fun hc8 => ?_
 ·refine t_RU 3 ?_
  refine aK_ 43 (fun hc9 => ?_) fun hc9 => ?_
  ·refine t_U 1 ?_
   refine av_ fun y7 hy7 => ?_
   refine t_N ?_
   exact k_eW (rT rN) E_bool_p
  refine t_N ?_
  exact k_eW (rT rN) E_bool_p
 refine t_RU 1 ?_
 refine av_ fun y8 hy8 => ?_
 refine t_U 1 ?_
 refine aK_ 49 (fun hc10 => ?_) fun hc10 => ?_
 ·refine t_U 4 ?_
  refine aK_ 53 (fun hc11 => ?_) fun hc11 => ?_
  ·refine t_N ?_
   exact k_eW (rT rN) E_bool_p
  refine t_N ?_
  exact k_eW (rT rN) E_bool_p
 refine t_N ?_
 exact k_eW (rT rN) E_bool_p
noncomputable def eP_ (a0 : Int) : Option Int := (((if (decide (a0 = 18)) = true then (some (decide (a0 = 18))) else (some (decide (a0 = 19)))) : Option Bool).bind fun y1 => (if y1 = true then (some 2) else (((if (decide (a0 = 20)) = true then (some (decide (a0 = 20))) else (if (decide (a0 = 21)) = true then (some (decide (a0 = 21))) else (some (decide (a0 = 22))))) : Option Bool).bind fun y2 => (if y2 = true then (some 1) else (some 0)))))
theorem iX_ (a0 : Int) (r : Int) (h : eP_ a0 = some r) : e9_ a0 = some r := by
 unfold eP_ at h
 refine k_W ok_124 E_i64_inj h (fun σ0 => ?_)
 refine t_RN ?_
 refine t_RN ?_
 refine t_RN ?_
 refine eK_ 0 (fun y1 e fr => e = .normal ∧ Sub [(3, i4 a0), (4, .bool y1)] fr.s ∧ Heap σ0 fr.σ []) (fun y1 e fr h HF => ?_) fun y1 => ?_
 ·obtain ⟨s, σ⟩ := fr
  obtain ⟨rfl, hS, hH⟩ := HF
  refine t_bx h hS hH ?_
  refine t_if (fun hc1 => ?_) fun hc1 => ?_
  ·refine t_RN ?_
   exact k_eW (rT rN) E_i64_p
  refine t_RN ?_
  refine eK_ 0 (fun y2 e fr => e = .normal ∧ Sub [(7, .bool y2)] fr.s ∧ Heap σ0 fr.σ []) (fun y2 e fr h HF => ?_) fun y2 => ?_
  ·obtain ⟨s, σ⟩ := fr
   obtain ⟨rfl, hS, hH⟩ := HF
   refine t_bx h hS hH ?_
   refine t_if (fun hc2 => ?_) fun hc2 => ?_
   ·refine t_RN ?_
    exact k_eW (rT rN) E_i64_p
   refine t_RN ?_
   exact k_eW (rT rN) E_i64_p
  refine t_if (fun hc3 => ?_) fun hc3 => ?_
  ·exact t_e fun he hS hH => he ▸ ⟨rfl, (af_ hS (by kernel_rfl)), hH⟩
  refine t_RN ?_
  refine t_if (fun hc4 => ?_) fun hc4 => ?_
  ·exact t_e fun he hS hH => he ▸ ⟨rfl, (af_ hS (by kernel_rfl)), hH⟩
  refine t_RN ?_
  exact t_e fun he hS hH => he ▸ ⟨rfl, (af_ hS (by kernel_rfl)), hH⟩
 refine t_if (fun hc5 => ?_) fun hc5 => ?_
 ·exact t_e fun he hS hH => he ▸ ⟨rfl, (af_ hS (by kernel_rfl)), hH⟩
 refine t_RN ?_
 exact t_e fun he hS hH => he ▸ ⟨rfl, (af_ hS (by kernel_rfl)), hH⟩
noncomputable def cw_ (a0 : (Sl ah_)) (a1 : T) : Option Bool := (if flat1 a1 = true then ((aD_ (S := Int) (R := (Unit ⊕ Bool)) (fun st1 => (if (decide (st1 < (a0.l.length : Int))) = true then ((elt a0 st1).bind fun y2 => ((iJ_ Try.prog md ext E_bool a1 [.agg (ah_.cells y2)]).bind fun y3 => (if (!y3) = true then (some (.inr (.inr false))) else (some (.inl (w4 (st1 + 1))))))) else (some (.inr (.inl ()))))) 0).bind fun y1 => (Sum.elim (fun y1 => (some true)) (fun y1 => (some y1)) y1)) else none)
theorem fV_ (a0 : (Sl ah_)) (a1 : T) (r : Bool) (h : cw_ a0 a1 = some r) : cl_ a0 a1 = some r := by
 unfold cw_ at h
 obtain ⟨hf_a1, h⟩ := ja_ h
 refine k_W ok_125 E_bool_inj h (fun σ0 => ?_) (hf := (all_cons (by kernel_rfl) (all_cons (lq_ hf_a1) all_nil)))
 refine t_RN ?_
 refine t_RN ?_
 refine aZ_ (fun st1 fr => Sub [(1, a1), (7, a0.t), (8, i4 (a0.l.length : Int)), (9, i4 st1)] fr.s ∧ Heap σ0 fr.σ []) (fun y1 e fr => (Sum.elim (fun y => e = (.exit 0) ∧ Sub [] fr.s ∧ Heap σ0 fr.σ []) (fun y => e = .ret ∧ endW Try.prog (Try.f125.results.toList) σ0 (E_bool y) .ret fr)) y1) (fun hS hH => ⟨(af_ hS (by kernel_rfl)), hH⟩) (fun st1 x fr h HI => ?_) fun y1 e fr h HF => ?_
 ·obtain ⟨s, σ⟩ := fr; obtain ⟨hS, hH⟩ := HI
  refine t_bk h hS hH ?_
  refine t_RN ?_
  refine t_if (fun hc1 => ?_) fun hc1 => ?_
  ·refine t_R ?_
   refine bX_ fun y2 rest1 hy2 => ?_
   refine t_U 1 ?_
   refine do_ fun b1 => ?_
   refine ck_ 0 ?_
   refine t_N ?_
   refine t_RU 1 ?_
   refine ae_ 0 ?_
   refine ms_ fun y3 hy3 => ?_
   refine t_N ?_
   refine t_if (fun hc2 => ?_) fun hc2 => ?_
   ·refine t_RN ?_
    exact t_e fun he hS hH => he ▸ ⟨rfl, (eW hS hH (rT rN) E_bool_p)⟩
   refine t_RN ?_
   exact t_e fun he hS hH => he ▸ ⟨(af_ hS (by kernel_rfl)), (Heap.sel hH [] rfl (by kernel_rfl))⟩
  exact t_e fun he hS hH => he ▸ ⟨rfl, (af_ hS (by kernel_rfl)), hH⟩
 obtain ⟨s, σ⟩ := fr
 rcases y1 with y1 | y1
 ·have h := el_l h
  obtain ⟨rfl, hS, hH⟩ := HF
  refine t_bx h hS hH ?_
  refine t_RN ?_
  exact k_eW (rT rN) E_bool_p
 have h := el_r h
 obtain ⟨rfl, HE⟩ := HF
 obtain rfl := si_1 h; exact HE
noncomputable def c1_ (a0 : ah_) : Option Bool := ((dx_ a0.Name).bind fun y1 => (if y1 = true then ((bD_ a0.Pattern).bind fun y2 => (some y2)) else (some false)))
theorem gL_ (a0 : ah_) (r : Bool) (h : c1_ a0 = some r) : c6_ a0 = some r := by
 unfold c1_ at h
 refine k_W ok_126 E_bool_inj h (fun σ0 => ?_)
 refine t_R ?_
 refine bQ_ (fun b1 => ?_)
 refine t_N ?_
 refine t_RU 1 ?_
 refine ae_ 0 ?_
 refine av_ fun y1 hy1 => ?_
 refine t_U 1 ?_
 refine aK_ 6 (fun hc1 => ?_) fun hc1 => ?_
 ·refine t_U 1 ?_
  refine ae_ 0 ?_
  refine av_ fun y2 hy2 => ?_
  refine t_N ?_
  exact k_eW (rT rN) E_bool_p
 refine t_N ?_
 exact k_eW (rT rN) E_bool_p
noncomputable def eQ_ (a0 : ByteArray) : Option Bool := (if (decide (1 ≤ (a0.size : Int))) = true then (if (decide ((a0.size : Int) ≤ 12)) = true then ((aN_ a0 0).bind fun y1 => ((cG_ y1).bind fun y2 => (if y2 = true then ((jF_ a0).bind fun y3 => ((ei_ y3 (T.fn 161 [] [])).bind fun y4 => (some y4))) else (some false)))) else (some false)) else (some false))
theorem i6_ (a0 : ByteArray) (r : Bool) (h : eQ_ a0 = some r) : dx_ a0 = some r := by
 unfold eQ_ at h
 refine k_W ok_127 E_bool_inj h (fun σ0 => ?_)
 refine t_RN ?_
 refine t_RU 4 ?_
 refine aK_ 6 (fun hc1 => ?_) fun hc1 => ?_
 ·refine t_U 5 ?_
  refine aK_ 11 (fun hc2 => ?_) fun hc2 => ?_
  ·refine t_U 1 ?_
   refine dd_ fun y1 hy1 => ?_
   refine av_ fun y2 hy2 => ?_
   refine t_U 2 ?_
   refine aK_ 16 (fun hc3 => ?_) fun hc3 => ?_
   ·refine t_U 1 ?_
    intro h s σ hS hH
    obtain ⟨y3, hy3, h⟩ := bind_some h
    refine tn_ (e := 5) rfl hS hH rfl (by kernel_rfl) (by kernel_rfl) (by kernel_rfl) hy3 ?_; intro t1 σ s ht1 hH hS
    refine t_bk h hS hH ?_
    refine gH_ (fun y4 hy4 => ?_) (hh := by exact HC.of (HL.own rfl (HL.leaf (fun σ d => lH_ (by first | assumption | rfl)) HL.nil)))
    refine t_N ?_
    exact k_eW (rT rN) E_bool_p
   refine t_N ?_
   exact k_eW (rT rN) E_bool_p
  refine t_N ?_
  exact k_eW (rT rN) E_bool_p
 refine t_N ?_
 exact k_eW (rT rN) E_bool_p
noncomputable def dE_ (a0 : (Sl ah_)) (a1 : ByteArray) : Option (DPattern × Bool) := ((((aD_ (S := Int) (R := (Unit ⊕ Int)) (fun st1 => (if (decide (st1 < (a0.l.length : Int))) = true then ((elt a0 st1).bind fun y3 => (if (decide (y3.Name = a1)) = true then (some (.inr (.inr st1))) else (some (.inl (w4 (st1 + 1)))))) else (some (.inr (.inl ()))))) 0).bind fun y2 => (Sum.elim (fun y2 => (some (-1))) (fun y2 => (some y2)) y2)) : Option Int).bind fun y1 => (if (decide (y1 < 0)) = true then (some ((⟨0, 0, ⟨#[]⟩, ⟨true, []⟩⟩ : DPattern), false)) else ((elt a0 y1).bind fun y4 => (some (y4.Pattern, true)))))
theorem gf_ (a0 : (Sl ah_)) (a1 : ByteArray) (r : (DPattern × Bool)) (h : dE_ a0 a1 = some r) : ds_ a0 a1 = some r := by
 unfold dE_ at h
 refine k_W ok_128 E_t2_DPattern_bool_inj h (fun σ0 => ?_)
 refine t_R ?_
 refine bQ_ (fun b1 => ?_)
 refine do_ fun b2 => ?_
 refine t_N ?_
 refine t_RU 2 ?_
 refine eB_ (fun y1 s σ => Sub [(0, a0.t), (4, .ptr b2 0 0 4), (9, i4 y1)] s ∧ Heap σ0 σ [.box b2 [i4 0, i4 0, .str ⟨#[]⟩, (nt DPattern)]]) ok_140 (fun y1 => ?_) fun y1 s σ HF h => ?_
 ·refine t_RN ?_
  refine t_RN ?_
  refine aZ_ (fun st1 fr => Sub [(0, a0.t), (1, T.fn 162 [] [.ptr b1 0 0 1]), (7, i4 (a0.l.length : Int)), (8, i4 st1)] fr.s ∧ Heap σ0 fr.σ [.box b2 [i4 0, i4 0, .str ⟨#[]⟩, (nt DPattern)], .box b1 [.str a1]]) (fun y2 e fr => (Sum.elim (fun y => e = (.exit 0) ∧ Sub [] fr.s ∧ Heap σ0 fr.σ [.box b2 [i4 0, i4 0, .str ⟨#[]⟩, (nt DPattern)]]) (fun y => e = .ret ∧ Sub [(4, i4 y)] fr.s ∧ Heap σ0 fr.σ [.box b2 [i4 0, i4 0, .str ⟨#[]⟩, (nt DPattern)]])) y2) (fun hS hH => ⟨(af_ hS (by kernel_rfl)), hH⟩) (fun st1 x fr h HI => ?_) fun y2 e fr h HF => ?_
  ·obtain ⟨s, σ⟩ := fr; obtain ⟨hS, hH⟩ := HI
   refine t_bk h hS hH ?_
   refine t_RN ?_
   refine t_if (fun hc1 => ?_) fun hc1 => ?_
   ·refine t_RN ?_
    refine t_RU 3 ?_
    refine bX_ fun y3 rest1 hy3 => ?_
    refine t_U 1 ?_
    refine ea_ ok_162 ?_
    refine t_R ?_
    refine bQ_ (fun b3 => ?_)
    refine t_N ?_
    refine t_RU 1 ?_
    refine ae_ 0 ?_
    refine ae_ 2 ?_
    refine t_N ?_
    refine k_eI (rT rN) ?_
    refine t_N ?_
    refine t_if (fun hc2 => ?_) fun hc2 => ?_
    ·refine t_RN ?_
     exact t_e fun he hS hH => he ▸ ⟨rfl, (af_ hS (by kernel_rfl)), (Heap.sel hH [1] rfl (by kernel_rfl))⟩
    refine t_RN ?_
    exact t_e fun he hS hH => he ▸ ⟨(af_ hS (by kernel_rfl)), (Heap.sel hH [1, 2] rfl (by kernel_rfl))⟩
   exact t_e fun he hS hH => he ▸ ⟨rfl, (af_ hS (by kernel_rfl)), (Heap.sel hH [0] rfl (by kernel_rfl))⟩
  obtain ⟨s, σ⟩ := fr
  rcases y2 with y2 | y2
  ·have h := el_l h
   obtain ⟨rfl, hS, hH⟩ := HF
   refine t_bx h hS hH ?_
   refine t_RN ?_
   exact bO_ (rT rN) fun he hS hH => he ▸ ⟨(af_ hS (by kernel_rfl)), hH⟩
  have h := el_r h
  obtain ⟨rfl, hS, hH⟩ := HF
  refine t_bx h hS hH ?_
  exact bO_ (rT rN) fun he hS hH => he ▸ ⟨(af_ hS (by kernel_rfl)), hH⟩
 obtain ⟨hS, hH⟩ := HF
 refine t_bk h hS hH ?_
 refine t_N ?_
 refine t_RN ?_
 refine t_if (fun hc3 => ?_) fun hc3 => ?_
 ·refine t_RU 1 ?_
  refine ck_ 0 ?_
  refine t_N ?_
  exact k_eW (rC 0 (rT rN)) E_t2_DPattern_bool_p
 refine t_RU 2 ?_
 refine bX_ fun y4 rest2 hy4 => ?_
 refine t_U 2 ?_
 refine ck_ 0 ?_
 refine t_N ?_
 exact k_eW (rC 0 (rT rN)) E_t2_DPattern_bool_p
noncomputable def cv_ (a0 : ByteArray) (a1 : ByteArray) : Option Bool := ((a4_ a0 a1).bind fun y1 => (some y1))
theorem fU_ (a0 : ByteArray) (a1 : ByteArray) (r : Bool) (h : cv_ a0 a1 = some r) : cp_ a0 a1 = some r := by
 unfold cv_ at h
 refine k_W ok_130 E_bool_inj h (fun σ0 => ?_)
 refine t_RN ?_
 refine t_RU 2 ?_
 refine av_ fun y1 hy1 => ?_
 refine t_N ?_
 exact k_eW (rT rN) E_bool_p
noncomputable def em_ (a0 : Int) : Option (ByteArray × ByteArray) := (if (decide (a0 = 2)) = true then (some (⟨#[97, 110, 121]⟩, ⟨#[115]⟩)) else (if (decide (a0 = 3)) = true then (some (⟨#[110, 111, 116, 97, 110, 121]⟩, ⟨#[115]⟩)) else (if (decide (a0 = 4)) = true then (some (⟨#[115, 112, 97, 110]⟩, ⟨#[115]⟩)) else (if (decide (a0 = 5)) = true then (some (⟨#[98, 114, 101, 97, 107]⟩, ⟨#[115]⟩)) else (if (decide (a0 = 6)) = true then (some (⟨#[108, 101, 110]⟩, ⟨#[110]⟩)) else (if (decide (a0 = 7)) = true then (some (⟨#[112, 111, 115]⟩, ⟨#[110]⟩)) else (if (decide (a0 = 8)) = true then (some (⟨#[114, 112, 111, 115]⟩, ⟨#[110]⟩)) else (if (decide (a0 = 9)) = true then (some (⟨#[116, 97, 98]⟩, ⟨#[110]⟩)) else (if (decide (a0 = 10)) = true then (some (⟨#[114, 116, 97, 98]⟩, ⟨#[110]⟩)) else (if (decide (a0 = 11)) = true then (some (⟨#[114, 101, 109]⟩, ⟨#[]⟩)) else (if (decide (a0 = 12)) = true then (some (⟨#[97, 114, 98]⟩, ⟨#[]⟩)) else (if (decide (a0 = 13)) = true then (some (⟨#[98, 97, 108]⟩, ⟨#[]⟩)) else (if (decide (a0 = 14)) = true then (some (⟨#[102, 101, 110, 99, 101]⟩, ⟨#[]⟩)) else (if (decide (a0 = 15)) = true then (some (⟨#[97, 98, 111, 114, 116]⟩, ⟨#[]⟩)) else (if (decide (a0 = 16)) = true then (some (⟨#[102, 97, 105, 108]⟩, ⟨#[]⟩)) else (if (decide (a0 = 17)) = true then (some (⟨#[115, 117, 99, 99, 101, 101, 100]⟩, ⟨#[]⟩)) else (if (decide (a0 = 18)) = true then (some (⟨#[97, 108, 116]⟩, ⟨#[112, 112]⟩)) else (if (decide (a0 = 19)) = true then (some (⟨#[99, 97, 116]⟩, ⟨#[112, 112]⟩)) else (if (decide (a0 = 20)) = true then (some (⟨#[97, 114, 98, 110, 111]⟩, ⟨#[112]⟩)) else (if (decide (a0 = 21)) = true then (some (⟨#[99, 111, 110, 100]⟩, ⟨#[112, 120]⟩)) else (if (decide (a0 = 22)) = true then (some (⟨#[110, 111, 119]⟩, ⟨#[112, 120]⟩)) else (if (decide (a0 = 23)) = true then (some (⟨#[99, 117, 114, 115, 111, 114]⟩, ⟨#[120]⟩)) else (if (decide (a0 = 24)) = true then (some (⟨#[100, 101, 102, 101, 114]⟩, ⟨#[120]⟩)) else (some (⟨#[]⟩, ⟨#[]⟩)))))))))))))))))))))))))
theorem h7_ (a0 : Int) (r : (ByteArray × ByteArray)) (h : em_ a0 = some r) : fN_ a0 = some r := by
 unfold em_ at h
 refine k_W ok_133 E_t2_str_str_inj h (fun σ0 => ?_)
 refine t_RN ?_
 refine t_RN ?_
 refine t_RN ?_
 refine t_if (fun hc1 => ?_) fun hc1 => ?_
 ·refine t_RN ?_
  exact k_eW (rT (rT rN)) E_t2_str_str_p
 refine t_RN ?_
 refine t_if (fun hc2 => ?_) fun hc2 => ?_
 ·refine t_RN ?_
  exact k_eW (rT (rT rN)) E_t2_str_str_p
 refine t_RN ?_
 refine t_if (fun hc3 => ?_) fun hc3 => ?_
 ·refine t_RN ?_
  exact k_eW (rT (rT rN)) E_t2_str_str_p
 refine t_RN ?_
 refine t_if (fun hc4 => ?_) fun hc4 => ?_
 ·refine t_RN ?_
  exact k_eW (rT (rT rN)) E_t2_str_str_p
 refine t_RN ?_
 refine t_if (fun hc5 => ?_) fun hc5 => ?_
 ·refine t_RN ?_
  exact k_eW (rT (rT rN)) E_t2_str_str_p
 refine t_RN ?_
 refine t_if (fun hc6 => ?_) fun hc6 => ?_
 ·refine t_RN ?_
  exact k_eW (rT (rT rN)) E_t2_str_str_p
 refine t_RN ?_
 refine t_if (fun hc7 => ?_) fun hc7 => ?_
 ·refine t_RN ?_
  exact k_eW (rT (rT rN)) E_t2_str_str_p
 refine t_RN ?_
 refine t_if (fun hc8 => ?_) fun hc8 => ?_
 ·refine t_RN ?_
  exact k_eW (rT (rT rN)) E_t2_str_str_p
 refine t_RN ?_
 refine t_if (fun hc9 => ?_) fun hc9 => ?_
 ·refine t_RN ?_
  exact k_eW (rT (rT rN)) E_t2_str_str_p
 refine t_RN ?_
 refine t_if (fun hc10 => ?_) fun hc10 => ?_
 ·refine t_RN ?_
  exact k_eW (rT (rT rN)) E_t2_str_str_p
 refine t_RN ?_
 refine t_if (fun hc11 => ?_) fun hc11 => ?_
 ·refine t_RN ?_
  exact k_eW (rT (rT rN)) E_t2_str_str_p
 refine t_RN ?_
 refine t_if (fun hc12 => ?_) fun hc12 => ?_
 ·refine t_RN ?_
  exact k_eW (rT (rT rN)) E_t2_str_str_p
 refine t_RN ?_
 refine t_if (fun hc13 => ?_) fun hc13 => ?_
 ·refine t_RN ?_
  exact k_eW (rT (rT rN)) E_t2_str_str_p
 refine t_RN ?_
 refine t_if (fun hc14 => ?_) fun hc14 => ?_
 ·refine t_RN ?_
  exact k_eW (rT (rT rN)) E_t2_str_str_p
 refine t_RN ?_
 refine t_if (fun hc15 => ?_) fun hc15 => ?_
 ·refine t_RN ?_
  exact k_eW (rT (rT rN)) E_t2_str_str_p
 refine t_RN ?_
 refine t_if (fun hc16 => ?_) fun hc16 => ?_
 ·refine t_RN ?_
  exact k_eW (rT (rT rN)) E_t2_str_str_p
 refine t_RN ?_
 refine t_if (fun hc17 => ?_) fun hc17 => ?_
 ·refine t_RN ?_
  exact k_eW (rT (rT rN)) E_t2_str_str_p
 refine t_RN ?_
 refine t_if (fun hc18 => ?_) fun hc18 => ?_
 ·refine t_RN ?_
  exact k_eW (rT (rT rN)) E_t2_str_str_p
 refine t_RN ?_
 refine t_if (fun hc19 => ?_) fun hc19 => ?_
 ·refine t_RN ?_
  exact k_eW (rT (rT rN)) E_t2_str_str_p
 refine t_RN ?_
 refine t_if (fun hc20 => ?_) fun hc20 => ?_
 ·refine t_RN ?_
  exact k_eW (rT (rT rN)) E_t2_str_str_p
 refine t_RN ?_
 refine t_if (fun hc21 => ?_) fun hc21 => ?_
 ·refine t_RN ?_
  exact k_eW (rT (rT rN)) E_t2_str_str_p
 refine t_RN ?_
 refine t_if (fun hc22 => ?_) fun hc22 => ?_
 ·refine t_RN ?_
  exact k_eW (rT (rT rN)) E_t2_str_str_p
 refine t_RN ?_
 refine t_if (fun hc23 => ?_) fun hc23 => ?_
 ·refine t_RN ?_
  exact k_eW (rT (rT rN)) E_t2_str_str_p
 refine t_RN ?_
 exact k_eW (rT (rT rN)) E_t2_str_str_p
noncomputable def eq_ (a0 : DPattern) : Option Bool := ((bP_ a0.Kind 1 24).bind fun y1 => (if (!y1) = true then (some false) else ((c9_ a0.Kind).bind fun y2 => (if (!decide ((a0.Kids.l.length : Int) = y2.1)) = true then (some false) else (if (decide (y2.2 = (⟨#[115]⟩ : ByteArray))) = true then (if (decide (a0.Num = 0)) = true then (if (decide ((a0.Text.size : Int) ≤ 200)) = true then (if (decide (a0.Kind = 1)) = true then (some true) else (some (!decide (a0.Text = (⟨#[]⟩ : ByteArray))))) else (some false)) else (some false)) else (if (decide (y2.2 = (⟨#[110]⟩ : ByteArray))) = true then (if (decide (a0.Text = (⟨#[]⟩ : ByteArray))) = true then ((bP_ a0.Num 0 200).bind fun y3 => (some y3)) else (some false)) else (if (decide (y2.2 = (⟨#[120]⟩ : ByteArray))) = true then (if (decide (a0.Num = 0)) = true then ((dD_ a0.Text).bind fun y4 => (some y4)) else (some false)) else (if (decide (a0.Num = 0)) = true then (some (decide (a0.Text = (⟨#[]⟩ : ByteArray)))) else (some false)))))))))
theorem id_ (a0 : DPattern) (r : Bool) (h : eq_ a0 = some r) : ew_ a0 = some r := by
 unfold eq_ at h
 refine k_W ok_136 E_bool_inj h (fun σ0 => ?_)
 refine t_R ?_
 refine bQ_ (fun b1 => ?_)
 refine t_N ?_
 refine t_RU 1 ?_
 refine ae_ 0 ?_
 refine av_ fun y1 hy1 => ?_
 refine t_N ?_
 refine t_if (fun hc1 => ?_) fun hc1 => ?_
 ·refine t_RN ?_
  exact k_eW (rT rN) E_bool_p
 refine t_RU 1 ?_
 refine ae_ 0 ?_
 refine av_ fun y2 hy2 => ?_
 refine t_N ?_
 refine t_RU 1 ?_
 refine ae_ 0 ?_
 refine t_N ?_
 refine t_if (fun hc2 => ?_) fun hc2 => ?_
 ·refine t_RN ?_
  exact k_eW (rT rN) E_bool_p
 refine t_RN ?_
 refine t_RN ?_
 refine t_if (fun hc3 => ?_) fun hc3 => ?_
 ·refine t_RU 1 ?_
  refine ae_ 0 ?_
  refine t_U 2 ?_
  refine aK_ 26 (fun hc4 => ?_) fun hc4 => ?_
  ·refine t_U 1 ?_
   refine ae_ 0 ?_
   refine t_U 4 ?_
   refine aK_ 32 (fun hc5 => ?_) fun hc5 => ?_
   ·refine t_U 1 ?_
    refine ae_ 0 ?_
    refine t_U 2 ?_
    refine aK_ 36 (fun hc6 => ?_) fun hc6 => ?_
    ·refine t_N ?_
     exact k_eW (rT rN) E_bool_p
    refine t_U 1 ?_
    refine ae_ 0 ?_
    refine t_N ?_
    exact k_eW (rT rN) E_bool_p
   refine t_N ?_
   exact k_eW (rT rN) E_bool_p
  refine t_N ?_
  exact k_eW (rT rN) E_bool_p
 refine t_RN ?_
 refine t_if (fun hc7 => ?_) fun hc7 => ?_
 ·refine t_RU 1 ?_
  refine ae_ 0 ?_
  refine t_U 2 ?_
  refine aK_ 47 (fun hc8 => ?_) fun hc8 => ?_
  ·refine t_U 1 ?_
   refine ae_ 0 ?_
   refine av_ fun y3 hy3 => ?_
   refine t_N ?_
   exact k_eW (rT rN) E_bool_p
  refine t_N ?_
  exact k_eW (rT rN) E_bool_p
 refine t_RN ?_
 refine t_if (fun hc9 => ?_) fun hc9 => ?_
 ·refine t_RU 1 ?_
  refine ae_ 0 ?_
  refine t_U 2 ?_
  refine aK_ 57 (fun hc10 => ?_) fun hc10 => ?_
  ·refine t_U 1 ?_
   refine ae_ 0 ?_
   refine av_ fun y4 hy4 => ?_
   refine t_N ?_
   exact k_eW (rT rN) E_bool_p
  refine t_N ?_
  exact k_eW (rT rN) E_bool_p
 refine t_RU 1 ?_
 refine ae_ 0 ?_
 refine t_U 2 ?_
 refine aK_ 65 (fun hc11 => ?_) fun hc11 => ?_
 ·refine t_U 1 ?_
  refine ae_ 0 ?_
  refine t_N ?_
  exact k_eW (rT rN) E_bool_p
 refine t_N ?_
 exact k_eW (rT rN) E_bool_p
noncomputable def dS_ (a0 : ByteArray) (a1 : Int) (a2 : Int) : Option Int := ((aD_ (S := (Int × Int)) (R := (Unit ⊕ Int)) (fun st1 => (if (decide (st1.2 < (a0.size : Int))) = true then ((aN_ a0 st1.2).bind fun y2 => (((if (decide (y2 = 40)) = true then (some (w4 (st1.1 + 1))) else (if (decide (y2 = 41)) = true then (some (w4 (st1.1 - 1))) else (some st1.1))) : Option Int).bind fun y3 => (if (decide (y3 < 0)) = true then (some (.inr (.inr (-1)))) else (if (decide (y3 = 0)) = true then (if (decide (a2 < (w4 (st1.2 + 1)))) = true then (some (.inr (.inr (w4 (st1.2 + 1))))) else (some (.inl (y3, (w4 (st1.2 + 1)))))) else (some (.inl (y3, (w4 (st1.2 + 1))))))))) else (some (.inr (.inl ()))))) (0, a1)).bind fun y1 => (Sum.elim (fun y1 => (some (-1))) (fun y1 => (some y1)) y1))
theorem hq_ (a0 : ByteArray) (a1 : Int) (a2 : Int) (r : Int) (h : dS_ a0 a1 a2 = some r) : bi_ a0 a1 a2 = some r := by
 unfold dS_ at h
 refine k_W ok_138 E_i64_inj h (fun σ0 => ?_)
 refine t_RN ?_
 refine t_RN ?_
 refine t_RN ?_
 refine aZ_ (fun st1 fr => Sub [(0, .str a0), (2, i4 a2), (7, i4 st1.1), (8, i4 st1.2)] fr.s ∧ Heap σ0 fr.σ []) (fun y1 e fr => (Sum.elim (fun y => e = (.exit 0) ∧ Sub [] fr.s ∧ Heap σ0 fr.σ []) (fun y => e = .ret ∧ endW Try.prog (Try.f138.results.toList) σ0 (E_i64 y) .ret fr)) y1) (fun hS hH => ⟨(af_ hS (by kernel_rfl)), hH⟩) (fun st1 x fr h HI => ?_) fun y1 e fr h HF => ?_
 ·obtain ⟨s, σ⟩ := fr; obtain ⟨hS, hH⟩ := HI
  refine t_bk h hS hH ?_
  refine t_RN ?_
  refine t_if (fun hc1 => ?_) fun hc1 => ?_
  ·refine t_RU 2 ?_
   refine dd_ fun y2 hy2 => ?_
   refine t_N ?_
   refine eK_ 2 (fun y3 e fr => e = .normal ∧ Sub [(0, .str a0), (2, i4 a2), (7, i4 y3), (8, i4 st1.2)] fr.s ∧ Heap σ0 fr.σ []) (fun y3 e fr h HF => ?_) fun y3 => ?_
   ·obtain ⟨s, σ⟩ := fr
    obtain ⟨rfl, hS, hH⟩ := HF
    refine t_bx h hS hH ?_
    refine t_RN ?_
    refine t_if (fun hc2 => ?_) fun hc2 => ?_
    ·refine t_RN ?_
     exact t_e fun he hS hH => he ▸ ⟨rfl, (eW hS hH (rT rN) E_i64_p)⟩
    refine t_RU 3 ?_
    refine aK_ 31 (fun hc3 => ?_) fun hc3 => ?_
    ·refine t_N ?_
     refine t_if (fun hc4 => ?_) fun hc4 => ?_
     ·refine t_RN ?_
      exact t_e fun he hS hH => he ▸ ⟨rfl, (eW hS hH (rT rN) E_i64_p)⟩
     refine t_RN ?_
     exact t_e fun he hS hH => he ▸ ⟨(af_ hS (by kernel_rfl)), hH⟩
    refine t_N ?_
    refine t_cF ff_ne ?_
    refine t_RN ?_
    exact t_e fun he hS hH => he ▸ ⟨(af_ hS (by kernel_rfl)), hH⟩
   refine t_RN ?_
   refine t_if (fun hc5 => ?_) fun hc5 => ?_
   ·refine t_RN ?_
    exact t_e fun he hS hH => he ▸ ⟨rfl, (af_ hS (by kernel_rfl)), hH⟩
   refine t_RN ?_
   refine t_if (fun hc6 => ?_) fun hc6 => ?_
   ·refine t_RN ?_
    exact t_e fun he hS hH => he ▸ ⟨rfl, (af_ hS (by kernel_rfl)), hH⟩
   exact t_e fun he hS hH => he ▸ ⟨rfl, (af_ hS (by kernel_rfl)), hH⟩
  exact t_e fun he hS hH => he ▸ ⟨rfl, (af_ hS (by kernel_rfl)), hH⟩
 obtain ⟨s, σ⟩ := fr
 rcases y1 with y1 | y1
 ·have h := el_l h
  obtain ⟨rfl, hS, hH⟩ := HF
  refine t_bx h hS hH ?_
  refine t_RN ?_
  exact k_eW (rT rN) E_i64_p
 have h := el_r h
 obtain ⟨rfl, HE⟩ := HF
 obtain rfl := si_1 h; exact HE

noncomputable def du_ (a0 : Int) (a1 : Int) (a2 : ByteArray) (a3 : ByteArray) (a4 : Int) : Option Int := (((((if (decide (a0 = 1)) = true then ((subB a3 a4 (a3.size : Int)).bind fun y3 => ((cp_ y3 a2).bind fun y4 => (if y4 = true then (some (.inr (w4 (a4 + (a2.size : Int))))) else (some (.inl ()))))) else (((if (decide (a0 = 2)) = true then (some (decide (a0 = 2))) else (some (decide (a0 = 3)))) : Option Bool).bind fun y5 => (if y5 = true then (if (decide (a4 < (a3.size : Int))) = true then ((aN_ a3 a4).bind fun y6 => ((a8_ y6 a2).bind fun y7 => (if (y7 == (decide (a0 = 2))) = true then (some (.inr (w4 (a4 + 1)))) else (some (.inl ()))))) else (some (.inl ()))) else (if (decide (a0 = 4)) = true then ((aD_ (S := Int) (R := Int) (fun st1 => (if (decide (st1 < (a3.size : Int))) = true then ((aN_ a3 st1).bind fun y9 => ((a8_ y9 a2).bind fun y10 => (if y10 = true then (some (.inl (w4 (st1 + 1)))) else (some (.inr st1))))) else (some (.inr st1)))) a4).bind fun y8 => (if (decide (0 < (w4 (y8 - a4)))) = true then (some (.inr (w4 (a4 + (w4 (y8 - a4)))))) else (some (.inl ())))) else (if (decide (a0 = 5)) = true then ((aD_ (S := Int) (R := Int) (fun st2 => (if (decide (st2 < (a3.size : Int))) = true then ((aN_ a3 st2).bind fun y12 => ((a8_ y12 a2).bind fun y13 => (if (!y13) = true then (some (.inl (w4 (st2 + 1)))) else (some (.inr st2))))) else (some (.inr st2)))) a4).bind fun y11 => (if ((decide ((w4 (a4 + (w4 (y11 - a4)))) < (a3.size : Int)))) = true then (some (.inr (w4 (a4 + (w4 (y11 - a4)))))) else (some (.inl ())))) else (if (decide (a0 = 6)) = true then (if ((decide ((w4 (a4 + a1)) ≤ (a3.size : Int)))) = true then (some (.inr (w4 (a4 + a1)))) else (some (.inl ()))) else (((if (decide (a0 = 7)) = true then (some (decide (a0 = 7))) else (some (decide (a0 = 8)))) : Option Bool).bind fun y14 => (if y14 = true then ((dc_ a1 (a3.size : Int) (decide (a0 = 8))).bind fun y15 => (if (decide (a4 = y15)) = true then (some (.inr a4)) else (some (.inl ())))) else (((if (decide (a0 = 9)) = true then (some (decide (a0 = 9))) else (some (decide (a0 = 10)))) : Option Bool).bind fun y16 => (if y16 = true then ((dc_ a1 (a3.size : Int) (decide (a0 = 10))).bind fun y17 => (if (decide (a4 ≤ y17)) = true then (if (decide (y17 ≤ (a3.size : Int))) = true then (some (.inr y17)) else (some (.inl ()))) else (some (.inl ())))) else (if (decide (a0 = 11)) = true then (some (.inr (a3.size : Int))) else (some (.inl ()))))))))))))) : Option (Unit ⊕ Int)).bind fun y2 => (Sum.elim (fun y2 => (some (.inl ()))) (fun y2 => (some (.inr y2))) y2)) : Option (Unit ⊕ Int)).bind fun y1 => (Sum.elim (fun y1 => (some (-1))) (fun y1 => (some y1)) y1))
theorem i8_ (a0 : Int) (a1 : Int) (a2 : ByteArray) (a3 : ByteArray) (a4 : Int) (r : Int) (h : du_ a0 a1 a2 a3 a4 = some r) : dt_ a0 a1 a2 a3 a4 = some r := by
 unfold du_ at h
 refine k_W ok_144 E_i64_inj h (fun σ0 => ?_)
 refine t_R ?_
 refine bQ_ (fun b1 => ?_)
 refine t_N ?_
 refine t_RN ?_
 refine t_RU 1 ?_
 refine do_ fun b2 => ?_
 refine aI_ 0 ?_
 refine t_N ?_
 refine t_RN ?_
 refine eK_ 2 (fun y1 e fr => (Sum.elim (fun y => e = .normal ∧ Sub [] fr.s ∧ Heap σ0 fr.σ []) (fun y => e = .ret ∧ endW Try.prog (Try.f144.results.toList) σ0 (E_i64 y) .ret fr)) y1) (fun y1 e fr h HF => ?_) fun y1 => ?_
 ·obtain ⟨s, σ⟩ := fr
  rcases y1 with y1 | y1
  ·have h := el_l h
   obtain ⟨rfl, hS, hH⟩ := HF
   refine t_bx h hS hH ?_
   refine t_RN ?_
   exact k_eW (rT rN) E_i64_p
  have h := el_r h
  obtain ⟨rfl, HE⟩ := HF
  obtain rfl := si_1 h; exact HE
 refine t_RN ?_
 refine eK_ 0 (fun y2 e fr => (Sum.elim (fun y => e = .normal ∧ Sub [] fr.s ∧ Heap σ0 fr.σ []) (fun y => e = .ret ∧ endW Try.prog (Try.f144.results.toList) σ0 (E_i64 y) .ret fr)) y2) (fun y2 e fr h HF => ?_) fun y2 => ?_
 ·obtain ⟨s, σ⟩ := fr
  rcases y2 with y2 | y2
  ·have h := el_l h
   obtain ⟨rfl, hS, hH⟩ := HF
   refine t_bx h hS hH ?_
   exact t_e fun he hS hH => he ▸ ⟨rfl, (af_ hS (by kernel_rfl)), hH⟩
  have h := el_r h
  obtain ⟨rfl, HE⟩ := HF
  obtain rfl := si_1 h; exact ⟨rfl, HE⟩
 refine t_if (fun hc1 => ?_) fun hc1 => ?_
 ·refine t_D fun mb => ?_
  refine t_U 2 ?_
  refine hG_ fun y3 hy3 => ?_
  refine ae_ 1 ?_
  refine av_ fun y4 hy4 => ?_
  refine t_N ?_
  refine t_if (fun hc2 => ?_) fun hc2 => ?_
  ·refine t_RU 1 ?_
   refine ae_ 1 ?_
   refine t_N ?_
   exact t_e fun he hS hH => he ▸ ⟨rfl, (eW hS hH (rT rN) E_i64_p)⟩
  exact t_e fun he hS hH => he ▸ ⟨rfl, (af_ hS (by kernel_rfl)), (Heap.sel hH [] rfl (by kernel_rfl))⟩
 refine t_RN ?_
 refine eK_ 0 (fun y5 e fr => e = .normal ∧ Sub [(0, i4 a0), (3, .str a3), (4, i4 a4), (11, i4 (a3.size : Int)), (12, i4 a1), (13, .ptr b2 0 0 1), (21, i4 a0), (33, .bool y5)] fr.s ∧ Heap σ0 fr.σ [.box b2 [T.fn 170 [] [.ptr b1 0 0 1]], .box b1 [.str a2]]) (fun y5 e fr h HF => ?_) fun y5 => ?_
 ·obtain ⟨s, σ⟩ := fr
  obtain ⟨rfl, hS, hH⟩ := HF
  refine t_bx h hS hH ?_
  refine t_if (fun hc3 => ?_) fun hc3 => ?_
  ·refine t_D fun mb => ?_
   refine t_U 4 ?_
   refine aK_ 39 (fun hc4 => ?_) fun hc4 => ?_
   ·refine ae_ 0 ?_
    refine t_U 2 ?_
    refine dd_ fun y6 hy6 => ?_
    intro h s σ hS hH
    obtain ⟨y7, hy7, h⟩ := bind_some h
    refine jh_ (xs := [.int .u8 y6]) (cs := [[.str a2]]) [b1] rfl hS rfl rfl rfl (⟨(Heap.lent (hH.at 1 rfl)), trivial⟩) hy7 ?_ rfl; intro s hS
    refine t_bk h hS hH ?_
    refine t_N ?_
    refine t_if (fun hc5 => ?_) fun hc5 => ?_
    ·refine t_RN ?_
     exact t_e fun he hS hH => he ▸ ⟨rfl, (eW hS hH (rT rN) E_i64_p)⟩
    exact t_e fun he hS hH => he ▸ ⟨rfl, (af_ hS (by kernel_rfl)), (Heap.sel hH [] rfl (by kernel_rfl))⟩
   refine t_N ?_
   refine t_cF ff_ne ?_
   exact t_e fun he hS hH => he ▸ ⟨rfl, (af_ hS (by kernel_rfl)), (Heap.sel hH [] rfl (by kernel_rfl))⟩
  refine t_RN ?_
  refine t_if (fun hc6 => ?_) fun hc6 => ?_
  ·refine t_RU 2 ?_
   refine ae_ 0 ?_
   refine ea_ ok_172 ?_
   refine t_RN ?_
   refine t_RN ?_
   refine aZ_ (fun st1 fr => Sub [(0, .str a3), (1, i4 a4), (2, T.fn 170 [] [.ptr b1 0 0 1]), (7, i4 st1)] fr.s ∧ Heap σ0 fr.σ [.box b1 [.str a2]]) (fun y8 e fr => e = (.exit 0) ∧ Sub [(1, i4 a4), (7, i4 y8)] fr.s ∧ Heap σ0 fr.σ []) (fun hS hH => ⟨(af_ hS (by kernel_rfl)), (Heap.sel hH [1] rfl (by kernel_rfl))⟩) (fun st1 x fr h HI => ?_) fun y8 e fr h HF => ?_
   ·obtain ⟨s, σ⟩ := fr; obtain ⟨hS, hH⟩ := HI
    refine t_bk h hS hH ?_
    refine t_RU 5 ?_
    refine aK_ 13 (fun hc7 => ?_) fun hc7 => ?_
    ·refine t_U 3 ?_
     refine dd_ fun y9 hy9 => ?_
     intro h s σ hS hH
     obtain ⟨y10, hy10, h⟩ := bind_some h
     refine jh_ (xs := [.int .u8 y9]) (cs := [[.str a2]]) [b1] rfl hS rfl rfl rfl (⟨(Heap.lent hH), trivial⟩) hy10 ?_ rfl; intro s hS
     refine t_bk h hS hH ?_
     refine t_N ?_
     refine t_if (fun hc8 => ?_) fun hc8 => ?_
     ·refine t_RN ?_
      exact t_e fun he hS hH => he ▸ ⟨(af_ hS (by kernel_rfl)), hH⟩
     exact t_e fun he hS hH => he ▸ ⟨rfl, (af_ hS (by kernel_rfl)), (Heap.sel hH [] rfl (by kernel_rfl))⟩
    refine t_N ?_
    refine t_cF ff_ne ?_
    exact t_e fun he hS hH => he ▸ ⟨rfl, (af_ hS (by kernel_rfl)), (Heap.sel hH [] rfl (by kernel_rfl))⟩
   obtain ⟨s, σ⟩ := fr
   obtain ⟨rfl, hS, hH⟩ := HF
   refine t_bx h hS hH ?_
   refine t_RN ?_
   refine k_eI (rT rN) ?_
   refine t_N ?_
   refine t_RN ?_
   refine t_if (fun hc9 => ?_) fun hc9 => ?_
   ·refine t_RN ?_
    exact t_e fun he hS hH => he ▸ ⟨rfl, (eW hS hH (rT rN) E_i64_p)⟩
   exact t_e fun he hS hH => he ▸ ⟨rfl, (af_ hS (by kernel_rfl)), hH⟩
  refine t_RN ?_
  refine t_if (fun hc10 => ?_) fun hc10 => ?_
  ·refine t_RU 4 ?_
   refine ea_ ok_172 ?_
   refine t_RN ?_
   refine t_RN ?_
   refine aZ_ (fun st2 fr => Sub [(0, .str a3), (1, i4 a4), (2, T.fn 173 [] [.ptr b2 0 0 1]), (7, i4 st2)] fr.s ∧ Heap σ0 fr.σ [.box b2 [T.fn 170 [] [.ptr b1 0 0 1]], .box b1 [.str a2]]) (fun y11 e fr => e = (.exit 0) ∧ Sub [(1, i4 a4), (7, i4 y11)] fr.s ∧ Heap σ0 fr.σ []) (fun hS hH => ⟨(af_ hS (by kernel_rfl)), hH⟩) (fun st2 x fr h HI => ?_) fun y11 e fr h HF => ?_
   ·obtain ⟨s, σ⟩ := fr; obtain ⟨hS, hH⟩ := HI
    refine t_bk h hS hH ?_
    refine t_RU 5 ?_
    refine aK_ 13 (fun hc11 => ?_) fun hc11 => ?_
    ·refine t_U 3 ?_
     refine dd_ fun y12 hy12 => ?_
     refine ea_ ok_173 ?_
     refine t_RN ?_
     refine t_R ?_
     refine ae_ 0 ?_
     refine t_U 1 ?_
     intro h s σ hS hH
     obtain ⟨y13, hy13, h⟩ := bind_some h
     refine jh_ (xs := [.int .u8 y12]) (cs := [[.str a2]]) [b1] rfl hS rfl rfl rfl (⟨(Heap.lent (hH.at 1 rfl)), trivial⟩) hy13 ?_ rfl; intro s hS
     refine t_bk h hS hH ?_
     refine t_N ?_
     refine k_eI (rT rN) ?_
     refine t_N ?_
     refine t_if (fun hc12 => ?_) fun hc12 => ?_
     ·refine t_RN ?_
      exact t_e fun he hS hH => he ▸ ⟨(af_ hS (by kernel_rfl)), hH⟩
     exact t_e fun he hS hH => he ▸ ⟨rfl, (af_ hS (by kernel_rfl)), (Heap.sel hH [] rfl (by kernel_rfl))⟩
    refine t_N ?_
    refine t_cF ff_ne ?_
    exact t_e fun he hS hH => he ▸ ⟨rfl, (af_ hS (by kernel_rfl)), (Heap.sel hH [] rfl (by kernel_rfl))⟩
   obtain ⟨s, σ⟩ := fr
   obtain ⟨rfl, hS, hH⟩ := HF
   refine t_bx h hS hH ?_
   refine t_RN ?_
   refine k_eI (rT rN) ?_
   refine t_N ?_
   refine t_RN ?_
   refine t_if (fun hc13 => ?_) fun hc13 => ?_
   ·refine t_RN ?_
    exact t_e fun he hS hH => he ▸ ⟨rfl, (eW hS hH (rT rN) E_i64_p)⟩
   exact t_e fun he hS hH => he ▸ ⟨rfl, (af_ hS (by kernel_rfl)), hH⟩
  refine t_RN ?_
  refine t_if (fun hc14 => ?_) fun hc14 => ?_
  ·refine t_RN ?_
   refine t_if (fun hc15 => ?_) fun hc15 => ?_
   ·refine t_RN ?_
    exact t_e fun he hS hH => he ▸ ⟨rfl, (eW hS hH (rT rN) E_i64_p)⟩
   exact t_e fun he hS hH => he ▸ ⟨rfl, (af_ hS (by kernel_rfl)), (Heap.sel hH [] rfl (by kernel_rfl))⟩
  refine t_RN ?_
  refine eK_ 0 (fun y14 e fr => e = .normal ∧ Sub [(0, i4 a0), (4, i4 a4), (11, i4 (a3.size : Int)), (12, i4 a1), (21, i4 a0), (84, .bool y14)] fr.s ∧ Heap σ0 fr.σ []) (fun y14 e fr h HF => ?_) fun y14 => ?_
  ·obtain ⟨s, σ⟩ := fr
   obtain ⟨rfl, hS, hH⟩ := HF
   refine t_bx h hS hH ?_
   refine t_if (fun hc16 => ?_) fun hc16 => ?_
   ·refine t_RU 5 ?_
    refine av_ fun y15 hy15 => ?_
    refine t_N ?_
    refine t_if (fun hc17 => ?_) fun hc17 => ?_
    ·refine t_RN ?_
     exact t_e fun he hS hH => he ▸ ⟨rfl, (eW hS hH (rT rN) E_i64_p)⟩
    exact t_e fun he hS hH => he ▸ ⟨rfl, (af_ hS (by kernel_rfl)), hH⟩
   refine t_RN ?_
   refine eK_ 0 (fun y16 e fr => e = .normal ∧ Sub [(0, i4 a0), (4, i4 a4), (11, i4 (a3.size : Int)), (12, i4 a1), (21, i4 a0), (95, .bool y16)] fr.s ∧ Heap σ0 fr.σ []) (fun y16 e fr h HF => ?_) fun y16 => ?_
   ·obtain ⟨s, σ⟩ := fr
    obtain ⟨rfl, hS, hH⟩ := HF
    refine t_bx h hS hH ?_
    refine t_if (fun hc18 => ?_) fun hc18 => ?_
    ·refine t_RU 4 ?_
     refine av_ fun y17 hy17 => ?_
     refine t_N ?_
     refine t_RU 4 ?_
     refine aK_ 106 (fun hc19 => ?_) fun hc19 => ?_
     ·refine t_N ?_
      refine t_if (fun hc20 => ?_) fun hc20 => ?_
      ·refine t_RN ?_
       exact t_e fun he hS hH => he ▸ ⟨rfl, (eW hS hH (rT rN) E_i64_p)⟩
      exact t_e fun he hS hH => he ▸ ⟨rfl, (af_ hS (by kernel_rfl)), hH⟩
     refine t_N ?_
     refine t_cF ff_ne ?_
     exact t_e fun he hS hH => he ▸ ⟨rfl, (af_ hS (by kernel_rfl)), hH⟩
    refine t_RN ?_
    refine t_if (fun hc21 => ?_) fun hc21 => ?_
    ·refine t_RN ?_
     exact t_e fun he hS hH => he ▸ ⟨rfl, (eW hS hH (rT rN) E_i64_p)⟩
    exact t_e fun he hS hH => he ▸ ⟨rfl, (af_ hS (by kernel_rfl)), hH⟩
   refine t_if (fun hc22 => ?_) fun hc22 => ?_
   ·exact t_e fun he hS hH => he ▸ ⟨rfl, (af_ hS (by kernel_rfl)), hH⟩
   refine t_RN ?_
   exact t_e fun he hS hH => he ▸ ⟨rfl, (af_ hS (by kernel_rfl)), hH⟩
  refine t_if (fun hc23 => ?_) fun hc23 => ?_
  ·exact t_e fun he hS hH => he ▸ ⟨rfl, (af_ hS (by kernel_rfl)), (Heap.sel hH [] rfl (by kernel_rfl))⟩
  refine t_RN ?_
  exact t_e fun he hS hH => he ▸ ⟨rfl, (af_ hS (by kernel_rfl)), (Heap.sel hH [] rfl (by kernel_rfl))⟩
 refine t_if (fun hc24 => ?_) fun hc24 => ?_
 ·exact t_e fun he hS hH => he ▸ ⟨rfl, (af_ hS (by kernel_rfl)), hH⟩
 refine t_RN ?_
 exact t_e fun he hS hH => he ▸ ⟨rfl, (af_ hS (by kernel_rfl)), hH⟩
noncomputable def cI_ (a0 : (Sl (Sl aa_))) : Option (Sl aa_) := ((aD_ (S := (Int × Int)) (R := Int) (fun st1 => (if (decide (st1.2 < (a0.l.length : Int))) = true then ((elt a0 st1.2).bind fun y2 => (if (decide ((w4 (st1.1 + (y2.l.length : Int))) < 0)) = true then none else (some (.inl ((w4 (st1.1 + (y2.l.length : Int))), (w4 (st1.2 + 1))))))) else (some (.inr st1.1)))) (0, 0)).bind fun y1 => (((if (decide (y1 < 0)) = true then none else (some ())) : Option Unit).bind fun y3 => (if (decide (0 < (w4 (y1 - (w4 (0 - 0)))))) = true then ((mx_ 48 ((⟨⟨#[]⟩, ⟨#[]⟩, 0, 0⟩ : aa_) : aa_) (w4 (y1 - (w4 (0 - 0))))).bind fun y5 => ((if (!decide (y5.l.length = 0)) = true then some () else none).bind fun y6 => ((aD_ (S := (Int × (Sl aa_))) (R := (Sl aa_)) (fun st2 => (if (decide (st2.1 < (a0.l.length : Int))) = true then ((elt a0 st2.1).bind fun y8 => ((appS 48 st2.2 y8).bind fun y9 => (some (.inl ((w4 (st2.1 + 1)), y9))))) else (some (.inr st2.2)))) (0, (⟨false, []⟩ : Sl aa_))).bind fun y7 => (if (y7.z || !decide (y7.l.length = 0)) = true then (some y7) else none)))) else ((aD_ (S := (Int × (Sl aa_))) (R := (Sl aa_)) (fun st3 => (if (decide (st3.1 < (a0.l.length : Int))) = true then ((elt a0 st3.1).bind fun y11 => ((appS 48 st3.2 y11).bind fun y12 => (some (.inl ((w4 (st3.1 + 1)), y12))))) else (some (.inr st3.2)))) (0, (⟨true, []⟩ : Sl aa_))).bind fun y10 => (some y10)))))
theorem jb_ (a0 : (Sl (Sl aa_))) (r : (Sl aa_)) (h : cI_ a0 = some r) : cB_ a0 = some r := by
 unfold cI_ at h
 refine k_O ok_145 h (fun σ0 => ?_)
 refine t_RN ?_
 refine t_RN ?_
 refine t_RN ?_
 refine aZ_ (fun st1 fr => Sub [(0, a0.t), (3, i4 st1.1), (9, a0.t), (10, i4 (a0.l.length : Int)), (11, i4 st1.2)] fr.s ∧ Heap σ0 fr.σ []) (fun y1 e fr => e = (.exit 0) ∧ Sub [(0, a0.t), (3, i4 y1)] fr.s ∧ Heap σ0 fr.σ []) (fun hS hH => ⟨(af_ hS (by kernel_rfl)), hH⟩) (fun st1 x fr h HI => ?_) fun y1 e fr h HF => ?_
 ·obtain ⟨s, σ⟩ := fr; obtain ⟨hS, hH⟩ := HI
  refine t_bk h hS hH ?_
  refine t_RN ?_
  refine t_if (fun hc1 => ?_) fun hc1 => ?_
  ·refine t_R ?_
   refine bX_ fun y2 rest1 hy2 => ?_
   refine t_N ?_
   refine t_RN ?_
   refine t_RN ?_
   refine t_if (fun hc2 => ?_) fun hc2 => ?_
   ·exact t_no
   refine t_RN ?_
   exact t_e fun he hS hH => he ▸ ⟨(af_ hS (by kernel_rfl)), hH⟩
  exact t_e fun he hS hH => he ▸ ⟨rfl, (af_ hS (by kernel_rfl)), hH⟩
 obtain ⟨s, σ⟩ := fr
 obtain ⟨rfl, hS, hH⟩ := HF
 refine t_bx h hS hH ?_
 refine t_RU 1 ?_
 refine ea_ ok_175 ?_
 refine t_RN ?_
 refine t_RN ?_
 refine eK_ 0 (fun y3 e fr => e = .normal ∧ Sub [(0, (nt aa_)), (1, i4 y1)] fr.s ∧ Heap σ0 fr.σ []) (fun y3 e fr h HF => ?_) fun y3 => ?_
 ·obtain ⟨s, σ⟩ := fr
  obtain ⟨rfl, hS, hH⟩ := HF
  refine t_bx h hS hH ?_
  refine t_RU 2 ?_
  intro h s σ hS hH
  refine ok_ rfl hS rfl (by kernel_rfl) ?_; intro s hS
  refine t_bk h hS hH ?_
  refine t_N ?_
  refine t_RN ?_
  refine t_if (fun hc3 => ?_) fun hc3 => ?_
  ·refine t_RU 2 ?_
   intro h s σ hS hH
   refine ok_ rfl hS rfl (by kernel_rfl) ?_; intro s hS
   refine oD_ (w := (⟨true, []⟩ : Sl aa_)) (y := ⟨true, []⟩) (e := 157) (vlo := none) (vhi := (some (T.int .i64 0))) (a := 0) (b := 0) rfl hS rfl rfl rfl rfl rfl (by kernel_rfl) (by kernel_rfl) rfl ?_; intro s hS
   refine t_bk h hS hH ?_
   refine t_U 1 ?_
   intro h s σ hS hH
   obtain ⟨y5, hy5, h⟩ := bind_some h
   refine rh_ (z := true) (e := 157) (by_ := 48) (x0 := ((⟨⟨#[]⟩, ⟨#[]⟩, 0, 0⟩ : aa_) : aa_)) (fun σ d => by simp [Enc.cells, aa_.cells, Iv]) rfl hS hH rfl rfl (by kernel_rfl) (by kernel_rfl) (by kernel_rfl) (by kernel_rfl) (by kernel_rfl) hy5 ?_; intro t1 σ s ht1 hH hS
   refine t_bk h hS hH ?_
   refine t_U 2 ?_
   intro h s σ hS hH
   obtain ⟨y6, hy6, h⟩ := bind_some h
   obtain ⟨hg1, _⟩ := ja_ hy6
   refine nX_ (a := y5) (e := 157) rfl hS hH rfl rfl (by kernel_rfl) (by kernel_rfl) (by kernel_rfl) hg1 ?_; intro t2 s ht2 hH hS
   have hH : Heap σ0 σ [.frt true 4 t2 (Sl.t (⟨false, []⟩ : Sl aa_))] := hH
   refine t_bk h hS hH ?_
   refine t_N ?_
   refine t_RN ?_
   refine k_eI (rT rN) ?_
   refine t_N ?_
   refine t_RN ?_
   refine aZ_ (fun st2 fr => ∃ t4, ao_ t4 ∧ Sub [(6, t4), (25, a0.t), (26, i4 (a0.l.length : Int)), (27, i4 st2.1)] fr.s ∧ Heap σ0 fr.σ [.frt true 4 t4 st2.2.t]) (fun y7 e fr => ∃ t5, ao_ t5 ∧ e = (.exit 2) ∧ Sub [(6, t5)] fr.s ∧ Heap σ0 fr.σ [.frt true 4 t5 y7.t]) (fun hS hH => ⟨t2, ht2, (af_ hS (by kernel_rfl)), hH⟩) (fun st2 x fr h HI => ?_) fun y7 e fr h HF => ?_
   ·obtain ⟨s, σ⟩ := fr; obtain ⟨t4, ht4, ⟨hS, hH⟩⟩ := HI
    refine t_bk h hS hH ?_
    refine t_RN ?_
    refine t_if (fun hc4 => ?_) fun hc4 => ?_
    ·refine t_R ?_
     refine bX_ fun y8 rest2 hy8 => ?_
     refine t_N ?_
     refine t_RU 2 ?_
     intro h s σ hS hH
     obtain ⟨y9, hy9, h⟩ := bind_some h
     refine qV_ (z := true) (t1 := t4) (a := st2.2) (b := y8) (e := 157) (by_ := 48) (zc := [.str ⟨#[]⟩, .str ⟨#[]⟩, i4 0, i4 0]) rfl hS hH rfl rfl (by kernel_rfl) (by kernel_rfl) (by kernel_rfl) (by kernel_rfl) (by kernel_rfl) (by kernel_rfl) hy9 ?_; intro t6 σ s ht6 hH hS
     refine t_bk h hS hH ?_
     refine t_N ?_
     refine t_RN ?_
     exact t_e fun he hS hH => he ▸ ⟨t6, ht6, (af_ hS (by kernel_rfl)), hH⟩
    exact t_e fun he hS hH => he ▸ ⟨t4, ht4, rfl, (af_ hS (by kernel_rfl)), hH⟩
   obtain ⟨s, σ⟩ := fr
   obtain ⟨t5, ht5, ⟨rfl, hS, hH⟩⟩ := HF
   refine t_bx h hS hH ?_
   refine t_RN ?_
   intro h s σ hS hH
   obtain ⟨hg2, h⟩ := ja_ h
   have hH := Heap.ofFrt (a := y7) hH hg2
   have hH : Heap σ0 σ [.own true 4 t5 y7.t] := hH
   refine t_bk h hS hH ?_
   exact k_eO [t5] (rT rN)
  refine t_RN ?_
  refine k_eI (rT rN) ?_
  refine t_N ?_
  refine t_RN ?_
  refine t_h (Heap.addNil · true 4) ?_
  refine aZ_ (fun st3 fr => ∃ t8, ao_ t8 ∧ Sub [(6, t8), (25, a0.t), (26, i4 (a0.l.length : Int)), (27, i4 st3.1)] fr.s ∧ Heap σ0 fr.σ [.own true 4 t8 st3.2.t]) (fun y10 e fr => ∃ t9, ao_ t9 ∧ e = (.exit 2) ∧ Sub [(6, t9)] fr.s ∧ Heap σ0 fr.σ [.own true 4 t9 y10.t]) (fun hS hH => ⟨(T.row true 0 []), ⟨rfl, rfl⟩, (af_ hS (by kernel_rfl)), hH⟩) (fun st3 x fr h HI => ?_) fun y10 e fr h HF => ?_
  ·obtain ⟨s, σ⟩ := fr; obtain ⟨t8, ht8, ⟨hS, hH⟩⟩ := HI
   refine t_bk h hS hH ?_
   refine t_RN ?_
   refine t_if (fun hc5 => ?_) fun hc5 => ?_
   ·refine t_R ?_
    refine bX_ fun y11 rest3 hy11 => ?_
    refine t_N ?_
    refine t_RU 2 ?_
    refine r1_ 0 (fun y12 t10 hy12 ht10 => ?_)
    refine t_N ?_
    refine t_RN ?_
    exact t_e fun he hS hH => he ▸ ⟨t10, ht10, (af_ hS (by kernel_rfl)), hH⟩
   exact t_e fun he hS hH => he ▸ ⟨t8, ht8, rfl, (af_ hS (by kernel_rfl)), hH⟩
  obtain ⟨s, σ⟩ := fr
  obtain ⟨t9, ht9, ⟨rfl, hS, hH⟩⟩ := HF
  refine t_bx h hS hH ?_
  refine t_RN ?_
  exact k_eO [t9] (rT rN)
 refine t_if (fun hc6 => ?_) fun hc6 => ?_
 ·exact t_no
 exact t_e fun he hS hH => ⟨rfl, (af_ hS (by kernel_rfl)), hH⟩
noncomputable def e8_ (a0 : ByteArray) : Option Bool := (if (!decide (a0 = (⟨#[]⟩ : ByteArray))) = true then (if (decide ((a0.size : Int) ≤ 12)) = true then ((c2_ a0 0).bind fun y1 => (some (decide (y1 = (a0.size : Int))))) else (some false)) else (some false))
theorem i3_ (a0 : ByteArray) (r : Bool) (h : e8_ a0 = some r) : dD_ a0 = some r := by
 unfold e8_ at h
 refine k_W ok_147 E_bool_inj h (fun σ0 => ?_)
 refine t_RN ?_
 refine t_RU 3 ?_
 refine aK_ 5 (fun hc1 => ?_) fun hc1 => ?_
 ·refine t_U 5 ?_
  refine aK_ 10 (fun hc2 => ?_) fun hc2 => ?_
  ·refine t_U 1 ?_
   refine av_ fun y1 hy1 => ?_
   refine t_N ?_
   exact k_eW (rT rN) E_bool_p
  refine t_N ?_
  exact k_eW (rT rN) E_bool_p
 refine t_N ?_
 exact k_eW (rT rN) E_bool_p

noncomputable def e0_ (a0 : ByteArray) (a1 : Int) (a2 : Int) : Option Int := ((aD_ (S := (Int × Int)) (R := (Unit ⊕ Int)) (fun st1 => (if (decide (st1.2 < (a0.size : Int))) = true then ((aN_ a0 st1.2).bind fun y2 => (((if (decide (y2 = 40)) = true then (some (w4 (st1.1 + 1))) else (some st1.1)) : Option Int).bind fun y3 => ((aN_ a0 st1.2).bind fun y4 => (((if (decide (y4 = 41)) = true then (some (w4 (y3 - 1))) else (some y3)) : Option Int).bind fun y5 => (if (decide (y5 < 0)) = true then (some (.inr (.inr (-1)))) else (if (decide (y5 = 0)) = true then (if (decide (a2 < (w4 (st1.2 + 1)))) = true then (some (.inr (.inr (w4 (st1.2 + 1))))) else (some (.inl (y5, (w4 (st1.2 + 1)))))) else (some (.inl (y5, (w4 (st1.2 + 1))))))))))) else (some (.inr (.inl ()))))) (0, a1)).bind fun y1 => (Sum.elim (fun y1 => (some (-1))) (fun y1 => (some y1)) y1))
theorem iG_ (a0 : ByteArray) (a1 : Int) (a2 : Int) (r : Int) (h : e0_ a0 a1 a2 = some r) : bF_ a0 a1 a2 = some r := by
 unfold e0_ at h
 refine k_W ok_150 E_i64_inj h (fun σ0 => ?_)
 refine t_RN ?_
 refine t_RN ?_
 refine t_RN ?_
 refine aZ_ (fun st1 fr => Sub [(0, .str a0), (2, i4 a2), (7, i4 st1.1), (8, i4 st1.2)] fr.s ∧ Heap σ0 fr.σ []) (fun y1 e fr => (Sum.elim (fun y => e = (.exit 0) ∧ Sub [] fr.s ∧ Heap σ0 fr.σ []) (fun y => e = .ret ∧ endW Try.prog (Try.f150.results.toList) σ0 (E_i64 y) .ret fr)) y1) (fun hS hH => ⟨(af_ hS (by kernel_rfl)), hH⟩) (fun st1 x fr h HI => ?_) fun y1 e fr h HF => ?_
 ·obtain ⟨s, σ⟩ := fr; obtain ⟨hS, hH⟩ := HI
  refine t_bk h hS hH ?_
  refine t_RN ?_
  refine t_if (fun hc1 => ?_) fun hc1 => ?_
  ·refine t_RU 2 ?_
   refine dd_ fun y2 hy2 => ?_
   refine t_N ?_
   refine eK_ 0 (fun y3 e fr => e = .normal ∧ Sub [(0, .str a0), (2, i4 a2), (7, i4 y3), (8, i4 st1.2)] fr.s ∧ Heap σ0 fr.σ []) (fun y3 e fr h HF => ?_) fun y3 => ?_
   ·obtain ⟨s, σ⟩ := fr
    obtain ⟨rfl, hS, hH⟩ := HF
    refine t_bx h hS hH ?_
    refine t_RU 2 ?_
    refine dd_ fun y4 hy4 => ?_
    refine t_N ?_
    refine eK_ 0 (fun y5 e fr => e = .normal ∧ Sub [(0, .str a0), (2, i4 a2), (7, i4 y5), (8, i4 st1.2)] fr.s ∧ Heap σ0 fr.σ []) (fun y5 e fr h HF => ?_) fun y5 => ?_
    ·obtain ⟨s, σ⟩ := fr
     obtain ⟨rfl, hS, hH⟩ := HF
     refine t_bx h hS hH ?_
     refine t_RN ?_
     refine t_if (fun hc2 => ?_) fun hc2 => ?_
     ·refine t_RN ?_
      exact t_e fun he hS hH => he ▸ ⟨rfl, (eW hS hH (rT rN) E_i64_p)⟩
     refine t_RU 3 ?_
     refine aK_ 32 (fun hc3 => ?_) fun hc3 => ?_
     ·refine t_N ?_
      refine t_if (fun hc4 => ?_) fun hc4 => ?_
      ·refine t_RN ?_
       exact t_e fun he hS hH => he ▸ ⟨rfl, (eW hS hH (rT rN) E_i64_p)⟩
      refine t_RN ?_
      exact t_e fun he hS hH => he ▸ ⟨(af_ hS (by kernel_rfl)), hH⟩
     refine t_N ?_
     refine t_cF ff_ne ?_
     refine t_RN ?_
     exact t_e fun he hS hH => he ▸ ⟨(af_ hS (by kernel_rfl)), hH⟩
    refine t_if (fun hc5 => ?_) fun hc5 => ?_
    ·refine t_RN ?_
     exact t_e fun he hS hH => he ▸ ⟨rfl, (af_ hS (by kernel_rfl)), hH⟩
    exact t_e fun he hS hH => he ▸ ⟨rfl, (af_ hS (by kernel_rfl)), hH⟩
   refine t_if (fun hc6 => ?_) fun hc6 => ?_
   ·refine t_RN ?_
    exact t_e fun he hS hH => he ▸ ⟨rfl, (af_ hS (by kernel_rfl)), hH⟩
   exact t_e fun he hS hH => he ▸ ⟨rfl, (af_ hS (by kernel_rfl)), hH⟩
  exact t_e fun he hS hH => he ▸ ⟨rfl, (af_ hS (by kernel_rfl)), hH⟩
 obtain ⟨s, σ⟩ := fr
 rcases y1 with y1 | y1
 ·have h := el_l h
  obtain ⟨rfl, hS, hH⟩ := HF
  refine t_bx h hS hH ?_
  refine t_RN ?_
  exact k_eW (rT rN) E_i64_p
 have h := el_r h
 obtain ⟨rfl, HE⟩ := HF
 obtain rfl := si_1 h; exact HE
noncomputable def bL_ (a0 : (Sl ah_)) (a1 : ByteArray) : Option Int := ((aD_ (S := Int) (R := (Unit ⊕ Int)) (fun st1 => (if (decide (st1 < (a0.l.length : Int))) = true then ((elt a0 st1).bind fun y2 => (if (decide (y2.Name = a1)) = true then (some (.inr (.inr st1))) else (some (.inl (w4 (st1 + 1)))))) else (some (.inr (.inl ()))))) 0).bind fun y1 => (Sum.elim (fun y1 => (some (-1))) (fun y1 => (some y1)) y1))
theorem c8_ (a0 : (Sl ah_)) (a1 : ByteArray) (r : Int) (h : bL_ a0 a1 = some r) : bJ_ a0 a1 = some r := by
 unfold bL_ at h
 refine k_W ok_153 E_i64_inj h (fun σ0 => ?_)
 refine t_RN ?_
 refine t_RN ?_
 refine aZ_ (fun st1 fr => Sub [(0, a0.t), (1, .str a1), (5, i4 st1)] fr.s ∧ Heap σ0 fr.σ []) (fun y1 e fr => (Sum.elim (fun y => e = (.exit 0) ∧ Sub [] fr.s ∧ Heap σ0 fr.σ []) (fun y => e = .ret ∧ endW Try.prog (Try.f153.results.toList) σ0 (E_i64 y) .ret fr)) y1) (fun hS hH => ⟨(af_ hS (by kernel_rfl)), hH⟩) (fun st1 x fr h HI => ?_) fun y1 e fr h HF => ?_
 ·obtain ⟨s, σ⟩ := fr; obtain ⟨hS, hH⟩ := HI
  refine t_bk h hS hH ?_
  refine t_RN ?_
  refine t_if (fun hc1 => ?_) fun hc1 => ?_
  ·refine t_RU 2 ?_
   refine bX_ fun y2 rest1 hy2 => ?_
   refine t_N ?_
   refine t_if (fun hc2 => ?_) fun hc2 => ?_
   ·refine t_RN ?_
    exact t_e fun he hS hH => he ▸ ⟨rfl, (eW hS hH (rT rN) E_i64_p)⟩
   refine t_RN ?_
   exact t_e fun he hS hH => he ▸ ⟨(af_ hS (by kernel_rfl)), hH⟩
  exact t_e fun he hS hH => he ▸ ⟨rfl, (af_ hS (by kernel_rfl)), hH⟩
 obtain ⟨s, σ⟩ := fr
 rcases y1 with y1 | y1
 ·have h := el_l h
  obtain ⟨rfl, hS, hH⟩ := HF
  refine t_bx h hS hH ?_
  refine t_RN ?_
  exact k_eW (rT rN) E_i64_p
 have h := el_r h
 obtain ⟨rfl, HE⟩ := HF
 obtain rfl := si_1 h; exact HE
end Go.Am
