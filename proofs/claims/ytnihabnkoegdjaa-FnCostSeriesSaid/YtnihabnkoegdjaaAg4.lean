/- Functions of the program. -/
import Derived.Test.YtnihabnkoegdjaaAd0
import Derived.Test.YtnihabnkoegdjaaAg1
import Derived.Test.YtnihabnkoegdjaaAg3
set_option maxRecDepth 100000
set_option maxHeartbeats 4000000
set_option linter.unusedVariables false
set_option linter.unusedSimpArgs false
namespace Go.Am
open Go.Proofs
noncomputable def fw_ (a0 : (Sl (Iv .i64))) : Option Int := ((aA_ (S := Int) (R := (Unit ⊕ Int)) (fun st1 => (if (decide (st1 < (a0.l.length : Int))) = true then ((elt a0 st1).bind fun y2 => (if (!decide (y2.v = 0)) = true then (some (.inr (.inr y2.v))) else (some (.inl (w4 (st1 + 1)))))) else (some (.inr (.inl ()))))) 0).bind fun y1 => (Sum.elim (fun y1 => (some 0)) (fun y1 => (some y1)) y1))
theorem ke_ (a0 : (Sl (Iv .i64))) (r : Int) (h : fw_ a0 = some r) : dm_ a0 = some r := by
 unfold fw_ at h
 refine k_W ok_67 E_i64_inj h (fun σ0 => ?_)
 refine t_RN ?_
 refine t_RN ?_
 refine a2_ (fun st1 fr => Sub [(5, a0.t), (6, i4 (a0.l.length : Int)), (7, i4 st1)] fr.s ∧ Heap σ0 fr.σ []) (fun y1 e fr => (Sum.elim (fun y => e = (.exit 0) ∧ Sub [] fr.s ∧ Heap σ0 fr.σ []) (fun y => e = .ret ∧ endW Try.prog (Try.f67.results.toList) σ0 (E_i64 y) .ret fr)) y1) (fun hS hH => ⟨(ad_ hS (by kernel_rfl)), hH⟩) (fun st1 x fr h HI => ?_) fun y1 e fr h HF => ?_
 ·obtain ⟨s, σ⟩ := fr; obtain ⟨hS, hH⟩ := HI
  refine t_bk h hS hH ?_
  refine t_RN ?_
  refine t_if (fun hc1 => ?_) fun hc1 => ?_
  ·refine t_R ?_
   refine cw_ fun y2 rest1 hy2 => ?_
   refine t_N ?_
   refine t_RN ?_
   refine t_if (fun hc2 => ?_) fun hc2 => ?_
   ·refine t_RN ?_
    exact t_e fun he hS hH => he ▸ ⟨rfl, (eW hS hH (rT rN) E_i64_p)⟩
   refine t_RN ?_
   exact t_e fun he hS hH => he ▸ ⟨(ad_ hS (by kernel_rfl)), hH⟩
  exact t_e fun he hS hH => he ▸ ⟨rfl, (ad_ hS (by kernel_rfl)), hH⟩
 obtain ⟨s, σ⟩ := fr
 rcases y1 with y1 | y1
 ·have h := el_l h
  obtain ⟨rfl, hS, hH⟩ := HF
  refine t_bx h hS hH ?_
  refine t_RN ?_
  exact k_eW (rT rN) E_i64_p
 have h := el_r h
 obtain ⟨rfl, HE⟩ := HF
 obtain rfl := si_1 h; exact HE
noncomputable def e5_ (a0 : Bool) (a1 : Int) : Option Int := (if a0 = true then (some 0) else (some a1))
theorem jz_ (a0 : Bool) (a1 : Int) (r : Int) (h : e5_ a0 a1 = some r) : bH_ a0 a1 = some r := by
 unfold e5_ at h
 refine k_W ok_68 E_i64_inj h (fun σ0 => ?_)
 refine t_RN ?_
 refine t_RN ?_
 refine t_if (fun hc1 => ?_) fun hc1 => ?_
 ·refine t_RN ?_
  exact k_eW (rT rN) E_i64_p
 refine t_RN ?_
 exact k_eW (rT rN) E_i64_p
noncomputable def eD_ (a0 : ByteArray) : Option Bool := (some (decide ((a0.size : Int) ≤ 200)))
theorem ik_ (a0 : ByteArray) (r : Bool) (h : eD_ a0 = some r) : cx_ a0 = some r := by
 unfold eD_ at h
 refine k_W ok_69 E_bool_inj h (fun σ0 => ?_)
 refine t_RN ?_
 refine t_RN ?_
 exact k_eW (rT rN) E_bool_p
noncomputable def c5_ (a0 : (Sl DNamed)) (a1 : DPattern) (a2 : ByteArray) (a3 : Int) : Option Int := ((((cM_ a0).bind fun y6 => (if y6 = true then ((bs_ a1).bind fun y7 => (if y7 = true then ((cx_ a2).bind fun y8 => (some y8)) else (some false))) else (some false))) : Option Bool).bind fun y1 => ((bH_ y1 1).bind fun y2 => ((bc_ a3 0 20000).bind fun y3 => ((bH_ y3 3).bind fun y4 => ((dm_ (⟨false, [⟨y2⟩, ⟨y4⟩]⟩)).bind fun y5 => (some y5))))))
theorem gO_ (a0 : (Sl DNamed)) (a1 : DPattern) (a2 : ByteArray) (a3 : Int) (r : Int) (h : c5_ a0 a1 a2 a3 = some r) : da_ a0 a1 a2 a3 = some r := by
 unfold c5_ at h
 refine k_W ok_70 E_i64_inj h (fun σ0 => ?_)
 refine t_R ?_
 refine ct_ (fun b1 => ?_)
 refine t_N ?_
 refine dA_ 0 (fun y1 e fr => e = .normal ∧ Sub [(3, i4 a3), (9, .bool y1)] fr.s ∧ Heap σ0 fr.σ []) (fun y1 e fr h HF => ?_) fun y1 => ?_
 ·obtain ⟨s, σ⟩ := fr
  obtain ⟨rfl, hS, hH⟩ := HF
  refine t_bx h hS hH ?_
  refine t_RU 1 ?_
  refine ar_ fun y2 hy2 => ?_
  refine t_U 1 ?_
  refine ar_ fun y3 hy3 => ?_
  refine ar_ fun y4 hy4 => ?_
  refine k_bs (z := true) (⟨false, [⟨y2⟩, ⟨y4⟩]⟩ : Sl (Iv .i64)) (fun t1 ht1 => ?_)
  refine jD_ (fun y5 hy5 => ?_)
  refine t_N ?_
  exact k_eW (rT rN) E_i64_p
 refine t_RU 1 ?_
 refine ar_ fun y6 hy6 => ?_
 refine t_U 1 ?_
 refine aH_ 12 (fun hc1 => ?_) fun hc1 => ?_
 ·refine ae_ 0 ?_
  refine ar_ fun y7 hy7 => ?_
  refine t_U 2 ?_
  refine aH_ 16 (fun hc2 => ?_) fun hc2 => ?_
  ·refine t_U 1 ?_
   refine ar_ fun y8 hy8 => ?_
   refine t_N ?_
   exact t_e fun he hS hH => he ▸ ⟨rfl, (ad_ hS (by kernel_rfl)), (Heap.sel hH [] rfl (by kernel_rfl))⟩
  refine t_N ?_
  exact t_e fun he hS hH => he ▸ ⟨rfl, (ad_ hS (by kernel_rfl)), (Heap.sel hH [] rfl (by kernel_rfl))⟩
 refine t_N ?_
 exact t_e fun he hS hH => he ▸ ⟨rfl, (ad_ hS (by kernel_rfl)), (Heap.sel hH [] rfl (by kernel_rfl))⟩
noncomputable def ea_ (a0 : ByteArray) (a1 : Bool) : Option (Sl (Iv .i64)) := ((aA_ (S := (Int × (Sl (Iv .i64)))) (R := (Sl (Iv .i64))) (fun st1 => (if (decide (st1.1 ≤ (a0.size : Int))) = true then (if (!a1) = true then ((appS 8 st1.2 (⟨false, [⟨st1.1⟩]⟩ : Sl (Iv .i64))).bind fun y2 => (some (.inl ((w4 (st1.1 + 1)), y2)))) else (some (.inr st1.2))) else (some (.inr st1.2)))) (1, (⟨false, [⟨0⟩]⟩ : Sl (Iv .i64)))).bind fun y1 => (some y1))
theorem ic_ (a0 : ByteArray) (a1 : Bool) (r : (Sl (Iv .i64))) (h : ea_ a0 a1 = some r) : dS_ a0 a1 = some r := by
 unfold ea_ at h
 refine k_O ok_76 h (fun σ0 => ?_)
 refine t_RN ?_
 refine t_R ?_
 refine k_bs (z := true) (⟨false, [⟨0⟩]⟩ : Sl (Iv .i64)) (fun t1 ht1 => ?_)
 refine t_N ?_
 refine t_RN ?_
 refine a2_ (fun st1 fr => ∃ t3, am_ t3 ∧ Sub [(0, .str a0), (1, .bool a1), (5, t3), (6, i4 st1.1)] fr.s ∧ Heap σ0 fr.σ [.own true 1 t3 st1.2.t]) (fun y1 e fr => ∃ t4, am_ t4 ∧ e = (.exit 0) ∧ Sub [(5, t4)] fr.s ∧ Heap σ0 fr.σ [.own true 1 t4 y1.t]) (fun hS hH => ⟨t1, ht1, (ad_ hS (by kernel_rfl)), hH⟩) (fun st1 x fr h HI => ?_) fun y1 e fr h HF => ?_
 ·obtain ⟨s, σ⟩ := fr; obtain ⟨t3, ht3, ⟨hS, hH⟩⟩ := HI
  refine t_bk h hS hH ?_
  refine t_RU 5 ?_
  refine aH_ 12 (fun hc1 => ?_) fun hc1 => ?_
  ·refine t_N ?_
   refine t_if (fun hc2 => ?_) fun hc2 => ?_
   ·refine t_RU 2 ?_
    refine k_bs (z := true) (⟨false, [⟨st1.1⟩]⟩ : Sl (Iv .i64)) (fun t5 ht5 => ?_)
    refine jX_ 1 0 (fun y2 t6 hy2 ht6 => ?_)
    refine t_N ?_
    refine t_RN ?_
    exact t_e fun he hS hH => he ▸ ⟨t6, ht6, (ad_ hS (by kernel_rfl)), hH⟩
   exact t_e fun he hS hH => he ▸ ⟨t3, ht3, rfl, (ad_ hS (by kernel_rfl)), hH⟩
  refine t_N ?_
  refine t_cF ff_ne ?_
  exact t_e fun he hS hH => he ▸ ⟨t3, ht3, rfl, (ad_ hS (by kernel_rfl)), hH⟩
 obtain ⟨s, σ⟩ := fr
 obtain ⟨t4, ht4, ⟨rfl, hS, hH⟩⟩ := HF
 refine t_bx h hS hH ?_
 refine t_RN ?_
 exact k_eO [t4] (rT rN)
noncomputable def eU_ (a0 : (Sl DNamed)) (a1 : DPattern) (a2 : ByteArray) (a3 : Int) : Option Int := ((dP_ a0).bind fun y1 => (if (!y1) = true then (some 1) else ((bS_ a1).bind fun y2 => (if (!y2) = true then (some 1) else (if (decide (200 < (a2.size : Int))) = true then (some 1) else ((b9_ a3 0 20000).bind fun y3 => (if (!y3) = true then (some 3) else (some 0))))))))
theorem iZ_ (a0 : (Sl DNamed)) (a1 : DPattern) (a2 : ByteArray) (a3 : Int) (r : Int) (h : eU_ a0 a1 a2 a3 = some r) : e9_ a0 a1 a2 a3 = some r := by
 unfold eU_ at h
 refine k_W ok_78 E_i64_inj h (fun σ0 => ?_)
 refine t_R ?_
 refine ct_ (fun b1 => ?_)
 refine t_N ?_
 refine t_RU 1 ?_
 refine ar_ fun y1 hy1 => ?_
 refine t_U 2 ?_
 refine aH_ 12 (fun hc1 => ?_) fun hc1 => ?_
 ·refine t_N ?_
  refine t_cT rfl ?_
  refine t_RN ?_
  exact k_eW (rT rN) E_i64_p
 refine ae_ 0 ?_
 refine ar_ fun y2 hy2 => ?_
 refine t_U 3 ?_
 refine aH_ 17 (fun hc2 => ?_) fun hc2 => ?_
 ·refine t_N ?_
  refine t_cT rfl ?_
  refine t_RN ?_
  exact k_eW (rT rN) E_i64_p
 refine t_N ?_
 refine t_if (fun hc3 => ?_) fun hc3 => ?_
 ·refine t_RN ?_
  exact k_eW (rT rN) E_i64_p
 refine t_RU 1 ?_
 refine ar_ fun y3 hy3 => ?_
 refine t_N ?_
 refine t_if (fun hc4 => ?_) fun hc4 => ?_
 ·refine t_RN ?_
  exact k_eW (rT rN) E_i64_p
 refine t_RN ?_
 exact k_eW (rT rN) E_i64_p
noncomputable def bx_ (a0 : DPattern) (a1 : Int) : Option Int := (if (decide (60 < (w4 (a1 + 1)))) = true then (some 61) else ((c8_ a0.Kind a0.Num a0.Text).bind fun y1 => (if (!y1) = true then (some 61) else ((eT_ a0.Kind).bind fun y2 => (if (!decide ((a0.Kids.l.length : Int) = y2)) = true then (some 61) else ((aA_ (S := (Int × Int)) (R := Int) (fun st1 => (if (decide (st1.2 < (a0.Kids.l.length : Int))) = true then ((elt a0.Kids st1.2).bind fun y4 => ((ay_ y4 st1.1).bind fun y5 => (if (decide (60 < y5)) = true then (some (.inr y5)) else (some (.inl (y5, (w4 (st1.2 + 1)))))))) else (some (.inr st1.1)))) ((w4 (a1 + 1)), 0)).bind fun y3 => (some y3)))))))
theorem d8_ (a0 : DPattern) (a1 : Int) (r : Int) (h : bx_ a0 a1 = some r) : ay_ a0 a1 = some r := by
 unfold bx_ at h
 refine k_W ok_92 E_i64_inj h (fun σ0 => ?_)
 refine t_R ?_
 refine ct_ (fun b1 => ?_)
 refine t_N ?_
 refine t_RN ?_
 refine t_D fun mb => ?_
 refine t_U 3 ?_
 refine aH_ 11 (fun hc1 => ?_) fun hc1 => ?_
 ·refine t_N ?_
  refine t_cT rfl ?_
  refine t_RN ?_
  exact k_eW (rT rN) E_i64_p
 refine t_U 1 ?_
 refine ae_ 0 ?_
 refine t_U 1 ?_
 refine ae_ 0 ?_
 refine t_U 1 ?_
 refine ae_ 0 ?_
 refine ar_ fun y1 hy1 => ?_
 refine t_U 3 ?_
 refine aH_ 21 (fun hc2 => ?_) fun hc2 => ?_
 ·refine t_N ?_
  refine t_cT rfl ?_
  refine t_RN ?_
  exact k_eW (rT rN) E_i64_p
 refine t_U 1 ?_
 refine ae_ 0 ?_
 refine t_U 2 ?_
 refine ae_ 0 ?_
 refine ar_ fun y2 hy2 => ?_
 refine t_N ?_
 refine t_if (fun hc3 => ?_) fun hc3 => ?_
 ·refine t_RN ?_
  exact k_eW (rT rN) E_i64_p
 refine t_RU 1 ?_
 refine ae_ 0 ?_
 refine t_N ?_
 refine a2_ (fun st1 fr => Sub [(1, i4 st1.1), (31, a0.Kids.t), (32, i4 (a0.Kids.l.length : Int)), (33, i4 st1.2)] fr.s ∧ Heap σ0 fr.σ []) (fun y3 e fr => e = (.exit 0) ∧ Sub [(1, i4 y3)] fr.s ∧ Heap σ0 fr.σ []) (fun hS hH => ⟨(ad_ hS (by kernel_rfl)), (Heap.sel hH [] rfl (by kernel_rfl))⟩) (fun st1 x fr h HI => ?_) fun y3 e fr h HF => ?_
 ·obtain ⟨s, σ⟩ := fr; obtain ⟨hS, hH⟩ := HI
  refine t_bk h hS hH ?_
  refine t_RN ?_
  refine t_if (fun hc4 => ?_) fun hc4 => ?_
  ·refine t_R ?_
   refine cw_ fun y4 rest1 hy4 => ?_
   refine t_U 1 ?_
   refine cc_ fun b2 => ?_
   refine aU_ 0 ?_
   refine t_N ?_
   refine t_R ?_
   refine ae_ 0 ?_
   refine t_U 1 ?_
   refine ar_ fun y5 hy5 => ?_
   refine t_N ?_
   refine t_RN ?_
   refine t_if (fun hc5 => ?_) fun hc5 => ?_
   ·exact t_e fun he hS hH => he ▸ ⟨rfl, (ad_ hS (by kernel_rfl)), (Heap.sel hH [] rfl (by kernel_rfl))⟩
   refine t_RN ?_
   exact t_e fun he hS hH => he ▸ ⟨(ad_ hS (by kernel_rfl)), (Heap.sel hH [] rfl (by kernel_rfl))⟩
  exact t_e fun he hS hH => he ▸ ⟨rfl, (ad_ hS (by kernel_rfl)), hH⟩
 obtain ⟨s, σ⟩ := fr
 obtain ⟨rfl, hS, hH⟩ := HF
 refine t_bx h hS hH ?_
 refine t_RN ?_
 exact k_eW (rT rN) E_i64_p
noncomputable def eR_ (a0 : Int) : Option Bool := ((bc_ a0 0 20000).bind fun y1 => (some y1))
theorem jm_ (a0 : Int) (r : Bool) (h : eR_ a0 = some r) : fh_ a0 = some r := by
 unfold eR_ at h
 refine k_W ok_93 E_bool_inj h (fun σ0 => ?_)
 refine t_RN ?_
 refine t_RU 1 ?_
 refine ar_ fun y1 hy1 => ?_
 refine t_N ?_
 exact k_eW (rT rN) E_bool_p
noncomputable def eX_ (a0 : Int) (a1 : Int) (a2 : Int) : Option Bool := (if (decide (a1 ≤ a0)) = true then (some (decide (a0 ≤ a2))) else (some false))
theorem i4_ (a0 : Int) (a1 : Int) (a2 : Int) (r : Bool) (h : eX_ a0 a1 a2 = some r) : bc_ a0 a1 a2 = some r := by
 unfold eX_ at h
 refine k_W ok_94 E_bool_inj h (fun σ0 => ?_)
 refine t_RN ?_
 refine t_RU 4 ?_
 refine aH_ 10 (fun hc1 => ?_) fun hc1 => ?_
 ·refine t_N ?_
  exact k_eW (rT rN) E_bool_p
 refine t_N ?_
 exact k_eW (rT rN) E_bool_p
noncomputable def ec_ (a0 : (Sl DNamed)) : Option Bool := (if (decide (40 < (a0.l.length : Int))) = true then (some false) else ((cF_ a0 (T.fn 126 [] [])).bind fun y1 => (if (!y1) = true then (some false) else ((aA_ (S := Int) (R := (Unit ⊕ Bool)) (fun st1 => (if (decide (st1 < (a0.l.length : Int))) = true then ((elt a0 st1).bind fun y3 => ((subS a0 0 st1).bind fun y4 => ((dK_ y4 y3.Name).bind fun y5 => (if y5.2 = true then (some (.inr (.inr false))) else (some (.inl (w4 (st1 + 1)))))))) else (some (.inr (.inl ()))))) 0).bind fun y2 => (Sum.elim (fun y2 => (some true)) (fun y2 => (some y2)) y2)))))
theorem hQ_ (a0 : (Sl DNamed)) (r : Bool) (h : ec_ a0 = some r) : cM_ a0 = some r := by
 unfold ec_ at h
 refine k_W ok_95 E_bool_inj h (fun σ0 => ?_)
 refine t_RN ?_
 refine t_RU 4 ?_
 refine aH_ 10 (fun hc1 => ?_) fun hc1 => ?_
 ·refine t_N ?_
  refine t_cT rfl ?_
  refine t_RN ?_
  exact k_eW (rT rN) E_bool_p
 refine t_U 1 ?_
 refine ar_ fun y1 hy1 => ?_
 refine t_N ?_
 refine t_if (fun hc2 => ?_) fun hc2 => ?_
 ·refine t_RN ?_
  exact k_eW (rT rN) E_bool_p
 refine t_RN ?_
 refine a2_ (fun st1 fr => Sub [(0, a0.t), (15, a0.t), (16, i4 (a0.l.length : Int)), (17, i4 st1)] fr.s ∧ Heap σ0 fr.σ []) (fun y2 e fr => (Sum.elim (fun y => e = (.exit 0) ∧ Sub [] fr.s ∧ Heap σ0 fr.σ []) (fun y => e = .ret ∧ endW Try.prog (Try.f95.results.toList) σ0 (E_bool y) .ret fr)) y2) (fun hS hH => ⟨(ad_ hS (by kernel_rfl)), hH⟩) (fun st1 x fr h HI => ?_) fun y2 e fr h HF => ?_
 ·obtain ⟨s, σ⟩ := fr; obtain ⟨hS, hH⟩ := HI
  refine t_bk h hS hH ?_
  refine t_RN ?_
  refine t_if (fun hc3 => ?_) fun hc3 => ?_
  ·refine t_RU 1 ?_
   refine cw_ fun y3 rest1 hy3 => ?_
   refine t_U 1 ?_
   refine cc_ fun b1 => ?_
   refine t_U 1 ?_
   refine aU_ 0 ?_
   refine t_N ?_
   refine a3_ [(10, RN)] ext_x fun mb σs hn0 hlt hlto => ?_
   refine t_U 2 ?_
   refine r6_ fun y4 hy4 => ?_
   refine t_U 1 ?_
   refine ae_ 0 ?_ (hlt := by exact (Or.inl (by kernel_rfl)))
   refine ar_ fun y5 hy5 => ?_
   refine t_U 3 ?_
   refine lJ_ (by exact hn0) fun b2 hwr_b2 => ?_
   refine aU_ 0 ?_ (hwr := by exact fun _ => Or.inl hwr_b2)
   refine t_N ?_
   refine t_RN ?_
   refine t_if (fun hc4 => ?_) fun hc4 => ?_
   ·refine t_RN ?_
    exact t_e fun he hS hH => he ▸ ⟨rfl, (eW hS hH (rT rN) E_bool_p)⟩
   refine t_RN ?_
   exact t_e fun he hS hH => he ▸ ⟨(ad_ hS (by kernel_rfl)), (Heap.sel hH [] rfl (by kernel_rfl))⟩
  exact t_e fun he hS hH => he ▸ ⟨rfl, (ad_ hS (by kernel_rfl)), hH⟩
 obtain ⟨s, σ⟩ := fr
 rcases y2 with y2 | y2
 ·have h := el_l h
  obtain ⟨rfl, hS, hH⟩ := HF
  refine t_bx h hS hH ?_
  refine t_RN ?_
  exact k_eW (rT rN) E_bool_p
 have h := el_r h
 obtain ⟨rfl, HE⟩ := HF
 obtain rfl := si_1 h; exact HE
noncomputable def dr_ (a0 : ByteArray) (a1 : Bool) : Option (Sl (Iv .i64)) := ((aA_ (S := (Int × (Sl (Iv .i64)))) (R := (Sl (Iv .i64))) (fun st1 => (if (decide (st1.1 ≤ (a0.size : Int))) = true then (if (!a1) = true then ((appS 8 st1.2 (⟨false, [⟨st1.1⟩]⟩ : Sl (Iv .i64))).bind fun y2 => (some (.inl ((w4 (st1.1 + 1)), y2)))) else (some (.inr st1.2))) else (some (.inr st1.2)))) (1, (⟨false, [⟨0⟩]⟩ : Sl (Iv .i64)))).bind fun y1 => (some y1))
theorem hg_ (a0 : ByteArray) (a1 : Bool) (r : (Sl (Iv .i64))) (h : dr_ a0 a1 = some r) : dt_ a0 a1 = some r := by
 unfold dr_ at h
 refine k_O ok_97 h (fun σ0 => ?_)
 refine t_RN ?_
 refine t_R ?_
 refine k_bs (z := true) (⟨false, [⟨0⟩]⟩ : Sl (Iv .i64)) (fun t1 ht1 => ?_)
 refine t_N ?_
 refine t_RN ?_
 refine a2_ (fun st1 fr => ∃ t3, am_ t3 ∧ Sub [(0, .str a0), (1, .bool a1), (5, t3), (6, i4 st1.1)] fr.s ∧ Heap σ0 fr.σ [.own true 1 t3 st1.2.t]) (fun y1 e fr => ∃ t4, am_ t4 ∧ e = (.exit 0) ∧ Sub [(5, t4)] fr.s ∧ Heap σ0 fr.σ [.own true 1 t4 y1.t]) (fun hS hH => ⟨t1, ht1, (ad_ hS (by kernel_rfl)), hH⟩) (fun st1 x fr h HI => ?_) fun y1 e fr h HF => ?_
 ·obtain ⟨s, σ⟩ := fr; obtain ⟨t3, ht3, ⟨hS, hH⟩⟩ := HI
  refine t_bk h hS hH ?_
  refine t_RU 5 ?_
  refine aH_ 12 (fun hc1 => ?_) fun hc1 => ?_
  ·refine t_N ?_
   refine t_if (fun hc2 => ?_) fun hc2 => ?_
   ·refine t_RU 2 ?_
    refine k_bs (z := true) (⟨false, [⟨st1.1⟩]⟩ : Sl (Iv .i64)) (fun t5 ht5 => ?_)
    refine jX_ 1 0 (fun y2 t6 hy2 ht6 => ?_)
    refine t_N ?_
    refine t_RN ?_
    exact t_e fun he hS hH => he ▸ ⟨t6, ht6, (ad_ hS (by kernel_rfl)), hH⟩
   exact t_e fun he hS hH => he ▸ ⟨t3, ht3, rfl, (ad_ hS (by kernel_rfl)), hH⟩
  refine t_N ?_
  refine t_cF ff_ne ?_
  exact t_e fun he hS hH => he ▸ ⟨t3, ht3, rfl, (ad_ hS (by kernel_rfl)), hH⟩
 obtain ⟨s, σ⟩ := fr
 obtain ⟨t4, ht4, ⟨rfl, hS, hH⟩⟩ := HF
 refine t_bx h hS hH ?_
 refine t_RN ?_
 exact k_eO [t4] (rT rN)
noncomputable def eF_ (a0 : DPattern) : Option DPattern := ((aA_ (S := (Int × (Sl DPattern))) (R := (Sl DPattern)) (fun st1 => (if (decide (st1.1 < (a0.Kids.l.length : Int))) = true then ((elt a0.Kids st1.1).bind fun y2 => ((bp_ y2).bind fun y3 => ((appS 56 st1.2 (⟨false, [y3]⟩ : Sl DPattern)).bind fun y4 => (some (.inl ((w4 (st1.1 + 1)), y4)))))) else (some (.inr st1.2)))) (0, (⟨true, []⟩ : Sl DPattern))).bind fun y1 => (some (⟨a0.Kind, a0.Num, a0.Text, y1⟩ : DPattern)))
theorem in_ (a0 : DPattern) (r : DPattern) (h : eF_ a0 = some r) : bp_ a0 = some r := by
 unfold eF_ at h
 refine k_O ok_98 h (fun σ0 => ?_)
 refine t_R ?_
 refine ct_ (fun b1 => ?_)
 refine cc_ fun b2 => ?_
 refine t_N ?_
 refine t_RU 1 ?_
 refine ae_ 1 ?_
 refine t_U 1 ?_
 refine ae_ 1 ?_
 refine t_U 1 ?_
 refine ae_ 1 ?_
 refine t_U 1 ?_
 refine cc_ fun b3 => ?_
 refine aU_ 0 ?_
 refine t_N ?_
 refine t_RN ?_
 refine t_h (Heap.addNil · true 4) ?_
 refine a2_ (fun st1 fr => ∃ t2, am_ t2 ∧ Sub [(1, .ptr b1 0 0 4), (2, .ptr b2 0 0 4), (3, .ptr b3 0 0 4), (4, i4 st1.1)] fr.s ∧ Heap σ0 fr.σ [.box b3 [i4 a0.Kind, i4 a0.Num, .str a0.Text, t2], .box b2 [i4 0, i4 0, .str ⟨#[]⟩, (nt DPattern)], .box b1 [i4 a0.Kind, i4 a0.Num, .str a0.Text, a0.Kids.t], .own true 4 t2 st1.2.t]) (fun y1 e fr => ∃ t3, am_ t3 ∧ e = (.exit 0) ∧ Sub [(2, .ptr b2 0 0 4), (3, .ptr b3 0 0 4)] fr.s ∧ Heap σ0 fr.σ [.box b3 [i4 a0.Kind, i4 a0.Num, .str a0.Text, t3], .box b2 [i4 0, i4 0, .str ⟨#[]⟩, (nt DPattern)], .own true 4 t3 y1.t]) (fun hS hH => ⟨(T.row true 0 []), ⟨rfl, rfl⟩, (ad_ hS (by kernel_rfl)), (Heap.sel hH [1, 2, 3, 0] rfl (by kernel_rfl))⟩) (fun st1 x fr h HI => ?_) fun y1 e fr h HF => ?_
 ·obtain ⟨s, σ⟩ := fr; obtain ⟨t2, ht2, ⟨hS, hH⟩⟩ := HI
  refine t_bk h hS hH ?_
  refine t_RU 2 ?_
  refine ae_ 2 ?_
  refine t_N ?_
  refine t_if (fun hc1 => ?_) fun hc1 => ?_
  ·refine a3_ [(9, RN), (11, RN)] ext_x fun mb σs hn0 hlt hlto => ?_
   have hlt_b3 : b3 < mb := hlt b3 _ (List.Mem.head _)
   refine t_U 1 ?_
   refine ae_ 0 ?_ (hlt := by exact (Or.inr ⟨hlt_b3, (Wc.cons (.inl (by kernel_rfl)) (Wc.cons (.inl (by kernel_rfl)) Wc.nil))⟩))
   refine t_U 1 ?_
   refine ae_ 2 ?_ (hlt := by exact (Or.inl (by kernel_rfl)))
   refine t_U 1 ?_
   refine cw_ fun y2 rest1 hy2 => ?_
   refine t_U 1 ?_
   refine ep_ (fun y3 t4 hy3 ht4 => ?_)
   refine k_bs (z := true) (⟨false, [y3]⟩ : Sl DPattern) (fun t5 ht5 => ?_) (hb := by exact hn0) (h1 := by simp [ht4.1, ht4.2])
   refine jX_ 4 0 (fun y4 t6 hy4 ht6 => ?_) (hb := by exact hn0) (hwr := by exact fun hH b e o n h0 => Or.inr ⟨9, by kernel_rfl, fun h => h⟩)
   refine t_U 1 ?_
   refine bE_ 1 ht6 ?_ (hwr := by exact fun hH => Or.inr ⟨11, by kernel_rfl, fun h => h⟩)
   refine t_N ?_
   refine t_RN ?_
   exact t_e fun he hS hH => he ▸ ⟨t6, ht6, (ad_ hS (by kernel_rfl)), (Heap.sel hH [0, 2, 3, 1] rfl (by kernel_rfl))⟩
  exact t_e fun he hS hH => he ▸ ⟨t2, ht2, rfl, (ad_ hS (by kernel_rfl)), (Heap.sel hH [0, 1, 3] rfl (by kernel_rfl))⟩
 obtain ⟨s, σ⟩ := fr
 obtain ⟨t3, ht3, ⟨rfl, hS, hH⟩⟩ := HF
 refine t_bx h hS hH ?_
 refine t_R ?_
 refine ae_ 0 ?_
 refine aU_ 1 ?_ (h1 := by simp [ht3.1, ht3.2])
 refine t_N ?_
 refine t_h Heap.up2 ?_
 exact k_eO [t3] (rC 1 rN)
noncomputable def eA_ (a0 : Int) : Option (Int × ByteArray) := (if (decide (a0 = 1)) = true then (some (0, ⟨#[115]⟩)) else ((fZ_ a0).bind fun y1 => ((aA_ (S := (Int × ByteArray × Int)) (R := (Int × ByteArray)) (fun st1 => (if (decide (st1.2.2 < (y1.2.size : Int))) = true then ((aO_ y1.2 st1.2.2).bind fun y3 => (if (decide (y3 = 112)) = true then (some (.inl ((w4 (st1.1 + 1)), st1.2.1, (w4 (st1.2.2 + 1))))) else ((subB y1.2 st1.2.2 (w4 (st1.2.2 + 1))).bind fun y4 => ((catB st1.2.1 y4).bind fun y5 => (some (.inl (st1.1, y5, (w4 (st1.2.2 + 1))))))))) else (some (.inr (st1.1, st1.2.1))))) (0, ⟨#[]⟩, 0)).bind fun y2 => (some (y2.1, y2.2)))))
theorem fX_ (a0 : Int) (r : (Int × ByteArray)) (h : eA_ a0 = some r) : b4_ a0 = some r := by
 unfold eA_ at h
 refine k_W ok_102 E_t2_i64_str_inj h (fun σ0 => ?_)
 refine t_RN ?_
 refine t_RN ?_
 refine t_if (fun hc1 => ?_) fun hc1 => ?_
 ·refine t_RN ?_
  exact k_eW (rT (rT rN)) E_t2_i64_str_p
 refine t_RU 1 ?_
 refine ar_ fun y1 hy1 => ?_
 refine t_N ?_
 refine t_RN ?_
 refine t_RN ?_
 refine t_RN ?_
 refine a2_ (fun st1 fr => Sub [(5, .str y1.2), (6, i4 st1.1), (7, .str st1.2.1), (8, i4 st1.2.2)] fr.s ∧ Heap σ0 fr.σ []) (fun y2 e fr => e = (.exit 0) ∧ Sub [(6, i4 y2.1), (7, .str y2.2)] fr.s ∧ Heap σ0 fr.σ []) (fun hS hH => ⟨(ad_ hS (by kernel_rfl)), hH⟩) (fun st1 x fr h HI => ?_) fun y2 e fr h HF => ?_
 ·obtain ⟨s, σ⟩ := fr; obtain ⟨hS, hH⟩ := HI
  refine t_bk h hS hH ?_
  refine t_RN ?_
  refine t_if (fun hc2 => ?_) fun hc2 => ?_
  ·refine t_RU 2 ?_
   refine dn_ fun y3 hy3 => ?_
   refine t_N ?_
   refine t_if (fun hc3 => ?_) fun hc3 => ?_
   ·refine t_RN ?_
    refine t_RN ?_
    exact t_e fun he hS hH => he ▸ ⟨(ad_ hS (by kernel_rfl)), hH⟩
   refine t_RU 5 ?_
   refine h1_ fun y4 hy4 => ?_
   refine pm_ fun y5 hy5 => ?_
   refine t_N ?_
   refine t_RN ?_
   exact t_e fun he hS hH => he ▸ ⟨(ad_ hS (by kernel_rfl)), hH⟩
  exact t_e fun he hS hH => he ▸ ⟨rfl, (ad_ hS (by kernel_rfl)), hH⟩
 obtain ⟨s, σ⟩ := fr
 obtain ⟨rfl, hS, hH⟩ := HF
 refine t_bx h hS hH ?_
 refine t_RN ?_
 exact k_eW (rT (rT rN)) E_t2_i64_str_p
noncomputable def cb_ (a0 : DPattern) (a1 : Int) : Option Int := (if (decide (a1 < 1)) = true then (some (-1)) else ((ez_ a0).bind fun y1 => (if (!y1) = true then (some (-1)) else ((aA_ (S := (Int × Int)) (R := (Int ⊕ Int)) (fun st1 => (if (decide (st1.2 < (a0.Kids.l.length : Int))) = true then ((elt a0.Kids st1.2).bind fun y3 => ((aQ_ y3 (w4 (a1 - st1.1))).bind fun y4 => (if (decide (y4 < 0)) = true then (some (.inr (.inr (-1)))) else (some (.inl ((w4 (st1.1 + y4)), (w4 (st1.2 + 1)))))))) else (some (.inr (.inl st1.1))))) (1, 0)).bind fun y2 => (Sum.elim (fun y2 => (some y2)) (fun y2 => (some y2)) y2)))))
theorem fG_ (a0 : DPattern) (a1 : Int) (r : Int) (h : cb_ a0 a1 = some r) : aQ_ a0 a1 = some r := by
 unfold cb_ at h
 refine k_W ok_110 E_i64_inj h (fun σ0 => ?_)
 refine t_R ?_
 refine ct_ (fun b1 => ?_)
 refine t_N ?_
 refine t_RU 3 ?_
 refine aH_ 10 (fun hc1 => ?_) fun hc1 => ?_
 ·refine t_N ?_
  refine t_cT rfl ?_
  refine t_RN ?_
  exact k_eW (rT rN) E_i64_p
 refine ae_ 0 ?_
 refine ar_ fun y1 hy1 => ?_
 refine t_N ?_
 refine t_if (fun hc2 => ?_) fun hc2 => ?_
 ·refine t_RN ?_
  exact k_eW (rT rN) E_i64_p
 refine t_RN ?_
 refine t_RN ?_
 refine a2_ (fun st1 fr => Sub [(1, i4 a1), (2, .ptr b1 0 0 4), (5, i4 st1.1), (6, i4 st1.2)] fr.s ∧ Heap σ0 fr.σ [.box b1 [i4 a0.Kind, i4 a0.Num, .str a0.Text, a0.Kids.t]]) (fun y2 e fr => (Sum.elim (fun y => e = (.exit 0) ∧ Sub [(5, i4 y)] fr.s ∧ Heap σ0 fr.σ []) (fun y => e = .ret ∧ endW Try.prog (Try.f110.results.toList) σ0 (E_i64 y) .ret fr)) y2) (fun hS hH => ⟨(ad_ hS (by kernel_rfl)), hH⟩) (fun st1 x fr h HI => ?_) fun y2 e fr h HF => ?_
 ·obtain ⟨s, σ⟩ := fr; obtain ⟨hS, hH⟩ := HI
  refine t_bk h hS hH ?_
  refine t_RU 2 ?_
  refine ae_ 0 ?_
  refine t_N ?_
  refine t_if (fun hc3 => ?_) fun hc3 => ?_
  ·refine t_RU 1 ?_
   refine ae_ 0 ?_
   refine t_U 1 ?_
   refine cw_ fun y3 rest1 hy3 => ?_
   refine t_U 4 ?_
   refine ar_ fun y4 hy4 => ?_
   refine t_N ?_
   refine t_RN ?_
   refine t_if (fun hc4 => ?_) fun hc4 => ?_
   ·refine t_RN ?_
    exact t_e fun he hS hH => he ▸ ⟨rfl, (eW hS hH (rT rN) E_i64_p)⟩
   refine t_RN ?_
   refine t_RN ?_
   exact t_e fun he hS hH => he ▸ ⟨(ad_ hS (by kernel_rfl)), hH⟩
  exact t_e fun he hS hH => he ▸ ⟨rfl, (ad_ hS (by kernel_rfl)), (Heap.sel hH [] rfl (by kernel_rfl))⟩
 obtain ⟨s, σ⟩ := fr
 rcases y2 with y2 | y2
 ·have h := el_l h
  obtain ⟨rfl, hS, hH⟩ := HF
  refine t_bx h hS hH ?_
  refine t_RN ?_
  exact k_eW (rT rN) E_i64_p
 have h := el_r h
 obtain ⟨rfl, HE⟩ := HF
 obtain rfl := si_1 h; exact HE
noncomputable def d9_ (a0 : (Sl DNamed)) : Option Bool := (if (decide (40 < (a0.l.length : Int))) = true then (some false) else ((aA_ (S := Int) (R := (Unit ⊕ Bool)) (fun st1 => (if (decide (st1 < (a0.l.length : Int))) = true then ((elt a0 st1).bind fun y2 => ((dF_ y2.Name).bind fun y3 => (if (!y3) = true then (some (.inr (.inr false))) else ((elt a0 st1).bind fun y4 => ((bS_ y4.Pattern).bind fun y5 => (if (!y5) = true then (some (.inr (.inr false))) else ((aA_ (S := Int) (R := (Unit ⊕ Bool)) (fun st2 => (if (decide (st2 < st1)) = true then ((elt a0 st2).bind fun y7 => ((elt a0 st1).bind fun y8 => (if (decide (y7.Name = y8.Name)) = true then (some (.inr (.inr false))) else (some (.inl (w4 (st2 + 1))))))) else (some (.inr (.inl ()))))) 0).bind fun y6 => (Sum.elim (fun y6 => (some (.inl (w4 (st1 + 1))))) (fun y6 => (some (.inr (.inr y6)))) y6)))))))) else (some (.inr (.inl ()))))) 0).bind fun y1 => (Sum.elim (fun y1 => (some true)) (fun y1 => (some y1)) y1)))
theorem hT_ (a0 : (Sl DNamed)) (r : Bool) (h : d9_ a0 = some r) : dP_ a0 = some r := by
 unfold d9_ at h
 refine k_W ok_115 E_bool_inj h (fun σ0 => ?_)
 refine t_RN ?_
 refine t_RN ?_
 refine t_if (fun hc1 => ?_) fun hc1 => ?_
 ·refine t_RN ?_
  exact k_eW (rT rN) E_bool_p
 refine t_RN ?_
 refine a2_ (fun st1 fr => Sub [(0, a0.t), (3, i4 st1)] fr.s ∧ Heap σ0 fr.σ []) (fun y1 e fr => (Sum.elim (fun y => e = (.exit 0) ∧ Sub [] fr.s ∧ Heap σ0 fr.σ []) (fun y => e = .ret ∧ endW Try.prog (Try.f115.results.toList) σ0 (E_bool y) .ret fr)) y1) (fun hS hH => ⟨(ad_ hS (by kernel_rfl)), hH⟩) (fun st1 x fr h HI => ?_) fun y1 e fr h HF => ?_
 ·obtain ⟨s, σ⟩ := fr; obtain ⟨hS, hH⟩ := HI
  refine t_bk h hS hH ?_
  refine t_RN ?_
  refine t_if (fun hc2 => ?_) fun hc2 => ?_
  ·refine t_RU 2 ?_
   refine cw_ fun y2 rest1 hy2 => ?_
   refine t_U 2 ?_
   refine ar_ fun y3 hy3 => ?_
   refine t_U 2 ?_
   refine aH_ 21 (fun hc3 => ?_) fun hc3 => ?_
   ·refine t_N ?_
    refine t_cT rfl ?_
    refine t_RN ?_
    exact t_e fun he hS hH => he ▸ ⟨rfl, (eW hS hH (rT rN) E_bool_p)⟩
   refine t_U 2 ?_
   refine cw_ fun y4 rest2 hy4 => ?_
   refine t_U 2 ?_
   refine ar_ fun y5 hy5 => ?_
   refine t_N ?_
   refine t_if (fun hc4 => ?_) fun hc4 => ?_
   ·refine t_RN ?_
    exact t_e fun he hS hH => he ▸ ⟨rfl, (eW hS hH (rT rN) E_bool_p)⟩
   refine t_RN ?_
   refine a2_ (fun st2 fr => Sub [(0, a0.t), (3, i4 st1), (4, i4 st2)] fr.s ∧ Heap σ0 fr.σ []) (fun y6 e fr => (Sum.elim (fun y => e = (.exit 2) ∧ Sub [(0, a0.t), (3, i4 st1)] fr.s ∧ Heap σ0 fr.σ []) (fun y => e = .ret ∧ endW Try.prog (Try.f115.results.toList) σ0 (E_bool y) .ret fr)) y6) (fun hS hH => ⟨(ad_ hS (by kernel_rfl)), hH⟩) (fun st2 x fr h HI => ?_) fun y6 e fr h HF => ?_
   ·obtain ⟨s, σ⟩ := fr; obtain ⟨hS, hH⟩ := HI
    refine t_bk h hS hH ?_
    refine t_RN ?_
    refine t_if (fun hc5 => ?_) fun hc5 => ?_
    ·refine t_D fun mb => ?_
     refine t_U 2 ?_
     refine cw_ fun y7 rest3 hy7 => ?_
     refine t_U 4 ?_
     refine cw_ fun y8 rest4 hy8 => ?_
     refine t_N ?_
     refine t_if (fun hc6 => ?_) fun hc6 => ?_
     ·refine t_RN ?_
      exact t_e fun he hS hH => he ▸ ⟨rfl, (eW hS hH (rT rN) E_bool_p)⟩
     refine t_RN ?_
     exact t_e fun he hS hH => he ▸ ⟨(ad_ hS (by kernel_rfl)), hH⟩
    exact t_e fun he hS hH => he ▸ ⟨rfl, (ad_ hS (by kernel_rfl)), hH⟩
   obtain ⟨s, σ⟩ := fr
   rcases y6 with y6 | y6
   ·have h := el_l h
    obtain ⟨rfl, hS, hH⟩ := HF
    refine t_bx h hS hH ?_
    refine t_RN ?_
    exact t_e fun he hS hH => he ▸ ⟨(ad_ hS (by kernel_rfl)), hH⟩
   have h := el_r h
   obtain ⟨rfl, HE⟩ := HF
   obtain rfl := si_1 h; exact ⟨rfl, HE⟩
  exact t_e fun he hS hH => he ▸ ⟨rfl, (ad_ hS (by kernel_rfl)), hH⟩
 obtain ⟨s, σ⟩ := fr
 rcases y1 with y1 | y1
 ·have h := el_l h
  obtain ⟨rfl, hS, hH⟩ := HF
  refine t_bx h hS hH ?_
  refine t_RN ?_
  exact k_eW (rT rN) E_bool_p
 have h := el_r h
 obtain ⟨rfl, HE⟩ := HF
 obtain rfl := si_1 h; exact HE
noncomputable def cE_ (a0 : DPattern) : Option Bool := ((aQ_ a0 60).bind fun y1 => (some (decide (0 < y1))))
theorem f7_ (a0 : DPattern) (r : Bool) (h : cE_ a0 = some r) : bS_ a0 = some r := by
 unfold cE_ at h
 refine k_W ok_116 E_bool_inj h (fun σ0 => ?_)
 refine t_R ?_
 refine ct_ (fun b1 => ?_)
 refine t_N ?_
 refine t_R ?_
 refine ae_ 0 ?_
 refine ar_ fun y1 hy1 => ?_
 refine t_N ?_
 exact k_eW (rT rN) E_bool_p
noncomputable def ft_ (a0 : Int) (a1 : Int) (a2 : Int) : Option Bool := (if (decide (a1 ≤ a0)) = true then (some (decide (a0 ≤ a2))) else (some false))
theorem jK_ (a0 : Int) (a1 : Int) (a2 : Int) (r : Bool) (h : ft_ a0 a1 a2 = some r) : b9_ a0 a1 a2 = some r := by
 unfold ft_ at h
 refine k_W ok_117 E_bool_inj h (fun σ0 => ?_)
 refine t_RN ?_
 refine t_RU 4 ?_
 refine aH_ 10 (fun hc1 => ?_) fun hc1 => ?_
 ·refine t_N ?_
  exact k_eW (rT rN) E_bool_p
 refine t_N ?_
 exact k_eW (rT rN) E_bool_p
noncomputable def c1_ (a0 : Int) (a1 : Int) (a2 : ByteArray) : Option Bool := (if (decide (a0 = 1)) = true then (if (decide (a1 = 0)) = true then ((cx_ a2).bind fun y1 => (some y1)) else (some false)) else ((e6_ a0).bind fun y2 => (if y2 = true then (if (decide (a1 = 0)) = true then (if (!decide (a2 = (⟨#[]⟩ : ByteArray))) = true then ((cx_ a2).bind fun y3 => (some y3)) else (some false)) else (some false)) else ((dw_ a0).bind fun y4 => (if y4 = true then (if (decide (a2 = (⟨#[]⟩ : ByteArray))) = true then ((bc_ a1 0 200).bind fun y5 => (some y5)) else (some false)) else ((ey_ a0).bind fun y6 => (if y6 = true then (if (decide (a1 = 0)) = true then ((dM_ a2).bind fun y7 => (some y7)) else (some false)) else ((cp_ a0).bind fun y8 => (if y8 = true then (if (decide (a1 = 0)) = true then (some (decide (a2 = (⟨#[]⟩ : ByteArray)))) else (some false)) else (some false))))))))))
theorem gK_ (a0 : Int) (a1 : Int) (a2 : ByteArray) (r : Bool) (h : c1_ a0 a1 a2 = some r) : c8_ a0 a1 a2 = some r := by
 unfold c1_ at h
 refine k_W ok_123 E_bool_inj h (fun σ0 => ?_)
 refine t_RN ?_
 refine t_RN ?_
 refine t_if (fun hc1 => ?_) fun hc1 => ?_
 ·refine t_RU 3 ?_
  refine aH_ 12 (fun hc2 => ?_) fun hc2 => ?_
  ·refine t_U 1 ?_
   refine ar_ fun y1 hy1 => ?_
   refine t_N ?_
   exact k_eW (rT rN) E_bool_p
  refine t_N ?_
  exact k_eW (rT rN) E_bool_p
 refine t_RU 1 ?_
 refine ar_ fun y2 hy2 => ?_
 refine t_N ?_
 refine t_if (fun hc3 => ?_) fun hc3 => ?_
 ·refine t_RU 3 ?_
  refine aH_ 21 (fun hc4 => ?_) fun hc4 => ?_
  ·refine t_U 4 ?_
   refine aH_ 25 (fun hc5 => ?_) fun hc5 => ?_
   ·refine t_U 1 ?_
    refine ar_ fun y3 hy3 => ?_
    refine t_N ?_
    exact k_eW (rT rN) E_bool_p
   refine t_N ?_
   exact k_eW (rT rN) E_bool_p
  refine t_N ?_
  exact k_eW (rT rN) E_bool_p
 refine t_RU 1 ?_
 refine ar_ fun y4 hy4 => ?_
 refine t_N ?_
 refine t_if (fun hc6 => ?_) fun hc6 => ?_
 ·refine t_RU 3 ?_
  refine aH_ 34 (fun hc7 => ?_) fun hc7 => ?_
  ·refine t_U 1 ?_
   refine ar_ fun y5 hy5 => ?_
   refine t_N ?_
   exact k_eW (rT rN) E_bool_p
  refine t_N ?_
  exact k_eW (rT rN) E_bool_p
 refine t_RU 1 ?_
 refine ar_ fun y6 hy6 => ?_
 refine t_N ?_
 refine t_if (fun hc8 => ?_) fun hc8 => ?_
 ·refine t_RU 3 ?_
  refine aH_ 43 (fun hc9 => ?_) fun hc9 => ?_
  ·refine t_U 1 ?_
   refine ar_ fun y7 hy7 => ?_
   refine t_N ?_
   exact k_eW (rT rN) E_bool_p
  refine t_N ?_
  exact k_eW (rT rN) E_bool_p
 refine t_RU 1 ?_
 refine ar_ fun y8 hy8 => ?_
 refine t_U 1 ?_
 refine aH_ 49 (fun hc10 => ?_) fun hc10 => ?_
 ·refine t_U 4 ?_
  refine aH_ 53 (fun hc11 => ?_) fun hc11 => ?_
  ·refine t_N ?_
   exact k_eW (rT rN) E_bool_p
  refine t_N ?_
  exact k_eW (rT rN) E_bool_p
 refine t_N ?_
 exact k_eW (rT rN) E_bool_p
noncomputable def e7_ (a0 : Int) : Option Int := (((if (decide (a0 = 18)) = true then (some (decide (a0 = 18))) else (some (decide (a0 = 19)))) : Option Bool).bind fun y1 => (if y1 = true then (some 2) else (((if (decide (a0 = 20)) = true then (some (decide (a0 = 20))) else (if (decide (a0 = 21)) = true then (some (decide (a0 = 21))) else (some (decide (a0 = 22))))) : Option Bool).bind fun y2 => (if y2 = true then (some 1) else (some 0)))))
theorem ji_ (a0 : Int) (r : Int) (h : e7_ a0 = some r) : eT_ a0 = some r := by
 unfold e7_ at h
 refine k_W ok_124 E_i64_inj h (fun σ0 => ?_)
 refine t_RN ?_
 refine t_RN ?_
 refine t_RN ?_
 refine dA_ 0 (fun y1 e fr => e = .normal ∧ Sub [(3, i4 a0), (4, .bool y1)] fr.s ∧ Heap σ0 fr.σ []) (fun y1 e fr h HF => ?_) fun y1 => ?_
 ·obtain ⟨s, σ⟩ := fr
  obtain ⟨rfl, hS, hH⟩ := HF
  refine t_bx h hS hH ?_
  refine t_if (fun hc1 => ?_) fun hc1 => ?_
  ·refine t_RN ?_
   exact k_eW (rT rN) E_i64_p
  refine t_RN ?_
  refine dA_ 0 (fun y2 e fr => e = .normal ∧ Sub [(7, .bool y2)] fr.s ∧ Heap σ0 fr.σ []) (fun y2 e fr h HF => ?_) fun y2 => ?_
  ·obtain ⟨s, σ⟩ := fr
   obtain ⟨rfl, hS, hH⟩ := HF
   refine t_bx h hS hH ?_
   refine t_if (fun hc2 => ?_) fun hc2 => ?_
   ·refine t_RN ?_
    exact k_eW (rT rN) E_i64_p
   refine t_RN ?_
   exact k_eW (rT rN) E_i64_p
  refine t_if (fun hc3 => ?_) fun hc3 => ?_
  ·exact t_e fun he hS hH => he ▸ ⟨rfl, (ad_ hS (by kernel_rfl)), hH⟩
  refine t_RN ?_
  refine t_if (fun hc4 => ?_) fun hc4 => ?_
  ·exact t_e fun he hS hH => he ▸ ⟨rfl, (ad_ hS (by kernel_rfl)), hH⟩
  refine t_RN ?_
  exact t_e fun he hS hH => he ▸ ⟨rfl, (ad_ hS (by kernel_rfl)), hH⟩
 refine t_if (fun hc5 => ?_) fun hc5 => ?_
 ·exact t_e fun he hS hH => he ▸ ⟨rfl, (ad_ hS (by kernel_rfl)), hH⟩
 refine t_RN ?_
 exact t_e fun he hS hH => he ▸ ⟨rfl, (ad_ hS (by kernel_rfl)), hH⟩
noncomputable def cD_ (a0 : (Sl DNamed)) (a1 : T) : Option Bool := (if flat1 a1 = true then ((aA_ (S := Int) (R := (Unit ⊕ Bool)) (fun st1 => (if (decide (st1 < (a0.l.length : Int))) = true then ((elt a0 st1).bind fun y2 => ((jd_ Try.prog md ext E_bool a1 [.agg (DNamed.cells y2)]).bind fun y3 => (if (!y3) = true then (some (.inr (.inr false))) else (some (.inl (w4 (st1 + 1))))))) else (some (.inr (.inl ()))))) 0).bind fun y1 => (Sum.elim (fun y1 => (some true)) (fun y1 => (some y1)) y1)) else none)
theorem gl_ (a0 : (Sl DNamed)) (a1 : T) (r : Bool) (h : cD_ a0 a1 = some r) : cF_ a0 a1 = some r := by
 unfold cD_ at h
 obtain ⟨hf_a1, h⟩ := jh_ h
 refine k_W ok_125 E_bool_inj h (fun σ0 => ?_) (hf := (all_cons (by kernel_rfl) (all_cons (ll_ hf_a1) all_nil)))
 refine t_RN ?_
 refine t_RN ?_
 refine a2_ (fun st1 fr => Sub [(1, a1), (7, a0.t), (8, i4 (a0.l.length : Int)), (9, i4 st1)] fr.s ∧ Heap σ0 fr.σ []) (fun y1 e fr => (Sum.elim (fun y => e = (.exit 0) ∧ Sub [] fr.s ∧ Heap σ0 fr.σ []) (fun y => e = .ret ∧ endW Try.prog (Try.f125.results.toList) σ0 (E_bool y) .ret fr)) y1) (fun hS hH => ⟨(ad_ hS (by kernel_rfl)), hH⟩) (fun st1 x fr h HI => ?_) fun y1 e fr h HF => ?_
 ·obtain ⟨s, σ⟩ := fr; obtain ⟨hS, hH⟩ := HI
  refine t_bk h hS hH ?_
  refine t_RN ?_
  refine t_if (fun hc1 => ?_) fun hc1 => ?_
  ·refine t_R ?_
   refine cw_ fun y2 rest1 hy2 => ?_
   refine t_U 1 ?_
   refine cc_ fun b1 => ?_
   refine aU_ 0 ?_
   refine t_N ?_
   refine t_RU 1 ?_
   refine ae_ 0 ?_
   refine nU_ fun y3 hy3 => ?_
   refine t_N ?_
   refine t_if (fun hc2 => ?_) fun hc2 => ?_
   ·refine t_RN ?_
    exact t_e fun he hS hH => he ▸ ⟨rfl, (eW hS hH (rT rN) E_bool_p)⟩
   refine t_RN ?_
   exact t_e fun he hS hH => he ▸ ⟨(ad_ hS (by kernel_rfl)), (Heap.sel hH [] rfl (by kernel_rfl))⟩
  exact t_e fun he hS hH => he ▸ ⟨rfl, (ad_ hS (by kernel_rfl)), hH⟩
 obtain ⟨s, σ⟩ := fr
 rcases y1 with y1 | y1
 ·have h := el_l h
  obtain ⟨rfl, hS, hH⟩ := HF
  refine t_bx h hS hH ?_
  refine t_RN ?_
  exact k_eW (rT rN) E_bool_p
 have h := el_r h
 obtain ⟨rfl, HE⟩ := HF
 obtain rfl := si_1 h; exact HE
noncomputable def c7_ (a0 : DNamed) : Option Bool := ((dM_ a0.Name).bind fun y1 => (if y1 = true then ((bs_ a0.Pattern).bind fun y2 => (some y2)) else (some false)))
theorem gU_ (a0 : DNamed) (r : Bool) (h : c7_ a0 = some r) : de_ a0 = some r := by
 unfold c7_ at h
 refine k_W ok_126 E_bool_inj h (fun σ0 => ?_)
 refine t_R ?_
 refine ct_ (fun b1 => ?_)
 refine t_N ?_
 refine t_RU 1 ?_
 refine ae_ 0 ?_
 refine ar_ fun y1 hy1 => ?_
 refine t_U 1 ?_
 refine aH_ 6 (fun hc1 => ?_) fun hc1 => ?_
 ·refine t_U 1 ?_
  refine ae_ 0 ?_
  refine ar_ fun y2 hy2 => ?_
  refine t_N ?_
  exact k_eW (rT rN) E_bool_p
 refine t_N ?_
 exact k_eW (rT rN) E_bool_p
noncomputable def e2_ (a0 : ByteArray) : Option Bool := (if (decide (1 ≤ (a0.size : Int))) = true then (if (decide ((a0.size : Int) ≤ 12)) = true then ((aO_ a0 0).bind fun y1 => ((cS_ y1).bind fun y2 => (if y2 = true then ((jY_ a0).bind fun y3 => ((eh_ y3 (T.fn 161 [] [])).bind fun y4 => (some y4))) else (some false)))) else (some false)) else (some false))
theorem jb_ (a0 : ByteArray) (r : Bool) (h : e2_ a0 = some r) : dM_ a0 = some r := by
 unfold e2_ at h
 refine k_W ok_127 E_bool_inj h (fun σ0 => ?_)
 refine t_RN ?_
 refine t_RU 4 ?_
 refine aH_ 6 (fun hc1 => ?_) fun hc1 => ?_
 ·refine t_U 5 ?_
  refine aH_ 11 (fun hc2 => ?_) fun hc2 => ?_
  ·refine t_U 1 ?_
   refine dn_ fun y1 hy1 => ?_
   refine ar_ fun y2 hy2 => ?_
   refine t_U 2 ?_
   refine aH_ 16 (fun hc3 => ?_) fun hc3 => ?_
   ·refine t_U 1 ?_
    intro h s σ hS hH
    obtain ⟨y3, hy3, h⟩ := bind_some h
    refine to_ (e := 5) rfl hS hH rfl (by kernel_rfl) (by kernel_rfl) (by kernel_rfl) hy3 ?_; intro t1 σ s ht1 hH hS
    refine t_bk h hS hH ?_
    refine jD_ (fun y4 hy4 => ?_) (hh := by exact HC.of (HL.own rfl (HL.leaf (fun σ d => l5_ (by first | assumption | rfl)) HL.nil)))
    refine t_N ?_
    exact k_eW (rT rN) E_bool_p
   refine t_N ?_
   exact k_eW (rT rN) E_bool_p
  refine t_N ?_
  exact k_eW (rT rN) E_bool_p
 refine t_N ?_
 exact k_eW (rT rN) E_bool_p
noncomputable def dE_ (a0 : (Sl DNamed)) (a1 : ByteArray) : Option (DPattern × Bool) := ((((aA_ (S := Int) (R := (Unit ⊕ Int)) (fun st1 => (if (decide (st1 < (a0.l.length : Int))) = true then ((elt a0 st1).bind fun y3 => (if (decide (y3.Name = a1)) = true then (some (.inr (.inr st1))) else (some (.inl (w4 (st1 + 1)))))) else (some (.inr (.inl ()))))) 0).bind fun y2 => (Sum.elim (fun y2 => (some (-1))) (fun y2 => (some y2)) y2)) : Option Int).bind fun y1 => (if (decide (y1 < 0)) = true then (some ((⟨0, 0, ⟨#[]⟩, ⟨true, []⟩⟩ : DPattern), false)) else ((elt a0 y1).bind fun y4 => (some (y4.Pattern, true)))))
theorem go_ (a0 : (Sl DNamed)) (a1 : ByteArray) (r : (DPattern × Bool)) (h : dE_ a0 a1 = some r) : dK_ a0 a1 = some r := by
 unfold dE_ at h
 refine k_W ok_128 E_t2_DPattern_bool_inj h (fun σ0 => ?_)
 refine t_R ?_
 refine ct_ (fun b1 => ?_)
 refine cc_ fun b2 => ?_
 refine t_N ?_
 refine t_RU 2 ?_
 refine eL_ (fun y1 s σ => Sub [(0, a0.t), (4, .ptr b2 0 0 4), (9, i4 y1)] s ∧ Heap σ0 σ [.box b2 [i4 0, i4 0, .str ⟨#[]⟩, (nt DPattern)]]) ok_140 (fun y1 => ?_) fun y1 s σ HF h => ?_
 ·refine t_RN ?_
  refine t_RN ?_
  refine a2_ (fun st1 fr => Sub [(0, a0.t), (1, T.fn 162 [] [.ptr b1 0 0 1]), (7, i4 (a0.l.length : Int)), (8, i4 st1)] fr.s ∧ Heap σ0 fr.σ [.box b2 [i4 0, i4 0, .str ⟨#[]⟩, (nt DPattern)], .box b1 [.str a1]]) (fun y2 e fr => (Sum.elim (fun y => e = (.exit 0) ∧ Sub [] fr.s ∧ Heap σ0 fr.σ [.box b2 [i4 0, i4 0, .str ⟨#[]⟩, (nt DPattern)]]) (fun y => e = .ret ∧ Sub [(4, i4 y)] fr.s ∧ Heap σ0 fr.σ [.box b2 [i4 0, i4 0, .str ⟨#[]⟩, (nt DPattern)]])) y2) (fun hS hH => ⟨(ad_ hS (by kernel_rfl)), hH⟩) (fun st1 x fr h HI => ?_) fun y2 e fr h HF => ?_
  ·obtain ⟨s, σ⟩ := fr; obtain ⟨hS, hH⟩ := HI
   refine t_bk h hS hH ?_
   refine t_RN ?_
   refine t_if (fun hc1 => ?_) fun hc1 => ?_
   ·refine t_RN ?_
    refine t_RU 3 ?_
    refine cw_ fun y3 rest1 hy3 => ?_
    refine t_U 1 ?_
    refine dx_ ok_162 ?_
    refine t_R ?_
    refine ct_ (fun b3 => ?_)
    refine t_N ?_
    refine t_RU 1 ?_
    refine ae_ 0 ?_
    refine ae_ 2 ?_
    refine t_N ?_
    refine k_eI (rT rN) ?_
    refine t_N ?_
    refine t_if (fun hc2 => ?_) fun hc2 => ?_
    ·refine t_RN ?_
     exact t_e fun he hS hH => he ▸ ⟨rfl, (ad_ hS (by kernel_rfl)), (Heap.sel hH [1] rfl (by kernel_rfl))⟩
    refine t_RN ?_
    exact t_e fun he hS hH => he ▸ ⟨(ad_ hS (by kernel_rfl)), (Heap.sel hH [1, 2] rfl (by kernel_rfl))⟩
   exact t_e fun he hS hH => he ▸ ⟨rfl, (ad_ hS (by kernel_rfl)), (Heap.sel hH [0] rfl (by kernel_rfl))⟩
  obtain ⟨s, σ⟩ := fr
  rcases y2 with y2 | y2
  ·have h := el_l h
   obtain ⟨rfl, hS, hH⟩ := HF
   refine t_bx h hS hH ?_
   refine t_RN ?_
   exact b8_ (rT rN) fun he hS hH => he ▸ ⟨(ad_ hS (by kernel_rfl)), hH⟩
  have h := el_r h
  obtain ⟨rfl, hS, hH⟩ := HF
  refine t_bx h hS hH ?_
  exact b8_ (rT rN) fun he hS hH => he ▸ ⟨(ad_ hS (by kernel_rfl)), hH⟩
 obtain ⟨hS, hH⟩ := HF
 refine t_bk h hS hH ?_
 refine t_N ?_
 refine t_RN ?_
 refine t_if (fun hc3 => ?_) fun hc3 => ?_
 ·refine t_RU 1 ?_
  refine aU_ 0 ?_
  refine t_N ?_
  exact k_eW (rC 0 (rT rN)) E_t2_DPattern_bool_p
 refine t_RU 2 ?_
 refine cw_ fun y4 rest2 hy4 => ?_
 refine t_U 2 ?_
 refine aU_ 0 ?_
 refine t_N ?_
 exact k_eW (rC 0 (rT rN)) E_t2_DPattern_bool_p
noncomputable def cC_ (a0 : ByteArray) (a1 : ByteArray) : Option Bool := ((a8_ a0 a1).bind fun y1 => (some y1))
theorem gg_ (a0 : ByteArray) (a1 : ByteArray) (r : Bool) (h : cC_ a0 a1 = some r) : cG_ a0 a1 = some r := by
 unfold cC_ at h
 refine k_W ok_130 E_bool_inj h (fun σ0 => ?_)
 refine t_RN ?_
 refine t_RU 2 ?_
 refine ar_ fun y1 hy1 => ?_
 refine t_N ?_
 exact k_eW (rT rN) E_bool_p
noncomputable def eE_ (a0 : Int) : Option (ByteArray × ByteArray) := (if (decide (a0 = 2)) = true then (some (⟨#[97, 110, 121]⟩, ⟨#[115]⟩)) else (if (decide (a0 = 3)) = true then (some (⟨#[110, 111, 116, 97, 110, 121]⟩, ⟨#[115]⟩)) else (if (decide (a0 = 4)) = true then (some (⟨#[115, 112, 97, 110]⟩, ⟨#[115]⟩)) else (if (decide (a0 = 5)) = true then (some (⟨#[98, 114, 101, 97, 107]⟩, ⟨#[115]⟩)) else (if (decide (a0 = 6)) = true then (some (⟨#[108, 101, 110]⟩, ⟨#[110]⟩)) else (if (decide (a0 = 7)) = true then (some (⟨#[112, 111, 115]⟩, ⟨#[110]⟩)) else (if (decide (a0 = 8)) = true then (some (⟨#[114, 112, 111, 115]⟩, ⟨#[110]⟩)) else (if (decide (a0 = 9)) = true then (some (⟨#[116, 97, 98]⟩, ⟨#[110]⟩)) else (if (decide (a0 = 10)) = true then (some (⟨#[114, 116, 97, 98]⟩, ⟨#[110]⟩)) else (if (decide (a0 = 11)) = true then (some (⟨#[114, 101, 109]⟩, ⟨#[]⟩)) else (if (decide (a0 = 12)) = true then (some (⟨#[97, 114, 98]⟩, ⟨#[]⟩)) else (if (decide (a0 = 13)) = true then (some (⟨#[98, 97, 108]⟩, ⟨#[]⟩)) else (if (decide (a0 = 14)) = true then (some (⟨#[102, 101, 110, 99, 101]⟩, ⟨#[]⟩)) else (if (decide (a0 = 15)) = true then (some (⟨#[97, 98, 111, 114, 116]⟩, ⟨#[]⟩)) else (if (decide (a0 = 16)) = true then (some (⟨#[102, 97, 105, 108]⟩, ⟨#[]⟩)) else (if (decide (a0 = 17)) = true then (some (⟨#[115, 117, 99, 99, 101, 101, 100]⟩, ⟨#[]⟩)) else (if (decide (a0 = 18)) = true then (some (⟨#[97, 108, 116]⟩, ⟨#[112, 112]⟩)) else (if (decide (a0 = 19)) = true then (some (⟨#[99, 97, 116]⟩, ⟨#[112, 112]⟩)) else (if (decide (a0 = 20)) = true then (some (⟨#[97, 114, 98, 110, 111]⟩, ⟨#[112]⟩)) else (if (decide (a0 = 21)) = true then (some (⟨#[99, 111, 110, 100]⟩, ⟨#[112, 120]⟩)) else (if (decide (a0 = 22)) = true then (some (⟨#[110, 111, 119]⟩, ⟨#[112, 120]⟩)) else (if (decide (a0 = 23)) = true then (some (⟨#[99, 117, 114, 115, 111, 114]⟩, ⟨#[120]⟩)) else (if (decide (a0 = 24)) = true then (some (⟨#[100, 101, 102, 101, 114]⟩, ⟨#[120]⟩)) else (some (⟨#[]⟩, ⟨#[]⟩)))))))))))))))))))))))))
theorem is_ (a0 : Int) (r : (ByteArray × ByteArray)) (h : eE_ a0 = some r) : fZ_ a0 = some r := by
 unfold eE_ at h
 refine k_W ok_133 E_t2_str_str_inj h (fun σ0 => ?_)
 refine t_RN ?_
 refine t_RN ?_
 refine t_RN ?_
 refine t_if (fun hc1 => ?_) fun hc1 => ?_
 ·refine t_RN ?_
  exact k_eW (rT (rT rN)) E_t2_str_str_p
 refine t_RN ?_
 refine t_if (fun hc2 => ?_) fun hc2 => ?_
 ·refine t_RN ?_
  exact k_eW (rT (rT rN)) E_t2_str_str_p
 refine t_RN ?_
 refine t_if (fun hc3 => ?_) fun hc3 => ?_
 ·refine t_RN ?_
  exact k_eW (rT (rT rN)) E_t2_str_str_p
 refine t_RN ?_
 refine t_if (fun hc4 => ?_) fun hc4 => ?_
 ·refine t_RN ?_
  exact k_eW (rT (rT rN)) E_t2_str_str_p
 refine t_RN ?_
 refine t_if (fun hc5 => ?_) fun hc5 => ?_
 ·refine t_RN ?_
  exact k_eW (rT (rT rN)) E_t2_str_str_p
 refine t_RN ?_
 refine t_if (fun hc6 => ?_) fun hc6 => ?_
 ·refine t_RN ?_
  exact k_eW (rT (rT rN)) E_t2_str_str_p
 refine t_RN ?_
 refine t_if (fun hc7 => ?_) fun hc7 => ?_
 ·refine t_RN ?_
  exact k_eW (rT (rT rN)) E_t2_str_str_p
 refine t_RN ?_
 refine t_if (fun hc8 => ?_) fun hc8 => ?_
 ·refine t_RN ?_
  exact k_eW (rT (rT rN)) E_t2_str_str_p
 refine t_RN ?_
 refine t_if (fun hc9 => ?_) fun hc9 => ?_
 ·refine t_RN ?_
  exact k_eW (rT (rT rN)) E_t2_str_str_p
 refine t_RN ?_
 refine t_if (fun hc10 => ?_) fun hc10 => ?_
 ·refine t_RN ?_
  exact k_eW (rT (rT rN)) E_t2_str_str_p
 refine t_RN ?_
 refine t_if (fun hc11 => ?_) fun hc11 => ?_
 ·refine t_RN ?_
  exact k_eW (rT (rT rN)) E_t2_str_str_p
 refine t_RN ?_
 refine t_if (fun hc12 => ?_) fun hc12 => ?_
 ·refine t_RN ?_
  exact k_eW (rT (rT rN)) E_t2_str_str_p
 refine t_RN ?_
 refine t_if (fun hc13 => ?_) fun hc13 => ?_
 ·refine t_RN ?_
  exact k_eW (rT (rT rN)) E_t2_str_str_p
 refine t_RN ?_
 refine t_if (fun hc14 => ?_) fun hc14 => ?_
 ·refine t_RN ?_
  exact k_eW (rT (rT rN)) E_t2_str_str_p
 refine t_RN ?_
 refine t_if (fun hc15 => ?_) fun hc15 => ?_
 ·refine t_RN ?_
  exact k_eW (rT (rT rN)) E_t2_str_str_p
 refine t_RN ?_
 refine t_if (fun hc16 => ?_) fun hc16 => ?_
 ·refine t_RN ?_
  exact k_eW (rT (rT rN)) E_t2_str_str_p
 refine t_RN ?_
 refine t_if (fun hc17 => ?_) fun hc17 => ?_
 ·refine t_RN ?_
  exact k_eW (rT (rT rN)) E_t2_str_str_p
 refine t_RN ?_
 refine t_if (fun hc18 => ?_) fun hc18 => ?_
 ·refine t_RN ?_
  exact k_eW (rT (rT rN)) E_t2_str_str_p
 refine t_RN ?_
 refine t_if (fun hc19 => ?_) fun hc19 => ?_
 ·refine t_RN ?_
  exact k_eW (rT (rT rN)) E_t2_str_str_p
 refine t_RN ?_
 refine t_if (fun hc20 => ?_) fun hc20 => ?_
 ·refine t_RN ?_
  exact k_eW (rT (rT rN)) E_t2_str_str_p
 refine t_RN ?_
 refine t_if (fun hc21 => ?_) fun hc21 => ?_
 ·refine t_RN ?_
  exact k_eW (rT (rT rN)) E_t2_str_str_p
 refine t_RN ?_
 refine t_if (fun hc22 => ?_) fun hc22 => ?_
 ·refine t_RN ?_
  exact k_eW (rT (rT rN)) E_t2_str_str_p
 refine t_RN ?_
 refine t_if (fun hc23 => ?_) fun hc23 => ?_
 ·refine t_RN ?_
  exact k_eW (rT (rT rN)) E_t2_str_str_p
 refine t_RN ?_
 exact k_eW (rT (rT rN)) E_t2_str_str_p
noncomputable def eB_ (a0 : DPattern) : Option Bool := ((b9_ a0.Kind 1 24).bind fun y1 => (if (!y1) = true then (some false) else ((b4_ a0.Kind).bind fun y2 => (if (!decide ((a0.Kids.l.length : Int) = y2.1)) = true then (some false) else (if (decide (y2.2 = (⟨#[115]⟩ : ByteArray))) = true then (if (decide (a0.Num = 0)) = true then (if (decide ((a0.Text.size : Int) ≤ 200)) = true then (if (decide (a0.Kind = 1)) = true then (some true) else (some (!decide (a0.Text = (⟨#[]⟩ : ByteArray))))) else (some false)) else (some false)) else (if (decide (y2.2 = (⟨#[110]⟩ : ByteArray))) = true then (if (decide (a0.Text = (⟨#[]⟩ : ByteArray))) = true then ((b9_ a0.Num 0 200).bind fun y3 => (some y3)) else (some false)) else (if (decide (y2.2 = (⟨#[120]⟩ : ByteArray))) = true then (if (decide (a0.Num = 0)) = true then ((dF_ a0.Text).bind fun y4 => (some y4)) else (some false)) else (if (decide (a0.Num = 0)) = true then (some (decide (a0.Text = (⟨#[]⟩ : ByteArray)))) else (some false)))))))))
theorem il_ (a0 : DPattern) (r : Bool) (h : eB_ a0 = some r) : ez_ a0 = some r := by
 unfold eB_ at h
 refine k_W ok_136 E_bool_inj h (fun σ0 => ?_)
 refine t_R ?_
 refine ct_ (fun b1 => ?_)
 refine t_N ?_
 refine t_RU 1 ?_
 refine ae_ 0 ?_
 refine ar_ fun y1 hy1 => ?_
 refine t_N ?_
 refine t_if (fun hc1 => ?_) fun hc1 => ?_
 ·refine t_RN ?_
  exact k_eW (rT rN) E_bool_p
 refine t_RU 1 ?_
 refine ae_ 0 ?_
 refine ar_ fun y2 hy2 => ?_
 refine t_N ?_
 refine t_RU 1 ?_
 refine ae_ 0 ?_
 refine t_N ?_
 refine t_if (fun hc2 => ?_) fun hc2 => ?_
 ·refine t_RN ?_
  exact k_eW (rT rN) E_bool_p
 refine t_RN ?_
 refine t_RN ?_
 refine t_if (fun hc3 => ?_) fun hc3 => ?_
 ·refine t_RU 1 ?_
  refine ae_ 0 ?_
  refine t_U 2 ?_
  refine aH_ 26 (fun hc4 => ?_) fun hc4 => ?_
  ·refine t_U 1 ?_
   refine ae_ 0 ?_
   refine t_U 4 ?_
   refine aH_ 32 (fun hc5 => ?_) fun hc5 => ?_
   ·refine t_U 1 ?_
    refine ae_ 0 ?_
    refine t_U 2 ?_
    refine aH_ 36 (fun hc6 => ?_) fun hc6 => ?_
    ·refine t_N ?_
     exact k_eW (rT rN) E_bool_p
    refine t_U 1 ?_
    refine ae_ 0 ?_
    refine t_N ?_
    exact k_eW (rT rN) E_bool_p
   refine t_N ?_
   exact k_eW (rT rN) E_bool_p
  refine t_N ?_
  exact k_eW (rT rN) E_bool_p
 refine t_RN ?_
 refine t_if (fun hc7 => ?_) fun hc7 => ?_
 ·refine t_RU 1 ?_
  refine ae_ 0 ?_
  refine t_U 2 ?_
  refine aH_ 47 (fun hc8 => ?_) fun hc8 => ?_
  ·refine t_U 1 ?_
   refine ae_ 0 ?_
   refine ar_ fun y3 hy3 => ?_
   refine t_N ?_
   exact k_eW (rT rN) E_bool_p
  refine t_N ?_
  exact k_eW (rT rN) E_bool_p
 refine t_RN ?_
 refine t_if (fun hc9 => ?_) fun hc9 => ?_
 ·refine t_RU 1 ?_
  refine ae_ 0 ?_
  refine t_U 2 ?_
  refine aH_ 57 (fun hc10 => ?_) fun hc10 => ?_
  ·refine t_U 1 ?_
   refine ae_ 0 ?_
   refine ar_ fun y4 hy4 => ?_
   refine t_N ?_
   exact k_eW (rT rN) E_bool_p
  refine t_N ?_
  exact k_eW (rT rN) E_bool_p
 refine t_RU 1 ?_
 refine ae_ 0 ?_
 refine t_U 2 ?_
 refine aH_ 65 (fun hc11 => ?_) fun hc11 => ?_
 ·refine t_U 1 ?_
  refine ae_ 0 ?_
  refine t_N ?_
  exact k_eW (rT rN) E_bool_p
 refine t_N ?_
 exact k_eW (rT rN) E_bool_p
noncomputable def dV_ (a0 : ByteArray) (a1 : Int) (a2 : Int) : Option Int := ((aA_ (S := (Int × Int)) (R := (Unit ⊕ Int)) (fun st1 => (if (decide (st1.2 < (a0.size : Int))) = true then ((aO_ a0 st1.2).bind fun y2 => (((if (decide (y2 = 40)) = true then (some (w4 (st1.1 + 1))) else (if (decide (y2 = 41)) = true then (some (w4 (st1.1 - 1))) else (some st1.1))) : Option Int).bind fun y3 => (if (decide (y3 < 0)) = true then (some (.inr (.inr (-1)))) else (if (decide (y3 = 0)) = true then (if (decide (a2 < (w4 (st1.2 + 1)))) = true then (some (.inr (.inr (w4 (st1.2 + 1))))) else (some (.inl (y3, (w4 (st1.2 + 1)))))) else (some (.inl (y3, (w4 (st1.2 + 1))))))))) else (some (.inr (.inl ()))))) (0, a1)).bind fun y1 => (Sum.elim (fun y1 => (some (-1))) (fun y1 => (some y1)) y1))
theorem h8_ (a0 : ByteArray) (a1 : Int) (a2 : Int) (r : Int) (h : dV_ a0 a1 a2 = some r) : bw_ a0 a1 a2 = some r := by
 unfold dV_ at h
 refine k_W ok_138 E_i64_inj h (fun σ0 => ?_)
 refine t_RN ?_
 refine t_RN ?_
 refine t_RN ?_
 refine a2_ (fun st1 fr => Sub [(0, .str a0), (2, i4 a2), (7, i4 st1.1), (8, i4 st1.2)] fr.s ∧ Heap σ0 fr.σ []) (fun y1 e fr => (Sum.elim (fun y => e = (.exit 0) ∧ Sub [] fr.s ∧ Heap σ0 fr.σ []) (fun y => e = .ret ∧ endW Try.prog (Try.f138.results.toList) σ0 (E_i64 y) .ret fr)) y1) (fun hS hH => ⟨(ad_ hS (by kernel_rfl)), hH⟩) (fun st1 x fr h HI => ?_) fun y1 e fr h HF => ?_
 ·obtain ⟨s, σ⟩ := fr; obtain ⟨hS, hH⟩ := HI
  refine t_bk h hS hH ?_
  refine t_RN ?_
  refine t_if (fun hc1 => ?_) fun hc1 => ?_
  ·refine t_RU 2 ?_
   refine dn_ fun y2 hy2 => ?_
   refine t_N ?_
   refine dA_ 2 (fun y3 e fr => e = .normal ∧ Sub [(0, .str a0), (2, i4 a2), (7, i4 y3), (8, i4 st1.2)] fr.s ∧ Heap σ0 fr.σ []) (fun y3 e fr h HF => ?_) fun y3 => ?_
   ·obtain ⟨s, σ⟩ := fr
    obtain ⟨rfl, hS, hH⟩ := HF
    refine t_bx h hS hH ?_
    refine t_RN ?_
    refine t_if (fun hc2 => ?_) fun hc2 => ?_
    ·refine t_RN ?_
     exact t_e fun he hS hH => he ▸ ⟨rfl, (eW hS hH (rT rN) E_i64_p)⟩
    refine t_RU 3 ?_
    refine aH_ 31 (fun hc3 => ?_) fun hc3 => ?_
    ·refine t_N ?_
     refine t_if (fun hc4 => ?_) fun hc4 => ?_
     ·refine t_RN ?_
      exact t_e fun he hS hH => he ▸ ⟨rfl, (eW hS hH (rT rN) E_i64_p)⟩
     refine t_RN ?_
     exact t_e fun he hS hH => he ▸ ⟨(ad_ hS (by kernel_rfl)), hH⟩
    refine t_N ?_
    refine t_cF ff_ne ?_
    refine t_RN ?_
    exact t_e fun he hS hH => he ▸ ⟨(ad_ hS (by kernel_rfl)), hH⟩
   refine t_RN ?_
   refine t_if (fun hc5 => ?_) fun hc5 => ?_
   ·refine t_RN ?_
    exact t_e fun he hS hH => he ▸ ⟨rfl, (ad_ hS (by kernel_rfl)), hH⟩
   refine t_RN ?_
   refine t_if (fun hc6 => ?_) fun hc6 => ?_
   ·refine t_RN ?_
    exact t_e fun he hS hH => he ▸ ⟨rfl, (ad_ hS (by kernel_rfl)), hH⟩
   exact t_e fun he hS hH => he ▸ ⟨rfl, (ad_ hS (by kernel_rfl)), hH⟩
  exact t_e fun he hS hH => he ▸ ⟨rfl, (ad_ hS (by kernel_rfl)), hH⟩
 obtain ⟨s, σ⟩ := fr
 rcases y1 with y1 | y1
 ·have h := el_l h
  obtain ⟨rfl, hS, hH⟩ := HF
  refine t_bx h hS hH ?_
  refine t_RN ?_
  exact k_eW (rT rN) E_i64_p
 have h := el_r h
 obtain ⟨rfl, HE⟩ := HF
 obtain rfl := si_1 h; exact HE

noncomputable def dJ_ (a0 : Int) (a1 : Int) (a2 : ByteArray) (a3 : ByteArray) (a4 : Int) : Option Int := (((((if (decide (a0 = 1)) = true then ((subB a3 a4 (a3.size : Int)).bind fun y3 => ((cG_ y3 a2).bind fun y4 => (if y4 = true then (some (.inr (w4 (a4 + (a2.size : Int))))) else (some (.inl ()))))) else (((if (decide (a0 = 2)) = true then (some (decide (a0 = 2))) else (some (decide (a0 = 3)))) : Option Bool).bind fun y5 => (if y5 = true then (if (decide (a4 < (a3.size : Int))) = true then ((aO_ a3 a4).bind fun y6 => ((bf_ y6 a2).bind fun y7 => (if (y7 == (decide (a0 = 2))) = true then (some (.inr (w4 (a4 + 1)))) else (some (.inl ()))))) else (some (.inl ()))) else (if (decide (a0 = 4)) = true then ((aA_ (S := Int) (R := Int) (fun st1 => (if (decide (st1 < (a3.size : Int))) = true then ((aO_ a3 st1).bind fun y9 => ((bf_ y9 a2).bind fun y10 => (if y10 = true then (some (.inl (w4 (st1 + 1)))) else (some (.inr st1))))) else (some (.inr st1)))) a4).bind fun y8 => (if (decide (0 < (w4 (y8 - a4)))) = true then (some (.inr (w4 (a4 + (w4 (y8 - a4)))))) else (some (.inl ())))) else (if (decide (a0 = 5)) = true then ((aA_ (S := Int) (R := Int) (fun st2 => (if (decide (st2 < (a3.size : Int))) = true then ((aO_ a3 st2).bind fun y12 => ((bf_ y12 a2).bind fun y13 => (if (!y13) = true then (some (.inl (w4 (st2 + 1)))) else (some (.inr st2))))) else (some (.inr st2)))) a4).bind fun y11 => (if ((decide ((w4 (a4 + (w4 (y11 - a4)))) < (a3.size : Int)))) = true then (some (.inr (w4 (a4 + (w4 (y11 - a4)))))) else (some (.inl ())))) else (if (decide (a0 = 6)) = true then (if ((decide ((w4 (a4 + a1)) ≤ (a3.size : Int)))) = true then (some (.inr (w4 (a4 + a1)))) else (some (.inl ()))) else (((if (decide (a0 = 7)) = true then (some (decide (a0 = 7))) else (some (decide (a0 = 8)))) : Option Bool).bind fun y14 => (if y14 = true then ((dg_ a1 (a3.size : Int) (decide (a0 = 8))).bind fun y15 => (if (decide (a4 = y15)) = true then (some (.inr a4)) else (some (.inl ())))) else (((if (decide (a0 = 9)) = true then (some (decide (a0 = 9))) else (some (decide (a0 = 10)))) : Option Bool).bind fun y16 => (if y16 = true then ((dg_ a1 (a3.size : Int) (decide (a0 = 10))).bind fun y17 => (if (decide (a4 ≤ y17)) = true then (if (decide (y17 ≤ (a3.size : Int))) = true then (some (.inr y17)) else (some (.inl ()))) else (some (.inl ())))) else (if (decide (a0 = 11)) = true then (some (.inr (a3.size : Int))) else (some (.inl ()))))))))))))) : Option (Unit ⊕ Int)).bind fun y2 => (Sum.elim (fun y2 => (some (.inl ()))) (fun y2 => (some (.inr y2))) y2)) : Option (Unit ⊕ Int)).bind fun y1 => (Sum.elim (fun y1 => (some (-1))) (fun y1 => (some y1)) y1))
theorem jr_ (a0 : Int) (a1 : Int) (a2 : ByteArray) (a3 : ByteArray) (a4 : Int) (r : Int) (h : dJ_ a0 a1 a2 a3 a4 = some r) : dN_ a0 a1 a2 a3 a4 = some r := by
 unfold dJ_ at h
 refine k_W ok_144 E_i64_inj h (fun σ0 => ?_)
 refine t_R ?_
 refine ct_ (fun b1 => ?_)
 refine t_N ?_
 refine t_RN ?_
 refine t_RU 1 ?_
 refine cc_ fun b2 => ?_
 refine aG_ 0 ?_
 refine t_N ?_
 refine t_RN ?_
 refine dA_ 2 (fun y1 e fr => (Sum.elim (fun y => e = .normal ∧ Sub [] fr.s ∧ Heap σ0 fr.σ []) (fun y => e = .ret ∧ endW Try.prog (Try.f144.results.toList) σ0 (E_i64 y) .ret fr)) y1) (fun y1 e fr h HF => ?_) fun y1 => ?_
 ·obtain ⟨s, σ⟩ := fr
  rcases y1 with y1 | y1
  ·have h := el_l h
   obtain ⟨rfl, hS, hH⟩ := HF
   refine t_bx h hS hH ?_
   refine t_RN ?_
   exact k_eW (rT rN) E_i64_p
  have h := el_r h
  obtain ⟨rfl, HE⟩ := HF
  obtain rfl := si_1 h; exact HE
 refine t_RN ?_
 refine dA_ 0 (fun y2 e fr => (Sum.elim (fun y => e = .normal ∧ Sub [] fr.s ∧ Heap σ0 fr.σ []) (fun y => e = .ret ∧ endW Try.prog (Try.f144.results.toList) σ0 (E_i64 y) .ret fr)) y2) (fun y2 e fr h HF => ?_) fun y2 => ?_
 ·obtain ⟨s, σ⟩ := fr
  rcases y2 with y2 | y2
  ·have h := el_l h
   obtain ⟨rfl, hS, hH⟩ := HF
   refine t_bx h hS hH ?_
   exact t_e fun he hS hH => he ▸ ⟨rfl, (ad_ hS (by kernel_rfl)), hH⟩
  have h := el_r h
  obtain ⟨rfl, HE⟩ := HF
  obtain rfl := si_1 h; exact ⟨rfl, HE⟩
 refine t_if (fun hc1 => ?_) fun hc1 => ?_
 ·refine t_D fun mb => ?_
  refine t_U 2 ?_
  refine h1_ fun y3 hy3 => ?_
  refine ae_ 1 ?_
  refine ar_ fun y4 hy4 => ?_
  refine t_N ?_
  refine t_if (fun hc2 => ?_) fun hc2 => ?_
  ·refine t_RU 1 ?_
   refine ae_ 1 ?_
   refine t_N ?_
   exact t_e fun he hS hH => he ▸ ⟨rfl, (eW hS hH (rT rN) E_i64_p)⟩
  exact t_e fun he hS hH => he ▸ ⟨rfl, (ad_ hS (by kernel_rfl)), (Heap.sel hH [] rfl (by kernel_rfl))⟩
 refine t_RN ?_
 refine dA_ 0 (fun y5 e fr => e = .normal ∧ Sub [(0, i4 a0), (3, .str a3), (4, i4 a4), (11, i4 (a3.size : Int)), (12, i4 a1), (13, .ptr b2 0 0 1), (21, i4 a0), (33, .bool y5)] fr.s ∧ Heap σ0 fr.σ [.box b2 [T.fn 170 [] [.ptr b1 0 0 1]], .box b1 [.str a2]]) (fun y5 e fr h HF => ?_) fun y5 => ?_
 ·obtain ⟨s, σ⟩ := fr
  obtain ⟨rfl, hS, hH⟩ := HF
  refine t_bx h hS hH ?_
  refine t_if (fun hc3 => ?_) fun hc3 => ?_
  ·refine t_D fun mb => ?_
   refine t_U 4 ?_
   refine aH_ 39 (fun hc4 => ?_) fun hc4 => ?_
   ·refine ae_ 0 ?_
    refine t_U 2 ?_
    refine dn_ fun y6 hy6 => ?_
    intro h s σ hS hH
    obtain ⟨y7, hy7, h⟩ := bind_some h
    refine js_ (xs := [.int .u8 y6]) (cs := [[.str a2]]) [b1] rfl hS rfl rfl rfl (⟨(Heap.lent (hH.at 1 rfl)), trivial⟩) hy7 ?_ rfl; intro s hS
    refine t_bk h hS hH ?_
    refine t_N ?_
    refine t_if (fun hc5 => ?_) fun hc5 => ?_
    ·refine t_RN ?_
     exact t_e fun he hS hH => he ▸ ⟨rfl, (eW hS hH (rT rN) E_i64_p)⟩
    exact t_e fun he hS hH => he ▸ ⟨rfl, (ad_ hS (by kernel_rfl)), (Heap.sel hH [] rfl (by kernel_rfl))⟩
   refine t_N ?_
   refine t_cF ff_ne ?_
   exact t_e fun he hS hH => he ▸ ⟨rfl, (ad_ hS (by kernel_rfl)), (Heap.sel hH [] rfl (by kernel_rfl))⟩
  refine t_RN ?_
  refine t_if (fun hc6 => ?_) fun hc6 => ?_
  ·refine t_RU 2 ?_
   refine ae_ 0 ?_
   refine dx_ ok_172 ?_
   refine t_RN ?_
   refine t_RN ?_
   refine a2_ (fun st1 fr => Sub [(0, .str a3), (1, i4 a4), (2, T.fn 170 [] [.ptr b1 0 0 1]), (7, i4 st1)] fr.s ∧ Heap σ0 fr.σ [.box b1 [.str a2]]) (fun y8 e fr => e = (.exit 0) ∧ Sub [(1, i4 a4), (7, i4 y8)] fr.s ∧ Heap σ0 fr.σ []) (fun hS hH => ⟨(ad_ hS (by kernel_rfl)), (Heap.sel hH [1] rfl (by kernel_rfl))⟩) (fun st1 x fr h HI => ?_) fun y8 e fr h HF => ?_
   ·obtain ⟨s, σ⟩ := fr; obtain ⟨hS, hH⟩ := HI
    refine t_bk h hS hH ?_
    refine t_RU 5 ?_
    refine aH_ 13 (fun hc7 => ?_) fun hc7 => ?_
    ·refine t_U 3 ?_
     refine dn_ fun y9 hy9 => ?_
     intro h s σ hS hH
     obtain ⟨y10, hy10, h⟩ := bind_some h
     refine js_ (xs := [.int .u8 y9]) (cs := [[.str a2]]) [b1] rfl hS rfl rfl rfl (⟨(Heap.lent hH), trivial⟩) hy10 ?_ rfl; intro s hS
     refine t_bk h hS hH ?_
     refine t_N ?_
     refine t_if (fun hc8 => ?_) fun hc8 => ?_
     ·refine t_RN ?_
      exact t_e fun he hS hH => he ▸ ⟨(ad_ hS (by kernel_rfl)), hH⟩
     exact t_e fun he hS hH => he ▸ ⟨rfl, (ad_ hS (by kernel_rfl)), (Heap.sel hH [] rfl (by kernel_rfl))⟩
    refine t_N ?_
    refine t_cF ff_ne ?_
    exact t_e fun he hS hH => he ▸ ⟨rfl, (ad_ hS (by kernel_rfl)), (Heap.sel hH [] rfl (by kernel_rfl))⟩
   obtain ⟨s, σ⟩ := fr
   obtain ⟨rfl, hS, hH⟩ := HF
   refine t_bx h hS hH ?_
   refine t_RN ?_
   refine k_eI (rT rN) ?_
   refine t_N ?_
   refine t_RN ?_
   refine t_if (fun hc9 => ?_) fun hc9 => ?_
   ·refine t_RN ?_
    exact t_e fun he hS hH => he ▸ ⟨rfl, (eW hS hH (rT rN) E_i64_p)⟩
   exact t_e fun he hS hH => he ▸ ⟨rfl, (ad_ hS (by kernel_rfl)), hH⟩
  refine t_RN ?_
  refine t_if (fun hc10 => ?_) fun hc10 => ?_
  ·refine t_RU 4 ?_
   refine dx_ ok_172 ?_
   refine t_RN ?_
   refine t_RN ?_
   refine a2_ (fun st2 fr => Sub [(0, .str a3), (1, i4 a4), (2, T.fn 173 [] [.ptr b2 0 0 1]), (7, i4 st2)] fr.s ∧ Heap σ0 fr.σ [.box b2 [T.fn 170 [] [.ptr b1 0 0 1]], .box b1 [.str a2]]) (fun y11 e fr => e = (.exit 0) ∧ Sub [(1, i4 a4), (7, i4 y11)] fr.s ∧ Heap σ0 fr.σ []) (fun hS hH => ⟨(ad_ hS (by kernel_rfl)), hH⟩) (fun st2 x fr h HI => ?_) fun y11 e fr h HF => ?_
   ·obtain ⟨s, σ⟩ := fr; obtain ⟨hS, hH⟩ := HI
    refine t_bk h hS hH ?_
    refine t_RU 5 ?_
    refine aH_ 13 (fun hc11 => ?_) fun hc11 => ?_
    ·refine t_U 3 ?_
     refine dn_ fun y12 hy12 => ?_
     refine dx_ ok_173 ?_
     refine t_RN ?_
     refine t_R ?_
     refine ae_ 0 ?_
     refine t_U 1 ?_
     intro h s σ hS hH
     obtain ⟨y13, hy13, h⟩ := bind_some h
     refine js_ (xs := [.int .u8 y12]) (cs := [[.str a2]]) [b1] rfl hS rfl rfl rfl (⟨(Heap.lent (hH.at 1 rfl)), trivial⟩) hy13 ?_ rfl; intro s hS
     refine t_bk h hS hH ?_
     refine t_N ?_
     refine k_eI (rT rN) ?_
     refine t_N ?_
     refine t_if (fun hc12 => ?_) fun hc12 => ?_
     ·refine t_RN ?_
      exact t_e fun he hS hH => he ▸ ⟨(ad_ hS (by kernel_rfl)), hH⟩
     exact t_e fun he hS hH => he ▸ ⟨rfl, (ad_ hS (by kernel_rfl)), (Heap.sel hH [] rfl (by kernel_rfl))⟩
    refine t_N ?_
    refine t_cF ff_ne ?_
    exact t_e fun he hS hH => he ▸ ⟨rfl, (ad_ hS (by kernel_rfl)), (Heap.sel hH [] rfl (by kernel_rfl))⟩
   obtain ⟨s, σ⟩ := fr
   obtain ⟨rfl, hS, hH⟩ := HF
   refine t_bx h hS hH ?_
   refine t_RN ?_
   refine k_eI (rT rN) ?_
   refine t_N ?_
   refine t_RN ?_
   refine t_if (fun hc13 => ?_) fun hc13 => ?_
   ·refine t_RN ?_
    exact t_e fun he hS hH => he ▸ ⟨rfl, (eW hS hH (rT rN) E_i64_p)⟩
   exact t_e fun he hS hH => he ▸ ⟨rfl, (ad_ hS (by kernel_rfl)), hH⟩
  refine t_RN ?_
  refine t_if (fun hc14 => ?_) fun hc14 => ?_
  ·refine t_RN ?_
   refine t_if (fun hc15 => ?_) fun hc15 => ?_
   ·refine t_RN ?_
    exact t_e fun he hS hH => he ▸ ⟨rfl, (eW hS hH (rT rN) E_i64_p)⟩
   exact t_e fun he hS hH => he ▸ ⟨rfl, (ad_ hS (by kernel_rfl)), (Heap.sel hH [] rfl (by kernel_rfl))⟩
  refine t_RN ?_
  refine dA_ 0 (fun y14 e fr => e = .normal ∧ Sub [(0, i4 a0), (4, i4 a4), (11, i4 (a3.size : Int)), (12, i4 a1), (21, i4 a0), (84, .bool y14)] fr.s ∧ Heap σ0 fr.σ []) (fun y14 e fr h HF => ?_) fun y14 => ?_
  ·obtain ⟨s, σ⟩ := fr
   obtain ⟨rfl, hS, hH⟩ := HF
   refine t_bx h hS hH ?_
   refine t_if (fun hc16 => ?_) fun hc16 => ?_
   ·refine t_RU 5 ?_
    refine ar_ fun y15 hy15 => ?_
    refine t_N ?_
    refine t_if (fun hc17 => ?_) fun hc17 => ?_
    ·refine t_RN ?_
     exact t_e fun he hS hH => he ▸ ⟨rfl, (eW hS hH (rT rN) E_i64_p)⟩
    exact t_e fun he hS hH => he ▸ ⟨rfl, (ad_ hS (by kernel_rfl)), hH⟩
   refine t_RN ?_
   refine dA_ 0 (fun y16 e fr => e = .normal ∧ Sub [(0, i4 a0), (4, i4 a4), (11, i4 (a3.size : Int)), (12, i4 a1), (21, i4 a0), (95, .bool y16)] fr.s ∧ Heap σ0 fr.σ []) (fun y16 e fr h HF => ?_) fun y16 => ?_
   ·obtain ⟨s, σ⟩ := fr
    obtain ⟨rfl, hS, hH⟩ := HF
    refine t_bx h hS hH ?_
    refine t_if (fun hc18 => ?_) fun hc18 => ?_
    ·refine t_RU 4 ?_
     refine ar_ fun y17 hy17 => ?_
     refine t_N ?_
     refine t_RU 4 ?_
     refine aH_ 106 (fun hc19 => ?_) fun hc19 => ?_
     ·refine t_N ?_
      refine t_if (fun hc20 => ?_) fun hc20 => ?_
      ·refine t_RN ?_
       exact t_e fun he hS hH => he ▸ ⟨rfl, (eW hS hH (rT rN) E_i64_p)⟩
      exact t_e fun he hS hH => he ▸ ⟨rfl, (ad_ hS (by kernel_rfl)), hH⟩
     refine t_N ?_
     refine t_cF ff_ne ?_
     exact t_e fun he hS hH => he ▸ ⟨rfl, (ad_ hS (by kernel_rfl)), hH⟩
    refine t_RN ?_
    refine t_if (fun hc21 => ?_) fun hc21 => ?_
    ·refine t_RN ?_
     exact t_e fun he hS hH => he ▸ ⟨rfl, (eW hS hH (rT rN) E_i64_p)⟩
    exact t_e fun he hS hH => he ▸ ⟨rfl, (ad_ hS (by kernel_rfl)), hH⟩
   refine t_if (fun hc22 => ?_) fun hc22 => ?_
   ·exact t_e fun he hS hH => he ▸ ⟨rfl, (ad_ hS (by kernel_rfl)), hH⟩
   refine t_RN ?_
   exact t_e fun he hS hH => he ▸ ⟨rfl, (ad_ hS (by kernel_rfl)), hH⟩
  refine t_if (fun hc23 => ?_) fun hc23 => ?_
  ·exact t_e fun he hS hH => he ▸ ⟨rfl, (ad_ hS (by kernel_rfl)), (Heap.sel hH [] rfl (by kernel_rfl))⟩
  refine t_RN ?_
  exact t_e fun he hS hH => he ▸ ⟨rfl, (ad_ hS (by kernel_rfl)), (Heap.sel hH [] rfl (by kernel_rfl))⟩
 refine t_if (fun hc24 => ?_) fun hc24 => ?_
 ·exact t_e fun he hS hH => he ▸ ⟨rfl, (ad_ hS (by kernel_rfl)), hH⟩
 refine t_RN ?_
 exact t_e fun he hS hH => he ▸ ⟨rfl, (ad_ hS (by kernel_rfl)), hH⟩
noncomputable def cK_ (a0 : (Sl (Sl DCapture))) : Option (Sl DCapture) := ((aA_ (S := (Int × Int)) (R := Int) (fun st1 => (if (decide (st1.2 < (a0.l.length : Int))) = true then ((elt a0 st1.2).bind fun y2 => (if (decide ((w4 (st1.1 + (y2.l.length : Int))) < 0)) = true then none else (some (.inl ((w4 (st1.1 + (y2.l.length : Int))), (w4 (st1.2 + 1))))))) else (some (.inr st1.1)))) (0, 0)).bind fun y1 => (((if (decide (y1 < 0)) = true then none else (some ())) : Option Unit).bind fun y3 => (if (decide (0 < (w4 (y1 - (w4 (0 - 0)))))) = true then ((nT_ 48 ((⟨⟨#[]⟩, ⟨#[]⟩, 0, 0⟩ : DCapture) : DCapture) (w4 (y1 - (w4 (0 - 0))))).bind fun y5 => ((if (!decide (y5.l.length = 0)) = true then some () else none).bind fun y6 => ((aA_ (S := (Int × (Sl DCapture))) (R := (Sl DCapture)) (fun st2 => (if (decide (st2.1 < (a0.l.length : Int))) = true then ((elt a0 st2.1).bind fun y8 => ((appS 48 st2.2 y8).bind fun y9 => (some (.inl ((w4 (st2.1 + 1)), y9))))) else (some (.inr st2.2)))) (0, (⟨false, []⟩ : Sl DCapture))).bind fun y7 => (if (y7.z || !decide (y7.l.length = 0)) = true then (some y7) else none)))) else ((aA_ (S := (Int × (Sl DCapture))) (R := (Sl DCapture)) (fun st3 => (if (decide (st3.1 < (a0.l.length : Int))) = true then ((elt a0 st3.1).bind fun y11 => ((appS 48 st3.2 y11).bind fun y12 => (some (.inl ((w4 (st3.1 + 1)), y12))))) else (some (.inr st3.2)))) (0, (⟨true, []⟩ : Sl DCapture))).bind fun y10 => (some y10)))))
theorem i7_ (a0 : (Sl (Sl DCapture))) (r : (Sl DCapture)) (h : cK_ a0 = some r) : cR_ a0 = some r := by
 unfold cK_ at h
 refine k_O ok_145 h (fun σ0 => ?_)
 refine t_RN ?_
 refine t_RN ?_
 refine t_RN ?_
 refine a2_ (fun st1 fr => Sub [(0, a0.t), (3, i4 st1.1), (9, a0.t), (10, i4 (a0.l.length : Int)), (11, i4 st1.2)] fr.s ∧ Heap σ0 fr.σ []) (fun y1 e fr => e = (.exit 0) ∧ Sub [(0, a0.t), (3, i4 y1)] fr.s ∧ Heap σ0 fr.σ []) (fun hS hH => ⟨(ad_ hS (by kernel_rfl)), hH⟩) (fun st1 x fr h HI => ?_) fun y1 e fr h HF => ?_
 ·obtain ⟨s, σ⟩ := fr; obtain ⟨hS, hH⟩ := HI
  refine t_bk h hS hH ?_
  refine t_RN ?_
  refine t_if (fun hc1 => ?_) fun hc1 => ?_
  ·refine t_R ?_
   refine cw_ fun y2 rest1 hy2 => ?_
   refine t_N ?_
   refine t_RN ?_
   refine t_RN ?_
   refine t_if (fun hc2 => ?_) fun hc2 => ?_
   ·exact t_no
   refine t_RN ?_
   exact t_e fun he hS hH => he ▸ ⟨(ad_ hS (by kernel_rfl)), hH⟩
  exact t_e fun he hS hH => he ▸ ⟨rfl, (ad_ hS (by kernel_rfl)), hH⟩
 obtain ⟨s, σ⟩ := fr
 obtain ⟨rfl, hS, hH⟩ := HF
 refine t_bx h hS hH ?_
 refine t_RU 1 ?_
 refine dx_ ok_175 ?_
 refine t_RN ?_
 refine t_RN ?_
 refine dA_ 0 (fun y3 e fr => e = .normal ∧ Sub [(0, (nt DCapture)), (1, i4 y1)] fr.s ∧ Heap σ0 fr.σ []) (fun y3 e fr h HF => ?_) fun y3 => ?_
 ·obtain ⟨s, σ⟩ := fr
  obtain ⟨rfl, hS, hH⟩ := HF
  refine t_bx h hS hH ?_
  refine t_RU 2 ?_
  intro h s σ hS hH
  refine pf_ rfl hS rfl (by kernel_rfl) ?_; intro s hS
  refine t_bk h hS hH ?_
  refine t_N ?_
  refine t_RN ?_
  refine t_if (fun hc3 => ?_) fun hc3 => ?_
  ·refine t_RU 2 ?_
   intro h s σ hS hH
   refine pf_ rfl hS rfl (by kernel_rfl) ?_; intro s hS
   refine oQ_ (w := (⟨true, []⟩ : Sl DCapture)) (y := ⟨true, []⟩) (e := 157) (vlo := none) (vhi := (some (T.int .i64 0))) (a := 0) (b := 0) rfl hS rfl rfl rfl rfl rfl (by kernel_rfl) (by kernel_rfl) rfl ?_; intro s hS
   refine t_bk h hS hH ?_
   refine t_U 1 ?_
   intro h s σ hS hH
   obtain ⟨y5, hy5, h⟩ := bind_some h
   refine rz_ (z := true) (e := 157) (by_ := 48) (x0 := ((⟨⟨#[]⟩, ⟨#[]⟩, 0, 0⟩ : DCapture) : DCapture)) (fun σ d => by simp [Enc.cells, DCapture.cells, Iv]) rfl hS hH rfl rfl (by kernel_rfl) (by kernel_rfl) (by kernel_rfl) (by kernel_rfl) (by kernel_rfl) hy5 ?_; intro t1 σ s ht1 hH hS
   refine t_bk h hS hH ?_
   refine t_U 2 ?_
   intro h s σ hS hH
   obtain ⟨y6, hy6, h⟩ := bind_some h
   obtain ⟨hg1, _⟩ := jh_ hy6
   refine ov_ (a := y5) (e := 157) rfl hS hH rfl rfl (by kernel_rfl) (by kernel_rfl) (by kernel_rfl) hg1 ?_; intro t2 s ht2 hH hS
   have hH : Heap σ0 σ [.frt true 4 t2 (Sl.t (⟨false, []⟩ : Sl DCapture))] := hH
   refine t_bk h hS hH ?_
   refine t_N ?_
   refine t_RN ?_
   refine k_eI (rT rN) ?_
   refine t_N ?_
   refine t_RN ?_
   refine a2_ (fun st2 fr => ∃ t4, am_ t4 ∧ Sub [(6, t4), (25, a0.t), (26, i4 (a0.l.length : Int)), (27, i4 st2.1)] fr.s ∧ Heap σ0 fr.σ [.frt true 4 t4 st2.2.t]) (fun y7 e fr => ∃ t5, am_ t5 ∧ e = (.exit 2) ∧ Sub [(6, t5)] fr.s ∧ Heap σ0 fr.σ [.frt true 4 t5 y7.t]) (fun hS hH => ⟨t2, ht2, (ad_ hS (by kernel_rfl)), hH⟩) (fun st2 x fr h HI => ?_) fun y7 e fr h HF => ?_
   ·obtain ⟨s, σ⟩ := fr; obtain ⟨t4, ht4, ⟨hS, hH⟩⟩ := HI
    refine t_bk h hS hH ?_
    refine t_RN ?_
    refine t_if (fun hc4 => ?_) fun hc4 => ?_
    ·refine t_R ?_
     refine cw_ fun y8 rest2 hy8 => ?_
     refine t_N ?_
     refine t_RU 2 ?_
     intro h s σ hS hH
     obtain ⟨y9, hy9, h⟩ := bind_some h
     refine qY_ (z := true) (t1 := t4) (a := st2.2) (b := y8) (e := 157) (by_ := 48) (zc := [.str ⟨#[]⟩, .str ⟨#[]⟩, i4 0, i4 0]) rfl hS hH rfl rfl (by kernel_rfl) (by kernel_rfl) (by kernel_rfl) (by kernel_rfl) (by kernel_rfl) (by kernel_rfl) hy9 ?_; intro t6 σ s ht6 hH hS
     refine t_bk h hS hH ?_
     refine t_N ?_
     refine t_RN ?_
     exact t_e fun he hS hH => he ▸ ⟨t6, ht6, (ad_ hS (by kernel_rfl)), hH⟩
    exact t_e fun he hS hH => he ▸ ⟨t4, ht4, rfl, (ad_ hS (by kernel_rfl)), hH⟩
   obtain ⟨s, σ⟩ := fr
   obtain ⟨t5, ht5, ⟨rfl, hS, hH⟩⟩ := HF
   refine t_bx h hS hH ?_
   refine t_RN ?_
   intro h s σ hS hH
   obtain ⟨hg2, h⟩ := jh_ h
   have hH := Heap.ofFrt (a := y7) hH hg2
   have hH : Heap σ0 σ [.own true 4 t5 y7.t] := hH
   refine t_bk h hS hH ?_
   exact k_eO [t5] (rT rN)
  refine t_RN ?_
  refine k_eI (rT rN) ?_
  refine t_N ?_
  refine t_RN ?_
  refine t_h (Heap.addNil · true 4) ?_
  refine a2_ (fun st3 fr => ∃ t8, am_ t8 ∧ Sub [(6, t8), (25, a0.t), (26, i4 (a0.l.length : Int)), (27, i4 st3.1)] fr.s ∧ Heap σ0 fr.σ [.own true 4 t8 st3.2.t]) (fun y10 e fr => ∃ t9, am_ t9 ∧ e = (.exit 2) ∧ Sub [(6, t9)] fr.s ∧ Heap σ0 fr.σ [.own true 4 t9 y10.t]) (fun hS hH => ⟨(T.row true 0 []), ⟨rfl, rfl⟩, (ad_ hS (by kernel_rfl)), hH⟩) (fun st3 x fr h HI => ?_) fun y10 e fr h HF => ?_
  ·obtain ⟨s, σ⟩ := fr; obtain ⟨t8, ht8, ⟨hS, hH⟩⟩ := HI
   refine t_bk h hS hH ?_
   refine t_RN ?_
   refine t_if (fun hc5 => ?_) fun hc5 => ?_
   ·refine t_R ?_
    refine cw_ fun y11 rest3 hy11 => ?_
    refine t_N ?_
    refine t_RU 2 ?_
    refine oV_ 0 (fun y12 t10 hy12 ht10 => ?_)
    refine t_N ?_
    refine t_RN ?_
    exact t_e fun he hS hH => he ▸ ⟨t10, ht10, (ad_ hS (by kernel_rfl)), hH⟩
   exact t_e fun he hS hH => he ▸ ⟨t8, ht8, rfl, (ad_ hS (by kernel_rfl)), hH⟩
  obtain ⟨s, σ⟩ := fr
  obtain ⟨t9, ht9, ⟨rfl, hS, hH⟩⟩ := HF
  refine t_bx h hS hH ?_
  refine t_RN ?_
  exact k_eO [t9] (rT rN)
 refine t_if (fun hc6 => ?_) fun hc6 => ?_
 ·exact t_no
 exact t_e fun he hS hH => ⟨rfl, (ad_ hS (by kernel_rfl)), hH⟩
noncomputable def e1_ (a0 : ByteArray) : Option Bool := (if (!decide (a0 = (⟨#[]⟩ : ByteArray))) = true then (if (decide ((a0.size : Int) ≤ 12)) = true then ((dc_ a0 0).bind fun y1 => (some (decide (y1 = (a0.size : Int))))) else (some false)) else (some false))
theorem jE_ (a0 : ByteArray) (r : Bool) (h : e1_ a0 = some r) : dF_ a0 = some r := by
 unfold e1_ at h
 refine k_W ok_147 E_bool_inj h (fun σ0 => ?_)
 refine t_RN ?_
 refine t_RU 3 ?_
 refine aH_ 5 (fun hc1 => ?_) fun hc1 => ?_
 ·refine t_U 5 ?_
  refine aH_ 10 (fun hc2 => ?_) fun hc2 => ?_
  ·refine t_U 1 ?_
   refine ar_ fun y1 hy1 => ?_
   refine t_N ?_
   exact k_eW (rT rN) E_bool_p
  refine t_N ?_
  exact k_eW (rT rN) E_bool_p
 refine t_N ?_
 exact k_eW (rT rN) E_bool_p

end Go.Am
