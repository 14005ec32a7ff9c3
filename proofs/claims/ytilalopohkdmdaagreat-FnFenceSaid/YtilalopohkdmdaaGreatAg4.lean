/- Functions of the program. -/
import Derived.Test.YtilalopohkdmdaaGreatAd0
import Derived.Test.YtilalopohkdmdaaGreatAg1
import Derived.Test.YtilalopohkdmdaaGreatAg3
set_option maxRecDepth 100000
set_option maxHeartbeats 4000000
set_option linter.unusedVariables false
set_option linter.unusedSimpArgs false
namespace Go.Am
open Go.Proofs
noncomputable def ej_ (a0 : (Sl DNamed)) : Option Bool := (if (decide (40 < (a0.l.length : Int))) = true then (some false) else ((aD_ (S := Int) (R := (Unit ⊕ Bool)) (fun st1 => (if (decide (st1 < (a0.l.length : Int))) = true then ((elt a0 st1).bind fun y2 => ((dS_ y2.Name).bind fun y3 => (if (!y3) = true then (some (.inr (.inr false))) else ((elt a0 st1).bind fun y4 => ((b7_ y4.Pattern).bind fun y5 => (if (!y5) = true then (some (.inr (.inr false))) else ((aD_ (S := Int) (R := (Unit ⊕ Bool)) (fun st2 => (if (decide (st2 < st1)) = true then ((elt a0 st2).bind fun y7 => ((elt a0 st1).bind fun y8 => (if (decide (y7.Name = y8.Name)) = true then (some (.inr (.inr false))) else (some (.inl (w4 (st2 + 1))))))) else (some (.inr (.inl ()))))) 0).bind fun y6 => (Sum.elim (fun y6 => (some (.inl (w4 (st1 + 1))))) (fun y6 => (some (.inr (.inr y6)))) y6)))))))) else (some (.inr (.inl ()))))) 0).bind fun y1 => (Sum.elim (fun y1 => (some true)) (fun y1 => (some y1)) y1)))
theorem ik_ (a0 : (Sl DNamed)) (r : Bool) (h : ej_ a0 = some r) : d6_ a0 = some r := by
 unfold ej_ at h
 refine k_W ok_73 E_bool_inj h (fun σ0 => ?_)
 refine t_RN ?_
 refine t_RN ?_
 refine t_if (fun hc1 => ?_) fun hc1 => ?_
 ·refine t_RN ?_
  exact k_eW (rT rN) E_bool_p
 refine t_RN ?_
 refine a9_ (fun st1 fr => Sub [(0, a0.t), (3, i4 st1)] fr.s ∧ Heap σ0 fr.σ []) (fun y1 e fr => (Sum.elim (fun y => e = (.exit 0) ∧ Sub [] fr.s ∧ Heap σ0 fr.σ []) (fun y => e = .ret ∧ endW Tryz.prog (Tryz.f73.results.toList) σ0 (E_bool y) .ret fr)) y1) (fun hS hH => ⟨(ae_ hS (by kernel_rfl)), hH⟩) (fun st1 x fr h HI => ?_) fun y1 e fr h HF => ?_
 ·obtain ⟨s, σ⟩ := fr; obtain ⟨hS, hH⟩ := HI
  refine t_bk h hS hH ?_
  refine t_RN ?_
  refine t_if (fun hc2 => ?_) fun hc2 => ?_
  ·refine t_RU 2 ?_
   refine cb_ fun y2 rest1 hy2 => ?_
   refine t_U 2 ?_
   refine ay_ fun y3 hy3 => ?_
   refine t_U 2 ?_
   refine aQ_ 21 (fun hc3 => ?_) fun hc3 => ?_
   ·refine t_N ?_
    refine t_cT rfl ?_
    refine t_RN ?_
    exact t_e fun he hS hH => he ▸ ⟨rfl, (eW hS hH (rT rN) E_bool_p)⟩
   refine t_U 2 ?_
   refine cb_ fun y4 rest2 hy4 => ?_
   refine t_U 2 ?_
   refine ay_ fun y5 hy5 => ?_
   refine t_N ?_
   refine t_if (fun hc4 => ?_) fun hc4 => ?_
   ·refine t_RN ?_
    exact t_e fun he hS hH => he ▸ ⟨rfl, (eW hS hH (rT rN) E_bool_p)⟩
   refine t_RN ?_
   refine a9_ (fun st2 fr => Sub [(0, a0.t), (3, i4 st1), (4, i4 st2)] fr.s ∧ Heap σ0 fr.σ []) (fun y6 e fr => (Sum.elim (fun y => e = (.exit 2) ∧ Sub [(0, a0.t), (3, i4 st1)] fr.s ∧ Heap σ0 fr.σ []) (fun y => e = .ret ∧ endW Tryz.prog (Tryz.f73.results.toList) σ0 (E_bool y) .ret fr)) y6) (fun hS hH => ⟨(ae_ hS (by kernel_rfl)), hH⟩) (fun st2 x fr h HI => ?_) fun y6 e fr h HF => ?_
   ·obtain ⟨s, σ⟩ := fr; obtain ⟨hS, hH⟩ := HI
    refine t_bk h hS hH ?_
    refine t_RN ?_
    refine t_if (fun hc5 => ?_) fun hc5 => ?_
    ·refine t_D fun mb => ?_
     refine t_U 2 ?_
     refine cb_ fun y7 rest3 hy7 => ?_
     refine t_U 4 ?_
     refine cb_ fun y8 rest4 hy8 => ?_
     refine t_N ?_
     refine t_if (fun hc6 => ?_) fun hc6 => ?_
     ·refine t_RN ?_
      exact t_e fun he hS hH => he ▸ ⟨rfl, (eW hS hH (rT rN) E_bool_p)⟩
     refine t_RN ?_
     exact t_e fun he hS hH => he ▸ ⟨(ae_ hS (by kernel_rfl)), hH⟩
    exact t_e fun he hS hH => he ▸ ⟨rfl, (ae_ hS (by kernel_rfl)), hH⟩
   obtain ⟨s, σ⟩ := fr
   rcases y6 with y6 | y6
   ·have h := el_l h
    obtain ⟨rfl, hS, hH⟩ := HF
    refine t_bx h hS hH ?_
    refine t_RN ?_
    exact t_e fun he hS hH => he ▸ ⟨(ae_ hS (by kernel_rfl)), hH⟩
   have h := el_r h
   obtain ⟨rfl, HE⟩ := HF
   obtain rfl := si_1 h; exact ⟨rfl, HE⟩
  exact t_e fun he hS hH => he ▸ ⟨rfl, (ae_ hS (by kernel_rfl)), hH⟩
 obtain ⟨s, σ⟩ := fr
 rcases y1 with y1 | y1
 ·have h := el_l h
  obtain ⟨rfl, hS, hH⟩ := HF
  refine t_bx h hS hH ?_
  refine t_RN ?_
  exact k_eW (rT rN) E_bool_p
 have h := el_r h
 obtain ⟨rfl, HE⟩ := HF
 obtain rfl := si_1 h; exact HE
noncomputable def cP_ (a0 : DPattern) : Option Bool := ((aX_ a0 60).bind fun y1 => (some (decide (0 < y1))))
theorem gt_ (a0 : DPattern) (r : Bool) (h : cP_ a0 = some r) : b7_ a0 = some r := by
 unfold cP_ at h
 refine k_W ok_74 E_bool_inj h (fun σ0 => ?_)
 refine t_R ?_
 refine cn_ (fun b1 => ?_)
 refine t_N ?_
 refine t_R ?_
 refine ad_ 0 ?_
 refine ay_ fun y1 hy1 => ?_
 refine t_N ?_
 exact k_eW (rT rN) E_bool_p
noncomputable def cR_ (a0 : (Sl DNamed)) (a1 : T) : Option Bool := (if flat1 a1 = true then ((aD_ (S := Int) (R := (Unit ⊕ Bool)) (fun st1 => (if (decide (st1 < (a0.l.length : Int))) = true then ((elt a0 st1).bind fun y2 => ((je_ Tryz.prog md ext E_bool a1 [.agg (DNamed.cells y2)]).bind fun y3 => (if (!y3) = true then (some (.inr (.inr false))) else (some (.inl (w4 (st1 + 1))))))) else (some (.inr (.inl ()))))) 0).bind fun y1 => (Sum.elim (fun y1 => (some true)) (fun y1 => (some y1)) y1)) else none)
theorem gu_ (a0 : (Sl DNamed)) (a1 : T) (r : Bool) (h : cR_ a0 a1 = some r) : cT_ a0 a1 = some r := by
 unfold cR_ at h
 obtain ⟨hf_a1, h⟩ := jw_ h
 refine k_W ok_75 E_bool_inj h (fun σ0 => ?_) (hf := (all_cons (by kernel_rfl) (all_cons (lM_ hf_a1) all_nil)))
 refine t_RN ?_
 refine t_RN ?_
 refine a9_ (fun st1 fr => Sub [(1, a1), (7, a0.t), (8, i4 (a0.l.length : Int)), (9, i4 st1)] fr.s ∧ Heap σ0 fr.σ []) (fun y1 e fr => (Sum.elim (fun y => e = (.exit 0) ∧ Sub [] fr.s ∧ Heap σ0 fr.σ []) (fun y => e = .ret ∧ endW Tryz.prog (Tryz.f75.results.toList) σ0 (E_bool y) .ret fr)) y1) (fun hS hH => ⟨(ae_ hS (by kernel_rfl)), hH⟩) (fun st1 x fr h HI => ?_) fun y1 e fr h HF => ?_
 ·obtain ⟨s, σ⟩ := fr; obtain ⟨hS, hH⟩ := HI
  refine t_bk h hS hH ?_
  refine t_RN ?_
  refine t_if (fun hc1 => ?_) fun hc1 => ?_
  ·refine t_R ?_
   refine cb_ fun y2 rest1 hy2 => ?_
   refine t_U 1 ?_
   refine bU_ fun b1 => ?_
   refine aU_ 0 ?_
   refine t_N ?_
   refine t_RU 1 ?_
   refine ad_ 0 ?_
   refine nI_ fun y3 hy3 => ?_
   refine t_N ?_
   refine t_if (fun hc2 => ?_) fun hc2 => ?_
   ·refine t_RN ?_
    exact t_e fun he hS hH => he ▸ ⟨rfl, (eW hS hH (rT rN) E_bool_p)⟩
   refine t_RN ?_
   exact t_e fun he hS hH => he ▸ ⟨(ae_ hS (by kernel_rfl)), (Heap.sel hH [] rfl (by kernel_rfl))⟩
  exact t_e fun he hS hH => he ▸ ⟨rfl, (ae_ hS (by kernel_rfl)), hH⟩
 obtain ⟨s, σ⟩ := fr
 rcases y1 with y1 | y1
 ·have h := el_l h
  obtain ⟨rfl, hS, hH⟩ := HF
  refine t_bx h hS hH ?_
  refine t_RN ?_
  exact k_eW (rT rN) E_bool_p
 have h := el_r h
 obtain ⟨rfl, HE⟩ := HF
 obtain rfl := si_1 h; exact HE
noncomputable def dm_ (a0 : DNamed) : Option Bool := ((d2_ a0.Name).bind fun y1 => (if y1 = true then ((b5_ a0.Pattern).bind fun y2 => (some y2)) else (some false)))
theorem g6_ (a0 : DNamed) (r : Bool) (h : dm_ a0 = some r) : dg_ a0 = some r := by
 unfold dm_ at h
 refine k_W ok_76 E_bool_inj h (fun σ0 => ?_)
 refine t_R ?_
 refine cn_ (fun b1 => ?_)
 refine t_N ?_
 refine t_RU 1 ?_
 refine ad_ 0 ?_
 refine ay_ fun y1 hy1 => ?_
 refine t_U 1 ?_
 refine aQ_ 6 (fun hc1 => ?_) fun hc1 => ?_
 ·refine t_U 1 ?_
  refine ad_ 0 ?_
  refine ay_ fun y2 hy2 => ?_
  refine t_N ?_
  exact k_eW (rT rN) E_bool_p
 refine t_N ?_
 exact k_eW (rT rN) E_bool_p
noncomputable def fc_ (a0 : ByteArray) : Option Bool := (if (decide (1 ≤ (a0.size : Int))) = true then (if (decide ((a0.size : Int) ≤ 12)) = true then ((aV_ a0 0).bind fun y1 => ((cX_ y1).bind fun y2 => (if y2 = true then ((kR_ a0).bind fun y3 => ((eB_ y3 (T.fn 88 [] [])).bind fun y4 => (some y4))) else (some false)))) else (some false)) else (some false))
theorem j1_ (a0 : ByteArray) (r : Bool) (h : fc_ a0 = some r) : d2_ a0 = some r := by
 unfold fc_ at h
 refine k_W ok_77 E_bool_inj h (fun σ0 => ?_)
 refine t_RN ?_
 refine t_RU 4 ?_
 refine aQ_ 6 (fun hc1 => ?_) fun hc1 => ?_
 ·refine t_U 5 ?_
  refine aQ_ 11 (fun hc2 => ?_) fun hc2 => ?_
  ·refine t_U 1 ?_
   refine dA_ fun y1 hy1 => ?_
   refine ay_ fun y2 hy2 => ?_
   refine t_U 2 ?_
   refine aQ_ 16 (fun hc3 => ?_) fun hc3 => ?_
   ·refine t_U 1 ?_
    intro h s σ hS hH
    obtain ⟨y3, hy3, h⟩ := bind_some h
    refine ug_ (e := 5) rfl hS hH rfl (by kernel_rfl) (by kernel_rfl) (by kernel_rfl) hy3 ?_; intro t1 σ s ht1 hH hS
    refine t_bk h hS hH ?_
    refine jv_ (fun y4 hy4 => ?_) (hh := by exact HC.of (HL.own rfl (HL.leaf (fun σ d => mI_ (by first | assumption | rfl)) HL.nil)))
    refine t_N ?_
    exact k_eW (rT rN) E_bool_p
   refine t_N ?_
   exact k_eW (rT rN) E_bool_p
  refine t_N ?_
  exact k_eW (rT rN) E_bool_p
 refine t_N ?_
 exact k_eW (rT rN) E_bool_p
noncomputable def dY_ (a0 : (Sl DNamed)) (a1 : ByteArray) : Option (DPattern × Bool) := ((((aD_ (S := Int) (R := (Unit ⊕ Int)) (fun st1 => (if (decide (st1 < (a0.l.length : Int))) = true then ((elt a0 st1).bind fun y3 => (if (decide (y3.Name = a1)) = true then (some (.inr (.inr st1))) else (some (.inl (w4 (st1 + 1)))))) else (some (.inr (.inl ()))))) 0).bind fun y2 => (Sum.elim (fun y2 => (some (-1))) (fun y2 => (some y2)) y2)) : Option Int).bind fun y1 => (if (decide (y1 < 0)) = true then (some ((⟨0, 0, ⟨#[]⟩, ⟨true, []⟩⟩ : DPattern), false)) else ((elt a0 y1).bind fun y4 => (some (y4.Pattern, true)))))
theorem g2_ (a0 : (Sl DNamed)) (a1 : ByteArray) (r : (DPattern × Bool)) (h : dY_ a0 a1 = some r) : d5_ a0 a1 = some r := by
 unfold dY_ at h
 refine k_W ok_78 E_t2_DPattern_bool_inj h (fun σ0 => ?_)
 refine t_R ?_
 refine cn_ (fun b1 => ?_)
 refine bU_ fun b2 => ?_
 refine t_N ?_
 refine t_RU 2 ?_
 refine e3_ (fun y1 s σ => Sub [(0, a0.t), (4, .ptr b2 0 0 4), (9, i4 y1)] s ∧ Heap σ0 σ [.box b2 [i4 0, i4 0, .str ⟨#[]⟩, (nt DPattern)]]) ok_89 (fun y1 => ?_) fun y1 s σ HF h => ?_
 ·refine t_RN ?_
  refine t_RN ?_
  refine a9_ (fun st1 fr => Sub [(0, a0.t), (1, T.fn 90 [] [.ptr b1 0 0 1]), (7, i4 (a0.l.length : Int)), (8, i4 st1)] fr.s ∧ Heap σ0 fr.σ [.box b2 [i4 0, i4 0, .str ⟨#[]⟩, (nt DPattern)], .box b1 [.str a1]]) (fun y2 e fr => (Sum.elim (fun y => e = (.exit 0) ∧ Sub [] fr.s ∧ Heap σ0 fr.σ [.box b2 [i4 0, i4 0, .str ⟨#[]⟩, (nt DPattern)]]) (fun y => e = .ret ∧ Sub [(4, i4 y)] fr.s ∧ Heap σ0 fr.σ [.box b2 [i4 0, i4 0, .str ⟨#[]⟩, (nt DPattern)]])) y2) (fun hS hH => ⟨(ae_ hS (by kernel_rfl)), hH⟩) (fun st1 x fr h HI => ?_) fun y2 e fr h HF => ?_
  ·obtain ⟨s, σ⟩ := fr; obtain ⟨hS, hH⟩ := HI
   refine t_bk h hS hH ?_
   refine t_RN ?_
   refine t_if (fun hc1 => ?_) fun hc1 => ?_
   ·refine t_RN ?_
    refine t_RU 3 ?_
    refine cb_ fun y3 rest1 hy3 => ?_
    refine t_U 1 ?_
    refine dI_ ok_90 ?_
    refine t_R ?_
    refine cn_ (fun b3 => ?_)
    refine t_N ?_
    refine t_RU 1 ?_
    refine ad_ 0 ?_
    refine ad_ 2 ?_
    refine t_N ?_
    refine k_eI (rT rN) ?_
    refine t_N ?_
    refine t_if (fun hc2 => ?_) fun hc2 => ?_
    ·refine t_RN ?_
     exact t_e fun he hS hH => he ▸ ⟨rfl, (ae_ hS (by kernel_rfl)), (Heap.sel hH [1] rfl (by kernel_rfl))⟩
    refine t_RN ?_
    exact t_e fun he hS hH => he ▸ ⟨(ae_ hS (by kernel_rfl)), (Heap.sel hH [1, 2] rfl (by kernel_rfl))⟩
   exact t_e fun he hS hH => he ▸ ⟨rfl, (ae_ hS (by kernel_rfl)), (Heap.sel hH [0] rfl (by kernel_rfl))⟩
  obtain ⟨s, σ⟩ := fr
  rcases y2 with y2 | y2
  ·have h := el_l h
   obtain ⟨rfl, hS, hH⟩ := HF
   refine t_bx h hS hH ?_
   refine t_RN ?_
   exact ct_ (rT rN) fun he hS hH => he ▸ ⟨(ae_ hS (by kernel_rfl)), hH⟩
  have h := el_r h
  obtain ⟨rfl, hS, hH⟩ := HF
  refine t_bx h hS hH ?_
  exact ct_ (rT rN) fun he hS hH => he ▸ ⟨(ae_ hS (by kernel_rfl)), hH⟩
 obtain ⟨hS, hH⟩ := HF
 refine t_bk h hS hH ?_
 refine t_N ?_
 refine t_RN ?_
 refine t_if (fun hc3 => ?_) fun hc3 => ?_
 ·refine t_RU 1 ?_
  refine aU_ 0 ?_
  refine t_N ?_
  exact k_eW (rC 0 (rT rN)) E_t2_DPattern_bool_p
 refine t_RU 2 ?_
 refine cb_ fun y4 rest2 hy4 => ?_
 refine t_U 2 ?_
 refine aU_ 0 ?_
 refine t_N ?_
 exact k_eW (rC 0 (rT rN)) E_t2_DPattern_bool_p
noncomputable def bD_ (a0 : DPattern) (a1 : Int) : Option Int := (if (decide (60 < (w4 (a1 + 1)))) = true then (some 61) else ((df_ a0.Kind a0.Num a0.Text).bind fun y1 => (if (!y1) = true then (some 61) else ((fv_ a0.Kind).bind fun y2 => (if (!decide ((a0.Kids.l.length : Int) = y2)) = true then (some 61) else ((aD_ (S := (Int × Int)) (R := Int) (fun st1 => (if (decide (st1.2 < (a0.Kids.l.length : Int))) = true then ((elt a0.Kids st1.2).bind fun y4 => ((aG_ y4 st1.1).bind fun y5 => (if (decide (60 < y5)) = true then (some (.inr y5)) else (some (.inl (y5, (w4 (st1.2 + 1)))))))) else (some (.inr st1.1)))) ((w4 (a1 + 1)), 0)).bind fun y3 => (some y3)))))))
theorem er_ (a0 : DPattern) (a1 : Int) (r : Int) (h : bD_ a0 a1 = some r) : aG_ a0 a1 = some r := by
 unfold bD_ at h
 refine k_W ok_79 E_i64_inj h (fun σ0 => ?_)
 refine t_R ?_
 refine cn_ (fun b1 => ?_)
 refine t_N ?_
 refine t_RN ?_
 refine t_D fun mb => ?_
 refine t_U 3 ?_
 refine aQ_ 11 (fun hc1 => ?_) fun hc1 => ?_
 ·refine t_N ?_
  refine t_cT rfl ?_
  refine t_RN ?_
  exact k_eW (rT rN) E_i64_p
 refine t_U 1 ?_
 refine ad_ 0 ?_
 refine t_U 1 ?_
 refine ad_ 0 ?_
 refine t_U 1 ?_
 refine ad_ 0 ?_
 refine ay_ fun y1 hy1 => ?_
 refine t_U 3 ?_
 refine aQ_ 21 (fun hc2 => ?_) fun hc2 => ?_
 ·refine t_N ?_
  refine t_cT rfl ?_
  refine t_RN ?_
  exact k_eW (rT rN) E_i64_p
 refine t_U 1 ?_
 refine ad_ 0 ?_
 refine t_U 2 ?_
 refine ad_ 0 ?_
 refine ay_ fun y2 hy2 => ?_
 refine t_N ?_
 refine t_if (fun hc3 => ?_) fun hc3 => ?_
 ·refine t_RN ?_
  exact k_eW (rT rN) E_i64_p
 refine t_RU 1 ?_
 refine ad_ 0 ?_
 refine t_N ?_
 refine a9_ (fun st1 fr => Sub [(1, i4 st1.1), (31, a0.Kids.t), (32, i4 (a0.Kids.l.length : Int)), (33, i4 st1.2)] fr.s ∧ Heap σ0 fr.σ []) (fun y3 e fr => e = (.exit 0) ∧ Sub [(1, i4 y3)] fr.s ∧ Heap σ0 fr.σ []) (fun hS hH => ⟨(ae_ hS (by kernel_rfl)), (Heap.sel hH [] rfl (by kernel_rfl))⟩) (fun st1 x fr h HI => ?_) fun y3 e fr h HF => ?_
 ·obtain ⟨s, σ⟩ := fr; obtain ⟨hS, hH⟩ := HI
  refine t_bk h hS hH ?_
  refine t_RN ?_
  refine t_if (fun hc4 => ?_) fun hc4 => ?_
  ·refine t_R ?_
   refine cb_ fun y4 rest1 hy4 => ?_
   refine t_U 1 ?_
   refine bU_ fun b2 => ?_
   refine aU_ 0 ?_
   refine t_N ?_
   refine t_R ?_
   refine ad_ 0 ?_
   refine t_U 1 ?_
   refine ay_ fun y5 hy5 => ?_
   refine t_N ?_
   refine t_RN ?_
   refine t_if (fun hc5 => ?_) fun hc5 => ?_
   ·exact t_e fun he hS hH => he ▸ ⟨rfl, (ae_ hS (by kernel_rfl)), (Heap.sel hH [] rfl (by kernel_rfl))⟩
   refine t_RN ?_
   exact t_e fun he hS hH => he ▸ ⟨(ae_ hS (by kernel_rfl)), (Heap.sel hH [] rfl (by kernel_rfl))⟩
  exact t_e fun he hS hH => he ▸ ⟨rfl, (ae_ hS (by kernel_rfl)), hH⟩
 obtain ⟨s, σ⟩ := fr
 obtain ⟨rfl, hS, hH⟩ := HF
 refine t_bx h hS hH ?_
 refine t_RN ?_
 exact k_eW (rT rN) E_i64_p
noncomputable def fq_ (a0 : ByteArray) : Option Bool := (if (!decide (a0 = (⟨#[]⟩ : ByteArray))) = true then (if (decide ((a0.size : Int) ≤ 12)) = true then ((di_ a0 0).bind fun y1 => (some (decide (y1 = (a0.size : Int))))) else (some false)) else (some false))
theorem jg_ (a0 : ByteArray) (r : Bool) (h : fq_ a0 = some r) : dS_ a0 = some r := by
 unfold fq_ at h
 refine k_W ok_84 E_bool_inj h (fun σ0 => ?_)
 refine t_RN ?_
 refine t_RU 3 ?_
 refine aQ_ 5 (fun hc1 => ?_) fun hc1 => ?_
 ·refine t_U 5 ?_
  refine aQ_ 10 (fun hc2 => ?_) fun hc2 => ?_
  ·refine t_U 1 ?_
   refine ay_ fun y1 hy1 => ?_
   refine t_N ?_
   exact k_eW (rT rN) E_bool_p
  refine t_N ?_
  exact k_eW (rT rN) E_bool_p
 refine t_N ?_
 exact k_eW (rT rN) E_bool_p
noncomputable def cq_ (a0 : DPattern) (a1 : Int) : Option Int := (if (decide (a1 < 1)) = true then (some (-1)) else ((eL_ a0).bind fun y1 => (if (!y1) = true then (some (-1)) else ((aD_ (S := (Int × Int)) (R := (Int ⊕ Int)) (fun st1 => (if (decide (st1.2 < (a0.Kids.l.length : Int))) = true then ((elt a0.Kids st1.2).bind fun y3 => ((aX_ y3 (w4 (a1 - st1.1))).bind fun y4 => (if (decide (y4 < 0)) = true then (some (.inr (.inr (-1)))) else (some (.inl ((w4 (st1.1 + y4)), (w4 (st1.2 + 1)))))))) else (some (.inr (.inl st1.1))))) (1, 0)).bind fun y2 => (Sum.elim (fun y2 => (some y2)) (fun y2 => (some y2)) y2)))))
theorem fL_ (a0 : DPattern) (a1 : Int) (r : Int) (h : cq_ a0 a1 = some r) : aX_ a0 a1 = some r := by
 unfold cq_ at h
 refine k_W ok_85 E_i64_inj h (fun σ0 => ?_)
 refine t_R ?_
 refine cn_ (fun b1 => ?_)
 refine t_N ?_
 refine t_RU 3 ?_
 refine aQ_ 10 (fun hc1 => ?_) fun hc1 => ?_
 ·refine t_N ?_
  refine t_cT rfl ?_
  refine t_RN ?_
  exact k_eW (rT rN) E_i64_p
 refine ad_ 0 ?_
 refine ay_ fun y1 hy1 => ?_
 refine t_N ?_
 refine t_if (fun hc2 => ?_) fun hc2 => ?_
 ·refine t_RN ?_
  exact k_eW (rT rN) E_i64_p
 refine t_RN ?_
 refine t_RN ?_
 refine a9_ (fun st1 fr => Sub [(1, i4 a1), (2, .ptr b1 0 0 4), (5, i4 st1.1), (6, i4 st1.2)] fr.s ∧ Heap σ0 fr.σ [.box b1 [i4 a0.Kind, i4 a0.Num, .str a0.Text, a0.Kids.t]]) (fun y2 e fr => (Sum.elim (fun y => e = (.exit 0) ∧ Sub [(5, i4 y)] fr.s ∧ Heap σ0 fr.σ []) (fun y => e = .ret ∧ endW Tryz.prog (Tryz.f85.results.toList) σ0 (E_i64 y) .ret fr)) y2) (fun hS hH => ⟨(ae_ hS (by kernel_rfl)), hH⟩) (fun st1 x fr h HI => ?_) fun y2 e fr h HF => ?_
 ·obtain ⟨s, σ⟩ := fr; obtain ⟨hS, hH⟩ := HI
  refine t_bk h hS hH ?_
  refine t_RU 2 ?_
  refine ad_ 0 ?_
  refine t_N ?_
  refine t_if (fun hc3 => ?_) fun hc3 => ?_
  ·refine t_RU 1 ?_
   refine ad_ 0 ?_
   refine t_U 1 ?_
   refine cb_ fun y3 rest1 hy3 => ?_
   refine t_U 4 ?_
   refine ay_ fun y4 hy4 => ?_
   refine t_N ?_
   refine t_RN ?_
   refine t_if (fun hc4 => ?_) fun hc4 => ?_
   ·refine t_RN ?_
    exact t_e fun he hS hH => he ▸ ⟨rfl, (eW hS hH (rT rN) E_i64_p)⟩
   refine t_RN ?_
   refine t_RN ?_
   exact t_e fun he hS hH => he ▸ ⟨(ae_ hS (by kernel_rfl)), hH⟩
  exact t_e fun he hS hH => he ▸ ⟨rfl, (ae_ hS (by kernel_rfl)), (Heap.sel hH [] rfl (by kernel_rfl))⟩
 obtain ⟨s, σ⟩ := fr
 rcases y2 with y2 | y2
 ·have h := el_l h
  obtain ⟨rfl, hS, hH⟩ := HF
  refine t_bx h hS hH ?_
  refine t_RN ?_
  exact k_eW (rT rN) E_i64_p
 have h := el_r h
 obtain ⟨rfl, HE⟩ := HF
 obtain rfl := si_1 h; exact HE
noncomputable def fS_ (a0 : Int) : Option Bool := (if (decide (65 ≤ a0)) = true then (if (decide (a0 ≤ 90)) = true then (some true) else (if (decide (97 ≤ a0)) = true then (some (decide (a0 ≤ 122))) else (some false))) else (if (decide (97 ≤ a0)) = true then (some (decide (a0 ≤ 122))) else (some false)))
theorem h6_ (a0 : Int) (r : Bool) (h : fS_ a0 = some r) : cX_ a0 = some r := by
 unfold fS_ at h
 refine k_W ok_86 E_bool_inj h (fun σ0 => ?_)
 refine t_RN ?_
 refine t_RU 3 ?_
 refine aQ_ 5 (fun hc1 => ?_) fun hc1 => ?_
 ·refine t_U 4 ?_
  refine aQ_ 9 (fun hc2 => ?_) fun hc2 => ?_
  ·refine t_N ?_
   exact k_eW (rT rN) E_bool_p
  refine t_U 3 ?_
  refine aQ_ 12 (fun hc3 => ?_) fun hc3 => ?_
  ·refine t_N ?_
   exact k_eW (rT rN) E_bool_p
  refine t_N ?_
  exact k_eW (rT rN) E_bool_p
 refine t_U 7 ?_
 refine aQ_ 12 (fun hc4 => ?_) fun hc4 => ?_
 ·refine t_N ?_
  exact k_eW (rT rN) E_bool_p
 refine t_N ?_
 exact k_eW (rT rN) E_bool_p
noncomputable def cY_ (a0 : (Sl (Iv .u8))) (a1 : T) : Option Bool := (if flat1 a1 = true then ((aD_ (S := Int) (R := (Unit ⊕ Bool)) (fun st1 => (if (decide (st1 < (a0.l.length : Int))) = true then ((elt a0 st1).bind fun y2 => ((je_ Tryz.prog md ext E_bool a1 [.int .u8 y2.v]).bind fun y3 => (if (!y3) = true then (some (.inr (.inr false))) else (some (.inl (w4 (st1 + 1))))))) else (some (.inr (.inl ()))))) 0).bind fun y1 => (Sum.elim (fun y1 => (some true)) (fun y1 => (some y1)) y1)) else none)
theorem g3_ (a0 : (Sl (Iv .u8))) (a1 : T) (r : Bool) (h : cY_ a0 a1 = some r) : eB_ a0 a1 = some r := by
 unfold cY_ at h
 obtain ⟨hf_a1, h⟩ := jw_ h
 refine k_W ok_87 E_bool_inj h (fun σ0 => ?_) (hf := (all_cons (by kernel_rfl) (all_cons (lM_ hf_a1) all_nil)))
 refine t_RN ?_
 refine t_RN ?_
 refine a9_ (fun st1 fr => Sub [(1, a1), (7, a0.t), (8, i4 (a0.l.length : Int)), (9, i4 st1)] fr.s ∧ Heap σ0 fr.σ []) (fun y1 e fr => (Sum.elim (fun y => e = (.exit 0) ∧ Sub [] fr.s ∧ Heap σ0 fr.σ []) (fun y => e = .ret ∧ endW Tryz.prog (Tryz.f87.results.toList) σ0 (E_bool y) .ret fr)) y1) (fun hS hH => ⟨(ae_ hS (by kernel_rfl)), hH⟩) (fun st1 x fr h HI => ?_) fun y1 e fr h HF => ?_
 ·obtain ⟨s, σ⟩ := fr; obtain ⟨hS, hH⟩ := HI
  refine t_bk h hS hH ?_
  refine t_RN ?_
  refine t_if (fun hc1 => ?_) fun hc1 => ?_
  ·refine t_R ?_
   refine cb_ fun y2 rest1 hy2 => ?_
   refine t_N ?_
   refine t_RU 2 ?_
   refine nI_ fun y3 hy3 => ?_
   refine t_N ?_
   refine t_if (fun hc2 => ?_) fun hc2 => ?_
   ·refine t_RN ?_
    exact t_e fun he hS hH => he ▸ ⟨rfl, (eW hS hH (rT rN) E_bool_p)⟩
   refine t_RN ?_
   exact t_e fun he hS hH => he ▸ ⟨(ae_ hS (by kernel_rfl)), hH⟩
  exact t_e fun he hS hH => he ▸ ⟨rfl, (ae_ hS (by kernel_rfl)), hH⟩
 obtain ⟨s, σ⟩ := fr
 rcases y1 with y1 | y1
 ·have h := el_l h
  obtain ⟨rfl, hS, hH⟩ := HF
  refine t_bx h hS hH ?_
  refine t_RN ?_
  exact k_eW (rT rN) E_bool_p
 have h := el_r h
 obtain ⟨rfl, HE⟩ := HF
 obtain rfl := si_1 h; exact HE
noncomputable def dk_ (a0 : Int) : Option Bool := ((cX_ a0).bind fun y1 => (if y1 = true then (some true) else ((eQ_ a0).bind fun y2 => (if y2 = true then (some true) else (some (decide (a0 = 95)))))))
theorem hi_ (a0 : Int) (r : Bool) (h : dk_ a0 = some r) : de_ a0 = some r := by
 unfold dk_ at h
 refine k_W ok_88 E_bool_inj h (fun σ0 => ?_)
 refine t_RN ?_
 refine t_RU 1 ?_
 refine ay_ fun y1 hy1 => ?_
 refine t_U 1 ?_
 refine aQ_ 5 (fun hc1 => ?_) fun hc1 => ?_
 ·refine t_N ?_
  exact k_eW (rT rN) E_bool_p
 refine t_U 1 ?_
 refine ay_ fun y2 hy2 => ?_
 refine t_U 2 ?_
 refine aQ_ 9 (fun hc2 => ?_) fun hc2 => ?_
 ·refine t_N ?_
  exact k_eW (rT rN) E_bool_p
 refine t_N ?_
 exact k_eW (rT rN) E_bool_p
noncomputable def db_ (a0 : Int) (a1 : Int) (a2 : ByteArray) : Option Bool := (if (decide (a0 = 1)) = true then (if (decide (a1 = 0)) = true then ((cI_ a2).bind fun y1 => (some y1)) else (some false)) else ((fp_ a0).bind fun y2 => (if y2 = true then (if (decide (a1 = 0)) = true then (if (!decide (a2 = (⟨#[]⟩ : ByteArray))) = true then ((cI_ a2).bind fun y3 => (some y3)) else (some false)) else (some false)) else ((dH_ a0).bind fun y4 => (if y4 = true then (if (decide (a2 = (⟨#[]⟩ : ByteArray))) = true then ((bx_ a1 0 200).bind fun y5 => (some y5)) else (some false)) else ((eO_ a0).bind fun y6 => (if y6 = true then (if (decide (a1 = 0)) = true then ((d2_ a2).bind fun y7 => (some y7)) else (some false)) else ((cG_ a0).bind fun y8 => (if y8 = true then (if (decide (a1 = 0)) = true then (some (decide (a2 = (⟨#[]⟩ : ByteArray)))) else (some false)) else (some false))))))))))
theorem hn_ (a0 : Int) (a1 : Int) (a2 : ByteArray) (r : Bool) (h : db_ a0 a1 a2 = some r) : df_ a0 a1 a2 = some r := by
 unfold db_ at h
 refine k_W ok_91 E_bool_inj h (fun σ0 => ?_)
 refine t_RN ?_
 refine t_RN ?_
 refine t_if (fun hc1 => ?_) fun hc1 => ?_
 ·refine t_RU 3 ?_
  refine aQ_ 12 (fun hc2 => ?_) fun hc2 => ?_
  ·refine t_U 1 ?_
   refine ay_ fun y1 hy1 => ?_
   refine t_N ?_
   exact k_eW (rT rN) E_bool_p
  refine t_N ?_
  exact k_eW (rT rN) E_bool_p
 refine t_RU 1 ?_
 refine ay_ fun y2 hy2 => ?_
 refine t_N ?_
 refine t_if (fun hc3 => ?_) fun hc3 => ?_
 ·refine t_RU 3 ?_
  refine aQ_ 21 (fun hc4 => ?_) fun hc4 => ?_
  ·refine t_U 4 ?_
   refine aQ_ 25 (fun hc5 => ?_) fun hc5 => ?_
   ·refine t_U 1 ?_
    refine ay_ fun y3 hy3 => ?_
    refine t_N ?_
    exact k_eW (rT rN) E_bool_p
   refine t_N ?_
   exact k_eW (rT rN) E_bool_p
  refine t_N ?_
  exact k_eW (rT rN) E_bool_p
 refine t_RU 1 ?_
 refine ay_ fun y4 hy4 => ?_
 refine t_N ?_
 refine t_if (fun hc6 => ?_) fun hc6 => ?_
 ·refine t_RU 3 ?_
  refine aQ_ 34 (fun hc7 => ?_) fun hc7 => ?_
  ·refine t_U 1 ?_
   refine ay_ fun y5 hy5 => ?_
   refine t_N ?_
   exact k_eW (rT rN) E_bool_p
  refine t_N ?_
  exact k_eW (rT rN) E_bool_p
 refine t_RU 1 ?_
 refine ay_ fun y6 hy6 => ?_
 refine t_N ?_
 refine t_if (fun hc8 => ?_) fun hc8 => ?_
 ·refine t_RU 3 ?_
  refine aQ_ 43 (fun hc9 => ?_) fun hc9 => ?_
  ·refine t_U 1 ?_
   refine ay_ fun y7 hy7 => ?_
   refine t_N ?_
   exact k_eW (rT rN) E_bool_p
  refine t_N ?_
  exact k_eW (rT rN) E_bool_p
 refine t_RU 1 ?_
 refine ay_ fun y8 hy8 => ?_
 refine t_U 1 ?_
 refine aQ_ 49 (fun hc10 => ?_) fun hc10 => ?_
 ·refine t_U 4 ?_
  refine aQ_ 53 (fun hc11 => ?_) fun hc11 => ?_
  ·refine t_N ?_
   exact k_eW (rT rN) E_bool_p
  refine t_N ?_
  exact k_eW (rT rN) E_bool_p
 refine t_N ?_
 exact k_eW (rT rN) E_bool_p
noncomputable def fh_ (a0 : Int) : Option Int := (((if (decide (a0 = 18)) = true then (some (decide (a0 = 18))) else (some (decide (a0 = 19)))) : Option Bool).bind fun y1 => (if y1 = true then (some 2) else (((if (decide (a0 = 20)) = true then (some (decide (a0 = 20))) else (if (decide (a0 = 21)) = true then (some (decide (a0 = 21))) else (some (decide (a0 = 22))))) : Option Bool).bind fun y2 => (if y2 = true then (some 1) else (some 0)))))
theorem jz_ (a0 : Int) (r : Int) (h : fh_ a0 = some r) : fv_ a0 = some r := by
 unfold fh_ at h
 refine k_W ok_92 E_i64_inj h (fun σ0 => ?_)
 refine t_RN ?_
 refine t_RN ?_
 refine t_RN ?_
 refine ev_ 0 (fun y1 e fr => e = .normal ∧ Sub [(3, i4 a0), (4, .bool y1)] fr.s ∧ Heap σ0 fr.σ []) (fun y1 e fr h HF => ?_) fun y1 => ?_
 ·obtain ⟨s, σ⟩ := fr
  obtain ⟨rfl, hS, hH⟩ := HF
  refine t_bx h hS hH ?_
  refine t_if (fun hc1 => ?_) fun hc1 => ?_
  ·refine t_RN ?_
   exact k_eW (rT rN) E_i64_p
  refine t_RN ?_
  refine ev_ 0 (fun y2 e fr => e = .normal ∧ Sub [(7, .bool y2)] fr.s ∧ Heap σ0 fr.σ []) (fun y2 e fr h HF => ?_) fun y2 => ?_
  ·obtain ⟨s, σ⟩ := fr
   obtain ⟨rfl, hS, hH⟩ := HF
   refine t_bx h hS hH ?_
   refine t_if (fun hc2 => ?_) fun hc2 => ?_
   ·refine t_RN ?_
    exact k_eW (rT rN) E_i64_p
   refine t_RN ?_
   exact k_eW (rT rN) E_i64_p
  refine t_if (fun hc3 => ?_) fun hc3 => ?_
  ·exact t_e fun he hS hH => he ▸ ⟨rfl, (ae_ hS (by kernel_rfl)), hH⟩
  refine t_RN ?_
  refine t_if (fun hc4 => ?_) fun hc4 => ?_
  ·exact t_e fun he hS hH => he ▸ ⟨rfl, (ae_ hS (by kernel_rfl)), hH⟩
  refine t_RN ?_
  exact t_e fun he hS hH => he ▸ ⟨rfl, (ae_ hS (by kernel_rfl)), hH⟩
 refine t_if (fun hc5 => ?_) fun hc5 => ?_
 ·exact t_e fun he hS hH => he ▸ ⟨rfl, (ae_ hS (by kernel_rfl)), hH⟩
 refine t_RN ?_
 exact t_e fun he hS hH => he ▸ ⟨rfl, (ae_ hS (by kernel_rfl)), hH⟩
noncomputable def d9_ (a0 : ByteArray) (a1 : Int) (a2 : Int) : Option Int := ((aD_ (S := (Int × Int)) (R := (Unit ⊕ Int)) (fun st1 => (if (decide (st1.2 < (a0.size : Int))) = true then ((aV_ a0 st1.2).bind fun y2 => (((if (decide (y2 = 40)) = true then (some (w4 (st1.1 + 1))) else (if (decide (y2 = 41)) = true then (some (w4 (st1.1 - 1))) else (some st1.1))) : Option Int).bind fun y3 => (if (decide (y3 < 0)) = true then (some (.inr (.inr (-1)))) else (if (decide (y3 = 0)) = true then (if (decide (a2 < (w4 (st1.2 + 1)))) = true then (some (.inr (.inr (w4 (st1.2 + 1))))) else (some (.inl (y3, (w4 (st1.2 + 1)))))) else (some (.inl (y3, (w4 (st1.2 + 1))))))))) else (some (.inr (.inl ()))))) (0, a1)).bind fun y1 => (Sum.elim (fun y1 => (some (-1))) (fun y1 => (some y1)) y1))
theorem iu_ (a0 : ByteArray) (a1 : Int) (a2 : Int) (r : Int) (h : d9_ a0 a1 a2 = some r) : a2_ a0 a1 a2 = some r := by
 unfold d9_ at h
 refine k_W ok_94 E_i64_inj h (fun σ0 => ?_)
 refine t_RN ?_
 refine t_RN ?_
 refine t_RN ?_
 refine a9_ (fun st1 fr => Sub [(0, .str a0), (2, i4 a2), (7, i4 st1.1), (8, i4 st1.2)] fr.s ∧ Heap σ0 fr.σ []) (fun y1 e fr => (Sum.elim (fun y => e = (.exit 0) ∧ Sub [] fr.s ∧ Heap σ0 fr.σ []) (fun y => e = .ret ∧ endW Tryz.prog (Tryz.f94.results.toList) σ0 (E_i64 y) .ret fr)) y1) (fun hS hH => ⟨(ae_ hS (by kernel_rfl)), hH⟩) (fun st1 x fr h HI => ?_) fun y1 e fr h HF => ?_
 ·obtain ⟨s, σ⟩ := fr; obtain ⟨hS, hH⟩ := HI
  refine t_bk h hS hH ?_
  refine t_RN ?_
  refine t_if (fun hc1 => ?_) fun hc1 => ?_
  ·refine t_RU 2 ?_
   refine dA_ fun y2 hy2 => ?_
   refine t_N ?_
   refine ev_ 2 (fun y3 e fr => e = .normal ∧ Sub [(0, .str a0), (2, i4 a2), (7, i4 y3), (8, i4 st1.2)] fr.s ∧ Heap σ0 fr.σ []) (fun y3 e fr h HF => ?_) fun y3 => ?_
   ·obtain ⟨s, σ⟩ := fr
    obtain ⟨rfl, hS, hH⟩ := HF
    refine t_bx h hS hH ?_
    refine t_RN ?_
    refine t_if (fun hc2 => ?_) fun hc2 => ?_
    ·refine t_RN ?_
     exact t_e fun he hS hH => he ▸ ⟨rfl, (eW hS hH (rT rN) E_i64_p)⟩
    refine t_RU 3 ?_
    refine aQ_ 31 (fun hc3 => ?_) fun hc3 => ?_
    ·refine t_N ?_
     refine t_if (fun hc4 => ?_) fun hc4 => ?_
     ·refine t_RN ?_
      exact t_e fun he hS hH => he ▸ ⟨rfl, (eW hS hH (rT rN) E_i64_p)⟩
     refine t_RN ?_
     exact t_e fun he hS hH => he ▸ ⟨(ae_ hS (by kernel_rfl)), hH⟩
    refine t_N ?_
    refine t_cF ff_ne ?_
    refine t_RN ?_
    exact t_e fun he hS hH => he ▸ ⟨(ae_ hS (by kernel_rfl)), hH⟩
   refine t_RN ?_
   refine t_if (fun hc5 => ?_) fun hc5 => ?_
   ·refine t_RN ?_
    exact t_e fun he hS hH => he ▸ ⟨rfl, (ae_ hS (by kernel_rfl)), hH⟩
   refine t_RN ?_
   refine t_if (fun hc6 => ?_) fun hc6 => ?_
   ·refine t_RN ?_
    exact t_e fun he hS hH => he ▸ ⟨rfl, (ae_ hS (by kernel_rfl)), hH⟩
   exact t_e fun he hS hH => he ▸ ⟨rfl, (ae_ hS (by kernel_rfl)), hH⟩
  exact t_e fun he hS hH => he ▸ ⟨rfl, (ae_ hS (by kernel_rfl)), hH⟩
 obtain ⟨s, σ⟩ := fr
 rcases y1 with y1 | y1
 ·have h := el_l h
  obtain ⟨rfl, hS, hH⟩ := HF
  refine t_bx h hS hH ?_
  refine t_RN ?_
  exact k_eW (rT rN) E_i64_p
 have h := el_r h
 obtain ⟨rfl, HE⟩ := HF
 obtain rfl := si_1 h; exact HE

noncomputable def dZ_ (a0 : Int) (a1 : Int) (a2 : ByteArray) (a3 : ByteArray) (a4 : Int) : Option Int := (((((if (decide (a0 = 1)) = true then ((subB a3 a4 (a3.size : Int)).bind fun y3 => ((cM_ y3 a2).bind fun y4 => (if y4 = true then (some (.inr (w4 (a4 + (a2.size : Int))))) else (some (.inl ()))))) else (((if (decide (a0 = 2)) = true then (some (decide (a0 = 2))) else (some (decide (a0 = 3)))) : Option Bool).bind fun y5 => (if y5 = true then (if (decide (a4 < (a3.size : Int))) = true then ((aV_ a3 a4).bind fun y6 => ((bp_ y6 a2).bind fun y7 => (if (y7 == (decide (a0 = 2))) = true then (some (.inr (w4 (a4 + 1)))) else (some (.inl ()))))) else (some (.inl ()))) else (if (decide (a0 = 4)) = true then ((aD_ (S := Int) (R := Int) (fun st1 => (if (decide (st1 < (a3.size : Int))) = true then ((aV_ a3 st1).bind fun y9 => ((bp_ y9 a2).bind fun y10 => (if y10 = true then (some (.inl (w4 (st1 + 1)))) else (some (.inr st1))))) else (some (.inr st1)))) a4).bind fun y8 => (if (decide (0 < (w4 (y8 - a4)))) = true then (some (.inr (w4 (a4 + (w4 (y8 - a4)))))) else (some (.inl ())))) else (if (decide (a0 = 5)) = true then ((aD_ (S := Int) (R := Int) (fun st2 => (if (decide (st2 < (a3.size : Int))) = true then ((aV_ a3 st2).bind fun y12 => ((bp_ y12 a2).bind fun y13 => (if (!y13) = true then (some (.inl (w4 (st2 + 1)))) else (some (.inr st2))))) else (some (.inr st2)))) a4).bind fun y11 => (if ((decide ((w4 (a4 + (w4 (y11 - a4)))) < (a3.size : Int)))) = true then (some (.inr (w4 (a4 + (w4 (y11 - a4)))))) else (some (.inl ())))) else (if (decide (a0 = 6)) = true then (if ((decide ((w4 (a4 + a1)) ≤ (a3.size : Int)))) = true then (some (.inr (w4 (a4 + a1)))) else (some (.inl ()))) else (((if (decide (a0 = 7)) = true then (some (decide (a0 = 7))) else (some (decide (a0 = 8)))) : Option Bool).bind fun y14 => (if y14 = true then ((ds_ a1 (a3.size : Int) (decide (a0 = 8))).bind fun y15 => (if (decide (a4 = y15)) = true then (some (.inr a4)) else (some (.inl ())))) else (((if (decide (a0 = 9)) = true then (some (decide (a0 = 9))) else (some (decide (a0 = 10)))) : Option Bool).bind fun y16 => (if y16 = true then ((ds_ a1 (a3.size : Int) (decide (a0 = 10))).bind fun y17 => (if (decide (a4 ≤ y17)) = true then (if (decide (y17 ≤ (a3.size : Int))) = true then (some (.inr y17)) else (some (.inl ()))) else (some (.inl ())))) else (if (decide (a0 = 11)) = true then (some (.inr (a3.size : Int))) else (some (.inl ()))))))))))))) : Option (Unit ⊕ Int)).bind fun y2 => (Sum.elim (fun y2 => (some (.inl ()))) (fun y2 => (some (.inr y2))) y2)) : Option (Unit ⊕ Int)).bind fun y1 => (Sum.elim (fun y1 => (some (-1))) (fun y1 => (some y1)) y1))
theorem jd_ (a0 : Int) (a1 : Int) (a2 : ByteArray) (a3 : ByteArray) (a4 : Int) (r : Int) (h : dZ_ a0 a1 a2 a3 a4 = some r) : dX_ a0 a1 a2 a3 a4 = some r := by
 unfold dZ_ at h
 refine k_W ok_99 E_i64_inj h (fun σ0 => ?_)
 refine t_R ?_
 refine cn_ (fun b1 => ?_)
 refine t_N ?_
 refine t_RN ?_
 refine t_RU 1 ?_
 refine bU_ fun b2 => ?_
 refine aN_ 0 ?_
 refine t_N ?_
 refine t_RN ?_
 refine ev_ 2 (fun y1 e fr => (Sum.elim (fun y => e = .normal ∧ Sub [] fr.s ∧ Heap σ0 fr.σ []) (fun y => e = .ret ∧ endW Tryz.prog (Tryz.f99.results.toList) σ0 (E_i64 y) .ret fr)) y1) (fun y1 e fr h HF => ?_) fun y1 => ?_
 ·obtain ⟨s, σ⟩ := fr
  rcases y1 with y1 | y1
  ·have h := el_l h
   obtain ⟨rfl, hS, hH⟩ := HF
   refine t_bx h hS hH ?_
   refine t_RN ?_
   exact k_eW (rT rN) E_i64_p
  have h := el_r h
  obtain ⟨rfl, HE⟩ := HF
  obtain rfl := si_1 h; exact HE
 refine t_RN ?_
 refine ev_ 0 (fun y2 e fr => (Sum.elim (fun y => e = .normal ∧ Sub [] fr.s ∧ Heap σ0 fr.σ []) (fun y => e = .ret ∧ endW Tryz.prog (Tryz.f99.results.toList) σ0 (E_i64 y) .ret fr)) y2) (fun y2 e fr h HF => ?_) fun y2 => ?_
 ·obtain ⟨s, σ⟩ := fr
  rcases y2 with y2 | y2
  ·have h := el_l h
   obtain ⟨rfl, hS, hH⟩ := HF
   refine t_bx h hS hH ?_
   exact t_e fun he hS hH => he ▸ ⟨rfl, (ae_ hS (by kernel_rfl)), hH⟩
  have h := el_r h
  obtain ⟨rfl, HE⟩ := HF
  obtain rfl := si_1 h; exact ⟨rfl, HE⟩
 refine t_if (fun hc1 => ?_) fun hc1 => ?_
 ·refine t_D fun mb => ?_
  refine t_U 2 ?_
  refine ih_ fun y3 hy3 => ?_
  refine ad_ 1 ?_
  refine ay_ fun y4 hy4 => ?_
  refine t_N ?_
  refine t_if (fun hc2 => ?_) fun hc2 => ?_
  ·refine t_RU 1 ?_
   refine ad_ 1 ?_
   refine t_N ?_
   exact t_e fun he hS hH => he ▸ ⟨rfl, (eW hS hH (rT rN) E_i64_p)⟩
  exact t_e fun he hS hH => he ▸ ⟨rfl, (ae_ hS (by kernel_rfl)), (Heap.sel hH [] rfl (by kernel_rfl))⟩
 refine t_RN ?_
 refine ev_ 0 (fun y5 e fr => e = .normal ∧ Sub [(0, i4 a0), (3, .str a3), (4, i4 a4), (11, i4 (a3.size : Int)), (12, i4 a1), (13, .ptr b2 0 0 1), (21, i4 a0), (33, .bool y5)] fr.s ∧ Heap σ0 fr.σ [.box b2 [T.fn 113 [] [.ptr b1 0 0 1]], .box b1 [.str a2]]) (fun y5 e fr h HF => ?_) fun y5 => ?_
 ·obtain ⟨s, σ⟩ := fr
  obtain ⟨rfl, hS, hH⟩ := HF
  refine t_bx h hS hH ?_
  refine t_if (fun hc3 => ?_) fun hc3 => ?_
  ·refine t_D fun mb => ?_
   refine t_U 4 ?_
   refine aQ_ 39 (fun hc4 => ?_) fun hc4 => ?_
   ·refine ad_ 0 ?_
    refine t_U 2 ?_
    refine dA_ fun y6 hy6 => ?_
    intro h s σ hS hH
    obtain ⟨y7, hy7, h⟩ := bind_some h
    refine jm_ (xs := [.int .u8 y6]) (cs := [[.str a2]]) [b1] rfl hS rfl rfl rfl (⟨(Heap.lent (hH.at 1 rfl)), trivial⟩) hy7 ?_; intro s hS
    refine t_bk h hS hH ?_
    refine t_N ?_
    refine t_if (fun hc5 => ?_) fun hc5 => ?_
    ·refine t_RN ?_
     exact t_e fun he hS hH => he ▸ ⟨rfl, (eW hS hH (rT rN) E_i64_p)⟩
    exact t_e fun he hS hH => he ▸ ⟨rfl, (ae_ hS (by kernel_rfl)), (Heap.sel hH [] rfl (by kernel_rfl))⟩
   refine t_N ?_
   refine t_cF ff_ne ?_
   exact t_e fun he hS hH => he ▸ ⟨rfl, (ae_ hS (by kernel_rfl)), (Heap.sel hH [] rfl (by kernel_rfl))⟩
  refine t_RN ?_
  refine t_if (fun hc6 => ?_) fun hc6 => ?_
  ·refine t_RU 2 ?_
   refine ad_ 0 ?_
   refine dI_ ok_116 ?_
   refine t_RN ?_
   refine t_RN ?_
   refine a9_ (fun st1 fr => Sub [(0, .str a3), (1, i4 a4), (2, T.fn 113 [] [.ptr b1 0 0 1]), (7, i4 st1)] fr.s ∧ Heap σ0 fr.σ [.box b1 [.str a2]]) (fun y8 e fr => e = (.exit 0) ∧ Sub [(1, i4 a4), (7, i4 y8)] fr.s ∧ Heap σ0 fr.σ []) (fun hS hH => ⟨(ae_ hS (by kernel_rfl)), (Heap.sel hH [1] rfl (by kernel_rfl))⟩) (fun st1 x fr h HI => ?_) fun y8 e fr h HF => ?_
   ·obtain ⟨s, σ⟩ := fr; obtain ⟨hS, hH⟩ := HI
    refine t_bk h hS hH ?_
    refine t_RU 5 ?_
    refine aQ_ 13 (fun hc7 => ?_) fun hc7 => ?_
    ·refine t_U 3 ?_
     refine dA_ fun y9 hy9 => ?_
     intro h s σ hS hH
     obtain ⟨y10, hy10, h⟩ := bind_some h
     refine jm_ (xs := [.int .u8 y9]) (cs := [[.str a2]]) [b1] rfl hS rfl rfl rfl (⟨(Heap.lent hH), trivial⟩) hy10 ?_; intro s hS
     refine t_bk h hS hH ?_
     refine t_N ?_
     refine t_if (fun hc8 => ?_) fun hc8 => ?_
     ·refine t_RN ?_
      exact t_e fun he hS hH => he ▸ ⟨(ae_ hS (by kernel_rfl)), hH⟩
     exact t_e fun he hS hH => he ▸ ⟨rfl, (ae_ hS (by kernel_rfl)), (Heap.sel hH [] rfl (by kernel_rfl))⟩
    refine t_N ?_
    refine t_cF ff_ne ?_
    exact t_e fun he hS hH => he ▸ ⟨rfl, (ae_ hS (by kernel_rfl)), (Heap.sel hH [] rfl (by kernel_rfl))⟩
   obtain ⟨s, σ⟩ := fr
   obtain ⟨rfl, hS, hH⟩ := HF
   refine t_bx h hS hH ?_
   refine t_RN ?_
   refine k_eI (rT rN) ?_
   refine t_N ?_
   refine t_RN ?_
   refine t_if (fun hc9 => ?_) fun hc9 => ?_
   ·refine t_RN ?_
    exact t_e fun he hS hH => he ▸ ⟨rfl, (eW hS hH (rT rN) E_i64_p)⟩
   exact t_e fun he hS hH => he ▸ ⟨rfl, (ae_ hS (by kernel_rfl)), hH⟩
  refine t_RN ?_
  refine t_if (fun hc10 => ?_) fun hc10 => ?_
  ·refine t_RU 4 ?_
   refine dI_ ok_116 ?_
   refine t_RN ?_
   refine t_RN ?_
   refine a9_ (fun st2 fr => Sub [(0, .str a3), (1, i4 a4), (2, T.fn 117 [] [.ptr b2 0 0 1]), (7, i4 st2)] fr.s ∧ Heap σ0 fr.σ [.box b2 [T.fn 113 [] [.ptr b1 0 0 1]], .box b1 [.str a2]]) (fun y11 e fr => e = (.exit 0) ∧ Sub [(1, i4 a4), (7, i4 y11)] fr.s ∧ Heap σ0 fr.σ []) (fun hS hH => ⟨(ae_ hS (by kernel_rfl)), hH⟩) (fun st2 x fr h HI => ?_) fun y11 e fr h HF => ?_
   ·obtain ⟨s, σ⟩ := fr; obtain ⟨hS, hH⟩ := HI
    refine t_bk h hS hH ?_
    refine t_RU 5 ?_
    refine aQ_ 13 (fun hc11 => ?_) fun hc11 => ?_
    ·refine t_U 3 ?_
     refine dA_ fun y12 hy12 => ?_
     refine dI_ ok_117 ?_
     refine t_RN ?_
     refine t_R ?_
     refine ad_ 0 ?_
     refine t_U 1 ?_
     intro h s σ hS hH
     obtain ⟨y13, hy13, h⟩ := bind_some h
     refine jm_ (xs := [.int .u8 y12]) (cs := [[.str a2]]) [b1] rfl hS rfl rfl rfl (⟨(Heap.lent (hH.at 1 rfl)), trivial⟩) hy13 ?_; intro s hS
     refine t_bk h hS hH ?_
     refine t_N ?_
     refine k_eI (rT rN) ?_
     refine t_N ?_
     refine t_if (fun hc12 => ?_) fun hc12 => ?_
     ·refine t_RN ?_
      exact t_e fun he hS hH => he ▸ ⟨(ae_ hS (by kernel_rfl)), hH⟩
     exact t_e fun he hS hH => he ▸ ⟨rfl, (ae_ hS (by kernel_rfl)), (Heap.sel hH [] rfl (by kernel_rfl))⟩
    refine t_N ?_
    refine t_cF ff_ne ?_
    exact t_e fun he hS hH => he ▸ ⟨rfl, (ae_ hS (by kernel_rfl)), (Heap.sel hH [] rfl (by kernel_rfl))⟩
   obtain ⟨s, σ⟩ := fr
   obtain ⟨rfl, hS, hH⟩ := HF
   refine t_bx h hS hH ?_
   refine t_RN ?_
   refine k_eI (rT rN) ?_
   refine t_N ?_
   refine t_RN ?_
   refine t_if (fun hc13 => ?_) fun hc13 => ?_
   ·refine t_RN ?_
    exact t_e fun he hS hH => he ▸ ⟨rfl, (eW hS hH (rT rN) E_i64_p)⟩
   exact t_e fun he hS hH => he ▸ ⟨rfl, (ae_ hS (by kernel_rfl)), hH⟩
  refine t_RN ?_
  refine t_if (fun hc14 => ?_) fun hc14 => ?_
  ·refine t_RN ?_
   refine t_if (fun hc15 => ?_) fun hc15 => ?_
   ·refine t_RN ?_
    exact t_e fun he hS hH => he ▸ ⟨rfl, (eW hS hH (rT rN) E_i64_p)⟩
   exact t_e fun he hS hH => he ▸ ⟨rfl, (ae_ hS (by kernel_rfl)), (Heap.sel hH [] rfl (by kernel_rfl))⟩
  refine t_RN ?_
  refine ev_ 0 (fun y14 e fr => e = .normal ∧ Sub [(0, i4 a0), (4, i4 a4), (11, i4 (a3.size : Int)), (12, i4 a1), (21, i4 a0), (84, .bool y14)] fr.s ∧ Heap σ0 fr.σ []) (fun y14 e fr h HF => ?_) fun y14 => ?_
  ·obtain ⟨s, σ⟩ := fr
   obtain ⟨rfl, hS, hH⟩ := HF
   refine t_bx h hS hH ?_
   refine t_if (fun hc16 => ?_) fun hc16 => ?_
   ·refine t_RU 5 ?_
    refine ay_ fun y15 hy15 => ?_
    refine t_N ?_
    refine t_if (fun hc17 => ?_) fun hc17 => ?_
    ·refine t_RN ?_
     exact t_e fun he hS hH => he ▸ ⟨rfl, (eW hS hH (rT rN) E_i64_p)⟩
    exact t_e fun he hS hH => he ▸ ⟨rfl, (ae_ hS (by kernel_rfl)), hH⟩
   refine t_RN ?_
   refine ev_ 0 (fun y16 e fr => e = .normal ∧ Sub [(0, i4 a0), (4, i4 a4), (11, i4 (a3.size : Int)), (12, i4 a1), (21, i4 a0), (95, .bool y16)] fr.s ∧ Heap σ0 fr.σ []) (fun y16 e fr h HF => ?_) fun y16 => ?_
   ·obtain ⟨s, σ⟩ := fr
    obtain ⟨rfl, hS, hH⟩ := HF
    refine t_bx h hS hH ?_
    refine t_if (fun hc18 => ?_) fun hc18 => ?_
    ·refine t_RU 4 ?_
     refine ay_ fun y17 hy17 => ?_
     refine t_N ?_
     refine t_RU 4 ?_
     refine aQ_ 106 (fun hc19 => ?_) fun hc19 => ?_
     ·refine t_N ?_
      refine t_if (fun hc20 => ?_) fun hc20 => ?_
      ·refine t_RN ?_
       exact t_e fun he hS hH => he ▸ ⟨rfl, (eW hS hH (rT rN) E_i64_p)⟩
      exact t_e fun he hS hH => he ▸ ⟨rfl, (ae_ hS (by kernel_rfl)), hH⟩
     refine t_N ?_
     refine t_cF ff_ne ?_
     exact t_e fun he hS hH => he ▸ ⟨rfl, (ae_ hS (by kernel_rfl)), hH⟩
    refine t_RN ?_
    refine t_if (fun hc21 => ?_) fun hc21 => ?_
    ·refine t_RN ?_
     exact t_e fun he hS hH => he ▸ ⟨rfl, (eW hS hH (rT rN) E_i64_p)⟩
    exact t_e fun he hS hH => he ▸ ⟨rfl, (ae_ hS (by kernel_rfl)), hH⟩
   refine t_if (fun hc22 => ?_) fun hc22 => ?_
   ·exact t_e fun he hS hH => he ▸ ⟨rfl, (ae_ hS (by kernel_rfl)), hH⟩
   refine t_RN ?_
   exact t_e fun he hS hH => he ▸ ⟨rfl, (ae_ hS (by kernel_rfl)), hH⟩
  refine t_if (fun hc23 => ?_) fun hc23 => ?_
  ·exact t_e fun he hS hH => he ▸ ⟨rfl, (ae_ hS (by kernel_rfl)), (Heap.sel hH [] rfl (by kernel_rfl))⟩
  refine t_RN ?_
  exact t_e fun he hS hH => he ▸ ⟨rfl, (ae_ hS (by kernel_rfl)), (Heap.sel hH [] rfl (by kernel_rfl))⟩
 refine t_if (fun hc24 => ?_) fun hc24 => ?_
 ·exact t_e fun he hS hH => he ▸ ⟨rfl, (ae_ hS (by kernel_rfl)), hH⟩
 refine t_RN ?_
 exact t_e fun he hS hH => he ▸ ⟨rfl, (ae_ hS (by kernel_rfl)), hH⟩
noncomputable def bv_ (a0 : (Sl (Sl DCapture))) : Option (Sl DCapture) := ((aD_ (S := (Int × Int)) (R := Int) (fun st1 => (if (decide (st1.2 < (a0.l.length : Int))) = true then ((elt a0 st1.2).bind fun y2 => (if (decide ((w4 (st1.1 + (y2.l.length : Int))) < 0)) = true then none else (some (.inl ((w4 (st1.1 + (y2.l.length : Int))), (w4 (st1.2 + 1))))))) else (some (.inr st1.1)))) (0, 0)).bind fun y1 => (((if (decide (y1 < 0)) = true then none else (some ())) : Option Unit).bind fun y3 => (if (decide (0 < (w4 (y1 - (w4 (0 - 0)))))) = true then ((kt_ 48 ((⟨⟨#[]⟩, ⟨#[]⟩, 0, 0⟩ : DCapture) : DCapture) (w4 (y1 - (w4 (0 - 0))))).bind fun y5 => ((if (!decide (y5.l.length = 0)) = true then some () else none).bind fun y6 => ((aD_ (S := (Int × (Sl DCapture))) (R := (Sl DCapture)) (fun st2 => (if (decide (st2.1 < (a0.l.length : Int))) = true then ((elt a0 st2.1).bind fun y8 => ((appS 48 st2.2 y8).bind fun y9 => (some (.inl ((w4 (st2.1 + 1)), y9))))) else (some (.inr st2.2)))) (0, (⟨false, []⟩ : Sl DCapture))).bind fun y7 => (if (y7.z || !decide (y7.l.length = 0)) = true then (some y7) else none)))) else ((aD_ (S := (Int × (Sl DCapture))) (R := (Sl DCapture)) (fun st3 => (if (decide (st3.1 < (a0.l.length : Int))) = true then ((elt a0 st3.1).bind fun y11 => ((appS 48 st3.2 y11).bind fun y12 => (some (.inl ((w4 (st3.1 + 1)), y12))))) else (some (.inr st3.2)))) (0, (⟨true, []⟩ : Sl DCapture))).bind fun y10 => (some y10)))))
theorem e8_ (a0 : (Sl (Sl DCapture))) (r : (Sl DCapture)) (h : bv_ a0 = some r) : b8_ a0 = some r := by
 unfold bv_ at h
 refine k_O ok_100 h (fun σ0 => ?_)
 refine t_RN ?_
 refine t_RN ?_
 refine t_RN ?_
 refine a9_ (fun st1 fr => Sub [(0, a0.t), (3, i4 st1.1), (9, a0.t), (10, i4 (a0.l.length : Int)), (11, i4 st1.2)] fr.s ∧ Heap σ0 fr.σ []) (fun y1 e fr => e = (.exit 0) ∧ Sub [(0, a0.t), (3, i4 y1)] fr.s ∧ Heap σ0 fr.σ []) (fun hS hH => ⟨(ae_ hS (by kernel_rfl)), hH⟩) (fun st1 x fr h HI => ?_) fun y1 e fr h HF => ?_
 ·obtain ⟨s, σ⟩ := fr; obtain ⟨hS, hH⟩ := HI
  refine t_bk h hS hH ?_
  refine t_RN ?_
  refine t_if (fun hc1 => ?_) fun hc1 => ?_
  ·refine t_R ?_
   refine cb_ fun y2 rest1 hy2 => ?_
   refine t_N ?_
   refine t_RN ?_
   refine t_RN ?_
   refine t_if (fun hc2 => ?_) fun hc2 => ?_
   ·exact t_no
   refine t_RN ?_
   exact t_e fun he hS hH => he ▸ ⟨(ae_ hS (by kernel_rfl)), hH⟩
  exact t_e fun he hS hH => he ▸ ⟨rfl, (ae_ hS (by kernel_rfl)), hH⟩
 obtain ⟨s, σ⟩ := fr
 obtain ⟨rfl, hS, hH⟩ := HF
 refine t_bx h hS hH ?_
 refine t_RU 1 ?_
 refine dI_ ok_119 ?_
 refine t_RN ?_
 refine t_RN ?_
 refine ev_ 0 (fun y3 e fr => e = .normal ∧ Sub [(0, (nt DCapture)), (1, i4 y1)] fr.s ∧ Heap σ0 fr.σ []) (fun y3 e fr h HF => ?_) fun y3 => ?_
 ·obtain ⟨s, σ⟩ := fr
  obtain ⟨rfl, hS, hH⟩ := HF
  refine t_bx h hS hH ?_
  refine t_RU 2 ?_
  intro h s σ hS hH
  refine pq_ rfl hS rfl (by kernel_rfl) ?_; intro s hS
  refine t_bk h hS hH ?_
  refine t_N ?_
  refine t_RN ?_
  refine t_if (fun hc3 => ?_) fun hc3 => ?_
  ·refine t_RU 2 ?_
   intro h s σ hS hH
   refine pq_ rfl hS rfl (by kernel_rfl) ?_; intro s hS
   refine pA_ (w := (⟨true, []⟩ : Sl DCapture)) (y := ⟨true, []⟩) (e := 53) (vlo := none) (vhi := (some (T.int .i64 0))) (a := 0) (b := 0) rfl hS rfl rfl rfl rfl rfl (by kernel_rfl) (by kernel_rfl) rfl ?_; intro s hS
   refine t_bk h hS hH ?_
   refine t_U 1 ?_
   intro h s σ hS hH
   obtain ⟨y5, hy5, h⟩ := bind_some h
   refine r2_ (z := true) (e := 53) (by_ := 48) (x0 := ((⟨⟨#[]⟩, ⟨#[]⟩, 0, 0⟩ : DCapture) : DCapture)) (fun σ d => by simp [Enc.cells, DCapture.cells, Iv]) rfl hS hH rfl rfl (by kernel_rfl) (by kernel_rfl) (by kernel_rfl) (by kernel_rfl) (by kernel_rfl) hy5 ?_; intro t1 σ s ht1 hH hS
   refine t_bk h hS hH ?_
   refine t_U 2 ?_
   intro h s σ hS hH
   obtain ⟨y6, hy6, h⟩ := bind_some h
   obtain ⟨hg1, _⟩ := jw_ hy6
   refine om_ (a := y5) (e := 53) rfl hS hH rfl rfl (by kernel_rfl) (by kernel_rfl) (by kernel_rfl) hg1 ?_; intro t2 s ht2 hH hS
   have hH : Heap σ0 σ [.frt true 4 t2 (Sl.t (⟨false, []⟩ : Sl DCapture))] := hH
   refine t_bk h hS hH ?_
   refine t_N ?_
   refine t_RN ?_
   refine k_eI (rT rN) ?_
   refine t_N ?_
   refine t_RN ?_
   refine a9_ (fun st2 fr => ∃ t4, au_ t4 ∧ Sub [(6, t4), (25, a0.t), (26, i4 (a0.l.length : Int)), (27, i4 st2.1)] fr.s ∧ Heap σ0 fr.σ [.frt true 4 t4 st2.2.t]) (fun y7 e fr => ∃ t5, au_ t5 ∧ e = (.exit 2) ∧ Sub [(6, t5)] fr.s ∧ Heap σ0 fr.σ [.frt true 4 t5 y7.t]) (fun hS hH => ⟨t2, ht2, (ae_ hS (by kernel_rfl)), hH⟩) (fun st2 x fr h HI => ?_) fun y7 e fr h HF => ?_
   ·obtain ⟨s, σ⟩ := fr; obtain ⟨t4, ht4, ⟨hS, hH⟩⟩ := HI
    refine t_bk h hS hH ?_
    refine t_RN ?_
    refine t_if (fun hc4 => ?_) fun hc4 => ?_
    ·refine t_R ?_
     refine cb_ fun y8 rest2 hy8 => ?_
     refine t_N ?_
     refine t_RU 2 ?_
     intro h s σ hS hH
     obtain ⟨y9, hy9, h⟩ := bind_some h
     refine s9_ (z := true) (t1 := t4) (a := st2.2) (b := y8) (e := 53) (by_ := 48) (zc := [.str ⟨#[]⟩, .str ⟨#[]⟩, i4 0, i4 0]) rfl hS hH rfl rfl (by kernel_rfl) (by kernel_rfl) (by kernel_rfl) (by kernel_rfl) (by kernel_rfl) (by kernel_rfl) hy9 ?_; intro t6 σ s ht6 hH hS
     refine t_bk h hS hH ?_
     refine t_N ?_
     refine t_RN ?_
     exact t_e fun he hS hH => he ▸ ⟨t6, ht6, (ae_ hS (by kernel_rfl)), hH⟩
    exact t_e fun he hS hH => he ▸ ⟨t4, ht4, rfl, (ae_ hS (by kernel_rfl)), hH⟩
   obtain ⟨s, σ⟩ := fr
   obtain ⟨t5, ht5, ⟨rfl, hS, hH⟩⟩ := HF
   refine t_bx h hS hH ?_
   refine t_RN ?_
   intro h s σ hS hH
   obtain ⟨hg2, h⟩ := jw_ h
   have hH := Heap.ofFrt (a := y7) hH hg2
   have hH : Heap σ0 σ [.own true 4 t5 y7.t] := hH
   refine t_bk h hS hH ?_
   exact k_eO [t5] (rT rN)
  refine t_RN ?_
  refine k_eI (rT rN) ?_
  refine t_N ?_
  refine t_RN ?_
  refine t_h (Heap.addNil · true 4) ?_
  refine a9_ (fun st3 fr => ∃ t8, au_ t8 ∧ Sub [(6, t8), (25, a0.t), (26, i4 (a0.l.length : Int)), (27, i4 st3.1)] fr.s ∧ Heap σ0 fr.σ [.own true 4 t8 st3.2.t]) (fun y10 e fr => ∃ t9, au_ t9 ∧ e = (.exit 2) ∧ Sub [(6, t9)] fr.s ∧ Heap σ0 fr.σ [.own true 4 t9 y10.t]) (fun hS hH => ⟨(T.row true 0 []), ⟨rfl, rfl⟩, (ae_ hS (by kernel_rfl)), hH⟩) (fun st3 x fr h HI => ?_) fun y10 e fr h HF => ?_
  ·obtain ⟨s, σ⟩ := fr; obtain ⟨t8, ht8, ⟨hS, hH⟩⟩ := HI
   refine t_bk h hS hH ?_
   refine t_RN ?_
   refine t_if (fun hc5 => ?_) fun hc5 => ?_
   ·refine t_R ?_
    refine cb_ fun y11 rest3 hy11 => ?_
    refine t_N ?_
    refine t_RU 2 ?_
    refine pz_ 0 (fun y12 t10 hy12 ht10 => ?_)
    refine t_N ?_
    refine t_RN ?_
    exact t_e fun he hS hH => he ▸ ⟨t10, ht10, (ae_ hS (by kernel_rfl)), hH⟩
   exact t_e fun he hS hH => he ▸ ⟨t8, ht8, rfl, (ae_ hS (by kernel_rfl)), hH⟩
  obtain ⟨s, σ⟩ := fr
  obtain ⟨t9, ht9, ⟨rfl, hS, hH⟩⟩ := HF
  refine t_bx h hS hH ?_
  refine t_RN ?_
  exact k_eO [t9] (rT rN)
 refine t_if (fun hc6 => ?_) fun hc6 => ?_
 ·exact t_no
 exact t_e fun he hS hH => ⟨rfl, (ae_ hS (by kernel_rfl)), hH⟩
noncomputable def cw_ (a0 : ByteArray) (a1 : Int) : Option Int := (if (decide ((a0.size : Int) ≤ a1)) = true then (some a1) else ((aV_ a0 a1).bind fun y1 => ((ce_ y1).bind fun y2 => (if (!y2) = true then (some a1) else ((aD_ (S := Int) (R := Int) (fun st1 => (if (decide (st1 < (a0.size : Int))) = true then ((aV_ a0 st1).bind fun y4 => ((ce_ y4).bind fun y5 => (if y5 = true then (some (.inl (w4 (st1 + 1)))) else ((aV_ a0 st1).bind fun y6 => ((c4_ y6).bind fun y7 => (if y7 = true then (some (.inl (w4 (st1 + 1)))) else ((aV_ a0 st1).bind fun y8 => (if (decide (y8 = 95)) = true then (some (.inl (w4 (st1 + 1)))) else (some (.inr st1)))))))))) else (some (.inr st1)))) a1).bind fun y3 => (some y3))))))
theorem hg_ (a0 : ByteArray) (a1 : Int) (r : Int) (h : cw_ a0 a1 = some r) : di_ a0 a1 = some r := by
 unfold cw_ at h
 refine k_W ok_103 E_i64_inj h (fun σ0 => ?_)
 refine t_RN ?_
 refine t_RU 5 ?_
 refine aQ_ 9 (fun hc1 => ?_) fun hc1 => ?_
 ·refine t_N ?_
  refine t_cT rfl ?_
  refine t_RN ?_
  exact k_eW (rT rN) E_i64_p
 refine t_U 2 ?_
 refine dA_ fun y1 hy1 => ?_
 refine ay_ fun y2 hy2 => ?_
 refine t_N ?_
 refine t_if (fun hc2 => ?_) fun hc2 => ?_
 ·refine t_RN ?_
  exact k_eW (rT rN) E_i64_p
 refine a9_ (fun st1 fr => Sub [(0, .str a0), (1, i4 st1)] fr.s ∧ Heap σ0 fr.σ []) (fun y3 e fr => e = (.exit 0) ∧ Sub [(1, i4 y3)] fr.s ∧ Heap σ0 fr.σ []) (fun hS hH => ⟨(ae_ hS (by kernel_rfl)), hH⟩) (fun st1 x fr h HI => ?_) fun y3 e fr h HF => ?_
 ·obtain ⟨s, σ⟩ := fr; obtain ⟨hS, hH⟩ := HI
  refine t_bk h hS hH ?_
  refine t_RU 5 ?_
  refine aQ_ 21 (fun hc3 => ?_) fun hc3 => ?_
  ·refine t_U 2 ?_
   refine dA_ fun y4 hy4 => ?_
   refine ay_ fun y5 hy5 => ?_
   refine t_U 1 ?_
   refine aQ_ 26 (fun hc4 => ?_) fun hc4 => ?_
   ·refine t_N ?_
    refine t_cT rfl ?_
    refine t_RN ?_
    exact t_e fun he hS hH => he ▸ ⟨(ae_ hS (by kernel_rfl)), hH⟩
   refine t_U 2 ?_
   refine dA_ fun y6 hy6 => ?_
   refine ay_ fun y7 hy7 => ?_
   refine t_U 2 ?_
   refine aQ_ 32 (fun hc5 => ?_) fun hc5 => ?_
   ·refine t_N ?_
    refine t_cT rfl ?_
    refine t_RN ?_
    exact t_e fun he hS hH => he ▸ ⟨(ae_ hS (by kernel_rfl)), hH⟩
   refine t_U 2 ?_
   refine dA_ fun y8 hy8 => ?_
   refine t_N ?_
   refine t_if (fun hc6 => ?_) fun hc6 => ?_
   ·refine t_RN ?_
    exact t_e fun he hS hH => he ▸ ⟨(ae_ hS (by kernel_rfl)), hH⟩
   exact t_e fun he hS hH => he ▸ ⟨rfl, (ae_ hS (by kernel_rfl)), hH⟩
  refine t_N ?_
  refine t_cF ff_ne ?_
  exact t_e fun he hS hH => he ▸ ⟨rfl, (ae_ hS (by kernel_rfl)), hH⟩
 obtain ⟨s, σ⟩ := fr
 obtain ⟨rfl, hS, hH⟩ := HF
 refine t_bx h hS hH ?_
 refine t_RN ?_
 exact k_eW (rT rN) E_i64_p
noncomputable def eT_ (a0 : DPattern) : Option Bool := ((b0_ a0.Kind 1 24).bind fun y1 => (if (!y1) = true then (some false) else ((cg_ a0.Kind).bind fun y2 => (if (!decide ((a0.Kids.l.length : Int) = y2.1)) = true then (some false) else (if (decide (y2.2 = (⟨#[115]⟩ : ByteArray))) = true then (if (decide (a0.Num = 0)) = true then (if (decide ((a0.Text.size : Int) ≤ 200)) = true then (if (decide (a0.Kind = 1)) = true then (some true) else (some (!decide (a0.Text = (⟨#[]⟩ : ByteArray))))) else (some false)) else (some false)) else (if (decide (y2.2 = (⟨#[110]⟩ : ByteArray))) = true then (if (decide (a0.Text = (⟨#[]⟩ : ByteArray))) = true then ((b0_ a0.Num 0 200).bind fun y3 => (some y3)) else (some false)) else (if (decide (y2.2 = (⟨#[120]⟩ : ByteArray))) = true then (if (decide (a0.Num = 0)) = true then ((dS_ a0.Text).bind fun y4 => (some y4)) else (some false)) else (if (decide (a0.Num = 0)) = true then (some (decide (a0.Text = (⟨#[]⟩ : ByteArray)))) else (some false)))))))))
theorem iL_ (a0 : DPattern) (r : Bool) (h : eT_ a0 = some r) : eL_ a0 = some r := by
 unfold eT_ at h
 refine k_W ok_104 E_bool_inj h (fun σ0 => ?_)
 refine t_R ?_
 refine cn_ (fun b1 => ?_)
 refine t_N ?_
 refine t_RU 1 ?_
 refine ad_ 0 ?_
 refine ay_ fun y1 hy1 => ?_
 refine t_N ?_
 refine t_if (fun hc1 => ?_) fun hc1 => ?_
 ·refine t_RN ?_
  exact k_eW (rT rN) E_bool_p
 refine t_RU 1 ?_
 refine ad_ 0 ?_
 refine ay_ fun y2 hy2 => ?_
 refine t_N ?_
 refine t_RU 1 ?_
 refine ad_ 0 ?_
 refine t_N ?_
 refine t_if (fun hc2 => ?_) fun hc2 => ?_
 ·refine t_RN ?_
  exact k_eW (rT rN) E_bool_p
 refine t_RN ?_
 refine t_RN ?_
 refine t_if (fun hc3 => ?_) fun hc3 => ?_
 ·refine t_RU 1 ?_
  refine ad_ 0 ?_
  refine t_U 2 ?_
  refine aQ_ 26 (fun hc4 => ?_) fun hc4 => ?_
  ·refine t_U 1 ?_
   refine ad_ 0 ?_
   refine t_U 4 ?_
   refine aQ_ 32 (fun hc5 => ?_) fun hc5 => ?_
   ·refine t_U 1 ?_
    refine ad_ 0 ?_
    refine t_U 2 ?_
    refine aQ_ 36 (fun hc6 => ?_) fun hc6 => ?_
    ·refine t_N ?_
     exact k_eW (rT rN) E_bool_p
    refine t_U 1 ?_
    refine ad_ 0 ?_
    refine t_N ?_
    exact k_eW (rT rN) E_bool_p
   refine t_N ?_
   exact k_eW (rT rN) E_bool_p
  refine t_N ?_
  exact k_eW (rT rN) E_bool_p
 refine t_RN ?_
 refine t_if (fun hc7 => ?_) fun hc7 => ?_
 ·refine t_RU 1 ?_
  refine ad_ 0 ?_
  refine t_U 2 ?_
  refine aQ_ 47 (fun hc8 => ?_) fun hc8 => ?_
  ·refine t_U 1 ?_
   refine ad_ 0 ?_
   refine ay_ fun y3 hy3 => ?_
   refine t_N ?_
   exact k_eW (rT rN) E_bool_p
  refine t_N ?_
  exact k_eW (rT rN) E_bool_p
 refine t_RN ?_
 refine t_if (fun hc9 => ?_) fun hc9 => ?_
 ·refine t_RU 1 ?_
  refine ad_ 0 ?_
  refine t_U 2 ?_
  refine aQ_ 57 (fun hc10 => ?_) fun hc10 => ?_
  ·refine t_U 1 ?_
   refine ad_ 0 ?_
   refine ay_ fun y4 hy4 => ?_
   refine t_N ?_
   exact k_eW (rT rN) E_bool_p
  refine t_N ?_
  exact k_eW (rT rN) E_bool_p
 refine t_RU 1 ?_
 refine ad_ 0 ?_
 refine t_U 2 ?_
 refine aQ_ 65 (fun hc11 => ?_) fun hc11 => ?_
 ·refine t_U 1 ?_
  refine ad_ 0 ?_
  refine t_N ?_
  exact k_eW (rT rN) E_bool_p
 refine t_N ?_
 exact k_eW (rT rN) E_bool_p
noncomputable def gg_ (a0 : Int) : Option Bool := (if (decide (48 ≤ a0)) = true then (some (decide (a0 ≤ 57))) else (some false))
theorem iw_ (a0 : Int) (r : Bool) (h : gg_ a0 = some r) : eQ_ a0 = some r := by
 unfold gg_ at h
 refine k_W ok_105 E_bool_inj h (fun σ0 => ?_)
 refine t_RN ?_
 refine t_RU 3 ?_
 refine aQ_ 5 (fun hc1 => ?_) fun hc1 => ?_
 ·refine t_N ?_
  exact k_eW (rT rN) E_bool_p
 refine t_N ?_
 exact k_eW (rT rN) E_bool_p
noncomputable def fd_ (a0 : Int) : Option Bool := ((bx_ a0 2 5).bind fun y1 => (some y1))
theorem jB_ (a0 : Int) (r : Bool) (h : fd_ a0 = some r) : fp_ a0 = some r := by
 unfold fd_ at h
 refine k_W ok_106 E_bool_inj h (fun σ0 => ?_)
 refine t_RN ?_
 refine t_RU 1 ?_
 refine ay_ fun y1 hy1 => ?_
 refine t_N ?_
 exact k_eW (rT rN) E_bool_p
noncomputable def dL_ (a0 : Int) : Option Bool := ((bx_ a0 6 10).bind fun y1 => (some y1))
theorem hB_ (a0 : Int) (r : Bool) (h : dL_ a0 = some r) : dH_ a0 = some r := by
 unfold dL_ at h
 refine k_W ok_107 E_bool_inj h (fun σ0 => ?_)
 refine t_RN ?_
 refine t_RU 1 ?_
 refine ay_ fun y1 hy1 => ?_
 refine t_N ?_
 exact k_eW (rT rN) E_bool_p
noncomputable def eN_ (a0 : Int) : Option Bool := ((bx_ a0 21 24).bind fun y1 => (some y1))
theorem iG_ (a0 : Int) (r : Bool) (h : eN_ a0 = some r) : eO_ a0 = some r := by
 unfold eN_ at h
 refine k_W ok_108 E_bool_inj h (fun σ0 => ?_)
 refine t_RN ?_
 refine t_RU 1 ?_
 refine ay_ fun y1 hy1 => ?_
 refine t_N ?_
 exact k_eW (rT rN) E_bool_p
noncomputable def cH_ (a0 : Int) : Option Bool := ((bx_ a0 1 24).bind fun y1 => (some y1))
theorem f9_ (a0 : Int) (r : Bool) (h : cH_ a0 = some r) : cG_ a0 = some r := by
 unfold cH_ at h
 refine k_W ok_109 E_bool_inj h (fun σ0 => ?_)
 refine t_RN ?_
 refine t_RU 1 ?_
 refine ay_ fun y1 hy1 => ?_
 refine t_N ?_
 exact k_eW (rT rN) E_bool_p
noncomputable def eo_ (a0 : Int) (a1 : ByteArray) : Option Bool := ((cQ_ a1 a0).bind fun y1 => (some (decide (0 ≤ y1))))
theorem in_ (a0 : Int) (a1 : ByteArray) (r : Bool) (h : eo_ a0 a1 = some r) : bp_ a0 a1 = some r := by
 unfold eo_ at h
 refine qJ_ E_bool_inj rfl rfl ok_113 (fun bs hb => by obtain ⟨bp1, rfl⟩ := bl1 hb; exact rfl) (fun bs hb => by obtain ⟨bp1, rfl⟩ := bl1 hb; exact (all_cons (by kernel_rfl) (all_cons rfl all_nil))) ?_
 intro σ0 bs s hL hS hH
 obtain ⟨bp1, rfl, hL_bp1⟩ := t6_ hL
 clear hL
 have hS := ae_ (L' := [(0, .int .u8 a0), (1, .ptr bp1 0 0 1)]) hS (by kernel_rfl)
 refine t_go h hS hH ?_
 refine t_RN ?_
 refine t_R ?_
 refine pS_ hL_bp1 ?_
 refine t_U 1 ?_
 refine ay_ fun y1 hy1 => ?_
 refine t_N ?_
 exact k_eW (rT rN) E_bool_p
noncomputable def cO_ (a0 : ByteArray) (a1 : Int) : Option Int := ((bf_ a0 a1).bind fun y1 => (some y1))
theorem gx_ (a0 : ByteArray) (a1 : Int) (r : Int) (h : cO_ a0 a1 = some r) : cQ_ a0 a1 = some r := by
 unfold cO_ at h
 refine k_W ok_114 E_i64_inj h (fun σ0 => ?_)
 refine t_RN ?_
 refine t_RU 2 ?_
 refine ay_ fun y1 hy1 => ?_
 refine t_N ?_
 exact k_eW (rT rN) E_i64_p
noncomputable def cS_ (a0 : ByteArray) (a1 : ByteArray) : Option Bool := ((bj_ a0 a1).bind fun y1 => (some y1))
theorem gv_ (a0 : ByteArray) (a1 : ByteArray) (r : Bool) (h : cS_ a0 a1 = some r) : cM_ a0 a1 = some r := by
 unfold cS_ at h
 refine k_W ok_115 E_bool_inj h (fun σ0 => ?_)
 refine t_RN ?_
 refine t_RU 2 ?_
 refine ay_ fun y1 hy1 => ?_
 refine t_N ?_
 exact k_eW (rT rN) E_bool_p
noncomputable def eM_ (a0 : Int) (a1 : Int) (a2 : Bool) : Option Int := (if a2 = true then (some (w4 (a1 - a0))) else (some a0))
theorem iK_ (a0 : Int) (a1 : Int) (a2 : Bool) (r : Int) (h : eM_ a0 a1 a2 = some r) : ds_ a0 a1 a2 = some r := by
 unfold eM_ at h
 refine k_W ok_118 E_i64_inj h (fun σ0 => ?_)
 refine t_RN ?_
 refine t_RN ?_
 refine t_if (fun hc1 => ?_) fun hc1 => ?_
 ·refine t_RN ?_
  exact k_eW (rT rN) E_i64_p
 refine t_RN ?_
 exact k_eW (rT rN) E_i64_p

noncomputable def fb_ (a0 : ByteArray) (a1 : Int) (a2 : Int) : Option Int := ((aD_ (S := (Int × Int)) (R := (Unit ⊕ Int)) (fun st1 => (if (decide (st1.2 < (a0.size : Int))) = true then ((aV_ a0 st1.2).bind fun y2 => (((if (decide (y2 = 40)) = true then (some (w4 (st1.1 + 1))) else (some st1.1)) : Option Int).bind fun y3 => ((aV_ a0 st1.2).bind fun y4 => (((if (decide (y4 = 41)) = true then (some (w4 (y3 - 1))) else (some y3)) : Option Int).bind fun y5 => (if (decide (y5 < 0)) = true then (some (.inr (.inr (-1)))) else (if (decide (y5 = 0)) = true then (if (decide (a2 < (w4 (st1.2 + 1)))) = true then (some (.inr (.inr (w4 (st1.2 + 1))))) else (some (.inl (y5, (w4 (st1.2 + 1)))))) else (some (.inl (y5, (w4 (st1.2 + 1))))))))))) else (some (.inr (.inl ()))))) (0, a1)).bind fun y1 => (Sum.elim (fun y1 => (some (-1))) (fun y1 => (some y1)) y1))
theorem jJ_ (a0 : ByteArray) (a1 : Int) (a2 : Int) (r : Int) (h : fb_ a0 a1 a2 = some r) : b6_ a0 a1 a2 = some r := by
 unfold fb_ at h
 refine k_W ok_122 E_i64_inj h (fun σ0 => ?_)
 refine t_RN ?_
 refine t_RN ?_
 refine t_RN ?_
 refine a9_ (fun st1 fr => Sub [(0, .str a0), (2, i4 a2), (7, i4 st1.1), (8, i4 st1.2)] fr.s ∧ Heap σ0 fr.σ []) (fun y1 e fr => (Sum.elim (fun y => e = (.exit 0) ∧ Sub [] fr.s ∧ Heap σ0 fr.σ []) (fun y => e = .ret ∧ endW Tryz.prog (Tryz.f122.results.toList) σ0 (E_i64 y) .ret fr)) y1) (fun hS hH => ⟨(ae_ hS (by kernel_rfl)), hH⟩) (fun st1 x fr h HI => ?_) fun y1 e fr h HF => ?_
 ·obtain ⟨s, σ⟩ := fr; obtain ⟨hS, hH⟩ := HI
  refine t_bk h hS hH ?_
  refine t_RN ?_
  refine t_if (fun hc1 => ?_) fun hc1 => ?_
  ·refine t_RU 2 ?_
   refine dA_ fun y2 hy2 => ?_
   refine t_N ?_
   refine ev_ 0 (fun y3 e fr => e = .normal ∧ Sub [(0, .str a0), (2, i4 a2), (7, i4 y3), (8, i4 st1.2)] fr.s ∧ Heap σ0 fr.σ []) (fun y3 e fr h HF => ?_) fun y3 => ?_
   ·obtain ⟨s, σ⟩ := fr
    obtain ⟨rfl, hS, hH⟩ := HF
    refine t_bx h hS hH ?_
    refine t_RU 2 ?_
    refine dA_ fun y4 hy4 => ?_
    refine t_N ?_
    refine ev_ 0 (fun y5 e fr => e = .normal ∧ Sub [(0, .str a0), (2, i4 a2), (7, i4 y5), (8, i4 st1.2)] fr.s ∧ Heap σ0 fr.σ []) (fun y5 e fr h HF => ?_) fun y5 => ?_
    ·obtain ⟨s, σ⟩ := fr
     obtain ⟨rfl, hS, hH⟩ := HF
     refine t_bx h hS hH ?_
     refine t_RN ?_
     refine t_if (fun hc2 => ?_) fun hc2 => ?_
     ·refine t_RN ?_
      exact t_e fun he hS hH => he ▸ ⟨rfl, (eW hS hH (rT rN) E_i64_p)⟩
     refine t_RU 3 ?_
     refine aQ_ 32 (fun hc3 => ?_) fun hc3 => ?_
     ·refine t_N ?_
      refine t_if (fun hc4 => ?_) fun hc4 => ?_
      ·refine t_RN ?_
       exact t_e fun he hS hH => he ▸ ⟨rfl, (eW hS hH (rT rN) E_i64_p)⟩
      refine t_RN ?_
      exact t_e fun he hS hH => he ▸ ⟨(ae_ hS (by kernel_rfl)), hH⟩
     refine t_N ?_
     refine t_cF ff_ne ?_
     refine t_RN ?_
     exact t_e fun he hS hH => he ▸ ⟨(ae_ hS (by kernel_rfl)), hH⟩
    refine t_if (fun hc5 => ?_) fun hc5 => ?_
    ·refine t_RN ?_
     exact t_e fun he hS hH => he ▸ ⟨rfl, (ae_ hS (by kernel_rfl)), hH⟩
    exact t_e fun he hS hH => he ▸ ⟨rfl, (ae_ hS (by kernel_rfl)), hH⟩
   refine t_if (fun hc6 => ?_) fun hc6 => ?_
   ·refine t_RN ?_
    exact t_e fun he hS hH => he ▸ ⟨rfl, (ae_ hS (by kernel_rfl)), hH⟩
   exact t_e fun he hS hH => he ▸ ⟨rfl, (ae_ hS (by kernel_rfl)), hH⟩
  exact t_e fun he hS hH => he ▸ ⟨rfl, (ae_ hS (by kernel_rfl)), hH⟩
 obtain ⟨s, σ⟩ := fr
 rcases y1 with y1 | y1
 ·have h := el_l h
  obtain ⟨rfl, hS, hH⟩ := HF
  refine t_bx h hS hH ?_
  refine t_RN ?_
  exact k_eW (rT rN) E_i64_p
 have h := el_r h
 obtain ⟨rfl, HE⟩ := HF
 obtain rfl := si_1 h; exact HE
noncomputable def ci_ (a0 : (Sl DNamed)) (a1 : ByteArray) : Option Int := ((aD_ (S := Int) (R := (Unit ⊕ Int)) (fun st1 => (if (decide (st1 < (a0.l.length : Int))) = true then ((elt a0 st1).bind fun y2 => (if (decide (y2.Name = a1)) = true then (some (.inr (.inr st1))) else (some (.inl (w4 (st1 + 1)))))) else (some (.inr (.inl ()))))) 0).bind fun y1 => (Sum.elim (fun y1 => (some (-1))) (fun y1 => (some y1)) y1))
theorem dn_ (a0 : (Sl DNamed)) (a1 : ByteArray) (r : Int) (h : ci_ a0 a1 = some r) : ch_ a0 a1 = some r := by
 unfold ci_ at h
 refine k_W ok_125 E_i64_inj h (fun σ0 => ?_)
 refine t_RN ?_
 refine t_RN ?_
 refine a9_ (fun st1 fr => Sub [(0, a0.t), (1, .str a1), (5, i4 st1)] fr.s ∧ Heap σ0 fr.σ []) (fun y1 e fr => (Sum.elim (fun y => e = (.exit 0) ∧ Sub [] fr.s ∧ Heap σ0 fr.σ []) (fun y => e = .ret ∧ endW Tryz.prog (Tryz.f125.results.toList) σ0 (E_i64 y) .ret fr)) y1) (fun hS hH => ⟨(ae_ hS (by kernel_rfl)), hH⟩) (fun st1 x fr h HI => ?_) fun y1 e fr h HF => ?_
 ·obtain ⟨s, σ⟩ := fr; obtain ⟨hS, hH⟩ := HI
  refine t_bk h hS hH ?_
  refine t_RN ?_
  refine t_if (fun hc1 => ?_) fun hc1 => ?_
  ·refine t_RU 2 ?_
   refine cb_ fun y2 rest1 hy2 => ?_
   refine t_N ?_
   refine t_if (fun hc2 => ?_) fun hc2 => ?_
   ·refine t_RN ?_
    exact t_e fun he hS hH => he ▸ ⟨rfl, (eW hS hH (rT rN) E_i64_p)⟩
   refine t_RN ?_
   exact t_e fun he hS hH => he ▸ ⟨(ae_ hS (by kernel_rfl)), hH⟩
  exact t_e fun he hS hH => he ▸ ⟨rfl, (ae_ hS (by kernel_rfl)), hH⟩
 obtain ⟨s, σ⟩ := fr
 rcases y1 with y1 | y1
 ·have h := el_l h
  obtain ⟨rfl, hS, hH⟩ := HF
  refine t_bx h hS hH ?_
  refine t_RN ?_
  exact k_eW (rT rN) E_i64_p
 have h := el_r h
 obtain ⟨rfl, HE⟩ := HF
 obtain rfl := si_1 h; exact HE
end Go.Am
