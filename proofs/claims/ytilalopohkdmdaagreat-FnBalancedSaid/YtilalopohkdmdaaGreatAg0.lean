/- Functions of the program. -/
import Derived.Test.YtilalopohkdmdaaGreatAd0
set_option maxRecDepth 100000
set_option maxHeartbeats 4000000
set_option linter.unusedVariables false
set_option linter.unusedSimpArgs false
namespace Go.Am
open Go.Proofs
noncomputable def dk_ (a0 : (Sl (Iv .u8))) : Option Bool := (if (decide (1048576 < (a0.l.length : Int))) = true then (some true) else ((dH_ a0).bind fun y1 => ((cU_ 13 ⟨#[]⟩ ⟨true, []⟩).bind fun y2 => ((bz_ y2 y2).bind fun y3 => ((az_ (S := Int) (R := (Unit ⊕ Bool)) (fun st1 => (if (decide (st1 < ((⟨false, [y2, y3]⟩ : Sl DPattern).l.length : Int))) = true then ((elt (⟨false, [y2, y3]⟩ : Sl DPattern) st1).bind fun y5 => ((dE_ ⟨true, []⟩ y5 y1 false 2000).bind fun y6 => (if (!y6.2.2) = true then (some (.inr (.inr false))) else (if (!decide (y6.2.1 = 0)) = true then (if (!decide (y6.2.1 = 6)) = true then (some (.inr (.inr (decide (y6.2.1 = 7))))) else ((az_ (S := Int) (R := (Unit ⊕ Bool)) (fun st2 => (if (decide (st2 < (y6.1.l.length : Int))) = true then ((elt y6.1 st2).bind fun y8 => ((bw_ y1 y8).bind fun y9 => ((az_ (S := (Int × Int)) (R := (Int ⊕ Bool)) (fun st3 => (if (decide (st3.2 < (y9.size : Int))) = true then ((aC_ y9 st3.2).bind fun y11 => (((if (decide (y11 = 40)) = true then (some (w4 (st3.1 + 1))) else (some st3.1)) : Option Int).bind fun y12 => ((aC_ y9 st3.2).bind fun y13 => (((if (decide (y13 = 41)) = true then (some (w4 (y12 - 1))) else (some y12)) : Option Int).bind fun y14 => (if (decide (y14 < 0)) = true then (some (.inr (.inr false))) else (some (.inl (y14, (w4 (st3.2 + 1)))))))))) else (some (.inr (.inl st3.1))))) (0, 0)).bind fun y10 => (Sum.elim (fun y10 => (if (!decide (y10 = 0)) = true then (some (.inr (.inr false))) else (if (decide ((y9.size : Int) ≤ st1)) = true then (some (.inr (.inr false))) else ((bk_ ⟨#[40]⟩).bind fun y15 => ((bk_ ⟨#[41]⟩).bind fun y16 => ((bz_ y2 y16).bind fun y17 => ((bz_ y15 y17).bind fun y18 => (if (decide (st1 = 0)) = true then ((catB ⟨#[40]⟩ y9).bind fun y19 => ((catB y19 ⟨#[41]⟩).bind fun y20 => ((bx_ ⟨true, []⟩ y18 y20 2000).bind fun y21 => (if (!y21) = true then (some (.inr (.inr false))) else (some (.inl (w4 (st2 + 1)))))))) else (some (.inl (w4 (st2 + 1)))))))))))) (fun y10 => (some (.inr (.inr y10)))) y10)))) else (some (.inr (.inl ()))))) 0).bind fun y7 => (Sum.elim (fun y7 => (some (.inl (w4 (st1 + 1))))) (fun y7 => (some (.inr (.inr y7)))) y7))) else ((az_ (S := Int) (R := (Unit ⊕ Bool)) (fun st4 => (if (decide (st4 < (y6.1.l.length : Int))) = true then ((elt y6.1 st4).bind fun y23 => ((bw_ y1 y23).bind fun y24 => ((az_ (S := (Int × Int)) (R := (Int ⊕ Bool)) (fun st5 => (if (decide (st5.2 < (y24.size : Int))) = true then ((aC_ y24 st5.2).bind fun y26 => (((if (decide (y26 = 40)) = true then (some (w4 (st5.1 + 1))) else (some st5.1)) : Option Int).bind fun y27 => ((aC_ y24 st5.2).bind fun y28 => (((if (decide (y28 = 41)) = true then (some (w4 (y27 - 1))) else (some y27)) : Option Int).bind fun y29 => (if (decide (y29 < 0)) = true then (some (.inr (.inr false))) else (some (.inl (y29, (w4 (st5.2 + 1)))))))))) else (some (.inr (.inl st5.1))))) (0, 0)).bind fun y25 => (Sum.elim (fun y25 => (if (!decide (y25 = 0)) = true then (some (.inr (.inr false))) else (if (decide ((y24.size : Int) ≤ st1)) = true then (some (.inr (.inr false))) else ((bk_ ⟨#[40]⟩).bind fun y30 => ((bk_ ⟨#[41]⟩).bind fun y31 => ((bz_ y2 y31).bind fun y32 => ((bz_ y30 y32).bind fun y33 => (if (decide (st1 = 0)) = true then ((catB ⟨#[40]⟩ y24).bind fun y34 => ((catB y34 ⟨#[41]⟩).bind fun y35 => ((bx_ ⟨true, []⟩ y33 y35 2000).bind fun y36 => (if (!y36) = true then (some (.inr (.inr false))) else (some (.inl (w4 (st4 + 1)))))))) else (some (.inl (w4 (st4 + 1)))))))))))) (fun y25 => (some (.inr (.inr y25)))) y25)))) else (some (.inr (.inl ()))))) 0).bind fun y22 => (Sum.elim (fun y22 => (some (.inl (w4 (st1 + 1))))) (fun y22 => (some (.inr (.inr y22)))) y22)))))) else (some (.inr (.inl ()))))) 0).bind fun y4 => (Sum.elim (fun y4 => (some true)) (fun y4 => (some y4)) y4))))))
theorem gP_ (a0 : (Sl (Iv .u8))) (r : Bool) (h : dk_ a0 = some r) : eS_ a0 = some r := by
 unfold dk_ at h
 refine k_W ok_7 E_bool_inj h (fun σ0 => ?_)
 refine t_RN ?_
 refine t_RN ?_
 refine t_if (fun hc1 => ?_) fun hc1 => ?_
 ·refine t_RN ?_
  exact k_eW (rT rN) E_bool_p
 refine t_RU 1 ?_
 refine aq_ fun y1 hy1 => ?_
 refine t_N ?_
 refine t_R ?_
 refine aq_ fun y2 hy2 => ?_
 refine dL_ fun b1 => ?_
 refine bE_ 0 ?_
 refine t_N ?_
 refine a0_ [] ext_x fun mb σs hn0 hlt hlto => ?_
 have hlt_b1 : b1 < mb := hlt b1 _ (List.Mem.head _)
 refine ae_ 0 ?_ (hlt := by exact (Or.inr ⟨hlt_b1, Wc.nil⟩))
 refine ae_ 0 ?_ (hlt := by exact (Or.inl (by kernel_rfl)))
 refine ae_ 0 ?_ (hlt := by exact (Or.inl (by kernel_rfl)))
 refine aq_ fun y3 hy3 => ?_
 refine if_ (⟨false, [y2, y3]⟩ : Sl DPattern) (fun t1 ht1 => ?_) (hb := by exact hn0)
 refine t_N ?_
 refine t_RN ?_
 refine aW_ (fun st1 fr => Sub [(3, .str y1), (4, .ptr b1 0 0 4), (5, t1), (6, i4 st1)] fr.s ∧ Heap σ0 fr.σ [.box b1 [i4 y2.Kind, i4 y2.Num, .str y2.Text, y2.Kids.t], .flt 4 t1 (Sl.t (⟨false, [y2, y3]⟩ : Sl DPattern))]) (fun y4 e fr => (Sum.elim (fun y => e = (.exit 0) ∧ Sub [] fr.s ∧ Heap σ0 fr.σ []) (fun y => e = .ret ∧ endW Tryz.prog (Tryz.f7.results.toList) σ0 (E_bool y) .ret fr)) y4) (fun hS hH => ⟨(ad_ hS (by kernel_rfl)), (Heap.sel hH [1, 0] rfl (by kernel_rfl))⟩) (fun st1 x fr h HI => ?_) fun y4 e fr h HF => ?_
 ·obtain ⟨s, σ⟩ := fr; obtain ⟨hS, hH⟩ := HI
  refine t_bk h hS hH ?_
  refine t_RU 2 ?_
  refine du_ (a := (⟨false, [y2, y3]⟩ : Sl DPattern)) 1 ?_
  refine t_N ?_
  refine t_if (fun hc2 => ?_) fun hc2 => ?_
  ·refine t_RU 2 ?_
   refine oH_ 1 (fun hb1 hb1e y5 hy5 hl_hb1 => ?_)
   refine mm_ 1 0 hl_hb1 hy5 ?_
   refine t_U 1 ?_
   refine aq_ fun y6 hy6 => ?_
   refine t_N ?_
   refine t_RN ?_
   refine t_if (fun hc3 => ?_) fun hc3 => ?_
   ·refine t_RN ?_
    exact t_e fun he hS hH => he ▸ ⟨rfl, (eW hS hH (rT rN) E_bool_p)⟩
   refine t_RU 3 ?_
   refine aF_ 46 (fun hc4 => ?_) fun hc4 => ?_
   ·refine t_N ?_
    refine t_if (fun hc5 => ?_) fun hc5 => ?_
    ·refine t_RN ?_
     exact t_e fun he hS hH => he ▸ ⟨rfl, (eW hS hH (rT rN) E_bool_p)⟩
    refine t_RN ?_
    refine aW_ (fun st2 fr => Sub [(3, .str y1), (4, .ptr b1 0 0 4), (5, t1), (6, i4 st1), (7, y6.1.t), (10, i4 st2)] fr.s ∧ Heap σ0 fr.σ [.box b1 [i4 y2.Kind, i4 y2.Num, .str y2.Text, y2.Kids.t], .flt 4 t1 (Sl.t (⟨false, [y2, y3]⟩ : Sl DPattern))]) (fun y7 e fr => (Sum.elim (fun y => e = (.exit 2) ∧ Sub [(3, .str y1), (4, .ptr b1 0 0 4), (5, t1), (6, i4 st1)] fr.s ∧ Heap σ0 fr.σ [.box b1 [i4 y2.Kind, i4 y2.Num, .str y2.Text, y2.Kids.t], .flt 4 t1 (Sl.t (⟨false, [y2, y3]⟩ : Sl DPattern))]) (fun y => e = .ret ∧ endW Tryz.prog (Tryz.f7.results.toList) σ0 (E_bool y) .ret fr)) y7) (fun hS hH => ⟨(ad_ hS (by kernel_rfl)), hH⟩) (fun st2 x fr h HI => ?_) fun y7 e fr h HF => ?_
    ·obtain ⟨s, σ⟩ := fr; obtain ⟨hS, hH⟩ := HI
     refine t_bk h hS hH ?_
     refine t_RN ?_
     refine t_if (fun hc6 => ?_) fun hc6 => ?_
     ·refine t_RU 3 ?_
      refine b3_ fun y8 rest1 hy8 => ?_
      refine t_U 1 ?_
      refine aq_ fun y9 hy9 => ?_
      refine t_N ?_
      refine t_RN ?_
      refine t_RN ?_
      refine aW_ (fun st3 fr => Sub [(3, .str y1), (4, .ptr b1 0 0 4), (5, t1), (6, i4 st1), (7, y6.1.t), (10, i4 st2), (11, .str y9), (12, i4 st3.1), (13, i4 st3.2)] fr.s ∧ Heap σ0 fr.σ [.box b1 [i4 y2.Kind, i4 y2.Num, .str y2.Text, y2.Kids.t], .flt 4 t1 (Sl.t (⟨false, [y2, y3]⟩ : Sl DPattern))]) (fun y10 e fr => (Sum.elim (fun y => e = (.exit 4) ∧ Sub [(3, .str y1), (4, .ptr b1 0 0 4), (5, t1), (6, i4 st1), (7, y6.1.t), (10, i4 st2), (11, .str y9), (12, i4 y)] fr.s ∧ Heap σ0 fr.σ [.box b1 [i4 y2.Kind, i4 y2.Num, .str y2.Text, y2.Kids.t], .flt 4 t1 (Sl.t (⟨false, [y2, y3]⟩ : Sl DPattern))]) (fun y => e = .ret ∧ endW Tryz.prog (Tryz.f7.results.toList) σ0 (E_bool y) .ret fr)) y10) (fun hS hH => ⟨(ad_ hS (by kernel_rfl)), hH⟩) (fun st3 x fr h HI => ?_) fun y10 e fr h HF => ?_
      ·obtain ⟨s, σ⟩ := fr; obtain ⟨hS, hH⟩ := HI
       refine t_bk h hS hH ?_
       refine t_RN ?_
       refine t_if (fun hc7 => ?_) fun hc7 => ?_
       ·refine t_RU 2 ?_
        refine cA_ fun y11 hy11 => ?_
        refine t_N ?_
        refine dW_ 0 (fun y12 e fr => e = .normal ∧ Sub [(3, .str y1), (4, .ptr b1 0 0 4), (5, t1), (6, i4 st1), (7, y6.1.t), (10, i4 st2), (11, .str y9), (12, i4 y12), (13, i4 st3.2)] fr.s ∧ Heap σ0 fr.σ [.box b1 [i4 y2.Kind, i4 y2.Num, .str y2.Text, y2.Kids.t], .flt 4 t1 (Sl.t (⟨false, [y2, y3]⟩ : Sl DPattern))]) (fun y12 e fr h HF => ?_) fun y12 => ?_
        ·obtain ⟨s, σ⟩ := fr
         obtain ⟨rfl, hS, hH⟩ := HF
         refine t_bx h hS hH ?_
         refine t_RU 2 ?_
         refine cA_ fun y13 hy13 => ?_
         refine t_N ?_
         refine dW_ 0 (fun y14 e fr => e = .normal ∧ Sub [(3, .str y1), (4, .ptr b1 0 0 4), (5, t1), (6, i4 st1), (7, y6.1.t), (10, i4 st2), (11, .str y9), (12, i4 y14), (13, i4 st3.2)] fr.s ∧ Heap σ0 fr.σ [.box b1 [i4 y2.Kind, i4 y2.Num, .str y2.Text, y2.Kids.t], .flt 4 t1 (Sl.t (⟨false, [y2, y3]⟩ : Sl DPattern))]) (fun y14 e fr h HF => ?_) fun y14 => ?_
         ·obtain ⟨s, σ⟩ := fr
          obtain ⟨rfl, hS, hH⟩ := HF
          refine t_bx h hS hH ?_
          refine t_RN ?_
          refine t_if (fun hc8 => ?_) fun hc8 => ?_
          ·refine t_RN ?_
           exact t_e fun he hS hH => he ▸ ⟨rfl, (eW hS hH (rT rN) E_bool_p)⟩
          refine t_RN ?_
          exact t_e fun he hS hH => he ▸ ⟨(ad_ hS (by kernel_rfl)), hH⟩
         refine t_if (fun hc9 => ?_) fun hc9 => ?_
         ·refine t_RN ?_
          exact t_e fun he hS hH => he ▸ ⟨rfl, (ad_ hS (by kernel_rfl)), hH⟩
         exact t_e fun he hS hH => he ▸ ⟨rfl, (ad_ hS (by kernel_rfl)), hH⟩
        refine t_if (fun hc10 => ?_) fun hc10 => ?_
        ·refine t_RN ?_
         exact t_e fun he hS hH => he ▸ ⟨rfl, (ad_ hS (by kernel_rfl)), hH⟩
        exact t_e fun he hS hH => he ▸ ⟨rfl, (ad_ hS (by kernel_rfl)), hH⟩
       exact t_e fun he hS hH => he ▸ ⟨rfl, (ad_ hS (by kernel_rfl)), hH⟩
      obtain ⟨s, σ⟩ := fr
      rcases y10 with y10 | y10
      ·have h := el_l h
       obtain ⟨rfl, hS, hH⟩ := HF
       refine t_bx h hS hH ?_
       refine t_RU 3 ?_
       refine aF_ 86 (fun hc11 => ?_) fun hc11 => ?_
       ·refine t_N ?_
        refine t_cT rfl ?_
        refine t_RN ?_
        exact t_e fun he hS hH => he ▸ ⟨rfl, (eW hS hH (rT rN) E_bool_p)⟩
       refine t_N ?_
       refine t_if (fun hc12 => ?_) fun hc12 => ?_
       ·refine t_RN ?_
        exact t_e fun he hS hH => he ▸ ⟨rfl, (eW hS hH (rT rN) E_bool_p)⟩
       refine a0_ [(6, RN)] ext_x fun mb σs hn0 hlt hlto => ?_
       have hlt_b1 : b1 < mb := hlt b1 _ (List.Mem.head _)
       refine aq_ fun y15 hy15 => ?_
       refine ae_ 0 ?_ (hlt := by exact (Or.inr ⟨hlt_b1, (Wc.cons (.inl (by kernel_rfl)) Wc.nil)⟩))
       refine aq_ fun y16 hy16 => ?_
       refine aq_ fun y17 hy17 => ?_
       refine aq_ fun y18 hy18 => ?_
       refine hB_ (by exact hn0) fun b2 hwr_b2 => ?_
       refine bE_ 0 ?_ (hwr := by exact fun _ => Or.inl hwr_b2)
       refine t_N ?_
       refine t_RU 3 ?_
       refine aF_ 99 (fun hc13 => ?_) fun hc13 => ?_
       ·refine ae_ 0 ?_
        refine t_U 1 ?_
        refine lX_ fun y19 hy19 => ?_
        refine lX_ fun y20 hy20 => ?_
        refine aq_ fun y21 hy21 => ?_
        refine t_N ?_
        refine t_if (fun hc14 => ?_) fun hc14 => ?_
        ·refine t_RN ?_
         exact t_e fun he hS hH => he ▸ ⟨rfl, (eW hS hH (rT rN) E_bool_p)⟩
        refine t_RN ?_
        exact t_e fun he hS hH => he ▸ ⟨(ad_ hS (by kernel_rfl)), (Heap.sel hH [1, 2] rfl (by kernel_rfl))⟩
       refine t_N ?_
       refine t_cF ff_ne ?_
       refine t_RN ?_
       exact t_e fun he hS hH => he ▸ ⟨(ad_ hS (by kernel_rfl)), (Heap.sel hH [1, 2] rfl (by kernel_rfl))⟩
      have h := el_r h
      obtain ⟨rfl, HE⟩ := HF
      obtain rfl := si_1 h; exact ⟨rfl, HE⟩
     exact t_e fun he hS hH => he ▸ ⟨rfl, (ad_ hS (by kernel_rfl)), hH⟩
    obtain ⟨s, σ⟩ := fr
    rcases y7 with y7 | y7
    ·have h := el_l h
     obtain ⟨rfl, hS, hH⟩ := HF
     refine t_bx h hS hH ?_
     refine t_RN ?_
     exact t_e fun he hS hH => he ▸ ⟨(ad_ hS (by kernel_rfl)), hH⟩
    have h := el_r h
    obtain ⟨rfl, HE⟩ := HF
    obtain rfl := si_1 h; exact ⟨rfl, HE⟩
   refine t_N ?_
   refine t_cF ff_ne ?_
   refine t_RN ?_
   refine aW_ (fun st4 fr => Sub [(3, .str y1), (4, .ptr b1 0 0 4), (5, t1), (6, i4 st1), (7, y6.1.t), (10, i4 st4)] fr.s ∧ Heap σ0 fr.σ [.box b1 [i4 y2.Kind, i4 y2.Num, .str y2.Text, y2.Kids.t], .flt 4 t1 (Sl.t (⟨false, [y2, y3]⟩ : Sl DPattern))]) (fun y22 e fr => (Sum.elim (fun y => e = (.exit 2) ∧ Sub [(3, .str y1), (4, .ptr b1 0 0 4), (5, t1), (6, i4 st1)] fr.s ∧ Heap σ0 fr.σ [.box b1 [i4 y2.Kind, i4 y2.Num, .str y2.Text, y2.Kids.t], .flt 4 t1 (Sl.t (⟨false, [y2, y3]⟩ : Sl DPattern))]) (fun y => e = .ret ∧ endW Tryz.prog (Tryz.f7.results.toList) σ0 (E_bool y) .ret fr)) y22) (fun hS hH => ⟨(ad_ hS (by kernel_rfl)), hH⟩) (fun st4 x fr h HI => ?_) fun y22 e fr h HF => ?_
   ·obtain ⟨s, σ⟩ := fr; obtain ⟨hS, hH⟩ := HI
    refine t_bk h hS hH ?_
    refine t_RN ?_
    refine t_if (fun hc15 => ?_) fun hc15 => ?_
    ·refine t_RU 3 ?_
     refine b3_ fun y23 rest2 hy23 => ?_
     refine t_U 1 ?_
     refine aq_ fun y24 hy24 => ?_
     refine t_N ?_
     refine t_RN ?_
     refine t_RN ?_
     refine aW_ (fun st5 fr => Sub [(3, .str y1), (4, .ptr b1 0 0 4), (5, t1), (6, i4 st1), (7, y6.1.t), (10, i4 st4), (11, .str y24), (12, i4 st5.1), (13, i4 st5.2)] fr.s ∧ Heap σ0 fr.σ [.box b1 [i4 y2.Kind, i4 y2.Num, .str y2.Text, y2.Kids.t], .flt 4 t1 (Sl.t (⟨false, [y2, y3]⟩ : Sl DPattern))]) (fun y25 e fr => (Sum.elim (fun y => e = (.exit 4) ∧ Sub [(3, .str y1), (4, .ptr b1 0 0 4), (5, t1), (6, i4 st1), (7, y6.1.t), (10, i4 st4), (11, .str y24), (12, i4 y)] fr.s ∧ Heap σ0 fr.σ [.box b1 [i4 y2.Kind, i4 y2.Num, .str y2.Text, y2.Kids.t], .flt 4 t1 (Sl.t (⟨false, [y2, y3]⟩ : Sl DPattern))]) (fun y => e = .ret ∧ endW Tryz.prog (Tryz.f7.results.toList) σ0 (E_bool y) .ret fr)) y25) (fun hS hH => ⟨(ad_ hS (by kernel_rfl)), hH⟩) (fun st5 x fr h HI => ?_) fun y25 e fr h HF => ?_
     ·obtain ⟨s, σ⟩ := fr; obtain ⟨hS, hH⟩ := HI
      refine t_bk h hS hH ?_
      refine t_RN ?_
      refine t_if (fun hc16 => ?_) fun hc16 => ?_
      ·refine t_RU 2 ?_
       refine cA_ fun y26 hy26 => ?_
       refine t_N ?_
       refine dW_ 0 (fun y27 e fr => e = .normal ∧ Sub [(3, .str y1), (4, .ptr b1 0 0 4), (5, t1), (6, i4 st1), (7, y6.1.t), (10, i4 st4), (11, .str y24), (12, i4 y27), (13, i4 st5.2)] fr.s ∧ Heap σ0 fr.σ [.box b1 [i4 y2.Kind, i4 y2.Num, .str y2.Text, y2.Kids.t], .flt 4 t1 (Sl.t (⟨false, [y2, y3]⟩ : Sl DPattern))]) (fun y27 e fr h HF => ?_) fun y27 => ?_
       ·obtain ⟨s, σ⟩ := fr
        obtain ⟨rfl, hS, hH⟩ := HF
        refine t_bx h hS hH ?_
        refine t_RU 2 ?_
        refine cA_ fun y28 hy28 => ?_
        refine t_N ?_
        refine dW_ 0 (fun y29 e fr => e = .normal ∧ Sub [(3, .str y1), (4, .ptr b1 0 0 4), (5, t1), (6, i4 st1), (7, y6.1.t), (10, i4 st4), (11, .str y24), (12, i4 y29), (13, i4 st5.2)] fr.s ∧ Heap σ0 fr.σ [.box b1 [i4 y2.Kind, i4 y2.Num, .str y2.Text, y2.Kids.t], .flt 4 t1 (Sl.t (⟨false, [y2, y3]⟩ : Sl DPattern))]) (fun y29 e fr h HF => ?_) fun y29 => ?_
        ·obtain ⟨s, σ⟩ := fr
         obtain ⟨rfl, hS, hH⟩ := HF
         refine t_bx h hS hH ?_
         refine t_RN ?_
         refine t_if (fun hc17 => ?_) fun hc17 => ?_
         ·refine t_RN ?_
          exact t_e fun he hS hH => he ▸ ⟨rfl, (eW hS hH (rT rN) E_bool_p)⟩
         refine t_RN ?_
         exact t_e fun he hS hH => he ▸ ⟨(ad_ hS (by kernel_rfl)), hH⟩
        refine t_if (fun hc18 => ?_) fun hc18 => ?_
        ·refine t_RN ?_
         exact t_e fun he hS hH => he ▸ ⟨rfl, (ad_ hS (by kernel_rfl)), hH⟩
        exact t_e fun he hS hH => he ▸ ⟨rfl, (ad_ hS (by kernel_rfl)), hH⟩
       refine t_if (fun hc19 => ?_) fun hc19 => ?_
       ·refine t_RN ?_
        exact t_e fun he hS hH => he ▸ ⟨rfl, (ad_ hS (by kernel_rfl)), hH⟩
       exact t_e fun he hS hH => he ▸ ⟨rfl, (ad_ hS (by kernel_rfl)), hH⟩
      exact t_e fun he hS hH => he ▸ ⟨rfl, (ad_ hS (by kernel_rfl)), hH⟩
     obtain ⟨s, σ⟩ := fr
     rcases y25 with y25 | y25
     ·have h := el_l h
      obtain ⟨rfl, hS, hH⟩ := HF
      refine t_bx h hS hH ?_
      refine t_RU 3 ?_
      refine aF_ 86 (fun hc20 => ?_) fun hc20 => ?_
      ·refine t_N ?_
       refine t_cT rfl ?_
       refine t_RN ?_
       exact t_e fun he hS hH => he ▸ ⟨rfl, (eW hS hH (rT rN) E_bool_p)⟩
      refine t_N ?_
      refine t_if (fun hc21 => ?_) fun hc21 => ?_
      ·refine t_RN ?_
       exact t_e fun he hS hH => he ▸ ⟨rfl, (eW hS hH (rT rN) E_bool_p)⟩
      refine a0_ [(6, RN)] ext_x fun mb σs hn0 hlt hlto => ?_
      have hlt_b1 : b1 < mb := hlt b1 _ (List.Mem.head _)
      refine aq_ fun y30 hy30 => ?_
      refine ae_ 0 ?_ (hlt := by exact (Or.inr ⟨hlt_b1, (Wc.cons (.inl (by kernel_rfl)) Wc.nil)⟩))
      refine aq_ fun y31 hy31 => ?_
      refine aq_ fun y32 hy32 => ?_
      refine aq_ fun y33 hy33 => ?_
      refine hB_ (by exact hn0) fun b3 hwr_b3 => ?_
      refine bE_ 0 ?_ (hwr := by exact fun _ => Or.inl hwr_b3)
      refine t_N ?_
      refine t_RU 3 ?_
      refine aF_ 99 (fun hc22 => ?_) fun hc22 => ?_
      ·refine ae_ 0 ?_
       refine t_U 1 ?_
       refine lX_ fun y34 hy34 => ?_
       refine lX_ fun y35 hy35 => ?_
       refine aq_ fun y36 hy36 => ?_
       refine t_N ?_
       refine t_if (fun hc23 => ?_) fun hc23 => ?_
       ·refine t_RN ?_
        exact t_e fun he hS hH => he ▸ ⟨rfl, (eW hS hH (rT rN) E_bool_p)⟩
       refine t_RN ?_
       exact t_e fun he hS hH => he ▸ ⟨(ad_ hS (by kernel_rfl)), (Heap.sel hH [1, 2] rfl (by kernel_rfl))⟩
      refine t_N ?_
      refine t_cF ff_ne ?_
      refine t_RN ?_
      exact t_e fun he hS hH => he ▸ ⟨(ad_ hS (by kernel_rfl)), (Heap.sel hH [1, 2] rfl (by kernel_rfl))⟩
     have h := el_r h
     obtain ⟨rfl, HE⟩ := HF
     obtain rfl := si_1 h; exact ⟨rfl, HE⟩
    exact t_e fun he hS hH => he ▸ ⟨rfl, (ad_ hS (by kernel_rfl)), hH⟩
   obtain ⟨s, σ⟩ := fr
   rcases y22 with y22 | y22
   ·have h := el_l h
    obtain ⟨rfl, hS, hH⟩ := HF
    refine t_bx h hS hH ?_
    refine t_RN ?_
    exact t_e fun he hS hH => he ▸ ⟨(ad_ hS (by kernel_rfl)), hH⟩
   have h := el_r h
   obtain ⟨rfl, HE⟩ := HF
   obtain rfl := si_1 h; exact ⟨rfl, HE⟩
  exact t_e fun he hS hH => he ▸ ⟨rfl, (ad_ hS (by kernel_rfl)), (Heap.sel hH [] rfl (by kernel_rfl))⟩
 obtain ⟨s, σ⟩ := fr
 rcases y4 with y4 | y4
 ·have h := el_l h
  obtain ⟨rfl, hS, hH⟩ := HF
  refine t_bx h hS hH ?_
  refine t_RN ?_
  exact k_eW (rT rN) E_bool_p
 have h := el_r h
 obtain ⟨rfl, HE⟩ := HF
 obtain rfl := si_1 h; exact HE
noncomputable def bg_ (a0 : av_) : Option (Int × av_) := (((if (decide (a0.at_ < (a0.code_.l.length : Int))) = true then ((elt a0.code_ a0.at_).bind fun y2 => (some (w4 y2.v))) else (some 0)) : Option Int).bind fun y1 => (if ((decide ((w4 (a0.at_ + 1)) ≤ (a0.code_.l.length : Int)))) = true then (some (y1, (⟨a0.code_, (w4 (a0.at_ + 1)), (IntKind.u64.wrap ((IntKind.u64.wrap ((IntKind.u64.wrap (a0.seed_ * 6364136223846793005)) + (IntKind.u64.wrap y1))) + 1442695040888963407))⟩ : av_))) else (some ((w4 ((andI .u64 ((((IntKind.u64.wrap ((IntKind.u64.wrap ((IntKind.u64.wrap (a0.seed_ * 6364136223846793005)) + (IntKind.u64.wrap y1))) + 1442695040888963407))).fdiv (2 ^ 40))) 255))), (⟨a0.code_, (w4 (a0.at_ + 1)), (IntKind.u64.wrap ((IntKind.u64.wrap ((IntKind.u64.wrap (a0.seed_ * 6364136223846793005)) + (IntKind.u64.wrap y1))) + 1442695040888963407))⟩ : av_)))))
theorem et_ (a0 : av_) (r : (Int × av_)) (h : bg_ a0 = some r) (bp0 : Nat) : RawS Tryz.prog md ext 59 [.ptr bp0 0 0 3] 0 (fun hs => E_i64 r.1) [.box bp0 (av_.cells a0)] (fun hs => [.box bp0 (av_.cells r.2)]) := by
 unfold bg_ at h
 refine cP_ rfl rfl ok_59 rfl ?_
 intro σ0 σ F σk s hS hH
 have hS := ad_ (L' := [(0, .ptr bp0 0 0 3)]) hS (by kernel_rfl)
 refine t_go h hS hH ?_
 refine t_RN ?_
 refine t_RN ?_
 refine t_D fun mb => ?_
 refine t_U 3 ?_
 refine ae_ 0 ?_
 refine t_U 3 ?_
 refine ae_ 0 ?_
 refine t_N ?_
 refine dW_ 0 (fun y1 e fr => e = .normal ∧ Sub [(0, .ptr bp0 0 0 3), (3, i4 y1)] fr.s ∧ Heap σ0 fr.σ [.box bp0 (av_.cells a0), .keep F σk]) (fun y1 e fr h HF => ?_) fun y1 => ?_
 ·obtain ⟨s, σ⟩ := fr
  obtain ⟨rfl, hS, hH⟩ := HF
  refine t_bx h hS hH ?_
  refine t_RU 3 ?_
  refine ae_ 0 ?_
  refine t_U 3 ?_
  refine aK_ 0 ?_
  refine t_N ?_
  refine t_RU 4 ?_
  refine ae_ 0 ?_
  refine t_U 7 ?_
  refine aK_ 0 ?_
  refine t_N ?_
  refine t_D fun mb => ?_
  refine t_U 3 ?_
  refine ae_ 0 ?_
  refine t_U 3 ?_
  refine ae_ 0 ?_
  refine t_N ?_
  refine t_if (fun hc1 => ?_) fun hc1 => ?_
  ·refine t_RN ?_
   intro h s σ hS hH
   obtain rfl := si_1 h
   exact aS_ [] (bn_ (v := i4 y1) hS rfl r_nil) rfl rfl hH
  refine t_RU 3 ?_
  refine ae_ 0 ?_
  refine t_N ?_
  intro h s σ hS hH
  obtain rfl := si_1 h
  exact aS_ [] (bn_ (v := i4 ((w4 ((andI .u64 ((((IntKind.u64.wrap ((IntKind.u64.wrap ((IntKind.u64.wrap (a0.seed_ * 6364136223846793005)) + (IntKind.u64.wrap y1))) + 1442695040888963407))).fdiv (2 ^ 40))) 255))))) hS rfl r_nil) rfl rfl hH
 refine t_if (fun hc2 => ?_) fun hc2 => ?_
 ·refine t_D fun mb => ?_
  refine t_U 3 ?_
  refine ae_ 0 ?_
  refine t_U 3 ?_
  refine ae_ 0 ?_
  refine b3_ fun y2 rest1 hy2 => ?_
  refine t_N ?_
  exact t_e fun he hS hH => he ▸ ⟨rfl, (ad_ hS (by kernel_rfl)), hH⟩
 exact t_e fun he hS hH => he ▸ ⟨rfl, (ad_ hS (by kernel_rfl)), hH⟩
noncomputable def a4_ (a0 : av_) (a1 : Int) : Option (Int × av_) := (if (decide (a1 ≤ 1)) = true then (some (0, a0)) else ((bg_ a0).bind fun y1 => (if (decide (200 < a1)) = true then ((bg_ y1.2).bind fun y2 => ((remI (w4 ((w4 (y1.1 * 256)) + y2.1)) a1).bind fun y3 => (some (y3, y2.2)))) else ((remI y1.1 a1).bind fun y4 => (some (y4, y1.2))))))
theorem cT_ (a0 : av_) (a1 : Int) (r : (Int × av_)) (h : a4_ a0 a1 = some r) (bp0 : Nat) : RawS Tryz.prog md ext 37 [.ptr bp0 0 0 3, i4 a1] 0 (fun hs => E_i64 r.1) [.box bp0 (av_.cells a0)] (fun hs => [.box bp0 (av_.cells r.2)]) := by
 unfold a4_ at h
 refine cP_ rfl rfl ok_37 rfl ?_
 intro σ0 σ F σk s hS hH
 have hS := ad_ (L' := [(0, .ptr bp0 0 0 3), (1, i4 a1)]) hS (by kernel_rfl)
 refine t_go h hS hH ?_
 refine t_RN ?_
 refine t_RN ?_
 refine t_if (fun hc1 => ?_) fun hc1 => ?_
 ·refine t_RN ?_
  intro h s σ hS hH
  obtain rfl := si_1 h
  exact aS_ [] (bn_ (v := i4 0) hS rfl r_nil) rfl rfl hH
 refine t_RU 1 ?_
 refine aY_ (fun y1 hs hy1 hl => ?_) (hr := by exact fun y1 hy1 => et_ _ y1 hy1 bp0)
 obtain rfl := len0 hl
 refine b4_ ?_
 refine t_N ?_
 refine t_RN ?_
 refine t_if (fun hc2 => ?_) fun hc2 => ?_
 ·refine t_RU 3 ?_
  refine aY_ (fun y2 hs hy2 hl => ?_) (hr := by exact fun y2 hy2 => et_ _ y2 hy2 bp0)
  obtain rfl := len0 hl
  refine b4_ ?_
  refine t_N ?_
  refine t_RU 2 ?_
  intro h s σ hS hH
  obtain ⟨y3, hy3, h⟩ := bind_some h
  refine oT_ rfl hS rfl rfl hy3 ?_; intro s hS
  refine t_bk h hS hH ?_
  refine t_N ?_
  intro h s σ hS hH
  obtain rfl := si_1 h
  exact aS_ [] (bn_ (v := i4 y3) hS rfl r_nil) rfl rfl hH
 refine t_RU 2 ?_
 intro h s σ hS hH
 obtain ⟨y4, hy4, h⟩ := bind_some h
 refine oT_ rfl hS rfl rfl hy4 ?_; intro s hS
 refine t_bk h hS hH ?_
 refine t_N ?_
 intro h s σ hS hH
 obtain rfl := si_1 h
 exact aS_ [] (bn_ (v := i4 y4) hS rfl r_nil) rfl rfl hH
noncomputable def bf_ (a0 : av_) (a1 : (Sl ByteArray)) : Option (ByteArray × av_ × (Sl ByteArray)) := ((a4_ a0 (a1.l.length : Int)).bind fun y1 => ((elt a1 y1.1).bind fun y2 => (some (y2, y1.2, a1))))
theorem es_ (a0 : av_) (a1 : (Sl ByteArray)) (r : (ByteArray × av_ × (Sl ByteArray))) (h : bf_ a0 a1 = some r) (bp0 : Nat) (wp1_1 : Nat) (p1_1 : T) : RawS Tryz.prog md ext 60 [.ptr bp0 0 0 3, p1_1] 0 (fun hs => E_str r.1) [.box bp0 (av_.cells a0), .own true wp1_1 p1_1 a1.t] (fun hs => [.box bp0 (av_.cells r.2.1), .own true wp1_1 p1_1 r.2.2.t]) := by
 unfold bf_ at h
 refine cP_ rfl rfl ok_60 rfl ?_
 intro σ0 σ F σk s hS hH
 have hp1_1 : an_ p1_1 := Heap.one (hH.at 1 rfl)
 have hS := ad_ (L' := [(0, .ptr bp0 0 0 3), (1, p1_1)]) hS (by kernel_rfl)
 refine t_go h hS hH ?_
 refine t_RN ?_
 refine t_RU 3 ?_
 refine jJ_ (a := a1) 1 ?_
 refine aY_ (fun y1 hs hy1 hl => ?_) (hr := by exact fun y1 hy1 => cT_ _ _ y1 hy1 bp0)
 obtain rfl := len0 hl
 refine b4_ ?_
 refine oO_ 1 (fun hb1 hb1e y2 hy2 hl_hb1 => ?_)
 refine pt_ 1 0 hl_hb1 hy2 ?_
 refine t_N ?_
 intro h s σ hS hH
 obtain rfl := si_1 h
 exact aS_ [] (bn_ (v := .str y2) hS rfl r_nil) rfl rfl hH
noncomputable def bJ_ (a0 : av_) : Option (ByteArray × av_) := ((bf_ a0 (⟨false, [⟨#[97]⟩, ⟨#[98]⟩, ⟨#[97, 98]⟩, ⟨#[98, 97]⟩, ⟨#[97, 98, 99]⟩, ⟨#[40]⟩, ⟨#[41]⟩, ⟨#[40, 41]⟩, ⟨#[120]⟩, ⟨#[97, 97]⟩, ⟨#[99]⟩, ⟨#[34]⟩, ⟨#[97, 34, 98]⟩, ⟨#[0]⟩, ⟨#[120, 121]⟩, ⟨#[98, 99]⟩]⟩)).bind fun y1 => (some (y1.1, y1.2.1)))
theorem hV_ (a0 : av_) (r : (ByteArray × av_)) (h : bJ_ a0 = some r) (bp0 : Nat) : RawS Tryz.prog md ext 50 [.ptr bp0 0 0 3] 0 (fun hs => E_str r.1) [.box bp0 (av_.cells a0)] (fun hs => [.box bp0 (av_.cells r.2)]) := by
 unfold bJ_ at h
 refine cP_ rfl rfl ok_50 rfl ?_
 intro σ0 σ F σk s hS hH
 have hS := ad_ (L' := [(0, .ptr bp0 0 0 3)]) hS (by kernel_rfl)
 refine t_go h hS hH ?_
 refine t_RN ?_
 refine t_RU 1 ?_
 refine k_bs (z := true) (⟨false, [⟨#[97]⟩, ⟨#[98]⟩, ⟨#[97, 98]⟩, ⟨#[98, 97]⟩, ⟨#[97, 98, 99]⟩, ⟨#[40]⟩, ⟨#[41]⟩, ⟨#[40, 41]⟩, ⟨#[120]⟩, ⟨#[97, 97]⟩, ⟨#[99]⟩, ⟨#[34]⟩, ⟨#[97, 34, 98]⟩, ⟨#[0]⟩, ⟨#[120, 121]⟩, ⟨#[98, 99]⟩]⟩ : Sl ByteArray) (fun t1 ht1 => ?_)
 refine t_h Heap.up1 ?_
 refine aY_ (fun y1 hs hy1 hl => ?_) (hr := by exact fun y1 hy1 => es_ _ _ y1 hy1 bp0 1 t1)
 obtain rfl := len0 hl
 refine b4_ ?_
 refine t_N ?_
 intro h s σ hS hH
 obtain rfl := si_1 h
 exact aS_ [] (bn_ (v := .str y1.1) hS rfl r_nil) rfl rfl (Heap.sel hH [0, 2] rfl (by kernel_rfl))
noncomputable def bI_ (a0 : av_) (a1 : Int) : Option (Bool × av_) := ((a4_ a0 a1).bind fun y1 => (some ((decide (y1.1 = 0)), y1.2)))
theorem gT_ (a0 : av_) (a1 : Int) (r : (Bool × av_)) (h : bI_ a0 a1 = some r) (bp0 : Nat) : RawS Tryz.prog md ext 53 [.ptr bp0 0 0 3, i4 a1] 0 (fun hs => E_bool r.1) [.box bp0 (av_.cells a0)] (fun hs => [.box bp0 (av_.cells r.2)]) := by
 unfold bI_ at h
 refine cP_ rfl rfl ok_53 rfl ?_
 intro σ0 σ F σk s hS hH
 have hS := ad_ (L' := [(0, .ptr bp0 0 0 3), (1, i4 a1)]) hS (by kernel_rfl)
 refine t_go h hS hH ?_
 refine t_RN ?_
 refine t_RU 2 ?_
 refine aY_ (fun y1 hs hy1 hl => ?_) (hr := by exact fun y1 hy1 => cT_ _ _ y1 hy1 bp0)
 obtain rfl := len0 hl
 refine b4_ ?_
 refine t_N ?_
 intro h s σ hS hH
 obtain rfl := si_1 h
 exact aS_ [] (bn_ (v := .bool (decide (y1.1 = 0))) hS rfl r_nil) rfl rfl hH
noncomputable def bF_ (a0 : av_) : Option (ByteArray × av_) := ((bI_ a0 4).bind fun y1 => (if y1.1 = true then ((bf_ y1.2 (⟨false, [⟨#[]⟩, ⟨#[97]⟩, ⟨#[97, 98]⟩, ⟨#[40, 97, 41, 40, 98, 41]⟩, ⟨#[40, 40, 97, 41, 98, 41]⟩, ⟨#[97, 97, 97, 97]⟩, ⟨#[97, 98, 99, 97, 98, 99]⟩, ⟨#[120, 40, 121]⟩, ⟨#[41, 40]⟩, ⟨#[97, 98, 34, 99]⟩]⟩)).bind fun y2 => (some (y2.1, y2.2.1))) else ((a4_ y1.2 6).bind fun y3 => ((az_ (S := (ByteArray × Int × (Sl (Iv .u8)) × Int × Int)) (R := (ByteArray × (Sl (Iv .u8)) × Int × Int)) (fun st1 => (if (decide (0 < st1.2.1)) = true then ((bJ_ (⟨st1.2.2.1, st1.2.2.2.1, st1.2.2.2.2⟩ : av_)).bind fun y5 => ((catB st1.1 y5.1).bind fun y6 => (some (.inl (y6, (w4 (st1.2.1 - 1)), y5.2.code_, y5.2.at_, y5.2.seed_))))) else (some (.inr (st1.1, st1.2.2.1, st1.2.2.2.1, st1.2.2.2.2))))) (⟨#[]⟩, y3.1, y3.2.code_, y3.2.at_, y3.2.seed_)).bind fun y4 => (some (y4.1, (⟨y4.2.1, y4.2.2.1, y4.2.2.2⟩ : av_)))))))
theorem gM_ (a0 : av_) (r : (ByteArray × av_)) (h : bF_ a0 = some r) (bp0 : Nat) : RawS Tryz.prog md ext 38 [.ptr bp0 0 0 3] 0 (fun hs => E_str r.1) [.box bp0 (av_.cells a0)] (fun hs => [.box bp0 (av_.cells r.2)]) := by
 unfold bF_ at h
 refine cP_ rfl rfl ok_38 rfl ?_
 intro σ0 σ F σk s hS hH
 have hS := ad_ (L' := [(0, .ptr bp0 0 0 3)]) hS (by kernel_rfl)
 refine t_go h hS hH ?_
 refine t_RN ?_
 refine t_RU 1 ?_
 refine aY_ (fun y1 hs hy1 hl => ?_) (hr := by exact fun y1 hy1 => gT_ _ _ y1 hy1 bp0)
 obtain rfl := len0 hl
 refine b4_ ?_
 refine t_N ?_
 refine t_if (fun hc1 => ?_) fun hc1 => ?_
 ·refine t_RU 1 ?_
  refine k_bs (z := true) (⟨false, [⟨#[]⟩, ⟨#[97]⟩, ⟨#[97, 98]⟩, ⟨#[40, 97, 41, 40, 98, 41]⟩, ⟨#[40, 40, 97, 41, 98, 41]⟩, ⟨#[97, 97, 97, 97]⟩, ⟨#[97, 98, 99, 97, 98, 99]⟩, ⟨#[120, 40, 121]⟩, ⟨#[41, 40]⟩, ⟨#[97, 98, 34, 99]⟩]⟩ : Sl ByteArray) (fun t1 ht1 => ?_)
  refine t_h Heap.up1 ?_
  refine aY_ (fun y2 hs hy2 hl => ?_) (hr := by exact fun y2 hy2 => es_ _ _ y2 hy2 bp0 1 t1)
  obtain rfl := len0 hl
  refine b4_ ?_
  refine t_N ?_
  intro h s σ hS hH
  obtain rfl := si_1 h
  exact aS_ [] (bn_ (v := .str y2.1) hS rfl r_nil) rfl rfl (Heap.sel hH [0, 2] rfl (by kernel_rfl))
 refine t_RN ?_
 refine t_RU 1 ?_
 refine aY_ (fun y3 hs hy3 hl => ?_) (hr := by exact fun y3 hy3 => cT_ _ _ y3 hy3 bp0)
 obtain rfl := len0 hl
 refine b4_ ?_
 refine t_N ?_
 refine aW_ (fun st1 fr => Sub [(0, .ptr bp0 0 0 3), (3, .str st1.1), (4, i4 st1.2.1)] fr.s ∧ Heap σ0 fr.σ [.box bp0 [st1.2.2.1.t, i4 st1.2.2.2.1, .int .u64 st1.2.2.2.2], .keep F σk]) (fun y4 e fr => e = (.exit 0) ∧ Sub [(3, .str y4.1)] fr.s ∧ Heap σ0 fr.σ [.box bp0 [y4.2.1.t, i4 y4.2.2.1, .int .u64 y4.2.2.2], .keep F σk]) (fun hS hH => ⟨(ad_ hS (by kernel_rfl)), hH⟩) (fun st1 x fr h HI => ?_) fun y4 e fr h HF => ?_
 ·obtain ⟨s, σ⟩ := fr; obtain ⟨hS, hH⟩ := HI
  refine t_bk h hS hH ?_
  refine t_RN ?_
  refine t_if (fun hc2 => ?_) fun hc2 => ?_
  ·refine t_RU 2 ?_
   refine aY_ (fun y5 hs hy5 hl => ?_) (hr := by exact fun y5 hy5 => hV_ _ y5 hy5 bp0)
   obtain rfl := len0 hl
   refine b4_ ?_
   refine lX_ fun y6 hy6 => ?_
   refine t_N ?_
   refine t_RN ?_
   exact t_e fun he hS hH => he ▸ ⟨(ad_ hS (by kernel_rfl)), hH⟩
  exact t_e fun he hS hH => he ▸ ⟨rfl, (ad_ hS (by kernel_rfl)), hH⟩
 obtain ⟨s, σ⟩ := fr
 obtain ⟨rfl, hS, hH⟩ := HF
 refine t_bx h hS hH ?_
 refine t_RN ?_
 intro h s σ hS hH
 obtain rfl := si_1 h
 exact aS_ [] (bn_ (v := .str y4.1) hS rfl r_nil) rfl rfl hH
noncomputable def dI_ (a0 : (Sl (Iv .u8))) : Option ByteArray := ((bF_ (⟨a0, 0, 0⟩ : av_)).bind fun y1 => (some y1.1))
theorem hi_ (a0 : (Sl (Iv .u8))) (r : ByteArray) (h : dI_ a0 = some r) : dH_ a0 = some r := by
 unfold dI_ at h
 refine k_W ok_13 E_str_inj h (fun σ0 => ?_)
 refine t_RN ?_
 refine t_RU 1 ?_
 refine d2_ ok_33 ?_
 refine t_RN ?_
 refine t_RU 2 ?_
 refine b9_ (fun b1 => ?_)
 refine t_N ?_
 refine k_eI (rT rN) ?_
 refine t_N ?_
 refine t_RU 1 ?_
 refine aY_ (fun y1 hs hy1 hl => ?_) (hr := by exact fun y1 hy1 => gM_ _ y1 hy1 b1)
 obtain rfl := len0 hl
 refine b4_ ?_
 refine t_N ?_
 exact k_eW (rT rN) E_str_p
noncomputable def fO_ (a0 : DPattern) (a1 : DPattern) : Option DPattern := ((cU_ 19 ⟨#[]⟩ ⟨false, [a0, a1]⟩).bind fun y1 => (some y1))
theorem jY_ (a0 : DPattern) (a1 : DPattern) (r : DPattern) (h : fO_ a0 a1 = some r) : bz_ a0 a1 = some r := by
 unfold fO_ at h
 refine k_W ok_18 E_DPattern_inj h (fun σ0 => ?_)
 refine t_R ?_
 refine b9_ (fun b1 => ?_)
 refine b9_ (fun b2 => ?_)
 refine dL_ fun b3 => ?_
 refine t_N ?_
 refine t_R ?_
 refine ae_ 2 ?_
 refine ae_ 1 ?_
 refine k_bs (z := false) (⟨false, [a0, a1]⟩ : Sl DPattern) (fun t1 ht1 => ?_)
 intro h s σ hS hH
 obtain ⟨y1, hy1, h⟩ := bind_some h
 refine or_ (ents := [.own false 4 t1 (Sl.t (⟨false, [a0, a1]⟩ : Sl DPattern))]) (z := false) (ts := [i4 19, .str ⟨#[]⟩, t1]) (vs := [i4 19, .str ⟨#[]⟩, (Sl.t (⟨false, [a0, a1]⟩ : Sl DPattern))]) rfl hS rfl rfl rfl hH rfl (HLi (HLs (HL.own rfl HL.nil))) hy1 (by kernel_rfl) ?_; intro σ s hH hS
 have hH : Heap σ0 σ [.own false 4 t1 (Sl.t (⟨false, [a0, a1]⟩ : Sl DPattern)), .box b3 [i4 0, i4 0, .str ⟨#[]⟩, (nt DPattern)], .box b2 [i4 a1.Kind, i4 a1.Num, .str a1.Text, a1.Kids.t], .box b1 [i4 a0.Kind, i4 a0.Num, .str a0.Text, a0.Kids.t]] := hH
 refine t_bk h hS hH ?_
 refine bE_ 1 ?_
 refine t_N ?_
 exact k_eW (rC 0 rN) E_DPattern_p
noncomputable def dT_ (a0 : (Sl DNamed)) (a1 : DPattern) (a2 : ByteArray) (a3 : Int) (a4 : Int) : Option ((Sl (Iv .i64)) × Int) := ((cr_ a0 a1 a2 a4).bind fun y1 => ((bl_ a3 0 (a2.size : Int)).bind fun y2 => ((cR_ y2 3).bind fun y3 => ((eq_ (⟨false, [⟨y1⟩, ⟨y3⟩]⟩)).bind fun y4 => (if (!decide (y4 = 0)) = true then (some (⟨true, []⟩, y4)) else ((a5_ a0 a1 a2 (⟨false, [⟨a3⟩]⟩) a4).bind fun y5 => (if (!decide (y5.2 = 0)) = true then (some (⟨true, []⟩, y5.2)) else ((az_ (S := (Int × (Sl (Iv .i64)))) (R := (Sl (Iv .i64))) (fun st1 => (if (decide (st1.1 < (y5.1.l.length : Int))) = true then ((elt y5.1 st1.1).bind fun y7 => ((appS 8 st1.2 (⟨false, [⟨y7.End⟩]⟩ : Sl (Iv .i64))).bind fun y8 => (some (.inl ((w4 (st1.1 + 1)), y8))))) else (some (.inr st1.2)))) (0, (⟨false, []⟩ : Sl (Iv .i64)))).bind fun y6 => (some (y6, 0))))))))))
theorem iZ_ (a0 : (Sl DNamed)) (a1 : DPattern) (a2 : ByteArray) (a3 : Int) (a4 : Int) (r : ((Sl (Iv .i64)) × Int)) (h : dT_ a0 a1 a2 a3 a4 = some r) : fh_ a0 a1 a2 a3 a4 = some r := by
 unfold dT_ at h
 refine k_W ok_19 E_t2_sl_i64_i64_inj h (fun σ0 => ?_)
 refine t_R ?_
 refine b9_ (fun b1 => ?_)
 refine t_N ?_
 refine t_RU 1 ?_
 refine ae_ 0 ?_
 refine t_U 2 ?_
 refine aq_ fun y1 hy1 => ?_
 refine t_U 3 ?_
 refine aq_ fun y2 hy2 => ?_
 refine aq_ fun y3 hy3 => ?_
 refine k_bs (z := true) (⟨false, [⟨y1⟩, ⟨y3⟩]⟩ : Sl (Iv .i64)) (fun t1 ht1 => ?_)
 refine jc_ (fun y4 hy4 => ?_)
 refine t_N ?_
 refine t_RN ?_
 refine t_if (fun hc1 => ?_) fun hc1 => ?_
 ·refine t_RN ?_
  exact k_eW (rT (rT rN)) E_t2_sl_i64_i64_p
 refine t_RU 1 ?_
 refine ae_ 1 ?_
 refine t_U 2 ?_
 refine k_bs (z := true) (⟨false, [⟨a3⟩]⟩ : Sl (Iv .i64)) (fun t2 ht2 => ?_)
 refine t_U 1 ?_
 refine fP_ (fun y5 t3 hy5 ht3 => ?_)
 refine t_N ?_
 refine t_RN ?_
 refine t_if (fun hc2 => ?_) fun hc2 => ?_
 ·refine t_RN ?_
  exact k_eW (rT (rT rN)) E_t2_sl_i64_i64_p
 refine t_R ?_
 refine lR_ (α := (Iv .i64)) (fun t4 ht4 => ?_)
 refine t_N ?_
 refine t_RU 1 ?_
 refine jJ_ (a := y5.1) 1 ?_
 refine t_N ?_
 refine aW_ (fun st1 fr => ∃ t6, an_ t6 ∧ Sub [(15, t6), (47, t3), (48, i4 (y5.1.l.length : Int)), (49, i4 st1.1)] fr.s ∧ Heap σ0 fr.σ [.own true 1 t6 st1.2.t, .own true 3 t3 y5.1.t]) (fun y6 e fr => ∃ t7, an_ t7 ∧ e = (.exit 0) ∧ Sub [(15, t7)] fr.s ∧ Heap σ0 fr.σ [.own true 1 t7 y6.t]) (fun hS hH => ⟨t4, ht4, (ad_ hS (by kernel_rfl)), (Heap.sel hH [0, 1] rfl (by kernel_rfl))⟩) (fun st1 x fr h HI => ?_) fun y6 e fr h HF => ?_
 ·obtain ⟨s, σ⟩ := fr; obtain ⟨t6, ht6, ⟨hS, hH⟩⟩ := HI
  refine t_bk h hS hH ?_
  refine t_RN ?_
  refine t_if (fun hc3 => ?_) fun hc3 => ?_
  ·refine t_R ?_
   refine oO_ 1 (fun hb1 hb1e y7 hy7 hl_hb1 => ?_)
   refine t_h Heap.up1 ?_
   intro h s σ hS hH
   refine n0_ (a := y5.1) (j := st1.1) (y := y7) (off := 2) (c := [i4 y7.Start, i4 y7.End, y7.Captures.t]) (q := (y7.Captures : Sl DCapture)) (fun _ _ _ _ _ => trivial) rfl hS hH hl_hb1 rfl hy7 rfl (by kernel_rfl) (by kernel_rfl) rfl (by kernel_rfl) (by kernel_rfl) (by kernel_rfl) ?_; intro F1 σk1 t8 s ht8 hH hcl1 hcl1s hcl1p hcl1k hcl1f hS
   refine t_bk h hS hH ?_
   refine dL_ fun b2 => ?_
   refine bE_ 0 ?_ (h1 := by simp [ht8.1, ht8.2])
   refine t_h (·.up2.up2) ?_
   intro h s σ hS hH
   have hH := hcl1s _ _ hH
   have hH : Heap σ0 σ [.own true 3 t3 y5.1.t, .box b2 [i4 y7.Start, i4 y7.End, t8], .own true 1 t6 st1.2.t] := hH
   refine t_bk h hS hH ?_
   refine t_N ?_
   refine t_RU 2 ?_
   refine ae_ 1 ?_
   refine k_bs (z := true) (⟨false, [⟨y7.End⟩]⟩ : Sl (Iv .i64)) (fun t9 ht9 => ?_)
   refine lU_ 3 0 (fun y8 t10 hy8 ht10 => ?_)
   refine t_N ?_
   refine t_RN ?_
   exact t_e fun he hS hH => he ▸ ⟨t10, ht10, (ad_ hS (by kernel_rfl)), (Heap.sel hH [0, 1] rfl (by kernel_rfl))⟩
  exact t_e fun he hS hH => he ▸ ⟨t6, ht6, rfl, (ad_ hS (by kernel_rfl)), (Heap.sel hH [0] rfl (by kernel_rfl))⟩
 obtain ⟨s, σ⟩ := fr
 obtain ⟨t7, ht7, ⟨rfl, hS, hH⟩⟩ := HF
 refine t_bx h hS hH ?_
 refine t_RN ?_
 intro h s σ hS hH
 obtain rfl := si_1 h
 exact rQ_ (ents := [.own true 1 t7 y6.t]) (z := false) hH (bn_ (v := t7) hS rfl (bn_ (v := i4 0) hS rfl r_nil)) (HL.tup (es1 := [.own true 1 t7 y6.t]) (es2 := []) (HL.own rfl (HLi HL.nil)) HL.nil) (by simp [pureT, pureL, E_t2_sl_i64_i64])
noncomputable def gi_ (a0 : Int) (a1 : ByteArray) (a2 : (Sl DPattern)) : Option DPattern := (some (⟨a0, 0, a1, a2⟩ : DPattern))
theorem gH_ (a0 : Int) (a1 : ByteArray) (a2 : (Sl DPattern)) (r : DPattern) (h : gi_ a0 a1 a2 = some r) : cU_ a0 a1 a2 = some r := by
 unfold gi_ at h
 refine k_W ok_20 E_DPattern_inj h (fun σ0 => ?_)
 refine t_R ?_
 refine dL_ fun b1 => ?_
 refine t_N ?_
 refine t_RU 4 ?_
 refine bE_ 0 ?_
 refine t_N ?_
 exact k_eW (rC 0 rN) E_DPattern_p
noncomputable def dB_ (a0 : (Sl DNamed)) (a1 : DPattern) (a2 : ByteArray) (a3 : Bool) (a4 : Int) : Option ((Sl DMatch) × Int × Bool) := ((cC_ a0 a1 a2 a3 a4).bind fun y1 => ((dw_ a0 a1 a2 a3 a4).bind fun y2 => (if (decide (y1.2 = y2.2)) = true then ((c0_ y1.1 y2.1).bind fun y3 => (some (y1.1, y1.2, y3))) else (some (y1.1, y1.2, false)))))
theorem hr_ (a0 : (Sl DNamed)) (a1 : DPattern) (a2 : ByteArray) (a3 : Bool) (a4 : Int) (r : ((Sl DMatch) × Int × Bool)) (h : dB_ a0 a1 a2 a3 a4 = some r) : dE_ a0 a1 a2 a3 a4 = some r := by
 unfold dB_ at h
 refine k_W ok_23 E_t3_sl_DMatch_i64_bool_inj h (fun σ0 => ?_)
 refine t_R ?_
 refine b9_ (fun b1 => ?_)
 refine t_N ?_
 refine t_RU 1 ?_
 refine ae_ 0 ?_
 refine t_U 3 ?_
 refine aq_ fun y1 hy1 => ?_
 refine t_N ?_
 refine t_RU 1 ?_
 refine ae_ 0 ?_
 refine t_U 3 ?_
 refine fP_ (fun y2 t1 hy2 ht1 => ?_)
 refine t_N ?_
 refine t_RU 6 ?_
 refine aF_ 40 (fun hc1 => ?_) fun hc1 => ?_
 ·refine t_U 2 ?_
  refine jc_ (fun y3 hy3 => ?_)
  refine t_N ?_
  exact k_eW (rT (rT (rT rN))) E_t3_sl_DMatch_i64_bool_p
 refine t_N ?_
 exact k_eW (rT (rT (rT rN))) E_t3_sl_DMatch_i64_bool_p
noncomputable def dC_ (a0 : ByteArray) (a1 : DMatch) : Option ByteArray := (if (decide (a1.Start < 0)) = true then (some ⟨#[]⟩) else (if (decide (a1.End < a1.Start)) = true then (some ⟨#[]⟩) else (if (decide ((a0.size : Int) < a1.End)) = true then (some ⟨#[]⟩) else ((subB a0 a1.Start a1.End).bind fun y1 => (some y1)))))
theorem ho_ (a0 : ByteArray) (a1 : DMatch) (r : ByteArray) (h : dC_ a0 a1 = some r) : bw_ a0 a1 = some r := by
 unfold dC_ at h
 refine k_W ok_24 E_str_inj h (fun σ0 => ?_)
 refine t_R ?_
 refine b9_ (fun b1 => ?_)
 refine t_N ?_
 refine t_RU 1 ?_
 refine ae_ 0 ?_
 refine t_U 2 ?_
 refine aF_ 8 (fun hc1 => ?_) fun hc1 => ?_
 ·refine t_N ?_
  refine t_cT rfl ?_
  refine t_RN ?_
  exact k_eW (rT rN) E_str_p
 refine t_U 1 ?_
 refine ae_ 0 ?_
 refine t_U 1 ?_
 refine ae_ 0 ?_
 refine t_U 3 ?_
 refine aF_ 15 (fun hc2 => ?_) fun hc2 => ?_
 ·refine t_N ?_
  refine t_cT rfl ?_
  refine t_RN ?_
  exact k_eW (rT rN) E_str_p
 refine t_U 1 ?_
 refine ae_ 0 ?_
 refine t_N ?_
 refine t_if (fun hc3 => ?_) fun hc3 => ?_
 ·refine t_RN ?_
  exact k_eW (rT rN) E_str_p
 refine t_RU 2 ?_
 refine ae_ 0 ?_
 refine t_U 1 ?_
 refine ae_ 0 ?_
 refine he_ fun y1 hy1 => ?_
 refine t_N ?_
 exact k_eW (rT rN) E_str_p
noncomputable def gI_ (a0 : ByteArray) : Option DPattern := (some (⟨1, 0, a0, ⟨true, []⟩⟩ : DPattern))
theorem gr_ (a0 : ByteArray) (r : DPattern) (h : gI_ a0 = some r) : bk_ a0 = some r := by
 unfold gI_ at h
 refine k_W ok_25 E_DPattern_inj h (fun σ0 => ?_)
 refine t_R ?_
 refine dL_ fun b1 => ?_
 refine t_N ?_
 refine t_RU 2 ?_
 refine bE_ 0 ?_
 refine t_N ?_
 exact k_eW (rC 0 rN) E_DPattern_p
noncomputable def cW_ (a0 : (Sl DNamed)) (a1 : DPattern) (a2 : ByteArray) (a3 : Int) : Option Bool := ((fh_ a0 a1 a2 0 a3).bind fun y1 => (if (decide (y1.2 = 0)) = true then ((bQ_ y1.1 (a2.size : Int)).bind fun y2 => (some y2)) else (some false)))
theorem gj_ (a0 : (Sl DNamed)) (a1 : DPattern) (a2 : ByteArray) (a3 : Int) (r : Bool) (h : cW_ a0 a1 a2 a3 = some r) : bx_ a0 a1 a2 a3 = some r := by
 unfold cW_ at h
 refine k_W ok_26 E_bool_inj h (fun σ0 => ?_)
 refine t_R ?_
 refine b9_ (fun b1 => ?_)
 refine t_N ?_
 refine t_RU 1 ?_
 refine ae_ 0 ?_
 refine t_U 2 ?_
 refine aq_ fun y1 hy1 => ?_
 refine t_N ?_
 refine t_RU 3 ?_
 refine aF_ 21 (fun hc1 => ?_) fun hc1 => ?_
 ·refine t_U 3 ?_
  refine aq_ fun y2 hy2 => ?_
  refine t_N ?_
  exact k_eW (rT rN) E_bool_p
 refine t_N ?_
 exact k_eW (rT rN) E_bool_p
noncomputable def fF_ (a0 : (Sl (Iv .i64))) : Option Int := ((az_ (S := Int) (R := (Unit ⊕ Int)) (fun st1 => (if (decide (st1 < (a0.l.length : Int))) = true then ((elt a0 st1).bind fun y2 => (if (!decide (y2.v = 0)) = true then (some (.inr (.inr y2.v))) else (some (.inl (w4 (st1 + 1)))))) else (some (.inr (.inl ()))))) 0).bind fun y1 => (Sum.elim (fun y1 => (some 0)) (fun y1 => (some y1)) y1))
theorem ko_ (a0 : (Sl (Iv .i64))) (r : Int) (h : fF_ a0 = some r) : eq_ a0 = some r := by
 unfold fF_ at h
 refine k_W ok_40 E_i64_inj h (fun σ0 => ?_)
 refine t_RN ?_
 refine t_RN ?_
 refine aW_ (fun st1 fr => Sub [(5, a0.t), (6, i4 (a0.l.length : Int)), (7, i4 st1)] fr.s ∧ Heap σ0 fr.σ []) (fun y1 e fr => (Sum.elim (fun y => e = (.exit 0) ∧ Sub [] fr.s ∧ Heap σ0 fr.σ []) (fun y => e = .ret ∧ endW Tryz.prog (Tryz.f40.results.toList) σ0 (E_i64 y) .ret fr)) y1) (fun hS hH => ⟨(ad_ hS (by kernel_rfl)), hH⟩) (fun st1 x fr h HI => ?_) fun y1 e fr h HF => ?_
 ·obtain ⟨s, σ⟩ := fr; obtain ⟨hS, hH⟩ := HI
  refine t_bk h hS hH ?_
  refine t_RN ?_
  refine t_if (fun hc1 => ?_) fun hc1 => ?_
  ·refine t_R ?_
   refine b3_ fun y2 rest1 hy2 => ?_
   refine t_N ?_
   refine t_RN ?_
   refine t_if (fun hc2 => ?_) fun hc2 => ?_
   ·refine t_RN ?_
    exact t_e fun he hS hH => he ▸ ⟨rfl, (eW hS hH (rT rN) E_i64_p)⟩
   refine t_RN ?_
   exact t_e fun he hS hH => he ▸ ⟨(ad_ hS (by kernel_rfl)), hH⟩
  exact t_e fun he hS hH => he ▸ ⟨rfl, (ad_ hS (by kernel_rfl)), hH⟩
 obtain ⟨s, σ⟩ := fr
 rcases y1 with y1 | y1
 ·have h := el_l h
  obtain ⟨rfl, hS, hH⟩ := HF
  refine t_bx h hS hH ?_
  refine t_RN ?_
  exact k_eW (rT rN) E_i64_p
 have h := el_r h
 obtain ⟨rfl, HE⟩ := HF
 obtain rfl := si_1 h; exact HE
noncomputable def dg_ (a0 : (Sl DNamed)) (a1 : DPattern) (a2 : ByteArray) (a3 : Int) : Option Int := ((((ed_ a0).bind fun y6 => (if y6 = true then ((bT_ a1).bind fun y7 => (if y7 = true then ((cz_ a2).bind fun y8 => (some y8)) else (some false))) else (some false))) : Option Bool).bind fun y1 => ((cR_ y1 1).bind fun y2 => ((bl_ a3 0 20000).bind fun y3 => ((cR_ y3 3).bind fun y4 => ((eq_ (⟨false, [⟨y2⟩, ⟨y4⟩]⟩)).bind fun y5 => (some y5))))))
theorem g0_ (a0 : (Sl DNamed)) (a1 : DPattern) (a2 : ByteArray) (a3 : Int) (r : Int) (h : dg_ a0 a1 a2 a3 = some r) : cr_ a0 a1 a2 a3 = some r := by
 unfold dg_ at h
 refine k_W ok_41 E_i64_inj h (fun σ0 => ?_)
 refine t_R ?_
 refine b9_ (fun b1 => ?_)
 refine t_N ?_
 refine dW_ 0 (fun y1 e fr => e = .normal ∧ Sub [(3, i4 a3), (9, .bool y1)] fr.s ∧ Heap σ0 fr.σ []) (fun y1 e fr h HF => ?_) fun y1 => ?_
 ·obtain ⟨s, σ⟩ := fr
  obtain ⟨rfl, hS, hH⟩ := HF
  refine t_bx h hS hH ?_
  refine t_RU 1 ?_
  refine aq_ fun y2 hy2 => ?_
  refine t_U 1 ?_
  refine aq_ fun y3 hy3 => ?_
  refine aq_ fun y4 hy4 => ?_
  refine k_bs (z := true) (⟨false, [⟨y2⟩, ⟨y4⟩]⟩ : Sl (Iv .i64)) (fun t1 ht1 => ?_)
  refine jc_ (fun y5 hy5 => ?_)
  refine t_N ?_
  exact k_eW (rT rN) E_i64_p
 refine t_RU 1 ?_
 refine aq_ fun y6 hy6 => ?_
 refine t_U 1 ?_
 refine aF_ 12 (fun hc1 => ?_) fun hc1 => ?_
 ·refine ae_ 0 ?_
  refine aq_ fun y7 hy7 => ?_
  refine t_U 2 ?_
  refine aF_ 16 (fun hc2 => ?_) fun hc2 => ?_
  ·refine t_U 1 ?_
   refine aq_ fun y8 hy8 => ?_
   refine t_N ?_
   exact t_e fun he hS hH => he ▸ ⟨rfl, (ad_ hS (by kernel_rfl)), (Heap.sel hH [] rfl (by kernel_rfl))⟩
  refine t_N ?_
  exact t_e fun he hS hH => he ▸ ⟨rfl, (ad_ hS (by kernel_rfl)), (Heap.sel hH [] rfl (by kernel_rfl))⟩
 refine t_N ?_
 exact t_e fun he hS hH => he ▸ ⟨rfl, (ad_ hS (by kernel_rfl)), (Heap.sel hH [] rfl (by kernel_rfl))⟩
noncomputable def fn_ (a0 : Bool) (a1 : Int) : Option Int := (if a0 = true then (some 0) else (some a1))
theorem i6_ (a0 : Bool) (a1 : Int) (r : Int) (h : fn_ a0 a1 = some r) : cR_ a0 a1 = some r := by
 unfold fn_ at h
 refine k_W ok_42 E_i64_inj h (fun σ0 => ?_)
 refine t_RN ?_
 refine t_RN ?_
 refine t_if (fun hc1 => ?_) fun hc1 => ?_
 ·refine t_RN ?_
  exact k_eW (rT rN) E_i64_p
 refine t_RN ?_
 exact k_eW (rT rN) E_i64_p
noncomputable def e4_ (a0 : Int) (a1 : Int) (a2 : Int) : Option Bool := (if (decide (a1 ≤ a0)) = true then (some (decide (a0 ≤ a2))) else (some false))
theorem jl_ (a0 : Int) (a1 : Int) (a2 : Int) (r : Bool) (h : e4_ a0 a1 a2 = some r) : bl_ a0 a1 a2 = some r := by
 unfold e4_ at h
 refine k_W ok_43 E_bool_inj h (fun σ0 => ?_)
 refine t_RN ?_
 refine t_RU 4 ?_
 refine aF_ 10 (fun hc1 => ?_) fun hc1 => ?_
 ·refine t_N ?_
  exact k_eW (rT rN) E_bool_p
 refine t_N ?_
 exact k_eW (rT rN) E_bool_p
end Go.Am
