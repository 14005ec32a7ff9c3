/- Functions of the program. -/
import Derived.Test.YthpmndnnpnojjaaAd0
set_option maxRecDepth 100000
set_option maxHeartbeats 4000000
set_option linter.unusedVariables false
set_option linter.unusedSimpArgs false
namespace Go.Am
open Go.Proofs
noncomputable def bx_ (a0 : (Sl ag_)) (a1 : DPattern) (a2 : ByteArray) (a3 : Int) : Option Bool := (if (decide (1048576 < (a2.size : Int))) = true then (some true) else ((dT_ a0 1048576).bind fun y1 => (if (decide (y1 < 0)) = true then (some true) else ((be_ a1 y1).bind fun y2 => (if (decide (y2 < 0)) = true then (some true) else ((b8_ a0).bind fun y3 => ((a2_ a1).bind fun y4 => ((cT_ y3 y4 a2 a3).bind fun y5 => ((b8_ a0).bind fun y6 => ((a2_ a1).bind fun y7 => ((cV_ y6 y7 a2 a3).bind fun y8 => (if (!(y8 == y5)) = true then (some false) else ((b8_ a0).bind fun y9 => ((d7_ y6 y9).bind fun y10 => (if (!y10) = true then (some false) else ((a2_ a1).bind fun y11 => ((bf_ y7 y11).bind fun y12 => (if (!y12) = true then (some false) else (some true)))))))))))))))))))
theorem ex_ (a0 : (Sl ag_)) (a1 : DPattern) (a2 : ByteArray) (a3 : Int) (r : Bool) (h : bx_ a0 a1 a2 a3 = some r) : ct_ a0 a1 a2 a3 = some r := by
 unfold bx_ at h
 refine k_W ok_8 E_bool_inj h (fun σ0 => ?_)
 refine t_R ?_
 refine bI_ (fun b1 => ?_)
 refine t_N ?_
 refine t_RN ?_
 refine t_if (fun hc1 => ?_) fun hc1 => ?_
 ·refine t_RN ?_
  exact k_eW (rT rN) E_bool_p
 refine t_RN ?_
 refine t_RU 2 ?_
 refine au_ fun y1 hy1 => ?_
 refine t_N ?_
 refine t_RN ?_
 refine t_if (fun hc2 => ?_) fun hc2 => ?_
 ·refine t_RN ?_
  exact k_eW (rT rN) E_bool_p
 refine t_R ?_
 refine ae_ 0 ?_
 refine t_U 1 ?_
 refine au_ fun y2 hy2 => ?_
 refine t_N ?_
 refine t_RN ?_
 refine t_if (fun hc3 => ?_) fun hc3 => ?_
 ·refine t_RN ?_
  exact k_eW (rT rN) E_bool_p
 refine a7_ (W2 (fun _ => False) (fun _ => False)) ext_x fun mb σs hn0 hlt hlto => ?_
 have hlt_b1 : b1 < mb := hlt b1 _ (List.Mem.head _)
 refine t_U 1 ?_
 refine bN_ (fun y3 t1 hy3 ht1 => ?_)
 refine ae_ 1 ?_ (hlt := Or.inr ⟨hlt_b1, Or.inl (by kernel_rfl)⟩)
 refine bN_ (fun y4 t2 hy4 ht2 => ?_)
 refine t_U 2 ?_
 refine t_h Heap.up1 ?_
 refine e8_ (fun y5 hy5 => ?_)
 refine t_N ?_
 refine t_RU 1 ?_
 refine bN_ (fun y6 t3 hy6 ht3 => ?_)
 refine t_N ?_
 refine t_R ?_
 refine ae_ 3 ?_
 refine bN_ (fun y7 t4 hy7 ht4 => ?_)
 refine c6_ fun b2 => ?_
 refine ce_ 0 ?_ (h1 := by simp [ht4.1, ht4.2])
 refine t_N ?_
 refine t_RU 1 ?_
 refine ae_ 0 ?_
 refine t_U 2 ?_
 refine t_h (·.up1.up2) ?_
 refine e8_ (fun y8 hy8 => ?_)
 refine t_N ?_
 refine t_RN ?_
 refine t_if (fun hc4 => ?_) fun hc4 => ?_
 ·refine t_RN ?_
  exact k_eW (rT rN) E_bool_p
 refine t_RU 2 ?_
 refine bN_ (fun y9 t5 hy9 ht5 => ?_)
 refine t_h Heap.up1 ?_
 refine e8_ (fun y10 hy10 => ?_)
 refine t_N ?_
 refine t_if (fun hc5 => ?_) fun hc5 => ?_
 ·refine t_RN ?_
  exact k_eW (rT rN) E_bool_p
 refine a7_ (W2 (fun _ => False) (fun _ => False)) ext_x fun mb σs hn0 hlt hlto => ?_
 have hlt_b2 : b2 < mb := hlt b2 _ (List.Mem.tail _ (List.Mem.tail _ (List.Mem.tail _ (List.Mem.head _))))
 refine ae_ 3 ?_ (hlt := Or.inr ⟨hlt_b2, Or.inl (by kernel_rfl)⟩)
 refine ae_ 6 ?_ (hlt := Or.inl (by kernel_rfl))
 refine bN_ (fun y11 t6 hy11 ht6 => ?_)
 refine t_h Heap.up3 ?_
 refine e8_ (fun y12 hy12 => ?_)
 refine t_N ?_
 refine t_if (fun hc6 => ?_) fun hc6 => ?_
 ·refine t_RN ?_
  exact k_eW (rT rN) E_bool_p
 refine t_RN ?_
 exact k_eW (rT rN) E_bool_p
noncomputable def ci_ (a0 : (Sl DPattern)) (a1 : Int) : Option Int := (if (decide ((w4 (a1 - (a0.l.length : Int))) < 0)) = true then (some (-1)) else ((az_ (S := (Int × Int)) (R := (Int ⊕ Int)) (fun st1 => (if (decide (st1.2 < (a0.l.length : Int))) = true then ((elt a0 st1.2).bind fun y2 => ((be_ y2 st1.1).bind fun y3 => (if (decide (y3 < 0)) = true then (some (.inr (.inr (-1)))) else (some (.inl (y3, (w4 (st1.2 + 1)))))))) else (some (.inr (.inl st1.1))))) ((w4 (a1 - (a0.l.length : Int))), 0)).bind fun y1 => (Sum.elim (fun y1 => (some y1)) (fun y1 => (some y1)) y1)))
theorem eM_ (a0 : (Sl DPattern)) (a1 : Int) (r : Int) (h : ci_ a0 a1 = some r) : dg_ a0 a1 = some r := by
 unfold ci_ at h
 refine k_W ok_15 E_i64_inj h (fun σ0 => ?_)
 refine t_RN ?_
 refine t_RN ?_
 refine t_RN ?_
 refine t_if (fun hc1 => ?_) fun hc1 => ?_
 ·refine t_RN ?_
  exact k_eW (rT rN) E_i64_p
 refine t_RN ?_
 refine aX_ (fun st1 fr => Sub [(0, a0.t), (1, i4 st1.1), (5, i4 st1.2)] fr.s ∧ Heap σ0 fr.σ []) (fun y1 e fr => (Sum.elim (fun y => e = (.exit 0) ∧ Sub [(1, i4 y)] fr.s ∧ Heap σ0 fr.σ []) (fun y => e = .ret ∧ endW Try.prog (Try.f15.results.toList) σ0 (E_i64 y) .ret fr)) y1) (fun hS hH => ⟨(af_ hS (by kernel_rfl)), hH⟩) (fun st1 x fr h HI => ?_) fun y1 e fr h HF => ?_
 ·obtain ⟨s, σ⟩ := fr; obtain ⟨hS, hH⟩ := HI
  refine t_bk h hS hH ?_
  refine t_RN ?_
  refine t_if (fun hc2 => ?_) fun hc2 => ?_
  ·refine t_RU 2 ?_
   refine bH_ fun y2 rest1 hy2 => ?_
   refine t_U 2 ?_
   refine au_ fun y3 hy3 => ?_
   refine t_N ?_
   refine t_RN ?_
   refine t_if (fun hc3 => ?_) fun hc3 => ?_
   ·refine t_RN ?_
    exact t_e fun he hS hH => he ▸ ⟨rfl, (eW hS hH (rT rN) E_i64_p)⟩
   refine t_RN ?_
   exact t_e fun he hS hH => he ▸ ⟨(af_ hS (by kernel_rfl)), hH⟩
  exact t_e fun he hS hH => he ▸ ⟨rfl, (af_ hS (by kernel_rfl)), hH⟩
 obtain ⟨s, σ⟩ := fr
 rcases y1 with y1 | y1
 ·have h := el_l h
  obtain ⟨rfl, hS, hH⟩ := HF
  refine t_bx h hS hH ?_
  refine t_RN ?_
  exact k_eW (rT rN) E_i64_p
 have h := el_r h
 obtain ⟨rfl, HE⟩ := HF
 obtain rfl := si_1 h; exact HE
noncomputable def c5_ (a0 : (Sl DPattern)) : Option (Sl DPattern) := ((mkS 56 ((⟨0, 0, ⟨#[]⟩, ⟨true, []⟩⟩ : DPattern) : DPattern) (a0.l.length : Int) (a0.l.length : Int)).bind fun y1 => ((az_ (S := (Int × (Sl DPattern))) (R := (Sl DPattern)) (fun st1 => (if (decide (st1.1 < (a0.l.length : Int))) = true then ((elt a0 st1.1).bind fun y3 => ((a2_ y3).bind fun y4 => ((elt st1.2 st1.1).bind fun y5 => (some (.inl ((w4 (st1.1 + 1)), (setS st1.2 st1.1 (y4 : DPattern)))))))) else (some (.inr st1.2)))) (0, y1)).bind fun y2 => (some y2)))
theorem gR_ (a0 : (Sl DPattern)) (r : (Sl DPattern)) (h : c5_ a0 = some r) : da_ a0 = some r := by
 unfold c5_ at h
 refine k_O ok_17 h (fun σ0 => ?_)
 refine t_RN ?_
 refine t_RU 2 ?_
 intro h s σ hS hH
 obtain ⟨y1, hy1, h⟩ := bind_some h
 refine on_ (z := true) (e := 26) (by_ := 56) (x0 := ((⟨0, 0, ⟨#[]⟩, ⟨true, []⟩⟩ : DPattern) : DPattern)) (fun σ d => by simp [Enc.cells, DPattern.cells, DPattern.cellsK, Iv]) rfl hS hH rfl rfl (by kernel_rfl) (by kernel_rfl) (by kernel_rfl) (by kernel_rfl) rfl hy1 ?_; intro t1 σ s ht1 hH hS
 refine t_bk h hS hH ?_
 refine t_N ?_
 refine t_RN ?_
 refine aX_ (fun st1 fr => Sub [(0, a0.t), (3, t1), (4, i4 st1.1)] fr.s ∧ Heap σ0 fr.σ [.own true 4 t1 st1.2.t]) (fun y2 e fr => e = (.exit 0) ∧ Sub [(3, t1)] fr.s ∧ Heap σ0 fr.σ [.own true 4 t1 y2.t]) (fun hS hH => ⟨(af_ hS (by kernel_rfl)), hH⟩) (fun st1 x fr h HI => ?_) fun y2 e fr h HF => ?_
 ·obtain ⟨s, σ⟩ := fr; obtain ⟨hS, hH⟩ := HI
  refine t_bk h hS hH ?_
  refine t_RN ?_
  refine t_if (fun hc1 => ?_) fun hc1 => ?_
  ·refine t_RU 4 ?_
   refine bH_ fun y3 rest1 hy3 => ?_
   refine t_U 1 ?_
   refine bN_ (fun y4 t2 hy4 ht2 => ?_)
   refine k6_ 1 (fun hb1 hb1e y5 hy5 hl_hb1 => ?_)
   refine t_h Heap.up1 ?_
   intro h s σ hS hH
   refine kS_ (ents := [.own true 4 t2 y4.Kids.t]) (a := st1.2) (j := st1.1) (y := y5) (y' := (y4 : DPattern)) (off := 0) (c := [i4 y5.Kind, i4 y5.Num, .str y5.Text, y5.Kids.t]) (us := [i4 y4.Kind, i4 y4.Num, .str y4.Text, t2]) (vs := [i4 y4.Kind, i4 y4.Num, .str y4.Text, y4.Kids.t]) (v := .agg [i4 y4.Kind, i4 y4.Num, .str y4.Text, t2]) rfl hS hH hl_hb1 rfl rfl rfl (by simp [ht2.1, ht2.2]) (by kernel_rfl) rfl hy5 (DPattern.cells_eq _) (HLi (HLi (HLs (HL.own rfl HL.nil)))) rfl (by rw [DPattern.enc_eq]; rfl) ?_; intro σ s hH hS
   refine t_bk h hS hH ?_
   refine t_N ?_
   refine t_RN ?_
   exact t_e fun he hS hH => he ▸ ⟨(af_ hS (by kernel_rfl)), hH⟩
  exact t_e fun he hS hH => he ▸ ⟨rfl, (af_ hS (by kernel_rfl)), hH⟩
 obtain ⟨s, σ⟩ := fr
 obtain ⟨rfl, hS, hH⟩ := HF
 refine t_bx h hS hH ?_
 refine t_RN ?_
 exact k_eO [t1] (rT rN)
noncomputable def dv_ (a0 : DPattern) (a1 : DPattern) : Option Bool := (if (!decide (a0.Kind = a1.Kind)) = true then (some false) else (if (!decide (a0.Num = a1.Num)) = true then (some false) else (if (!decide (a0.Text = a1.Text)) = true then (some false) else ((df_ a0.Kids a1.Kids).bind fun y1 => (if (!y1) = true then (some false) else (some true))))))
theorem ha_ (a0 : DPattern) (a1 : DPattern) (r : Bool) (h : dv_ a0 a1 = some r) : bf_ a0 a1 = some r := by
 unfold dv_ at h
 refine k_W ok_19 E_bool_inj h (fun σ0 => ?_)
 refine t_R ?_
 refine bI_ (fun b1 => ?_)
 refine bI_ (fun b2 => ?_)
 refine t_N ?_
 refine t_RU 1 ?_
 refine ae_ 1 ?_
 refine t_U 1 ?_
 refine ae_ 0 ?_
 refine t_N ?_
 refine t_if (fun hc1 => ?_) fun hc1 => ?_
 ·refine t_RN ?_
  exact k_eW (rT rN) E_bool_p
 refine t_RU 1 ?_
 refine ae_ 1 ?_
 refine t_U 1 ?_
 refine ae_ 0 ?_
 refine t_N ?_
 refine t_if (fun hc2 => ?_) fun hc2 => ?_
 ·refine t_RN ?_
  exact k_eW (rT rN) E_bool_p
 refine t_RU 1 ?_
 refine ae_ 1 ?_
 refine t_U 1 ?_
 refine ae_ 0 ?_
 refine t_N ?_
 refine t_if (fun hc3 => ?_) fun hc3 => ?_
 ·refine t_RN ?_
  exact k_eW (rT rN) E_bool_p
 refine t_RU 1 ?_
 refine ae_ 1 ?_
 refine t_U 1 ?_
 refine ae_ 0 ?_
 refine au_ fun y1 hy1 => ?_
 refine t_N ?_
 refine t_if (fun hc4 => ?_) fun hc4 => ?_
 ·refine t_RN ?_
  exact k_eW (rT rN) E_bool_p
 refine t_RN ?_
 exact k_eW (rT rN) E_bool_p
noncomputable def de_ (a0 : (Sl DPattern)) (a1 : (Sl DPattern)) : Option Bool := (if ((!decide ((a0.l.length : Int) = (a1.l.length : Int)))) = true then (some false) else ((az_ (S := Int) (R := (Unit ⊕ Bool)) (fun st1 => (if (decide (st1 < (a0.l.length : Int))) = true then ((elt a0 st1).bind fun y2 => ((elt a1 st1).bind fun y3 => ((bf_ y2 y3).bind fun y4 => (if (!y4) = true then (some (.inr (.inr false))) else (some (.inl (w4 (st1 + 1)))))))) else (some (.inr (.inl ()))))) 0).bind fun y1 => (Sum.elim (fun y1 => (some true)) (fun y1 => (some y1)) y1)))
theorem g2_ (a0 : (Sl DPattern)) (a1 : (Sl DPattern)) (r : Bool) (h : de_ a0 a1 = some r) : df_ a0 a1 = some r := by
 unfold de_ at h
 refine k_W ok_20 E_bool_inj h (fun σ0 => ?_)
 refine t_RN ?_
 refine t_RN ?_
 refine t_if (fun hc1 => ?_) fun hc1 => ?_
 ·refine t_RN ?_
  exact k_eW (rT rN) E_bool_p
 refine t_RN ?_
 refine aX_ (fun st1 fr => Sub [(0, a0.t), (1, a1.t), (5, i4 st1)] fr.s ∧ Heap σ0 fr.σ []) (fun y1 e fr => (Sum.elim (fun y => e = (.exit 0) ∧ Sub [] fr.s ∧ Heap σ0 fr.σ []) (fun y => e = .ret ∧ endW Try.prog (Try.f20.results.toList) σ0 (E_bool y) .ret fr)) y1) (fun hS hH => ⟨(af_ hS (by kernel_rfl)), hH⟩) (fun st1 x fr h HI => ?_) fun y1 e fr h HF => ?_
 ·obtain ⟨s, σ⟩ := fr; obtain ⟨hS, hH⟩ := HI
  refine t_bk h hS hH ?_
  refine t_RN ?_
  refine t_if (fun hc2 => ?_) fun hc2 => ?_
  ·refine t_D fun mb => ?_
   refine t_U 2 ?_
   refine bH_ fun y2 rest1 hy2 => ?_
   refine t_U 3 ?_
   refine bH_ fun y3 rest2 hy3 => ?_
   refine t_U 1 ?_
   refine au_ fun y4 hy4 => ?_
   refine t_N ?_
   refine t_if (fun hc3 => ?_) fun hc3 => ?_
   ·refine t_RN ?_
    exact t_e fun he hS hH => he ▸ ⟨rfl, (eW hS hH (rT rN) E_bool_p)⟩
   refine t_RN ?_
   exact t_e fun he hS hH => he ▸ ⟨(af_ hS (by kernel_rfl)), hH⟩
  exact t_e fun he hS hH => he ▸ ⟨rfl, (af_ hS (by kernel_rfl)), hH⟩
 obtain ⟨s, σ⟩ := fr
 rcases y1 with y1 | y1
 ·have h := el_l h
  obtain ⟨rfl, hS, hH⟩ := HF
  refine t_bx h hS hH ?_
  refine t_RN ?_
  exact k_eW (rT rN) E_bool_p
 have h := el_r h
 obtain ⟨rfl, HE⟩ := HF
 obtain rfl := si_1 h; exact HE
noncomputable def cM_ (a0 : (Sl ag_)) (a1 : Int) : Option Int := (if (decide ((w4 (a1 - (a0.l.length : Int))) < 0)) = true then (some (-1)) else ((az_ (S := (Int × Int)) (R := (Int ⊕ Int)) (fun st1 => (if (decide (st1.2 < (a0.l.length : Int))) = true then ((elt a0 st1.2).bind fun y2 => ((bY_ y2 st1.1).bind fun y3 => (if (decide (y3 < 0)) = true then (some (.inr (.inr (-1)))) else (some (.inl (y3, (w4 (st1.2 + 1)))))))) else (some (.inr (.inl st1.1))))) ((w4 (a1 - (a0.l.length : Int))), 0)).bind fun y1 => (Sum.elim (fun y1 => (some y1)) (fun y1 => (some y1)) y1)))
theorem fx_ (a0 : (Sl ag_)) (a1 : Int) (r : Int) (h : cM_ a0 a1 = some r) : dT_ a0 a1 = some r := by
 unfold cM_ at h
 refine k_W ok_26 E_i64_inj h (fun σ0 => ?_)
 refine t_RN ?_
 refine t_RN ?_
 refine t_RN ?_
 refine t_if (fun hc1 => ?_) fun hc1 => ?_
 ·refine t_RN ?_
  exact k_eW (rT rN) E_i64_p
 refine t_RN ?_
 refine aX_ (fun st1 fr => Sub [(0, a0.t), (1, i4 st1.1), (5, i4 st1.2)] fr.s ∧ Heap σ0 fr.σ []) (fun y1 e fr => (Sum.elim (fun y => e = (.exit 0) ∧ Sub [(1, i4 y)] fr.s ∧ Heap σ0 fr.σ []) (fun y => e = .ret ∧ endW Try.prog (Try.f26.results.toList) σ0 (E_i64 y) .ret fr)) y1) (fun hS hH => ⟨(af_ hS (by kernel_rfl)), hH⟩) (fun st1 x fr h HI => ?_) fun y1 e fr h HF => ?_
 ·obtain ⟨s, σ⟩ := fr; obtain ⟨hS, hH⟩ := HI
  refine t_bk h hS hH ?_
  refine t_RN ?_
  refine t_if (fun hc2 => ?_) fun hc2 => ?_
  ·refine t_RU 2 ?_
   refine bH_ fun y2 rest1 hy2 => ?_
   refine t_U 2 ?_
   refine au_ fun y3 hy3 => ?_
   refine t_N ?_
   refine t_RN ?_
   refine t_if (fun hc3 => ?_) fun hc3 => ?_
   ·refine t_RN ?_
    exact t_e fun he hS hH => he ▸ ⟨rfl, (eW hS hH (rT rN) E_i64_p)⟩
   refine t_RN ?_
   exact t_e fun he hS hH => he ▸ ⟨(af_ hS (by kernel_rfl)), hH⟩
  exact t_e fun he hS hH => he ▸ ⟨rfl, (af_ hS (by kernel_rfl)), hH⟩
 obtain ⟨s, σ⟩ := fr
 rcases y1 with y1 | y1
 ·have h := el_l h
  obtain ⟨rfl, hS, hH⟩ := HF
  refine t_bx h hS hH ?_
  refine t_RN ?_
  exact k_eW (rT rN) E_i64_p
 have h := el_r h
 obtain ⟨rfl, HE⟩ := HF
 obtain rfl := si_1 h; exact HE
noncomputable def ec_ (a0 : (Sl ag_)) : Option (Sl ag_) := ((mkS 72 ((⟨⟨#[]⟩, (⟨0, 0, ⟨#[]⟩, ⟨true, []⟩⟩ : DPattern)⟩ : ag_) : ag_) (a0.l.length : Int) (a0.l.length : Int)).bind fun y1 => ((az_ (S := (Int × (Sl ag_))) (R := (Sl ag_)) (fun st1 => (if (decide (st1.1 < (a0.l.length : Int))) = true then ((elt a0 st1.1).bind fun y3 => ((eH_ y3).bind fun y4 => ((elt st1.2 st1.1).bind fun y5 => (some (.inl ((w4 (st1.1 + 1)), (setS st1.2 st1.1 (y4 : ag_)))))))) else (some (.inr st1.2)))) (0, y1)).bind fun y2 => (some y2)))
theorem h1_ (a0 : (Sl ag_)) (r : (Sl ag_)) (h : ec_ a0 = some r) : b8_ a0 = some r := by
 unfold ec_ at h
 refine k_O ok_28 h (fun σ0 => ?_)
 refine t_RN ?_
 refine t_RU 2 ?_
 intro h s σ hS hH
 obtain ⟨y1, hy1, h⟩ := bind_some h
 refine on_ (z := true) (e := 82) (by_ := 72) (x0 := ((⟨⟨#[]⟩, (⟨0, 0, ⟨#[]⟩, ⟨true, []⟩⟩ : DPattern)⟩ : ag_) : ag_)) (fun σ d => by simp [Enc.cells, ag_.cells, Iv]) rfl hS hH rfl rfl (by kernel_rfl) (by kernel_rfl) (by kernel_rfl) (by kernel_rfl) rfl hy1 ?_; intro t1 σ s ht1 hH hS
 refine t_bk h hS hH ?_
 refine t_N ?_
 refine t_RN ?_
 refine aX_ (fun st1 fr => Sub [(0, a0.t), (3, t1), (4, i4 st1.1)] fr.s ∧ Heap σ0 fr.σ [.own true 5 t1 st1.2.t]) (fun y2 e fr => e = (.exit 0) ∧ Sub [(3, t1)] fr.s ∧ Heap σ0 fr.σ [.own true 5 t1 y2.t]) (fun hS hH => ⟨(af_ hS (by kernel_rfl)), hH⟩) (fun st1 x fr h HI => ?_) fun y2 e fr h HF => ?_
 ·obtain ⟨s, σ⟩ := fr; obtain ⟨hS, hH⟩ := HI
  refine t_bk h hS hH ?_
  refine t_RN ?_
  refine t_if (fun hc1 => ?_) fun hc1 => ?_
  ·refine t_RU 4 ?_
   refine bH_ fun y3 rest1 hy3 => ?_
   refine t_U 1 ?_
   refine bN_ (fun y4 t2 hy4 ht2 => ?_)
   refine k6_ 1 (fun hb1 hb1e y5 hy5 hl_hb1 => ?_)
   refine t_h Heap.up1 ?_
   intro h s σ hS hH
   refine kS_ (ents := [.own true 4 t2 y4.Pattern.Kids.t]) (a := st1.2) (j := st1.1) (y := y5) (y' := (y4 : ag_)) (off := 0) (c := [.str y5.Name, i4 y5.Pattern.Kind, i4 y5.Pattern.Num, .str y5.Pattern.Text, y5.Pattern.Kids.t]) (us := [.str y4.Name, i4 y4.Pattern.Kind, i4 y4.Pattern.Num, .str y4.Pattern.Text, t2]) (vs := [.str y4.Name, i4 y4.Pattern.Kind, i4 y4.Pattern.Num, .str y4.Pattern.Text, y4.Pattern.Kids.t]) (v := .agg [.str y4.Name, i4 y4.Pattern.Kind, i4 y4.Pattern.Num, .str y4.Pattern.Text, t2]) rfl hS hH hl_hb1 rfl rfl rfl (by simp [ht2.1, ht2.2]) (by kernel_rfl) rfl hy5 rfl (HLs (HLi (HLi (HLs (HL.own rfl HL.nil))))) rfl (by kernel_rfl) ?_; intro σ s hH hS
   refine t_bk h hS hH ?_
   refine t_N ?_
   refine t_RN ?_
   exact t_e fun he hS hH => he ▸ ⟨(af_ hS (by kernel_rfl)), hH⟩
  exact t_e fun he hS hH => he ▸ ⟨rfl, (af_ hS (by kernel_rfl)), hH⟩
 obtain ⟨s, σ⟩ := fr
 obtain ⟨rfl, hS, hH⟩ := HF
 refine t_bx h hS hH ?_
 refine t_RN ?_
 exact k_eO [t1] (rT rN)
noncomputable def dW_ (a0 : (Sl ag_)) (a1 : (Sl ag_)) : Option Bool := (if ((!decide ((a0.l.length : Int) = (a1.l.length : Int)))) = true then (some false) else ((az_ (S := Int) (R := (Unit ⊕ Bool)) (fun st1 => (if (decide (st1 < (a0.l.length : Int))) = true then ((elt a0 st1).bind fun y2 => ((elt a1 st1).bind fun y3 => ((eF_ y2 y3).bind fun y4 => (if (!y4) = true then (some (.inr (.inr false))) else (some (.inl (w4 (st1 + 1)))))))) else (some (.inr (.inl ()))))) 0).bind fun y1 => (Sum.elim (fun y1 => (some true)) (fun y1 => (some y1)) y1)))
theorem h7_ (a0 : (Sl ag_)) (a1 : (Sl ag_)) (r : Bool) (h : dW_ a0 a1 = some r) : d7_ a0 a1 = some r := by
 unfold dW_ at h
 refine k_W ok_30 E_bool_inj h (fun σ0 => ?_)
 refine t_RN ?_
 refine t_RN ?_
 refine t_if (fun hc1 => ?_) fun hc1 => ?_
 ·refine t_RN ?_
  exact k_eW (rT rN) E_bool_p
 refine t_RN ?_
 refine aX_ (fun st1 fr => Sub [(0, a0.t), (1, a1.t), (5, i4 st1)] fr.s ∧ Heap σ0 fr.σ []) (fun y1 e fr => (Sum.elim (fun y => e = (.exit 0) ∧ Sub [] fr.s ∧ Heap σ0 fr.σ []) (fun y => e = .ret ∧ endW Try.prog (Try.f30.results.toList) σ0 (E_bool y) .ret fr)) y1) (fun hS hH => ⟨(af_ hS (by kernel_rfl)), hH⟩) (fun st1 x fr h HI => ?_) fun y1 e fr h HF => ?_
 ·obtain ⟨s, σ⟩ := fr; obtain ⟨hS, hH⟩ := HI
  refine t_bk h hS hH ?_
  refine t_RN ?_
  refine t_if (fun hc2 => ?_) fun hc2 => ?_
  ·refine t_D fun mb => ?_
   refine t_U 2 ?_
   refine bH_ fun y2 rest1 hy2 => ?_
   refine t_U 3 ?_
   refine bH_ fun y3 rest2 hy3 => ?_
   refine t_U 1 ?_
   refine au_ fun y4 hy4 => ?_
   refine t_N ?_
   refine t_if (fun hc3 => ?_) fun hc3 => ?_
   ·refine t_RN ?_
    exact t_e fun he hS hH => he ▸ ⟨rfl, (eW hS hH (rT rN) E_bool_p)⟩
   refine t_RN ?_
   exact t_e fun he hS hH => he ▸ ⟨(af_ hS (by kernel_rfl)), hH⟩
  exact t_e fun he hS hH => he ▸ ⟨rfl, (af_ hS (by kernel_rfl)), hH⟩
 obtain ⟨s, σ⟩ := fr
 rcases y1 with y1 | y1
 ·have h := el_l h
  obtain ⟨rfl, hS, hH⟩ := HF
  refine t_bx h hS hH ?_
  refine t_RN ?_
  exact k_eW (rT rN) E_bool_p
 have h := el_r h
 obtain ⟨rfl, HE⟩ := HF
 obtain rfl := si_1 h; exact HE
noncomputable def cy_ (a0 : DPattern) (a1 : Int) : Option Int := (if (decide ((w4 (a1 - (a0.Text.size : Int))) < 0)) = true then (some (-1)) else ((dg_ a0.Kids (w4 (a1 - (a0.Text.size : Int)))).bind fun y1 => (if (decide (y1 < 0)) = true then (some (-1)) else (some y1))))
theorem fs_ (a0 : DPattern) (a1 : Int) (r : Int) (h : cy_ a0 a1 = some r) : be_ a0 a1 = some r := by
 unfold cy_ at h
 refine k_W ok_37 E_i64_inj h (fun σ0 => ?_)
 refine t_R ?_
 refine bI_ (fun b1 => ?_)
 refine t_N ?_
 refine t_RU 2 ?_
 refine ae_ 0 ?_
 refine t_N ?_
 refine t_RN ?_
 refine t_if (fun hc1 => ?_) fun hc1 => ?_
 ·refine t_RN ?_
  exact k_eW (rT rN) E_i64_p
 refine t_RU 1 ?_
 refine ae_ 0 ?_
 refine t_U 1 ?_
 refine au_ fun y1 hy1 => ?_
 refine t_N ?_
 refine t_RN ?_
 refine t_if (fun hc2 => ?_) fun hc2 => ?_
 ·refine t_RN ?_
  exact k_eW (rT rN) E_i64_p
 refine t_RN ?_
 exact k_eW (rT rN) E_i64_p
noncomputable def dr_ (a0 : DPattern) : Option DPattern := ((da_ a0.Kids).bind fun y1 => (some (⟨a0.Kind, a0.Num, a0.Text, y1⟩ : DPattern)))
theorem hf_ (a0 : DPattern) (r : DPattern) (h : dr_ a0 = some r) : a2_ a0 = some r := by
 unfold dr_ at h
 refine k_O ok_39 h (fun σ0 => ?_)
 refine t_R ?_
 refine bI_ (fun b1 => ?_)
 refine c6_ fun b2 => ?_
 refine t_N ?_
 refine t_R ?_
 refine c6_ fun b3 => ?_
 refine t_N ?_
 refine t_RU 1 ?_
 refine ae_ 2 ?_
 refine t_U 1 ?_
 refine aI_ 0 ?_
 refine t_N ?_
 refine t_RU 1 ?_
 refine ae_ 2 ?_
 refine t_U 1 ?_
 refine aI_ 0 ?_
 refine t_N ?_
 refine t_RU 1 ?_
 refine ae_ 2 ?_
 refine t_U 1 ?_
 refine aI_ 0 ?_
 refine t_N ?_
 refine t_RU 1 ?_
 refine ae_ 2 ?_
 refine bN_ (fun y1 t1 hy1 ht1 => ?_)
 refine t_U 1 ?_
 refine bC_ 1 ht1 ?_
 refine t_N ?_
 refine t_R ?_
 refine ae_ 0 ?_
 refine ce_ 2 ?_ (h1 := by simp [ht1.1, ht1.2])
 refine t_N ?_
 refine t_h Heap.up2 ?_
 exact k_eO [t1] (rC 1 rN)
noncomputable def b6_ (a0 : (Sl ag_)) (a1 : DPattern) (a2 : ByteArray) (a3 : Int) : Option Bool := ((fn_ a0 a1 a2 0 a3).bind fun y1 => (if (decide (y1.2 = 0)) = true then ((fq_ y1.1 (a2.size : Int)).bind fun y2 => (some y2)) else (some false)))
theorem gD_ (a0 : (Sl ag_)) (a1 : DPattern) (a2 : ByteArray) (a3 : Int) (r : Bool) (h : b6_ a0 a1 a2 a3 = some r) : cT_ a0 a1 a2 a3 = some r := by
 unfold b6_ at h
 refine k_W ok_41 E_bool_inj h (fun σ0 => ?_)
 refine t_R ?_
 refine bI_ (fun b1 => ?_)
 refine t_N ?_
 refine t_RU 1 ?_
 refine ae_ 0 ?_
 refine t_U 2 ?_
 refine bN_ (fun y1 t1 hy1 ht1 => ?_)
 refine t_N ?_
 refine t_RU 3 ?_
 refine aM_ 21 (fun hc1 => ?_) fun hc1 => ?_
 ·refine t_U 3 ?_
  refine e8_ (fun y2 hy2 => ?_)
  refine t_N ?_
  exact k_eW (rT rN) E_bool_p
 refine t_N ?_
 exact k_eW (rT rN) E_bool_p
noncomputable def b3_ (a0 : (Sl ag_)) (a1 : DPattern) (a2 : ByteArray) (a3 : Int) : Option Bool := ((e9_ a0 a1 a2 0 a3).bind fun y1 => (if (decide (y1.2 = 0)) = true then ((bQ_ y1.1 (a2.size : Int)).bind fun y2 => (some y2)) else (some false)))
theorem gr_ (a0 : (Sl ag_)) (a1 : DPattern) (a2 : ByteArray) (a3 : Int) (r : Bool) (h : b3_ a0 a1 a2 a3 = some r) : cV_ a0 a1 a2 a3 = some r := by
 unfold b3_ at h
 refine k_W ok_42 E_bool_inj h (fun σ0 => ?_)
 refine t_R ?_
 refine bI_ (fun b1 => ?_)
 refine t_N ?_
 refine t_RU 1 ?_
 refine ae_ 0 ?_
 refine t_U 2 ?_
 refine bN_ (fun y1 t1 hy1 ht1 => ?_)
 refine t_N ?_
 refine t_RU 3 ?_
 refine aM_ 21 (fun hc1 => ?_) fun hc1 => ?_
 ·refine t_U 3 ?_
  refine e8_ (fun y2 hy2 => ?_)
  refine t_N ?_
  exact k_eW (rT rN) E_bool_p
 refine t_N ?_
 exact k_eW (rT rN) E_bool_p
noncomputable def dB_ (a0 : (Sl ag_)) (a1 : DPattern) (a2 : ByteArray) (a3 : Int) (a4 : Int) : Option ((Sl (Iv .i64)) × Int) := ((e5_ a0 a1 a2 a4).bind fun y1 => (if (!decide (y1 = 0)) = true then (some (⟨false, []⟩, y1)) else ((bJ_ a3 0 (a2.size : Int)).bind fun y2 => (if (!y2) = true then (some (⟨false, []⟩, 3)) else ((ez_ a0 a1 a2 a3 a4).bind fun y3 => (if (!decide (y3.2 = 0)) = true then (some (⟨false, []⟩, y3.2)) else (some (y3.1, 0))))))))
theorem iZ_ (a0 : (Sl ag_)) (a1 : DPattern) (a2 : ByteArray) (a3 : Int) (a4 : Int) (r : ((Sl (Iv .i64)) × Int)) (h : dB_ a0 a1 a2 a3 a4 = some r) : fn_ a0 a1 a2 a3 a4 = some r := by
 unfold dB_ at h
 refine k_O ok_43 h (fun σ0 => ?_)
 refine t_R ?_
 refine bI_ (fun b1 => ?_)
 refine t_N ?_
 refine t_RU 1 ?_
 refine ae_ 0 ?_
 refine t_U 2 ?_
 refine au_ fun y1 hy1 => ?_
 refine t_N ?_
 refine t_RN ?_
 refine t_if (fun hc1 => ?_) fun hc1 => ?_
 ·refine t_R ?_
  refine iW_ (α := (Iv .i64)) (fun t1 ht1 => ?_)
  refine t_N ?_
  exact k_eO [t1] (rT (rT rN))
 refine t_RU 3 ?_
 refine au_ fun y2 hy2 => ?_
 refine t_N ?_
 refine t_if (fun hc2 => ?_) fun hc2 => ?_
 ·refine t_R ?_
  refine iW_ (α := (Iv .i64)) (fun t2 ht2 => ?_)
  refine t_N ?_
  exact k_eO [t2] (rT (rT rN))
 refine t_RU 1 ?_
 refine ae_ 0 ?_
 refine t_U 3 ?_
 refine bN_ (fun y3 t3 hy3 ht3 => ?_)
 refine t_N ?_
 refine t_RN ?_
 refine t_if (fun hc3 => ?_) fun hc3 => ?_
 ·refine t_R ?_
  refine iW_ (α := (Iv .i64)) (fun t4 ht4 => ?_)
  refine t_N ?_
  exact k_eO [t4] (rT (rT rN))
 refine t_RN ?_
 exact k_eO [t3] (rT (rT rN))
noncomputable def dF_ (a0 : (Sl ag_)) (a1 : DPattern) (a2 : ByteArray) (a3 : Int) (a4 : Int) : Option ((Sl (Iv .i64)) × Int) := ((c3_ a0 a1 a2 a4).bind fun y1 => ((bi_ a3 0 (a2.size : Int)).bind fun y2 => ((cS_ y2 3).bind fun y3 => ((er_ (⟨false, [⟨y1⟩, ⟨y3⟩]⟩)).bind fun y4 => (if (!decide (y4 = 0)) = true then (some (⟨true, []⟩, y4)) else ((b4_ a0 a1 a2 (⟨false, [⟨a3⟩]⟩) a4).bind fun y5 => (if (!decide (y5.2 = 0)) = true then (some (⟨true, []⟩, y5.2)) else ((az_ (S := (Int × (Sl (Iv .i64)))) (R := (Sl (Iv .i64))) (fun st1 => (if (decide (st1.1 < (y5.1.l.length : Int))) = true then ((elt y5.1 st1.1).bind fun y7 => ((appS 8 st1.2 (⟨false, [⟨y7.End⟩]⟩ : Sl (Iv .i64))).bind fun y8 => (some (.inl ((w4 (st1.1 + 1)), y8))))) else (some (.inr st1.2)))) (0, (⟨false, []⟩ : Sl (Iv .i64)))).bind fun y6 => (some (y6, 0))))))))))
theorem jr_ (a0 : (Sl ag_)) (a1 : DPattern) (a2 : ByteArray) (a3 : Int) (a4 : Int) (r : ((Sl (Iv .i64)) × Int)) (h : dF_ a0 a1 a2 a3 a4 = some r) : e9_ a0 a1 a2 a3 a4 = some r := by
 unfold dF_ at h
 refine k_O ok_44 h (fun σ0 => ?_)
 refine t_R ?_
 refine bI_ (fun b1 => ?_)
 refine t_N ?_
 refine t_RU 1 ?_
 refine ae_ 0 ?_
 refine t_U 2 ?_
 refine au_ fun y1 hy1 => ?_
 refine t_U 3 ?_
 refine au_ fun y2 hy2 => ?_
 refine au_ fun y3 hy3 => ?_
 refine k_bs (z := true) (⟨false, [⟨y1⟩, ⟨y3⟩]⟩ : Sl (Iv .i64)) (fun t1 ht1 => ?_)
 refine e8_ (fun y4 hy4 => ?_)
 refine t_N ?_
 refine t_RN ?_
 refine t_if (fun hc1 => ?_) fun hc1 => ?_
 ·refine t_RN ?_
  refine t_h (Heap.addNil · true 1) ?_
  exact k_eO [(T.row true 0 [])] (rT (rT rN))
 refine t_RU 1 ?_
 refine ae_ 1 ?_
 refine t_U 2 ?_
 refine k_bs (z := true) (⟨false, [⟨a3⟩]⟩ : Sl (Iv .i64)) (fun t2 ht2 => ?_)
 refine t_U 1 ?_
 refine bN_ (fun y5 t3 hy5 ht3 => ?_)
 refine t_N ?_
 refine t_RN ?_
 refine t_if (fun hc2 => ?_) fun hc2 => ?_
 ·refine t_RN ?_
  refine t_h (Heap.addNil · true 1) ?_
  exact k_eO [(T.row true 0 [])] (rT (rT rN))
 refine t_R ?_
 refine iW_ (α := (Iv .i64)) (fun t4 ht4 => ?_)
 refine t_N ?_
 refine t_RU 1 ?_
 refine jZ_ (a := y5.1) 1 ?_
 refine t_N ?_
 refine aX_ (fun st1 fr => ∃ t6, ao_ t6 ∧ Sub [(15, t6), (47, t3), (48, i4 (y5.1.l.length : Int)), (49, i4 st1.1)] fr.s ∧ Heap σ0 fr.σ [.own true 1 t6 st1.2.t, .own true 3 t3 y5.1.t]) (fun y6 e fr => ∃ t7, ao_ t7 ∧ e = (.exit 0) ∧ Sub [(15, t7)] fr.s ∧ Heap σ0 fr.σ [.own true 1 t7 y6.t]) (fun hS hH => ⟨t4, ht4, (af_ hS (by kernel_rfl)), (Heap.sel hH [0, 1] rfl (by kernel_rfl))⟩) (fun st1 x fr h HI => ?_) fun y6 e fr h HF => ?_
 ·obtain ⟨s, σ⟩ := fr; obtain ⟨t6, ht6, ⟨hS, hH⟩⟩ := HI
  refine t_bk h hS hH ?_
  refine t_RN ?_
  refine t_if (fun hc3 => ?_) fun hc3 => ?_
  ·refine t_R ?_
   refine k6_ 1 (fun hb1 hb1e y7 hy7 hl_hb1 => ?_)
   refine t_h Heap.up1 ?_
   intro h s σ hS hH
   refine n6_ (a := y5.1) (j := st1.1) (y := y7) (off := 2) (c := [i4 y7.Start, i4 y7.End, y7.Captures.t]) (q := (y7.Captures : Sl aa_)) (fun _ _ _ _ _ => trivial) rfl hS hH hl_hb1 rfl hy7 rfl (by kernel_rfl) (by kernel_rfl) rfl (by kernel_rfl) (by kernel_rfl) (by kernel_rfl) ?_; intro F1 σk1 t8 s ht8 hH hcl1 hcl1s hcl1p hcl1k hcl1f hS
   refine t_bk h hS hH ?_
   refine c6_ fun b2 => ?_
   refine ce_ 0 ?_ (h1 := by simp [ht8.1, ht8.2])
   refine t_h (·.up2.up2) ?_
   intro h s σ hS hH
   have hH := hcl1s _ _ hH
   have hH : Heap σ0 σ [.own true 3 t3 y5.1.t, .box b2 [i4 y7.Start, i4 y7.End, t8], .own true 1 t6 st1.2.t] := hH
   refine t_bk h hS hH ?_
   refine t_N ?_
   refine t_RU 2 ?_
   refine ae_ 1 ?_
   refine k_bs (z := true) (⟨false, [⟨y7.End⟩]⟩ : Sl (Iv .i64)) (fun t9 ht9 => ?_)
   refine nc_ 3 0 (fun y8 t10 hy8 ht10 => ?_)
   refine t_N ?_
   refine t_RN ?_
   exact t_e fun he hS hH => he ▸ ⟨t10, ht10, (af_ hS (by kernel_rfl)), (Heap.sel hH [0, 1] rfl (by kernel_rfl))⟩
  exact t_e fun he hS hH => he ▸ ⟨t6, ht6, rfl, (af_ hS (by kernel_rfl)), (Heap.sel hH [0] rfl (by kernel_rfl))⟩
 obtain ⟨s, σ⟩ := fr
 obtain ⟨t7, ht7, ⟨rfl, hS, hH⟩⟩ := HF
 refine t_bx h hS hH ?_
 refine t_RN ?_
 exact k_eO [t7] (rT (rT rN))
noncomputable def dl_ (a0 : ag_) (a1 : Int) : Option Int := (if (decide ((w4 (a1 - (a0.Name.size : Int))) < 0)) = true then (some (-1)) else ((be_ a0.Pattern (w4 (a1 - (a0.Name.size : Int)))).bind fun y1 => (if (decide (y1 < 0)) = true then (some (-1)) else (some y1))))
theorem f4_ (a0 : ag_) (a1 : Int) (r : Int) (h : dl_ a0 a1 = some r) : bY_ a0 a1 = some r := by
 unfold dl_ at h
 refine k_W ok_65 E_i64_inj h (fun σ0 => ?_)
 refine t_R ?_
 refine bI_ (fun b1 => ?_)
 refine t_N ?_
 refine t_RU 2 ?_
 refine ae_ 0 ?_
 refine t_N ?_
 refine t_RN ?_
 refine t_if (fun hc1 => ?_) fun hc1 => ?_
 ·refine t_RN ?_
  exact k_eW (rT rN) E_i64_p
 refine t_RU 1 ?_
 refine ae_ 0 ?_
 refine t_U 1 ?_
 refine au_ fun y1 hy1 => ?_
 refine t_N ?_
 refine t_RN ?_
 refine t_if (fun hc2 => ?_) fun hc2 => ?_
 ·refine t_RN ?_
  exact k_eW (rT rN) E_i64_p
 refine t_RN ?_
 exact k_eW (rT rN) E_i64_p
noncomputable def b1_ (a0 : (Sl ag_)) (a1 : ByteArray) : Option Int := ((az_ (S := Int) (R := (Unit ⊕ Int)) (fun st1 => (if (decide (st1 < (a0.l.length : Int))) = true then ((elt a0 st1).bind fun y2 => (if (decide (y2.Name = a1)) = true then (some (.inr (.inr st1))) else (some (.inl (w4 (st1 + 1)))))) else (some (.inr (.inl ()))))) 0).bind fun y1 => (Sum.elim (fun y1 => (some (-1))) (fun y1 => (some y1)) y1))
theorem dj_ (a0 : (Sl ag_)) (a1 : ByteArray) (r : Int) (h : b1_ a0 a1 = some r) : b0_ a0 a1 = some r := by
 unfold b1_ at h
 refine k_W ok_66 E_i64_inj h (fun σ0 => ?_)
 refine t_RN ?_
 refine t_RN ?_
 refine aX_ (fun st1 fr => Sub [(0, a0.t), (1, .str a1), (5, i4 st1)] fr.s ∧ Heap σ0 fr.σ []) (fun y1 e fr => (Sum.elim (fun y => e = (.exit 0) ∧ Sub [] fr.s ∧ Heap σ0 fr.σ []) (fun y => e = .ret ∧ endW Try.prog (Try.f66.results.toList) σ0 (E_i64 y) .ret fr)) y1) (fun hS hH => ⟨(af_ hS (by kernel_rfl)), hH⟩) (fun st1 x fr h HI => ?_) fun y1 e fr h HF => ?_
 ·obtain ⟨s, σ⟩ := fr; obtain ⟨hS, hH⟩ := HI
  refine t_bk h hS hH ?_
  refine t_RN ?_
  refine t_if (fun hc1 => ?_) fun hc1 => ?_
  ·refine t_RU 2 ?_
   refine bH_ fun y2 rest1 hy2 => ?_
   refine t_N ?_
   refine t_if (fun hc2 => ?_) fun hc2 => ?_
   ·refine t_RN ?_
    exact t_e fun he hS hH => he ▸ ⟨rfl, (eW hS hH (rT rN) E_i64_p)⟩
   refine t_RN ?_
   exact t_e fun he hS hH => he ▸ ⟨(af_ hS (by kernel_rfl)), hH⟩
  exact t_e fun he hS hH => he ▸ ⟨rfl, (af_ hS (by kernel_rfl)), hH⟩
 obtain ⟨s, σ⟩ := fr
 rcases y1 with y1 | y1
 ·have h := el_l h
  obtain ⟨rfl, hS, hH⟩ := HF
  refine t_bx h hS hH ?_
  refine t_RN ?_
  exact k_eW (rT rN) E_i64_p
 have h := el_r h
 obtain ⟨rfl, HE⟩ := HF
 obtain rfl := si_1 h; exact HE
noncomputable def d2_ (a0 : (Sl ag_)) : Option Bool := (if (decide (40 < (a0.l.length : Int))) = true then (some false) else ((az_ (S := Int) (R := (Unit ⊕ Bool)) (fun st1 => (if (decide (st1 < (a0.l.length : Int))) = true then ((elt a0 st1).bind fun y2 => ((dN_ y2.Name).bind fun y3 => (if (!y3) = true then (some (.inr (.inr false))) else ((elt a0 st1).bind fun y4 => ((bP_ y4.Pattern).bind fun y5 => (if (!y5) = true then (some (.inr (.inr false))) else ((az_ (S := Int) (R := (Unit ⊕ Bool)) (fun st2 => (if (decide (st2 < st1)) = true then ((elt a0 st2).bind fun y7 => ((elt a0 st1).bind fun y8 => (if (decide (y7.Name = y8.Name)) = true then (some (.inr (.inr false))) else (some (.inl (w4 (st2 + 1))))))) else (some (.inr (.inl ()))))) 0).bind fun y6 => (Sum.elim (fun y6 => (some (.inl (w4 (st1 + 1))))) (fun y6 => (some (.inr (.inr y6)))) y6)))))))) else (some (.inr (.inl ()))))) 0).bind fun y1 => (Sum.elim (fun y1 => (some true)) (fun y1 => (some y1)) y1)))
theorem ht_ (a0 : (Sl ag_)) (r : Bool) (h : d2_ a0 = some r) : ea_ a0 = some r := by
 unfold d2_ at h
 refine k_W ok_67 E_bool_inj h (fun σ0 => ?_)
 refine t_RN ?_
 refine t_RN ?_
 refine t_if (fun hc1 => ?_) fun hc1 => ?_
 ·refine t_RN ?_
  exact k_eW (rT rN) E_bool_p
 refine t_RN ?_
 refine aX_ (fun st1 fr => Sub [(0, a0.t), (3, i4 st1)] fr.s ∧ Heap σ0 fr.σ []) (fun y1 e fr => (Sum.elim (fun y => e = (.exit 0) ∧ Sub [] fr.s ∧ Heap σ0 fr.σ []) (fun y => e = .ret ∧ endW Try.prog (Try.f67.results.toList) σ0 (E_bool y) .ret fr)) y1) (fun hS hH => ⟨(af_ hS (by kernel_rfl)), hH⟩) (fun st1 x fr h HI => ?_) fun y1 e fr h HF => ?_
 ·obtain ⟨s, σ⟩ := fr; obtain ⟨hS, hH⟩ := HI
  refine t_bk h hS hH ?_
  refine t_RN ?_
  refine t_if (fun hc2 => ?_) fun hc2 => ?_
  ·refine t_RU 2 ?_
   refine bH_ fun y2 rest1 hy2 => ?_
   refine t_U 2 ?_
   refine au_ fun y3 hy3 => ?_
   refine t_U 2 ?_
   refine aM_ 21 (fun hc3 => ?_) fun hc3 => ?_
   ·refine t_N ?_
    refine t_cT rfl ?_
    refine t_RN ?_
    exact t_e fun he hS hH => he ▸ ⟨rfl, (eW hS hH (rT rN) E_bool_p)⟩
   refine t_U 2 ?_
   refine bH_ fun y4 rest2 hy4 => ?_
   refine t_U 2 ?_
   refine au_ fun y5 hy5 => ?_
   refine t_N ?_
   refine t_if (fun hc4 => ?_) fun hc4 => ?_
   ·refine t_RN ?_
    exact t_e fun he hS hH => he ▸ ⟨rfl, (eW hS hH (rT rN) E_bool_p)⟩
   refine t_RN ?_
   refine aX_ (fun st2 fr => Sub [(0, a0.t), (3, i4 st1), (4, i4 st2)] fr.s ∧ Heap σ0 fr.σ []) (fun y6 e fr => (Sum.elim (fun y => e = (.exit 2) ∧ Sub [(0, a0.t), (3, i4 st1)] fr.s ∧ Heap σ0 fr.σ []) (fun y => e = .ret ∧ endW Try.prog (Try.f67.results.toList) σ0 (E_bool y) .ret fr)) y6) (fun hS hH => ⟨(af_ hS (by kernel_rfl)), hH⟩) (fun st2 x fr h HI => ?_) fun y6 e fr h HF => ?_
   ·obtain ⟨s, σ⟩ := fr; obtain ⟨hS, hH⟩ := HI
    refine t_bk h hS hH ?_
    refine t_RN ?_
    refine t_if (fun hc5 => ?_) fun hc5 => ?_
    ·refine t_D fun mb => ?_
     refine t_U 2 ?_
     refine bH_ fun y7 rest3 hy7 => ?_
     refine t_U 4 ?_
     refine bH_ fun y8 rest4 hy8 => ?_
     refine t_N ?_
     refine t_if (fun hc6 => ?_) fun hc6 => ?_
     ·refine t_RN ?_
      exact t_e fun he hS hH => he ▸ ⟨rfl, (eW hS hH (rT rN) E_bool_p)⟩
     refine t_RN ?_
     exact t_e fun he hS hH => he ▸ ⟨(af_ hS (by kernel_rfl)), hH⟩
    exact t_e fun he hS hH => he ▸ ⟨rfl, (af_ hS (by kernel_rfl)), hH⟩
   obtain ⟨s, σ⟩ := fr
   rcases y6 with y6 | y6
   ·have h := el_l h
    obtain ⟨rfl, hS, hH⟩ := HF
    refine t_bx h hS hH ?_
    refine t_RN ?_
    exact t_e fun he hS hH => he ▸ ⟨(af_ hS (by kernel_rfl)), hH⟩
   have h := el_r h
   obtain ⟨rfl, HE⟩ := HF
   obtain rfl := si_1 h; exact ⟨rfl, HE⟩
  exact t_e fun he hS hH => he ▸ ⟨rfl, (af_ hS (by kernel_rfl)), hH⟩
 obtain ⟨s, σ⟩ := fr
 rcases y1 with y1 | y1
 ·have h := el_l h
  obtain ⟨rfl, hS, hH⟩ := HF
  refine t_bx h hS hH ?_
  refine t_RN ?_
  exact k_eW (rT rN) E_bool_p
 have h := el_r h
 obtain ⟨rfl, HE⟩ := HF
 obtain rfl := si_1 h; exact HE
noncomputable def ev_ (a0 : ag_) : Option ag_ := ((a2_ a0.Pattern).bind fun y1 => (some (⟨a0.Name, y1⟩ : ag_)))
theorem ib_ (a0 : ag_) (r : ag_) (h : ev_ a0 = some r) : eH_ a0 = some r := by
 unfold ev_ at h
 refine k_O ok_69 h (fun σ0 => ?_)
 refine t_R ?_
 refine bI_ (fun b1 => ?_)
 refine c6_ fun b2 => ?_
 refine t_N ?_
 refine t_R ?_
 refine c6_ fun b3 => ?_
 refine t_N ?_
 refine t_RU 1 ?_
 refine ae_ 2 ?_
 refine t_U 1 ?_
 refine aI_ 0 ?_
 refine t_N ?_
 refine t_RU 1 ?_
 refine ae_ 2 ?_
 refine bN_ (fun y1 t1 hy1 ht1 => ?_)
 refine t_U 1 ?_
 refine aI_ 1 ?_ (h1 := by simp [ht1.1, ht1.2])
 refine t_N ?_
 refine t_R ?_
 refine ae_ 0 ?_
 refine ce_ 2 ?_ (h1 := by simp [ht1.1, ht1.2])
 refine t_N ?_
 refine t_h Heap.up2 ?_
 exact k_eO [t1] (rC 1 rN)
noncomputable def dD_ (a0 : (Sl ag_)) (a1 : ByteArray) : Option (DPattern × Bool) := ((((az_ (S := Int) (R := (Unit ⊕ Int)) (fun st1 => (if (decide (st1 < (a0.l.length : Int))) = true then ((elt a0 st1).bind fun y3 => (if (decide (y3.Name = a1)) = true then (some (.inr (.inr st1))) else (some (.inl (w4 (st1 + 1)))))) else (some (.inr (.inl ()))))) 0).bind fun y2 => (Sum.elim (fun y2 => (some (-1))) (fun y2 => (some y2)) y2)) : Option Int).bind fun y1 => (if (decide (y1 < 0)) = true then (some ((⟨0, 0, ⟨#[]⟩, ⟨true, []⟩⟩ : DPattern), false)) else ((elt a0 y1).bind fun y4 => (some (y4.Pattern, true)))))
theorem gp_ (a0 : (Sl ag_)) (a1 : ByteArray) (r : (DPattern × Bool)) (h : dD_ a0 a1 = some r) : dG_ a0 a1 = some r := by
 unfold dD_ at h
 refine k_W ok_70 E_t2_DPattern_bool_inj h (fun σ0 => ?_)
 refine t_R ?_
 refine bI_ (fun b1 => ?_)
 refine c6_ fun b2 => ?_
 refine t_N ?_
 refine t_RU 2 ?_
 refine eT_ (fun y1 s σ => Sub [(0, a0.t), (4, .ptr b2 0 0 4), (9, i4 y1)] s ∧ Heap σ0 σ [.box b2 [i4 0, i4 0, .str ⟨#[]⟩, (nt DPattern)]]) ok_110 (fun y1 => ?_) fun y1 s σ HF h => ?_
 ·refine t_RN ?_
  refine t_RN ?_
  refine aX_ (fun st1 fr => Sub [(0, a0.t), (1, T.fn 111 [] [.ptr b1 0 0 1]), (7, i4 (a0.l.length : Int)), (8, i4 st1)] fr.s ∧ Heap σ0 fr.σ [.box b2 [i4 0, i4 0, .str ⟨#[]⟩, (nt DPattern)], .box b1 [.str a1]]) (fun y2 e fr => (Sum.elim (fun y => e = (.exit 0) ∧ Sub [] fr.s ∧ Heap σ0 fr.σ [.box b2 [i4 0, i4 0, .str ⟨#[]⟩, (nt DPattern)]]) (fun y => e = .ret ∧ Sub [(4, i4 y)] fr.s ∧ Heap σ0 fr.σ [.box b2 [i4 0, i4 0, .str ⟨#[]⟩, (nt DPattern)]])) y2) (fun hS hH => ⟨(af_ hS (by kernel_rfl)), hH⟩) (fun st1 x fr h HI => ?_) fun y2 e fr h HF => ?_
  ·obtain ⟨s, σ⟩ := fr; obtain ⟨hS, hH⟩ := HI
   refine t_bk h hS hH ?_
   refine t_RN ?_
   refine t_if (fun hc1 => ?_) fun hc1 => ?_
   ·refine t_RN ?_
    refine t_RU 3 ?_
    refine bH_ fun y3 rest1 hy3 => ?_
    refine t_U 1 ?_
    refine ej_ ok_111 ?_
    refine t_R ?_
    refine bI_ (fun b3 => ?_)
    refine t_N ?_
    refine t_RU 1 ?_
    refine ae_ 0 ?_
    refine ae_ 2 ?_
    refine t_N ?_
    refine k_eI (rT rN) ?_
    refine t_N ?_
    refine t_if (fun hc2 => ?_) fun hc2 => ?_
    ·refine t_RN ?_
     exact t_e fun he hS hH => he ▸ ⟨rfl, (af_ hS (by kernel_rfl)), (Heap.sel hH [1] rfl (by kernel_rfl))⟩
    refine t_RN ?_
    exact t_e fun he hS hH => he ▸ ⟨(af_ hS (by kernel_rfl)), (Heap.sel hH [1, 2] rfl (by kernel_rfl))⟩
   exact t_e fun he hS hH => he ▸ ⟨rfl, (af_ hS (by kernel_rfl)), (Heap.sel hH [0] rfl (by kernel_rfl))⟩
  obtain ⟨s, σ⟩ := fr
  rcases y2 with y2 | y2
  ·have h := el_l h
   obtain ⟨rfl, hS, hH⟩ := HF
   refine t_bx h hS hH ?_
   refine t_RN ?_
   exact b7_ (rT rN) fun he hS hH => he ▸ ⟨(af_ hS (by kernel_rfl)), hH⟩
  have h := el_r h
  obtain ⟨rfl, hS, hH⟩ := HF
  refine t_bx h hS hH ?_
  exact b7_ (rT rN) fun he hS hH => he ▸ ⟨(af_ hS (by kernel_rfl)), hH⟩
 obtain ⟨hS, hH⟩ := HF
 refine t_bk h hS hH ?_
 refine t_N ?_
 refine t_RN ?_
 refine t_if (fun hc3 => ?_) fun hc3 => ?_
 ·refine t_RU 1 ?_
  refine ce_ 0 ?_
  refine t_N ?_
  exact k_eW (rC 0 (rT rN)) E_t2_DPattern_bool_p
 refine t_RU 2 ?_
 refine bH_ fun y4 rest2 hy4 => ?_
 refine t_U 2 ?_
 refine ce_ 0 ?_
 refine t_N ?_
 exact k_eW (rC 0 (rT rN)) E_t2_DPattern_bool_p
noncomputable def dZ_ (a0 : (Sl ag_)) : Option Bool := (if (decide (40 < (a0.l.length : Int))) = true then (some false) else ((cF_ a0 (T.fn 113 [] [])).bind fun y1 => (if (!y1) = true then (some false) else ((az_ (S := Int) (R := (Unit ⊕ Bool)) (fun st1 => (if (decide (st1 < (a0.l.length : Int))) = true then ((elt a0 st1).bind fun y3 => ((subS a0 0 st1).bind fun y4 => ((dG_ y4 y3.Name).bind fun y5 => (if y5.2 = true then (some (.inr (.inr false))) else (some (.inl (w4 (st1 + 1)))))))) else (some (.inr (.inl ()))))) 0).bind fun y2 => (Sum.elim (fun y2 => (some true)) (fun y2 => (some y2)) y2)))))
theorem hR_ (a0 : (Sl ag_)) (r : Bool) (h : dZ_ a0 = some r) : d9_ a0 = some r := by
 unfold dZ_ at h
 refine k_W ok_71 E_bool_inj h (fun σ0 => ?_)
 refine t_RN ?_
 refine t_RU 4 ?_
 refine aM_ 10 (fun hc1 => ?_) fun hc1 => ?_
 ·refine t_N ?_
  refine t_cT rfl ?_
  refine t_RN ?_
  exact k_eW (rT rN) E_bool_p
 refine t_U 1 ?_
 refine au_ fun y1 hy1 => ?_
 refine t_N ?_
 refine t_if (fun hc2 => ?_) fun hc2 => ?_
 ·refine t_RN ?_
  exact k_eW (rT rN) E_bool_p
 refine t_RN ?_
 refine aX_ (fun st1 fr => Sub [(0, a0.t), (15, a0.t), (16, i4 (a0.l.length : Int)), (17, i4 st1)] fr.s ∧ Heap σ0 fr.σ []) (fun y2 e fr => (Sum.elim (fun y => e = (.exit 0) ∧ Sub [] fr.s ∧ Heap σ0 fr.σ []) (fun y => e = .ret ∧ endW Try.prog (Try.f71.results.toList) σ0 (E_bool y) .ret fr)) y2) (fun hS hH => ⟨(af_ hS (by kernel_rfl)), hH⟩) (fun st1 x fr h HI => ?_) fun y2 e fr h HF => ?_
 ·obtain ⟨s, σ⟩ := fr; obtain ⟨hS, hH⟩ := HI
  refine t_bk h hS hH ?_
  refine t_RN ?_
  refine t_if (fun hc3 => ?_) fun hc3 => ?_
  ·refine t_RU 1 ?_
   refine bH_ fun y3 rest1 hy3 => ?_
   refine t_U 1 ?_
   refine c6_ fun b1 => ?_
   refine t_U 1 ?_
   refine ce_ 0 ?_
   refine t_N ?_
   refine a7_ (W2 (fun _ => False) (fun _ => False)) ext_x fun mb σs hn0 hlt hlto => ?_
   refine t_U 2 ?_
   refine ru_ fun y4 hy4 => ?_
   refine t_U 1 ?_
   refine ae_ 0 ?_ (hlt := Or.inl (by kernel_rfl))
   refine au_ fun y5 hy5 => ?_
   refine t_U 3 ?_
   refine kV_ (by exact hn0) fun b2 hwr_b2 => ?_
   refine ce_ 0 ?_ (hwr := by exact Or.inl hwr_b2)
   refine t_N ?_
   refine t_RN ?_
   refine t_if (fun hc4 => ?_) fun hc4 => ?_
   ·refine t_RN ?_
    exact t_e fun he hS hH => he ▸ ⟨rfl, (eW hS hH (rT rN) E_bool_p)⟩
   refine t_RN ?_
   exact t_e fun he hS hH => he ▸ ⟨(af_ hS (by kernel_rfl)), (Heap.sel hH [] rfl (by kernel_rfl))⟩
  exact t_e fun he hS hH => he ▸ ⟨rfl, (af_ hS (by kernel_rfl)), hH⟩
 obtain ⟨s, σ⟩ := fr
 rcases y2 with y2 | y2
 ·have h := el_l h
  obtain ⟨rfl, hS, hH⟩ := HF
  refine t_bx h hS hH ?_
  refine t_RN ?_
  exact k_eW (rT rN) E_bool_p
 have h := el_r h
 obtain ⟨rfl, HE⟩ := HF
 obtain rfl := si_1 h; exact HE
noncomputable def et_ (a0 : ag_) (a1 : ag_) : Option Bool := (if (!decide (a0.Name = a1.Name)) = true then (some false) else ((bf_ a0.Pattern a1.Pattern).bind fun y1 => (if (!y1) = true then (some false) else (some true))))
theorem if_ (a0 : ag_) (a1 : ag_) (r : Bool) (h : et_ a0 a1 = some r) : eF_ a0 a1 = some r := by
 unfold et_ at h
 refine k_W ok_73 E_bool_inj h (fun σ0 => ?_)
 refine t_R ?_
 refine bI_ (fun b1 => ?_)
 refine bI_ (fun b2 => ?_)
 refine t_N ?_
 refine t_RU 1 ?_
 refine ae_ 1 ?_
 refine t_U 1 ?_
 refine ae_ 0 ?_
 refine t_N ?_
 refine t_if (fun hc1 => ?_) fun hc1 => ?_
 ·refine t_RN ?_
  exact k_eW (rT rN) E_bool_p
 refine t_RU 1 ?_
 refine ae_ 1 ?_
 refine t_U 1 ?_
 refine ae_ 0 ?_
 refine au_ fun y1 hy1 => ?_
 refine t_N ?_
 refine t_if (fun hc2 => ?_) fun hc2 => ?_
 ·refine t_RN ?_
  exact k_eW (rT rN) E_bool_p
 refine t_RN ?_
 exact k_eW (rT rN) E_bool_p
noncomputable def cB_ (a0 : DPattern) : Option Bool := ((aA_ a0 0).bind fun y1 => (some (decide (y1 ≤ 60))))
theorem gf_ (a0 : DPattern) (r : Bool) (h : cB_ a0 = some r) : bT_ a0 = some r := by
 unfold cB_ at h
 refine k_W ok_78 E_bool_inj h (fun σ0 => ?_)
 refine t_R ?_
 refine bI_ (fun b1 => ?_)
 refine t_N ?_
 refine t_R ?_
 refine ae_ 0 ?_
 refine au_ fun y1 hy1 => ?_
 refine t_N ?_
 exact k_eW (rT rN) E_bool_p
noncomputable def dH_ (a0 : (Sl (Iv .i64))) (a1 : Int) : Option Bool := ((az_ (S := Int) (R := (Unit ⊕ Bool)) (fun st1 => (if (decide (st1 < (a0.l.length : Int))) = true then ((elt a0 st1).bind fun y2 => (if (decide (y2.v = a1)) = true then (some (.inr (.inr true))) else (some (.inl (w4 (st1 + 1)))))) else (some (.inr (.inl ()))))) 0).bind fun y1 => (Sum.elim (fun y1 => (some false)) (fun y1 => (some y1)) y1))
theorem i6_ (a0 : (Sl (Iv .i64))) (a1 : Int) (r : Bool) (h : dH_ a0 a1 = some r) : fq_ a0 a1 = some r := by
 unfold dH_ at h
 refine k_W ok_82 E_bool_inj h (fun σ0 => ?_)
 refine t_RN ?_
 refine t_RN ?_
 refine aX_ (fun st1 fr => Sub [(0, a0.t), (1, i4 a1), (5, i4 st1)] fr.s ∧ Heap σ0 fr.σ []) (fun y1 e fr => (Sum.elim (fun y => e = (.exit 0) ∧ Sub [] fr.s ∧ Heap σ0 fr.σ []) (fun y => e = .ret ∧ endW Try.prog (Try.f82.results.toList) σ0 (E_bool y) .ret fr)) y1) (fun hS hH => ⟨(af_ hS (by kernel_rfl)), hH⟩) (fun st1 x fr h HI => ?_) fun y1 e fr h HF => ?_
 ·obtain ⟨s, σ⟩ := fr; obtain ⟨hS, hH⟩ := HI
  refine t_bk h hS hH ?_
  refine t_RN ?_
  refine t_if (fun hc1 => ?_) fun hc1 => ?_
  ·refine t_RU 2 ?_
   refine bH_ fun y2 rest1 hy2 => ?_
   refine t_N ?_
   refine t_if (fun hc2 => ?_) fun hc2 => ?_
   ·refine t_RN ?_
    exact t_e fun he hS hH => he ▸ ⟨rfl, (eW hS hH (rT rN) E_bool_p)⟩
   refine t_RN ?_
   exact t_e fun he hS hH => he ▸ ⟨(af_ hS (by kernel_rfl)), hH⟩
  exact t_e fun he hS hH => he ▸ ⟨rfl, (af_ hS (by kernel_rfl)), hH⟩
 obtain ⟨s, σ⟩ := fr
 rcases y1 with y1 | y1
 ·have h := el_l h
  obtain ⟨rfl, hS, hH⟩ := HF
  refine t_bx h hS hH ?_
  refine t_RN ?_
  exact k_eW (rT rN) E_bool_p
 have h := el_r h
 obtain ⟨rfl, HE⟩ := HF
 obtain rfl := si_1 h; exact HE
noncomputable def bO_ (a0 : (Sl (Iv .i64))) (a1 : Int) : Option Bool := ((bD_ a0 a1).bind fun y1 => (some (decide (0 ≤ y1))))
theorem fo_ (a0 : (Sl (Iv .i64))) (a1 : Int) (r : Bool) (h : bO_ a0 a1 = some r) : bQ_ a0 a1 = some r := by
 unfold bO_ at h
 refine k_W ok_83 E_bool_inj h (fun σ0 => ?_)
 refine t_RN ?_
 refine t_RU 2 ?_
 refine au_ fun y1 hy1 => ?_
 refine t_N ?_
 exact k_eW (rT rN) E_bool_p
noncomputable def fb_ (a0 : (Sl ag_)) (a1 : DPattern) (a2 : ByteArray) (a3 : Int) : Option Int := ((ea_ a0).bind fun y1 => (if (!y1) = true then (some 1) else ((bP_ a1).bind fun y2 => (if (!y2) = true then (some 1) else (if (decide (200 < (a2.size : Int))) = true then (some 1) else ((bJ_ a3 0 20000).bind fun y3 => (if (!y3) = true then (some 3) else (some 0))))))))
theorem i3_ (a0 : (Sl ag_)) (a1 : DPattern) (a2 : ByteArray) (a3 : Int) (r : Int) (h : fb_ a0 a1 a2 a3 = some r) : e5_ a0 a1 a2 a3 = some r := by
 unfold fb_ at h
 refine k_W ok_84 E_i64_inj h (fun σ0 => ?_)
 refine t_R ?_
 refine bI_ (fun b1 => ?_)
 refine t_N ?_
 refine t_RU 1 ?_
 refine au_ fun y1 hy1 => ?_
 refine t_U 2 ?_
 refine aM_ 12 (fun hc1 => ?_) fun hc1 => ?_
 ·refine t_N ?_
  refine t_cT rfl ?_
  refine t_RN ?_
  exact k_eW (rT rN) E_i64_p
 refine ae_ 0 ?_
 refine au_ fun y2 hy2 => ?_
 refine t_U 3 ?_
 refine aM_ 17 (fun hc2 => ?_) fun hc2 => ?_
 ·refine t_N ?_
  refine t_cT rfl ?_
  refine t_RN ?_
  exact k_eW (rT rN) E_i64_p
 refine t_N ?_
 refine t_if (fun hc3 => ?_) fun hc3 => ?_
 ·refine t_RN ?_
  exact k_eW (rT rN) E_i64_p
 refine t_RU 1 ?_
 refine au_ fun y3 hy3 => ?_
 refine t_N ?_
 refine t_if (fun hc4 => ?_) fun hc4 => ?_
 ·refine t_RN ?_
  exact k_eW (rT rN) E_i64_p
 refine t_RN ?_
 exact k_eW (rT rN) E_i64_p
noncomputable def fC_ (a0 : Int) (a1 : Int) (a2 : Int) : Option Bool := (if (decide (a1 ≤ a0)) = true then (some (decide (a0 ≤ a2))) else (some false))
theorem kh_ (a0 : Int) (a1 : Int) (a2 : Int) (r : Bool) (h : fC_ a0 a1 a2 = some r) : bJ_ a0 a1 a2 = some r := by
 unfold fC_ at h
 refine k_W ok_85 E_bool_inj h (fun σ0 => ?_)
 refine t_RN ?_
 refine t_RU 4 ?_
 refine aM_ 10 (fun hc1 => ?_) fun hc1 => ?_
 ·refine t_N ?_
  exact k_eW (rT rN) E_bool_p
 refine t_N ?_
 exact k_eW (rT rN) E_bool_p
noncomputable def eC_ (a0 : (Sl ag_)) (a1 : DPattern) (a2 : ByteArray) (a3 : Int) (a4 : Int) : Option ((Sl (Iv .i64)) × Int) := ((c1_ a0 a1 a2 (⟨false, [⟨a3⟩]⟩) a4).bind fun y1 => ((az_ (S := (Int × (Sl (Iv .i64)))) (R := (Sl (Iv .i64))) (fun st1 => (if (decide (st1.1 < (y1.1.l.length : Int))) = true then ((elt y1.1 st1.1).bind fun y3 => ((appS 8 st1.2 (⟨false, [⟨y3.End⟩]⟩ : Sl (Iv .i64))).bind fun y4 => (some (.inl ((w4 (st1.1 + 1)), y4))))) else (some (.inr st1.2)))) (0, (⟨false, []⟩ : Sl (Iv .i64)))).bind fun y2 => (some (y2, y1.2))))
theorem id_ (a0 : (Sl ag_)) (a1 : DPattern) (a2 : ByteArray) (a3 : Int) (a4 : Int) (r : ((Sl (Iv .i64)) × Int)) (h : eC_ a0 a1 a2 a3 a4 = some r) : ez_ a0 a1 a2 a3 a4 = some r := by
 unfold eC_ at h
 refine k_O ok_86 h (fun σ0 => ?_)
 refine t_R ?_
 refine bI_ (fun b1 => ?_)
 refine t_N ?_
 refine t_RU 1 ?_
 refine ae_ 0 ?_
 refine t_U 2 ?_
 refine k_bs (z := true) (⟨false, [⟨a3⟩]⟩ : Sl (Iv .i64)) (fun t1 ht1 => ?_)
 refine t_U 1 ?_
 refine bN_ (fun y1 t2 hy1 ht2 => ?_)
 refine t_N ?_
 refine t_R ?_
 refine iW_ (α := (Iv .i64)) (fun t3 ht3 => ?_)
 refine t_N ?_
 refine t_RN ?_
 refine aX_ (fun st1 fr => ∃ t5, ao_ t5 ∧ Sub [(12, t2), (13, i4 y1.2), (14, t5), (15, i4 st1.1)] fr.s ∧ Heap σ0 fr.σ [.own true 3 t2 y1.1.t, .own true 1 t5 st1.2.t]) (fun y2 e fr => ∃ t6, ao_ t6 ∧ e = (.exit 0) ∧ Sub [(13, i4 y1.2), (14, t6)] fr.s ∧ Heap σ0 fr.σ [.own true 1 t6 y2.t]) (fun hS hH => ⟨t3, ht3, (af_ hS (by kernel_rfl)), (Heap.sel hH [1, 0] rfl (by kernel_rfl))⟩) (fun st1 x fr h HI => ?_) fun y2 e fr h HF => ?_
 ·obtain ⟨s, σ⟩ := fr; obtain ⟨t5, ht5, ⟨hS, hH⟩⟩ := HI
  refine t_bk h hS hH ?_
  refine t_RU 2 ?_
  refine jZ_ (a := y1.1) 0 ?_
  refine t_N ?_
  refine t_if (fun hc1 => ?_) fun hc1 => ?_
  ·refine t_RU 3 ?_
   refine k6_ 0 (fun hb1 hb1e y3 hy3 hl_hb1 => ?_)
   refine t_U 1 ?_
   refine px_ 0 1 hl_hb1 hy3 ?_
   refine k_bs (z := true) (⟨false, [⟨y3.End⟩]⟩ : Sl (Iv .i64)) (fun t7 ht7 => ?_)
   refine nc_ 2 0 (fun y4 t8 hy4 ht8 => ?_)
   refine t_N ?_
   refine t_RN ?_
   exact t_e fun he hS hH => he ▸ ⟨t8, ht8, (af_ hS (by kernel_rfl)), (Heap.sel hH [1, 0] rfl (by kernel_rfl))⟩
  exact t_e fun he hS hH => he ▸ ⟨t5, ht5, rfl, (af_ hS (by kernel_rfl)), (Heap.sel hH [1] rfl (by kernel_rfl))⟩
 obtain ⟨s, σ⟩ := fr
 obtain ⟨t6, ht6, ⟨rfl, hS, hH⟩⟩ := HF
 refine t_bx h hS hH ?_
 refine t_RN ?_
 exact k_eO [t6] (rT (rT rN))
noncomputable def fw_ (a0 : (Sl (Iv .i64))) : Option Int := ((az_ (S := Int) (R := (Unit ⊕ Int)) (fun st1 => (if (decide (st1 < (a0.l.length : Int))) = true then ((elt a0 st1).bind fun y2 => (if (!decide (y2.v = 0)) = true then (some (.inr (.inr y2.v))) else (some (.inl (w4 (st1 + 1)))))) else (some (.inr (.inl ()))))) 0).bind fun y1 => (Sum.elim (fun y1 => (some 0)) (fun y1 => (some y1)) y1))
theorem jF_ (a0 : (Sl (Iv .i64))) (r : Int) (h : fw_ a0 = some r) : er_ a0 = some r := by
 unfold fw_ at h
 refine k_W ok_87 E_i64_inj h (fun σ0 => ?_)
 refine t_RN ?_
 refine t_RN ?_
 refine aX_ (fun st1 fr => Sub [(5, a0.t), (6, i4 (a0.l.length : Int)), (7, i4 st1)] fr.s ∧ Heap σ0 fr.σ []) (fun y1 e fr => (Sum.elim (fun y => e = (.exit 0) ∧ Sub [] fr.s ∧ Heap σ0 fr.σ []) (fun y => e = .ret ∧ endW Try.prog (Try.f87.results.toList) σ0 (E_i64 y) .ret fr)) y1) (fun hS hH => ⟨(af_ hS (by kernel_rfl)), hH⟩) (fun st1 x fr h HI => ?_) fun y1 e fr h HF => ?_
 ·obtain ⟨s, σ⟩ := fr; obtain ⟨hS, hH⟩ := HI
  refine t_bk h hS hH ?_
  refine t_RN ?_
  refine t_if (fun hc1 => ?_) fun hc1 => ?_
  ·refine t_R ?_
   refine bH_ fun y2 rest1 hy2 => ?_
   refine t_N ?_
   refine t_RN ?_
   refine t_if (fun hc2 => ?_) fun hc2 => ?_
   ·refine t_RN ?_
    exact t_e fun he hS hH => he ▸ ⟨rfl, (eW hS hH (rT rN) E_i64_p)⟩
   refine t_RN ?_
   exact t_e fun he hS hH => he ▸ ⟨(af_ hS (by kernel_rfl)), hH⟩
  exact t_e fun he hS hH => he ▸ ⟨rfl, (af_ hS (by kernel_rfl)), hH⟩
 obtain ⟨s, σ⟩ := fr
 rcases y1 with y1 | y1
 ·have h := el_l h
  obtain ⟨rfl, hS, hH⟩ := HF
  refine t_bx h hS hH ?_
  refine t_RN ?_
  exact k_eW (rT rN) E_i64_p
 have h := el_r h
 obtain ⟨rfl, HE⟩ := HF
 obtain rfl := si_1 h; exact HE
noncomputable def dc_ (a0 : (Sl ag_)) (a1 : DPattern) (a2 : ByteArray) (a3 : Int) : Option Int := ((((d9_ a0).bind fun y6 => (if y6 = true then ((bT_ a1).bind fun y7 => (if y7 = true then ((cx_ a2).bind fun y8 => (some y8)) else (some false))) else (some false))) : Option Bool).bind fun y1 => ((cS_ y1 1).bind fun y2 => ((bi_ a3 0 20000).bind fun y3 => ((cS_ y3 3).bind fun y4 => ((er_ (⟨false, [⟨y2⟩, ⟨y4⟩]⟩)).bind fun y5 => (some y5))))))
theorem gT_ (a0 : (Sl ag_)) (a1 : DPattern) (a2 : ByteArray) (a3 : Int) (r : Int) (h : dc_ a0 a1 a2 a3 = some r) : c3_ a0 a1 a2 a3 = some r := by
 unfold dc_ at h
 refine k_W ok_88 E_i64_inj h (fun σ0 => ?_)
 refine t_R ?_
 refine bI_ (fun b1 => ?_)
 refine t_N ?_
 refine eW_ 0 (fun y1 e fr => e = .normal ∧ Sub [(3, i4 a3), (9, .bool y1)] fr.s ∧ Heap σ0 fr.σ []) (fun y1 e fr h HF => ?_) fun y1 => ?_
 ·obtain ⟨s, σ⟩ := fr
  obtain ⟨rfl, hS, hH⟩ := HF
  refine t_bx h hS hH ?_
  refine t_RU 1 ?_
  refine au_ fun y2 hy2 => ?_
  refine t_U 1 ?_
  refine au_ fun y3 hy3 => ?_
  refine au_ fun y4 hy4 => ?_
  refine k_bs (z := true) (⟨false, [⟨y2⟩, ⟨y4⟩]⟩ : Sl (Iv .i64)) (fun t1 ht1 => ?_)
  refine e8_ (fun y5 hy5 => ?_)
  refine t_N ?_
  exact k_eW (rT rN) E_i64_p
 refine t_RU 1 ?_
 refine au_ fun y6 hy6 => ?_
 refine t_U 1 ?_
 refine aM_ 12 (fun hc1 => ?_) fun hc1 => ?_
 ·refine ae_ 0 ?_
  refine au_ fun y7 hy7 => ?_
  refine t_U 2 ?_
  refine aM_ 16 (fun hc2 => ?_) fun hc2 => ?_
  ·refine t_U 1 ?_
   refine au_ fun y8 hy8 => ?_
   refine t_N ?_
   exact t_e fun he hS hH => he ▸ ⟨rfl, (af_ hS (by kernel_rfl)), (Heap.sel hH [] rfl (by kernel_rfl))⟩
  refine t_N ?_
  exact t_e fun he hS hH => he ▸ ⟨rfl, (af_ hS (by kernel_rfl)), (Heap.sel hH [] rfl (by kernel_rfl))⟩
 refine t_N ?_
 exact t_e fun he hS hH => he ▸ ⟨rfl, (af_ hS (by kernel_rfl)), (Heap.sel hH [] rfl (by kernel_rfl))⟩
noncomputable def eY_ (a0 : Bool) (a1 : Int) : Option Int := (if a0 = true then (some 0) else (some a1))
theorem iT_ (a0 : Bool) (a1 : Int) (r : Int) (h : eY_ a0 a1 = some r) : cS_ a0 a1 = some r := by
 unfold eY_ at h
 refine k_W ok_89 E_i64_inj h (fun σ0 => ?_)
 refine t_RN ?_
 refine t_RN ?_
 refine t_if (fun hc1 => ?_) fun hc1 => ?_
 ·refine t_RN ?_
  exact k_eW (rT rN) E_i64_p
 refine t_RN ?_
 exact k_eW (rT rN) E_i64_p
noncomputable def eX_ (a0 : Int) (a1 : Int) (a2 : Int) : Option Bool := (if (decide (a1 ≤ a0)) = true then (some (decide (a0 ≤ a2))) else (some false))
theorem iU_ (a0 : Int) (a1 : Int) (a2 : Int) (r : Bool) (h : eX_ a0 a1 a2 = some r) : bi_ a0 a1 a2 = some r := by
 unfold eX_ at h
 refine k_W ok_90 E_bool_inj h (fun σ0 => ?_)
 refine t_RN ?_
 refine t_RU 4 ?_
 refine aM_ 10 (fun hc1 => ?_) fun hc1 => ?_
 ·refine t_N ?_
  exact k_eW (rT rN) E_bool_p
 refine t_N ?_
 exact k_eW (rT rN) E_bool_p
end Go.Am
