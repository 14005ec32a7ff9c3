/- Functions of the program. -/
import Derived.Test.YthpmndnnpnojjaaAd0
set_option maxRecDepth 100000
set_option maxHeartbeats 4000000
set_option linter.unusedVariables false
set_option linter.unusedSimpArgs false
namespace Go.Am
open Go.Proofs
noncomputable def bp_ (a0 : (Sl ag_)) (a1 : DPattern) (a2 : ByteArray) (a3 : Bool) (a4 : Int) : Option Bool := (if (decide (1048576 < (a2.size : Int))) = true then (some true) else ((dO_ a0 1048576).bind fun y1 => (if (decide (y1 < 0)) = true then (some true) else ((bc_ a1 y1).bind fun y2 => (if (decide (y2 < 0)) = true then (some true) else ((bV_ a0).bind fun y3 => ((a2_ a1).bind fun y4 => ((cx_ y3 y4 a2 a3 a4).bind fun y5 => ((bV_ a0).bind fun y6 => ((a2_ a1).bind fun y7 => ((cC_ y6 y7 a2 a3 a4).bind fun y8 => (if (!decide (y8.1 = y5.1)) = true then (some false) else (if (!decide (y8.2 = y5.2)) = true then (some false) else ((bV_ a0).bind fun y9 => ((d0_ y6 y9).bind fun y10 => (if (!y10) = true then (some false) else ((a2_ a1).bind fun y11 => ((bd_ y7 y11).bind fun y12 => (if (!y12) = true then (some false) else (some true))))))))))))))))))))
theorem ee_ (a0 : (Sl ag_)) (a1 : DPattern) (a2 : ByteArray) (a3 : Bool) (a4 : Int) (r : Bool) (h : bp_ a0 a1 a2 a3 a4 = some r) : cc_ a0 a1 a2 a3 a4 = some r := by
 unfold bp_ at h
 refine k_W ok_7 E_bool_inj h (fun σ0 => ?_)
 refine t_R ?_
 refine bG_ (fun b1 => ?_)
 refine t_N ?_
 refine t_RN ?_
 refine t_if (fun hc1 => ?_) fun hc1 => ?_
 ·refine t_RN ?_
  exact k_eW (rT rN) E_bool_p
 refine t_RN ?_
 refine t_RU 2 ?_
 refine av_ fun y1 hy1 => ?_
 refine t_N ?_
 refine t_RN ?_
 refine t_if (fun hc2 => ?_) fun hc2 => ?_
 ·refine t_RN ?_
  exact k_eW (rT rN) E_bool_p
 refine t_R ?_
 refine ae_ 0 ?_
 refine t_U 1 ?_
 refine av_ fun y2 hy2 => ?_
 refine t_N ?_
 refine t_RN ?_
 refine t_if (fun hc3 => ?_) fun hc3 => ?_
 ·refine t_RN ?_
  exact k_eW (rT rN) E_bool_p
 refine a0_ (W2 (fun _ => False) (fun _ => False)) ext_x fun mb σs hn0 hlt hlto => ?_
 have hlt_b1 : b1 < mb := hlt b1 _ (List.Mem.head _)
 refine t_U 1 ?_
 refine bz_ (fun y3 t1 hy3 ht1 => ?_)
 refine ae_ 1 ?_ (hlt := Or.inr ⟨hlt_b1, Or.inl (by kernel_rfl)⟩)
 refine bz_ (fun y4 t2 hy4 ht2 => ?_)
 refine t_U 3 ?_
 refine t_h Heap.up1 ?_
 refine gE_ (fun y5 hy5 => ?_)
 refine t_N ?_
 refine t_RU 1 ?_
 refine bz_ (fun y6 t3 hy6 ht3 => ?_)
 refine t_N ?_
 refine t_R ?_
 refine ae_ 3 ?_
 refine bz_ (fun y7 t4 hy7 ht4 => ?_)
 refine dx_ fun b2 => ?_
 refine ck_ 0 ?_ (h1 := by simp [ht4.1, ht4.2])
 refine t_N ?_
 refine t_RU 1 ?_
 refine ae_ 0 ?_
 refine t_U 3 ?_
 refine t_h (·.up1.up2) ?_
 refine gE_ (fun y8 hy8 => ?_)
 refine t_N ?_
 refine t_RU 4 ?_
 refine aK_ 58 (fun hc4 => ?_) fun hc4 => ?_
 ·refine t_N ?_
  refine t_cT rfl ?_
  refine t_RN ?_
  exact k_eW (rT rN) E_bool_p
 refine t_N ?_
 refine t_if (fun hc5 => ?_) fun hc5 => ?_
 ·refine t_RN ?_
  exact k_eW (rT rN) E_bool_p
 refine t_RU 2 ?_
 refine bz_ (fun y9 t5 hy9 ht5 => ?_)
 refine t_h Heap.up1 ?_
 refine gE_ (fun y10 hy10 => ?_)
 refine t_N ?_
 refine t_if (fun hc6 => ?_) fun hc6 => ?_
 ·refine t_RN ?_
  exact k_eW (rT rN) E_bool_p
 refine a0_ (W2 (fun _ => False) (fun _ => False)) ext_x fun mb σs hn0 hlt hlto => ?_
 have hlt_b2 : b2 < mb := hlt b2 _ (List.Mem.tail _ (List.Mem.tail _ (List.Mem.tail _ (List.Mem.head _))))
 refine ae_ 3 ?_ (hlt := Or.inr ⟨hlt_b2, Or.inl (by kernel_rfl)⟩)
 refine ae_ 6 ?_ (hlt := Or.inl (by kernel_rfl))
 refine bz_ (fun y11 t6 hy11 ht6 => ?_)
 refine t_h Heap.up3 ?_
 refine gE_ (fun y12 hy12 => ?_)
 refine t_N ?_
 refine t_if (fun hc7 => ?_) fun hc7 => ?_
 ·refine t_RN ?_
  exact k_eW (rT rN) E_bool_p
 refine t_RN ?_
 exact k_eW (rT rN) E_bool_p
noncomputable def b4_ (a0 : (Sl DPattern)) (a1 : Int) : Option Int := (if (decide ((w4 (a1 - (a0.l.length : Int))) < 0)) = true then (some (-1)) else ((aB_ (S := (Int × Int)) (R := (Int ⊕ Int)) (fun st1 => (if (decide (st1.2 < (a0.l.length : Int))) = true then ((elt a0 st1.2).bind fun y2 => ((bc_ y2 st1.1).bind fun y3 => (if (decide (y3 < 0)) = true then (some (.inr (.inr (-1)))) else (some (.inl (y3, (w4 (st1.2 + 1)))))))) else (some (.inr (.inl st1.1))))) ((w4 (a1 - (a0.l.length : Int))), 0)).bind fun y1 => (Sum.elim (fun y1 => (some y1)) (fun y1 => (some y1)) y1)))
theorem eM_ (a0 : (Sl DPattern)) (a1 : Int) (r : Int) (h : b4_ a0 a1 = some r) : c8_ a0 a1 = some r := by
 unfold b4_ at h
 refine k_W ok_15 E_i64_inj h (fun σ0 => ?_)
 refine t_RN ?_
 refine t_RN ?_
 refine t_RN ?_
 refine t_if (fun hc1 => ?_) fun hc1 => ?_
 ·refine t_RN ?_
  exact k_eW (rT rN) E_i64_p
 refine t_RN ?_
 refine aY_ (fun st1 fr => Sub [(0, a0.t), (1, i4 st1.1), (5, i4 st1.2)] fr.s ∧ Heap σ0 fr.σ []) (fun y1 e fr => (Sum.elim (fun y => e = (.exit 0) ∧ Sub [(1, i4 y)] fr.s ∧ Heap σ0 fr.σ []) (fun y => e = .ret ∧ endW Try.prog (Try.f15.results.toList) σ0 (E_i64 y) .ret fr)) y1) (fun hS hH => ⟨(af_ hS (by kernel_rfl)), hH⟩) (fun st1 x fr h HI => ?_) fun y1 e fr h HF => ?_
 ·obtain ⟨s, σ⟩ := fr; obtain ⟨hS, hH⟩ := HI
  refine t_bk h hS hH ?_
  refine t_RN ?_
  refine t_if (fun hc2 => ?_) fun hc2 => ?_
  ·refine t_RU 2 ?_
   refine bN_ fun y2 rest1 hy2 => ?_
   refine t_U 2 ?_
   refine av_ fun y3 hy3 => ?_
   refine t_N ?_
   refine t_RN ?_
   refine t_if (fun hc3 => ?_) fun hc3 => ?_
   ·refine t_RN ?_
    exact t_e fun he hS hH => he ▸ ⟨rfl, (eW hS hH (rT rN) E_i64_p)⟩
   refine t_RN ?_
   exact t_e fun he hS hH => he ▸ ⟨(af_ hS (by kernel_rfl)), hH⟩
  exact t_e fun he hS hH => he ▸ ⟨rfl, (af_ hS (by kernel_rfl)), hH⟩
 obtain ⟨s, σ⟩ := fr
 rcases y1 with y1 | y1
 ·have h := el_l h
  obtain ⟨rfl, hS, hH⟩ := HF
  refine t_bx h hS hH ?_
  refine t_RN ?_
  exact k_eW (rT rN) E_i64_p
 have h := el_r h
 obtain ⟨rfl, HE⟩ := HF
 obtain rfl := si_1 h; exact HE
noncomputable def c9_ (a0 : (Sl DPattern)) : Option (Sl DPattern) := ((mkS 56 ((⟨0, 0, ⟨#[]⟩, ⟨true, []⟩⟩ : DPattern) : DPattern) (a0.l.length : Int) (a0.l.length : Int)).bind fun y1 => ((aB_ (S := (Int × (Sl DPattern))) (R := (Sl DPattern)) (fun st1 => (if (decide (st1.1 < (a0.l.length : Int))) = true then ((elt a0 st1.1).bind fun y3 => ((a2_ y3).bind fun y4 => ((elt st1.2 st1.1).bind fun y5 => (some (.inl ((w4 (st1.1 + 1)), (setS st1.2 st1.1 (y4 : DPattern)))))))) else (some (.inr st1.2)))) (0, y1)).bind fun y2 => (some y2)))
theorem gP_ (a0 : (Sl DPattern)) (r : (Sl DPattern)) (h : c9_ a0 = some r) : c0_ a0 = some r := by
 unfold c9_ at h
 refine k_O ok_17 h (fun σ0 => ?_)
 refine t_RN ?_
 refine t_RU 2 ?_
 intro h s σ hS hH
 obtain ⟨y1, hy1, h⟩ := bind_some h
 refine n5_ (z := true) (e := 26) (by_ := 56) (x0 := ((⟨0, 0, ⟨#[]⟩, ⟨true, []⟩⟩ : DPattern) : DPattern)) (fun σ d => by simp [Enc.cells, DPattern.cells, DPattern.cellsK, Iv]) rfl hS hH rfl rfl (by kernel_rfl) (by kernel_rfl) (by kernel_rfl) (by kernel_rfl) rfl hy1 ?_; intro t1 σ s ht1 hH hS
 refine t_bk h hS hH ?_
 refine t_N ?_
 refine t_RN ?_
 refine aY_ (fun st1 fr => Sub [(0, a0.t), (3, t1), (4, i4 st1.1)] fr.s ∧ Heap σ0 fr.σ [.own true 4 t1 st1.2.t]) (fun y2 e fr => e = (.exit 0) ∧ Sub [(3, t1)] fr.s ∧ Heap σ0 fr.σ [.own true 4 t1 y2.t]) (fun hS hH => ⟨(af_ hS (by kernel_rfl)), hH⟩) (fun st1 x fr h HI => ?_) fun y2 e fr h HF => ?_
 ·obtain ⟨s, σ⟩ := fr; obtain ⟨hS, hH⟩ := HI
  refine t_bk h hS hH ?_
  refine t_RN ?_
  refine t_if (fun hc1 => ?_) fun hc1 => ?_
  ·refine t_RU 4 ?_
   refine bN_ fun y3 rest1 hy3 => ?_
   refine t_U 1 ?_
   refine bz_ (fun y4 t2 hy4 ht2 => ?_)
   refine nZ_ 1 (fun hb1 hb1e y5 hy5 hl_hb1 => ?_)
   refine t_h Heap.up1 ?_
   intro h s σ hS hH
   refine kT_ (ents := [.own true 4 t2 y4.Kids.t]) (a := st1.2) (j := st1.1) (y := y5) (y' := (y4 : DPattern)) (off := 0) (c := [i4 y5.Kind, i4 y5.Num, .str y5.Text, y5.Kids.t]) (us := [i4 y4.Kind, i4 y4.Num, .str y4.Text, t2]) (vs := [i4 y4.Kind, i4 y4.Num, .str y4.Text, y4.Kids.t]) (v := .agg [i4 y4.Kind, i4 y4.Num, .str y4.Text, t2]) rfl hS hH hl_hb1 rfl rfl rfl (by simp [ht2.1, ht2.2]) (by kernel_rfl) rfl hy5 (DPattern.cells_eq _) (HLi (HLi (HLs (HL.own rfl HL.nil)))) rfl (by rw [DPattern.enc_eq]; rfl) ?_; intro σ s hH hS
   refine t_bk h hS hH ?_
   refine t_N ?_
   refine t_RN ?_
   exact t_e fun he hS hH => he ▸ ⟨(af_ hS (by kernel_rfl)), hH⟩
  exact t_e fun he hS hH => he ▸ ⟨rfl, (af_ hS (by kernel_rfl)), hH⟩
 obtain ⟨s, σ⟩ := fr
 obtain ⟨rfl, hS, hH⟩ := HF
 refine t_bx h hS hH ?_
 refine t_RN ?_
 exact k_eO [t1] (rT rN)
noncomputable def dl_ (a0 : DPattern) (a1 : DPattern) : Option Bool := (if (!decide (a0.Kind = a1.Kind)) = true then (some false) else (if (!decide (a0.Num = a1.Num)) = true then (some false) else (if (!decide (a0.Text = a1.Text)) = true then (some false) else ((c1_ a0.Kids a1.Kids).bind fun y1 => (if (!y1) = true then (some false) else (some true))))))
theorem gZ_ (a0 : DPattern) (a1 : DPattern) (r : Bool) (h : dl_ a0 a1 = some r) : bd_ a0 a1 = some r := by
 unfold dl_ at h
 refine k_W ok_19 E_bool_inj h (fun σ0 => ?_)
 refine t_R ?_
 refine bG_ (fun b1 => ?_)
 refine bG_ (fun b2 => ?_)
 refine t_N ?_
 refine t_RU 1 ?_
 refine ae_ 1 ?_
 refine t_U 1 ?_
 refine ae_ 0 ?_
 refine t_N ?_
 refine t_if (fun hc1 => ?_) fun hc1 => ?_
 ·refine t_RN ?_
  exact k_eW (rT rN) E_bool_p
 refine t_RU 1 ?_
 refine ae_ 1 ?_
 refine t_U 1 ?_
 refine ae_ 0 ?_
 refine t_N ?_
 refine t_if (fun hc2 => ?_) fun hc2 => ?_
 ·refine t_RN ?_
  exact k_eW (rT rN) E_bool_p
 refine t_RU 1 ?_
 refine ae_ 1 ?_
 refine t_U 1 ?_
 refine ae_ 0 ?_
 refine t_N ?_
 refine t_if (fun hc3 => ?_) fun hc3 => ?_
 ·refine t_RN ?_
  exact k_eW (rT rN) E_bool_p
 refine t_RU 1 ?_
 refine ae_ 1 ?_
 refine t_U 1 ?_
 refine ae_ 0 ?_
 refine av_ fun y1 hy1 => ?_
 refine t_N ?_
 refine t_if (fun hc4 => ?_) fun hc4 => ?_
 ·refine t_RN ?_
  exact k_eW (rT rN) E_bool_p
 refine t_RN ?_
 exact k_eW (rT rN) E_bool_p
noncomputable def db_ (a0 : (Sl DPattern)) (a1 : (Sl DPattern)) : Option Bool := (if ((!decide ((a0.l.length : Int) = (a1.l.length : Int)))) = true then (some false) else ((aB_ (S := Int) (R := (Unit ⊕ Bool)) (fun st1 => (if (decide (st1 < (a0.l.length : Int))) = true then ((elt a0 st1).bind fun y2 => ((elt a1 st1).bind fun y3 => ((bd_ y2 y3).bind fun y4 => (if (!y4) = true then (some (.inr (.inr false))) else (some (.inl (w4 (st1 + 1)))))))) else (some (.inr (.inl ()))))) 0).bind fun y1 => (Sum.elim (fun y1 => (some true)) (fun y1 => (some y1)) y1)))
theorem gG_ (a0 : (Sl DPattern)) (a1 : (Sl DPattern)) (r : Bool) (h : db_ a0 a1 = some r) : c1_ a0 a1 = some r := by
 unfold db_ at h
 refine k_W ok_20 E_bool_inj h (fun σ0 => ?_)
 refine t_RN ?_
 refine t_RN ?_
 refine t_if (fun hc1 => ?_) fun hc1 => ?_
 ·refine t_RN ?_
  exact k_eW (rT rN) E_bool_p
 refine t_RN ?_
 refine aY_ (fun st1 fr => Sub [(0, a0.t), (1, a1.t), (5, i4 st1)] fr.s ∧ Heap σ0 fr.σ []) (fun y1 e fr => (Sum.elim (fun y => e = (.exit 0) ∧ Sub [] fr.s ∧ Heap σ0 fr.σ []) (fun y => e = .ret ∧ endW Try.prog (Try.f20.results.toList) σ0 (E_bool y) .ret fr)) y1) (fun hS hH => ⟨(af_ hS (by kernel_rfl)), hH⟩) (fun st1 x fr h HI => ?_) fun y1 e fr h HF => ?_
 ·obtain ⟨s, σ⟩ := fr; obtain ⟨hS, hH⟩ := HI
  refine t_bk h hS hH ?_
  refine t_RN ?_
  refine t_if (fun hc2 => ?_) fun hc2 => ?_
  ·refine t_D fun mb => ?_
   refine t_U 2 ?_
   refine bN_ fun y2 rest1 hy2 => ?_
   refine t_U 3 ?_
   refine bN_ fun y3 rest2 hy3 => ?_
   refine t_U 1 ?_
   refine av_ fun y4 hy4 => ?_
   refine t_N ?_
   refine t_if (fun hc3 => ?_) fun hc3 => ?_
   ·refine t_RN ?_
    exact t_e fun he hS hH => he ▸ ⟨rfl, (eW hS hH (rT rN) E_bool_p)⟩
   refine t_RN ?_
   exact t_e fun he hS hH => he ▸ ⟨(af_ hS (by kernel_rfl)), hH⟩
  exact t_e fun he hS hH => he ▸ ⟨rfl, (af_ hS (by kernel_rfl)), hH⟩
 obtain ⟨s, σ⟩ := fr
 rcases y1 with y1 | y1
 ·have h := el_l h
  obtain ⟨rfl, hS, hH⟩ := HF
  refine t_bx h hS hH ?_
  refine t_RN ?_
  exact k_eW (rT rN) E_bool_p
 have h := el_r h
 obtain ⟨rfl, HE⟩ := HF
 obtain rfl := si_1 h; exact HE
noncomputable def cJ_ (a0 : (Sl ag_)) (a1 : Int) : Option Int := (if (decide ((w4 (a1 - (a0.l.length : Int))) < 0)) = true then (some (-1)) else ((aB_ (S := (Int × Int)) (R := (Int ⊕ Int)) (fun st1 => (if (decide (st1.2 < (a0.l.length : Int))) = true then ((elt a0 st1.2).bind fun y2 => ((bP_ y2 st1.1).bind fun y3 => (if (decide (y3 < 0)) = true then (some (.inr (.inr (-1)))) else (some (.inl (y3, (w4 (st1.2 + 1)))))))) else (some (.inr (.inl st1.1))))) ((w4 (a1 - (a0.l.length : Int))), 0)).bind fun y1 => (Sum.elim (fun y1 => (some y1)) (fun y1 => (some y1)) y1)))
theorem fu_ (a0 : (Sl ag_)) (a1 : Int) (r : Int) (h : cJ_ a0 a1 = some r) : dO_ a0 a1 = some r := by
 unfold cJ_ at h
 refine k_W ok_26 E_i64_inj h (fun σ0 => ?_)
 refine t_RN ?_
 refine t_RN ?_
 refine t_RN ?_
 refine t_if (fun hc1 => ?_) fun hc1 => ?_
 ·refine t_RN ?_
  exact k_eW (rT rN) E_i64_p
 refine t_RN ?_
 refine aY_ (fun st1 fr => Sub [(0, a0.t), (1, i4 st1.1), (5, i4 st1.2)] fr.s ∧ Heap σ0 fr.σ []) (fun y1 e fr => (Sum.elim (fun y => e = (.exit 0) ∧ Sub [(1, i4 y)] fr.s ∧ Heap σ0 fr.σ []) (fun y => e = .ret ∧ endW Try.prog (Try.f26.results.toList) σ0 (E_i64 y) .ret fr)) y1) (fun hS hH => ⟨(af_ hS (by kernel_rfl)), hH⟩) (fun st1 x fr h HI => ?_) fun y1 e fr h HF => ?_
 ·obtain ⟨s, σ⟩ := fr; obtain ⟨hS, hH⟩ := HI
  refine t_bk h hS hH ?_
  refine t_RN ?_
  refine t_if (fun hc2 => ?_) fun hc2 => ?_
  ·refine t_RU 2 ?_
   refine bN_ fun y2 rest1 hy2 => ?_
   refine t_U 2 ?_
   refine av_ fun y3 hy3 => ?_
   refine t_N ?_
   refine t_RN ?_
   refine t_if (fun hc3 => ?_) fun hc3 => ?_
   ·refine t_RN ?_
    exact t_e fun he hS hH => he ▸ ⟨rfl, (eW hS hH (rT rN) E_i64_p)⟩
   refine t_RN ?_
   exact t_e fun he hS hH => he ▸ ⟨(af_ hS (by kernel_rfl)), hH⟩
  exact t_e fun he hS hH => he ▸ ⟨rfl, (af_ hS (by kernel_rfl)), hH⟩
 obtain ⟨s, σ⟩ := fr
 rcases y1 with y1 | y1
 ·have h := el_l h
  obtain ⟨rfl, hS, hH⟩ := HF
  refine t_bx h hS hH ?_
  refine t_RN ?_
  exact k_eW (rT rN) E_i64_p
 have h := el_r h
 obtain ⟨rfl, HE⟩ := HF
 obtain rfl := si_1 h; exact HE
noncomputable def d1_ (a0 : (Sl ag_)) : Option (Sl ag_) := ((mkS 72 ((⟨⟨#[]⟩, (⟨0, 0, ⟨#[]⟩, ⟨true, []⟩⟩ : DPattern)⟩ : ag_) : ag_) (a0.l.length : Int) (a0.l.length : Int)).bind fun y1 => ((aB_ (S := (Int × (Sl ag_))) (R := (Sl ag_)) (fun st1 => (if (decide (st1.1 < (a0.l.length : Int))) = true then ((elt a0 st1.1).bind fun y3 => ((ep_ y3).bind fun y4 => ((elt st1.2 st1.1).bind fun y5 => (some (.inl ((w4 (st1.1 + 1)), (setS st1.2 st1.1 (y4 : ag_)))))))) else (some (.inr st1.2)))) (0, y1)).bind fun y2 => (some y2)))
theorem hQ_ (a0 : (Sl ag_)) (r : (Sl ag_)) (h : d1_ a0 = some r) : bV_ a0 = some r := by
 unfold d1_ at h
 refine k_O ok_28 h (fun σ0 => ?_)
 refine t_RN ?_
 refine t_RU 2 ?_
 intro h s σ hS hH
 obtain ⟨y1, hy1, h⟩ := bind_some h
 refine n5_ (z := true) (e := 82) (by_ := 72) (x0 := ((⟨⟨#[]⟩, (⟨0, 0, ⟨#[]⟩, ⟨true, []⟩⟩ : DPattern)⟩ : ag_) : ag_)) (fun σ d => by simp [Enc.cells, ag_.cells, Iv]) rfl hS hH rfl rfl (by kernel_rfl) (by kernel_rfl) (by kernel_rfl) (by kernel_rfl) rfl hy1 ?_; intro t1 σ s ht1 hH hS
 refine t_bk h hS hH ?_
 refine t_N ?_
 refine t_RN ?_
 refine aY_ (fun st1 fr => Sub [(0, a0.t), (3, t1), (4, i4 st1.1)] fr.s ∧ Heap σ0 fr.σ [.own true 5 t1 st1.2.t]) (fun y2 e fr => e = (.exit 0) ∧ Sub [(3, t1)] fr.s ∧ Heap σ0 fr.σ [.own true 5 t1 y2.t]) (fun hS hH => ⟨(af_ hS (by kernel_rfl)), hH⟩) (fun st1 x fr h HI => ?_) fun y2 e fr h HF => ?_
 ·obtain ⟨s, σ⟩ := fr; obtain ⟨hS, hH⟩ := HI
  refine t_bk h hS hH ?_
  refine t_RN ?_
  refine t_if (fun hc1 => ?_) fun hc1 => ?_
  ·refine t_RU 4 ?_
   refine bN_ fun y3 rest1 hy3 => ?_
   refine t_U 1 ?_
   refine bz_ (fun y4 t2 hy4 ht2 => ?_)
   refine nZ_ 1 (fun hb1 hb1e y5 hy5 hl_hb1 => ?_)
   refine t_h Heap.up1 ?_
   intro h s σ hS hH
   refine kT_ (ents := [.own true 4 t2 y4.Pattern.Kids.t]) (a := st1.2) (j := st1.1) (y := y5) (y' := (y4 : ag_)) (off := 0) (c := [.str y5.Name, i4 y5.Pattern.Kind, i4 y5.Pattern.Num, .str y5.Pattern.Text, y5.Pattern.Kids.t]) (us := [.str y4.Name, i4 y4.Pattern.Kind, i4 y4.Pattern.Num, .str y4.Pattern.Text, t2]) (vs := [.str y4.Name, i4 y4.Pattern.Kind, i4 y4.Pattern.Num, .str y4.Pattern.Text, y4.Pattern.Kids.t]) (v := .agg [.str y4.Name, i4 y4.Pattern.Kind, i4 y4.Pattern.Num, .str y4.Pattern.Text, t2]) rfl hS hH hl_hb1 rfl rfl rfl (by simp [ht2.1, ht2.2]) (by kernel_rfl) rfl hy5 rfl (HLs (HLi (HLi (HLs (HL.own rfl HL.nil))))) rfl (by kernel_rfl) ?_; intro σ s hH hS
   refine t_bk h hS hH ?_
   refine t_N ?_
   refine t_RN ?_
   exact t_e fun he hS hH => he ▸ ⟨(af_ hS (by kernel_rfl)), hH⟩
  exact t_e fun he hS hH => he ▸ ⟨rfl, (af_ hS (by kernel_rfl)), hH⟩
 obtain ⟨s, σ⟩ := fr
 obtain ⟨rfl, hS, hH⟩ := HF
 refine t_bx h hS hH ?_
 refine t_RN ?_
 exact k_eO [t1] (rT rN)
noncomputable def d5_ (a0 : (Sl ag_)) (a1 : (Sl ag_)) : Option Bool := (if ((!decide ((a0.l.length : Int) = (a1.l.length : Int)))) = true then (some false) else ((aB_ (S := Int) (R := (Unit ⊕ Bool)) (fun st1 => (if (decide (st1 < (a0.l.length : Int))) = true then ((elt a0 st1).bind fun y2 => ((elt a1 st1).bind fun y3 => ((ev_ y2 y3).bind fun y4 => (if (!y4) = true then (some (.inr (.inr false))) else (some (.inl (w4 (st1 + 1)))))))) else (some (.inr (.inl ()))))) 0).bind fun y1 => (Sum.elim (fun y1 => (some true)) (fun y1 => (some y1)) y1)))
theorem hU_ (a0 : (Sl ag_)) (a1 : (Sl ag_)) (r : Bool) (h : d5_ a0 a1 = some r) : d0_ a0 a1 = some r := by
 unfold d5_ at h
 refine k_W ok_30 E_bool_inj h (fun σ0 => ?_)
 refine t_RN ?_
 refine t_RN ?_
 refine t_if (fun hc1 => ?_) fun hc1 => ?_
 ·refine t_RN ?_
  exact k_eW (rT rN) E_bool_p
 refine t_RN ?_
 refine aY_ (fun st1 fr => Sub [(0, a0.t), (1, a1.t), (5, i4 st1)] fr.s ∧ Heap σ0 fr.σ []) (fun y1 e fr => (Sum.elim (fun y => e = (.exit 0) ∧ Sub [] fr.s ∧ Heap σ0 fr.σ []) (fun y => e = .ret ∧ endW Try.prog (Try.f30.results.toList) σ0 (E_bool y) .ret fr)) y1) (fun hS hH => ⟨(af_ hS (by kernel_rfl)), hH⟩) (fun st1 x fr h HI => ?_) fun y1 e fr h HF => ?_
 ·obtain ⟨s, σ⟩ := fr; obtain ⟨hS, hH⟩ := HI
  refine t_bk h hS hH ?_
  refine t_RN ?_
  refine t_if (fun hc2 => ?_) fun hc2 => ?_
  ·refine t_D fun mb => ?_
   refine t_U 2 ?_
   refine bN_ fun y2 rest1 hy2 => ?_
   refine t_U 3 ?_
   refine bN_ fun y3 rest2 hy3 => ?_
   refine t_U 1 ?_
   refine av_ fun y4 hy4 => ?_
   refine t_N ?_
   refine t_if (fun hc3 => ?_) fun hc3 => ?_
   ·refine t_RN ?_
    exact t_e fun he hS hH => he ▸ ⟨rfl, (eW hS hH (rT rN) E_bool_p)⟩
   refine t_RN ?_
   exact t_e fun he hS hH => he ▸ ⟨(af_ hS (by kernel_rfl)), hH⟩
  exact t_e fun he hS hH => he ▸ ⟨rfl, (af_ hS (by kernel_rfl)), hH⟩
 obtain ⟨s, σ⟩ := fr
 rcases y1 with y1 | y1
 ·have h := el_l h
  obtain ⟨rfl, hS, hH⟩ := HF
  refine t_bx h hS hH ?_
  refine t_RN ?_
  exact k_eW (rT rN) E_bool_p
 have h := el_r h
 obtain ⟨rfl, HE⟩ := HF
 obtain rfl := si_1 h; exact HE
noncomputable def cl_ (a0 : DPattern) (a1 : Int) : Option Int := (if (decide ((w4 (a1 - (a0.Text.size : Int))) < 0)) = true then (some (-1)) else ((c8_ a0.Kids (w4 (a1 - (a0.Text.size : Int)))).bind fun y1 => (if (decide (y1 < 0)) = true then (some (-1)) else (some y1))))
theorem fg_ (a0 : DPattern) (a1 : Int) (r : Int) (h : cl_ a0 a1 = some r) : bc_ a0 a1 = some r := by
 unfold cl_ at h
 refine k_W ok_37 E_i64_inj h (fun σ0 => ?_)
 refine t_R ?_
 refine bG_ (fun b1 => ?_)
 refine t_N ?_
 refine t_RU 2 ?_
 refine ae_ 0 ?_
 refine t_N ?_
 refine t_RN ?_
 refine t_if (fun hc1 => ?_) fun hc1 => ?_
 ·refine t_RN ?_
  exact k_eW (rT rN) E_i64_p
 refine t_RU 1 ?_
 refine ae_ 0 ?_
 refine t_U 1 ?_
 refine av_ fun y1 hy1 => ?_
 refine t_N ?_
 refine t_RN ?_
 refine t_if (fun hc2 => ?_) fun hc2 => ?_
 ·refine t_RN ?_
  exact k_eW (rT rN) E_i64_p
 refine t_RN ?_
 exact k_eW (rT rN) E_i64_p
noncomputable def cv_ (a0 : (Sl ag_)) (a1 : DPattern) (a2 : ByteArray) (a3 : Bool) (a4 : Int) : Option (Int × Int) := ((dp_ a0 a1 a2 a3 a4).bind fun y1 => (some ((y1.1.l.length : Int), y1.2)))
theorem fZ_ (a0 : (Sl ag_)) (a1 : DPattern) (a2 : ByteArray) (a3 : Bool) (a4 : Int) (r : (Int × Int)) (h : cv_ a0 a1 a2 a3 a4 = some r) : cx_ a0 a1 a2 a3 a4 = some r := by
 unfold cv_ at h
 refine k_W ok_38 E_t2_i64_i64_inj h (fun σ0 => ?_)
 refine t_R ?_
 refine bG_ (fun b1 => ?_)
 refine t_N ?_
 refine t_RU 1 ?_
 refine ae_ 0 ?_
 refine t_U 3 ?_
 refine bz_ (fun y1 t1 hy1 ht1 => ?_)
 refine t_N ?_
 refine t_RU 1 ?_
 refine jY_ (a := y1.1) 0 ?_
 refine t_N ?_
 exact k_eW (rT (rT rN)) E_t2_i64_i64_p
noncomputable def dt_ (a0 : DPattern) : Option DPattern := ((c0_ a0.Kids).bind fun y1 => (some (⟨a0.Kind, a0.Num, a0.Text, y1⟩ : DPattern)))
theorem g6_ (a0 : DPattern) (r : DPattern) (h : dt_ a0 = some r) : a2_ a0 = some r := by
 unfold dt_ at h
 refine k_O ok_39 h (fun σ0 => ?_)
 refine t_R ?_
 refine bG_ (fun b1 => ?_)
 refine dx_ fun b2 => ?_
 refine t_N ?_
 refine t_R ?_
 refine dx_ fun b3 => ?_
 refine t_N ?_
 refine t_RU 1 ?_
 refine ae_ 2 ?_
 refine t_U 1 ?_
 refine aI_ 0 ?_
 refine t_N ?_
 refine t_RU 1 ?_
 refine ae_ 2 ?_
 refine t_U 1 ?_
 refine aI_ 0 ?_
 refine t_N ?_
 refine t_RU 1 ?_
 refine ae_ 2 ?_
 refine t_U 1 ?_
 refine aI_ 0 ?_
 refine t_N ?_
 refine t_RU 1 ?_
 refine ae_ 2 ?_
 refine bz_ (fun y1 t1 hy1 ht1 => ?_)
 refine t_U 1 ?_
 refine bx_ 1 ht1 ?_
 refine t_N ?_
 refine t_R ?_
 refine ae_ 0 ?_
 refine ck_ 2 ?_ (h1 := by simp [ht1.1, ht1.2])
 refine t_N ?_
 refine t_h Heap.up2 ?_
 exact k_eO [t1] (rC 1 rN)
noncomputable def cB_ (a0 : (Sl ag_)) (a1 : DPattern) (a2 : ByteArray) (a3 : Bool) (a4 : Int) : Option (Int × Int) := ((dr_ a0 a1 a2 a3 a4).bind fun y1 => (some ((y1.1.l.length : Int), y1.2)))
theorem f6_ (a0 : (Sl ag_)) (a1 : DPattern) (a2 : ByteArray) (a3 : Bool) (a4 : Int) (r : (Int × Int)) (h : cB_ a0 a1 a2 a3 a4 = some r) : cC_ a0 a1 a2 a3 a4 = some r := by
 unfold cB_ at h
 refine k_W ok_40 E_t2_i64_i64_inj h (fun σ0 => ?_)
 refine t_R ?_
 refine bG_ (fun b1 => ?_)
 refine t_N ?_
 refine t_RU 1 ?_
 refine ae_ 0 ?_
 refine t_U 3 ?_
 refine bz_ (fun y1 t1 hy1 ht1 => ?_)
 refine t_N ?_
 refine t_RU 1 ?_
 refine jY_ (a := y1.1) 0 ?_
 refine t_N ?_
 exact k_eW (rT (rT rN)) E_t2_i64_i64_p
noncomputable def cm_ (a0 : (Sl ag_)) (a1 : DPattern) (a2 : ByteArray) (a3 : Bool) (a4 : Int) : Option ((Sl aj_) × Int) := ((cY_ a0 a1 a2 a4).bind fun y1 => (if (!decide (y1 = 0)) = true then (some (⟨true, []⟩, y1)) else ((dU_ a2 a3).bind fun y2 => ((bT_ a0 a1 a2 y2 a4).bind fun y3 => (some (y3.1, y3.2))))))
theorem g3_ (a0 : (Sl ag_)) (a1 : DPattern) (a2 : ByteArray) (a3 : Bool) (a4 : Int) (r : ((Sl aj_) × Int)) (h : cm_ a0 a1 a2 a3 a4 = some r) : dr_ a0 a1 a2 a3 a4 = some r := by
 unfold cm_ at h
 refine k_O ok_59 h (fun σ0 => ?_)
 refine t_R ?_
 refine bG_ (fun b1 => ?_)
 refine t_N ?_
 refine t_RU 1 ?_
 refine ae_ 0 ?_
 refine t_U 2 ?_
 refine av_ fun y1 hy1 => ?_
 refine t_N ?_
 refine t_RN ?_
 refine t_if (fun hc1 => ?_) fun hc1 => ?_
 ·refine t_RN ?_
  refine t_h (Heap.addNil · true 3) ?_
  exact k_eO [(T.row true 0 [])] (rT (rT rN))
 refine a0_ (W2 (fun _ => False) (fun _ => False)) ext_x fun mb σs hn0 hlt hlto => ?_
 have hlt_b1 : b1 < mb := hlt b1 _ (List.Mem.head _)
 refine t_U 1 ?_
 refine ae_ 0 ?_ (hlt := Or.inr ⟨hlt_b1, Or.inl (by kernel_rfl)⟩)
 refine t_U 3 ?_
 refine bz_ (fun y2 t1 hy2 ht1 => ?_)
 refine t_U 1 ?_
 refine bz_ (fun y3 t2 hy3 ht2 => ?_)
 refine t_N ?_
 exact k_eO [t2] (rT (rT rN))
noncomputable def df_ (a0 : ag_) (a1 : Int) : Option Int := (if (decide ((w4 (a1 - (a0.Name.size : Int))) < 0)) = true then (some (-1)) else ((bc_ a0.Pattern (w4 (a1 - (a0.Name.size : Int)))).bind fun y1 => (if (decide (y1 < 0)) = true then (some (-1)) else (some y1))))
theorem fR_ (a0 : ag_) (a1 : Int) (r : Int) (h : df_ a0 a1 = some r) : bP_ a0 a1 = some r := by
 unfold df_ at h
 refine k_W ok_65 E_i64_inj h (fun σ0 => ?_)
 refine t_R ?_
 refine bG_ (fun b1 => ?_)
 refine t_N ?_
 refine t_RU 2 ?_
 refine ae_ 0 ?_
 refine t_N ?_
 refine t_RN ?_
 refine t_if (fun hc1 => ?_) fun hc1 => ?_
 ·refine t_RN ?_
  exact k_eW (rT rN) E_i64_p
 refine t_RU 1 ?_
 refine ae_ 0 ?_
 refine t_U 1 ?_
 refine av_ fun y1 hy1 => ?_
 refine t_N ?_
 refine t_RN ?_
 refine t_if (fun hc2 => ?_) fun hc2 => ?_
 ·refine t_RN ?_
  exact k_eW (rT rN) E_i64_p
 refine t_RN ?_
 exact k_eW (rT rN) E_i64_p
noncomputable def bO_ (a0 : (Sl ag_)) (a1 : ByteArray) : Option Int := ((aB_ (S := Int) (R := (Unit ⊕ Int)) (fun st1 => (if (decide (st1 < (a0.l.length : Int))) = true then ((elt a0 st1).bind fun y2 => (if (decide (y2.Name = a1)) = true then (some (.inr (.inr st1))) else (some (.inl (w4 (st1 + 1)))))) else (some (.inr (.inl ()))))) 0).bind fun y1 => (Sum.elim (fun y1 => (some (-1))) (fun y1 => (some y1)) y1))
theorem dd_ (a0 : (Sl ag_)) (a1 : ByteArray) (r : Int) (h : bO_ a0 a1 = some r) : bR_ a0 a1 = some r := by
 unfold bO_ at h
 refine k_W ok_66 E_i64_inj h (fun σ0 => ?_)
 refine t_RN ?_
 refine t_RN ?_
 refine aY_ (fun st1 fr => Sub [(0, a0.t), (1, .str a1), (5, i4 st1)] fr.s ∧ Heap σ0 fr.σ []) (fun y1 e fr => (Sum.elim (fun y => e = (.exit 0) ∧ Sub [] fr.s ∧ Heap σ0 fr.σ []) (fun y => e = .ret ∧ endW Try.prog (Try.f66.results.toList) σ0 (E_i64 y) .ret fr)) y1) (fun hS hH => ⟨(af_ hS (by kernel_rfl)), hH⟩) (fun st1 x fr h HI => ?_) fun y1 e fr h HF => ?_
 ·obtain ⟨s, σ⟩ := fr; obtain ⟨hS, hH⟩ := HI
  refine t_bk h hS hH ?_
  refine t_RN ?_
  refine t_if (fun hc1 => ?_) fun hc1 => ?_
  ·refine t_RU 2 ?_
   refine bN_ fun y2 rest1 hy2 => ?_
   refine t_N ?_
   refine t_if (fun hc2 => ?_) fun hc2 => ?_
   ·refine t_RN ?_
    exact t_e fun he hS hH => he ▸ ⟨rfl, (eW hS hH (rT rN) E_i64_p)⟩
   refine t_RN ?_
   exact t_e fun he hS hH => he ▸ ⟨(af_ hS (by kernel_rfl)), hH⟩
  exact t_e fun he hS hH => he ▸ ⟨rfl, (af_ hS (by kernel_rfl)), hH⟩
 obtain ⟨s, σ⟩ := fr
 rcases y1 with y1 | y1
 ·have h := el_l h
  obtain ⟨rfl, hS, hH⟩ := HF
  refine t_bx h hS hH ?_
  refine t_RN ?_
  exact k_eW (rT rN) E_i64_p
 have h := el_r h
 obtain ⟨rfl, HE⟩ := HF
 obtain rfl := si_1 h; exact HE
noncomputable def dT_ (a0 : (Sl ag_)) : Option Bool := (if (decide (40 < (a0.l.length : Int))) = true then (some false) else ((aB_ (S := Int) (R := (Unit ⊕ Bool)) (fun st1 => (if (decide (st1 < (a0.l.length : Int))) = true then ((elt a0 st1).bind fun y2 => ((dG_ y2.Name).bind fun y3 => (if (!y3) = true then (some (.inr (.inr false))) else ((elt a0 st1).bind fun y4 => ((bF_ y4.Pattern).bind fun y5 => (if (!y5) = true then (some (.inr (.inr false))) else ((aB_ (S := Int) (R := (Unit ⊕ Bool)) (fun st2 => (if (decide (st2 < st1)) = true then ((elt a0 st2).bind fun y7 => ((elt a0 st1).bind fun y8 => (if (decide (y7.Name = y8.Name)) = true then (some (.inr (.inr false))) else (some (.inl (w4 (st2 + 1))))))) else (some (.inr (.inl ()))))) 0).bind fun y6 => (Sum.elim (fun y6 => (some (.inl (w4 (st1 + 1))))) (fun y6 => (some (.inr (.inr y6)))) y6)))))))) else (some (.inr (.inl ()))))) 0).bind fun y1 => (Sum.elim (fun y1 => (some true)) (fun y1 => (some y1)) y1)))
theorem hn_ (a0 : (Sl ag_)) (r : Bool) (h : dT_ a0 = some r) : d6_ a0 = some r := by
 unfold dT_ at h
 refine k_W ok_67 E_bool_inj h (fun σ0 => ?_)
 refine t_RN ?_
 refine t_RN ?_
 refine t_if (fun hc1 => ?_) fun hc1 => ?_
 ·refine t_RN ?_
  exact k_eW (rT rN) E_bool_p
 refine t_RN ?_
 refine aY_ (fun st1 fr => Sub [(0, a0.t), (3, i4 st1)] fr.s ∧ Heap σ0 fr.σ []) (fun y1 e fr => (Sum.elim (fun y => e = (.exit 0) ∧ Sub [] fr.s ∧ Heap σ0 fr.σ []) (fun y => e = .ret ∧ endW Try.prog (Try.f67.results.toList) σ0 (E_bool y) .ret fr)) y1) (fun hS hH => ⟨(af_ hS (by kernel_rfl)), hH⟩) (fun st1 x fr h HI => ?_) fun y1 e fr h HF => ?_
 ·obtain ⟨s, σ⟩ := fr; obtain ⟨hS, hH⟩ := HI
  refine t_bk h hS hH ?_
  refine t_RN ?_
  refine t_if (fun hc2 => ?_) fun hc2 => ?_
  ·refine t_RU 2 ?_
   refine bN_ fun y2 rest1 hy2 => ?_
   refine t_U 2 ?_
   refine av_ fun y3 hy3 => ?_
   refine t_U 2 ?_
   refine aK_ 21 (fun hc3 => ?_) fun hc3 => ?_
   ·refine t_N ?_
    refine t_cT rfl ?_
    refine t_RN ?_
    exact t_e fun he hS hH => he ▸ ⟨rfl, (eW hS hH (rT rN) E_bool_p)⟩
   refine t_U 2 ?_
   refine bN_ fun y4 rest2 hy4 => ?_
   refine t_U 2 ?_
   refine av_ fun y5 hy5 => ?_
   refine t_N ?_
   refine t_if (fun hc4 => ?_) fun hc4 => ?_
   ·refine t_RN ?_
    exact t_e fun he hS hH => he ▸ ⟨rfl, (eW hS hH (rT rN) E_bool_p)⟩
   refine t_RN ?_
   refine aY_ (fun st2 fr => Sub [(0, a0.t), (3, i4 st1), (4, i4 st2)] fr.s ∧ Heap σ0 fr.σ []) (fun y6 e fr => (Sum.elim (fun y => e = (.exit 2) ∧ Sub [(0, a0.t), (3, i4 st1)] fr.s ∧ Heap σ0 fr.σ []) (fun y => e = .ret ∧ endW Try.prog (Try.f67.results.toList) σ0 (E_bool y) .ret fr)) y6) (fun hS hH => ⟨(af_ hS (by kernel_rfl)), hH⟩) (fun st2 x fr h HI => ?_) fun y6 e fr h HF => ?_
   ·obtain ⟨s, σ⟩ := fr; obtain ⟨hS, hH⟩ := HI
    refine t_bk h hS hH ?_
    refine t_RN ?_
    refine t_if (fun hc5 => ?_) fun hc5 => ?_
    ·refine t_D fun mb => ?_
     refine t_U 2 ?_
     refine bN_ fun y7 rest3 hy7 => ?_
     refine t_U 4 ?_
     refine bN_ fun y8 rest4 hy8 => ?_
     refine t_N ?_
     refine t_if (fun hc6 => ?_) fun hc6 => ?_
     ·refine t_RN ?_
      exact t_e fun he hS hH => he ▸ ⟨rfl, (eW hS hH (rT rN) E_bool_p)⟩
     refine t_RN ?_
     exact t_e fun he hS hH => he ▸ ⟨(af_ hS (by kernel_rfl)), hH⟩
    exact t_e fun he hS hH => he ▸ ⟨rfl, (af_ hS (by kernel_rfl)), hH⟩
   obtain ⟨s, σ⟩ := fr
   rcases y6 with y6 | y6
   ·have h := el_l h
    obtain ⟨rfl, hS, hH⟩ := HF
    refine t_bx h hS hH ?_
    refine t_RN ?_
    exact t_e fun he hS hH => he ▸ ⟨(af_ hS (by kernel_rfl)), hH⟩
   have h := el_r h
   obtain ⟨rfl, HE⟩ := HF
   obtain rfl := si_1 h; exact ⟨rfl, HE⟩
  exact t_e fun he hS hH => he ▸ ⟨rfl, (af_ hS (by kernel_rfl)), hH⟩
 obtain ⟨s, σ⟩ := fr
 rcases y1 with y1 | y1
 ·have h := el_l h
  obtain ⟨rfl, hS, hH⟩ := HF
  refine t_bx h hS hH ?_
  refine t_RN ?_
  exact k_eW (rT rN) E_bool_p
 have h := el_r h
 obtain ⟨rfl, HE⟩ := HF
 obtain rfl := si_1 h; exact HE
noncomputable def er_ (a0 : ag_) : Option ag_ := ((a2_ a0.Pattern).bind fun y1 => (some (⟨a0.Name, y1⟩ : ag_)))
theorem h3_ (a0 : ag_) (r : ag_) (h : er_ a0 = some r) : ep_ a0 = some r := by
 unfold er_ at h
 refine k_O ok_69 h (fun σ0 => ?_)
 refine t_R ?_
 refine bG_ (fun b1 => ?_)
 refine dx_ fun b2 => ?_
 refine t_N ?_
 refine t_R ?_
 refine dx_ fun b3 => ?_
 refine t_N ?_
 refine t_RU 1 ?_
 refine ae_ 2 ?_
 refine t_U 1 ?_
 refine aI_ 0 ?_
 refine t_N ?_
 refine t_RU 1 ?_
 refine ae_ 2 ?_
 refine bz_ (fun y1 t1 hy1 ht1 => ?_)
 refine t_U 1 ?_
 refine aI_ 1 ?_ (h1 := by simp [ht1.1, ht1.2])
 refine t_N ?_
 refine t_R ?_
 refine ae_ 0 ?_
 refine ck_ 2 ?_ (h1 := by simp [ht1.1, ht1.2])
 refine t_N ?_
 refine t_h Heap.up2 ?_
 exact k_eO [t1] (rC 1 rN)
noncomputable def dK_ (a0 : (Sl ag_)) (a1 : ByteArray) : Option (DPattern × Bool) := ((((aB_ (S := Int) (R := (Unit ⊕ Int)) (fun st1 => (if (decide (st1 < (a0.l.length : Int))) = true then ((elt a0 st1).bind fun y3 => (if (decide (y3.Name = a1)) = true then (some (.inr (.inr st1))) else (some (.inl (w4 (st1 + 1)))))) else (some (.inr (.inl ()))))) 0).bind fun y2 => (Sum.elim (fun y2 => (some (-1))) (fun y2 => (some y2)) y2)) : Option Int).bind fun y1 => (if (decide (y1 < 0)) = true then (some ((⟨0, 0, ⟨#[]⟩, ⟨true, []⟩⟩ : DPattern), false)) else ((elt a0 y1).bind fun y4 => (some (y4.Pattern, true)))))
theorem gn_ (a0 : (Sl ag_)) (a1 : ByteArray) (r : (DPattern × Bool)) (h : dK_ a0 a1 = some r) : dI_ a0 a1 = some r := by
 unfold dK_ at h
 refine k_W ok_70 E_t2_DPattern_bool_inj h (fun σ0 => ?_)
 refine t_R ?_
 refine bG_ (fun b1 => ?_)
 refine dx_ fun b2 => ?_
 refine t_N ?_
 refine t_RU 2 ?_
 refine eI_ (fun y1 s σ => Sub [(0, a0.t), (4, .ptr b2 0 0 4), (9, i4 y1)] s ∧ Heap σ0 σ [.box b2 [i4 0, i4 0, .str ⟨#[]⟩, (nt DPattern)]]) ok_110 (fun y1 => ?_) fun y1 s σ HF h => ?_
 ·refine t_RN ?_
  refine t_RN ?_
  refine aY_ (fun st1 fr => Sub [(0, a0.t), (1, T.fn 111 [] [.ptr b1 0 0 1]), (7, i4 (a0.l.length : Int)), (8, i4 st1)] fr.s ∧ Heap σ0 fr.σ [.box b2 [i4 0, i4 0, .str ⟨#[]⟩, (nt DPattern)], .box b1 [.str a1]]) (fun y2 e fr => (Sum.elim (fun y => e = (.exit 0) ∧ Sub [] fr.s ∧ Heap σ0 fr.σ [.box b2 [i4 0, i4 0, .str ⟨#[]⟩, (nt DPattern)]]) (fun y => e = .ret ∧ Sub [(4, i4 y)] fr.s ∧ Heap σ0 fr.σ [.box b2 [i4 0, i4 0, .str ⟨#[]⟩, (nt DPattern)]])) y2) (fun hS hH => ⟨(af_ hS (by kernel_rfl)), hH⟩) (fun st1 x fr h HI => ?_) fun y2 e fr h HF => ?_
  ·obtain ⟨s, σ⟩ := fr; obtain ⟨hS, hH⟩ := HI
   refine t_bk h hS hH ?_
   refine t_RN ?_
   refine t_if (fun hc1 => ?_) fun hc1 => ?_
   ·refine t_RN ?_
    refine t_RU 3 ?_
    refine bN_ fun y3 rest1 hy3 => ?_
    refine t_U 1 ?_
    refine ec_ ok_111 ?_
    refine t_R ?_
    refine bG_ (fun b3 => ?_)
    refine t_N ?_
    refine t_RU 1 ?_
    refine ae_ 0 ?_
    refine ae_ 2 ?_
    refine t_N ?_
    refine k_eI (rT rN) ?_
    refine t_N ?_
    refine t_if (fun hc2 => ?_) fun hc2 => ?_
    ·refine t_RN ?_
     exact t_e fun he hS hH => he ▸ ⟨rfl, (af_ hS (by kernel_rfl)), (Heap.sel hH [1] rfl (by kernel_rfl))⟩
    refine t_RN ?_
    exact t_e fun he hS hH => he ▸ ⟨(af_ hS (by kernel_rfl)), (Heap.sel hH [1, 2] rfl (by kernel_rfl))⟩
   exact t_e fun he hS hH => he ▸ ⟨rfl, (af_ hS (by kernel_rfl)), (Heap.sel hH [0] rfl (by kernel_rfl))⟩
  obtain ⟨s, σ⟩ := fr
  rcases y2 with y2 | y2
  ·have h := el_l h
   obtain ⟨rfl, hS, hH⟩ := HF
   refine t_bx h hS hH ?_
   refine t_RN ?_
   exact bX_ (rT rN) fun he hS hH => he ▸ ⟨(af_ hS (by kernel_rfl)), hH⟩
  have h := el_r h
  obtain ⟨rfl, hS, hH⟩ := HF
  refine t_bx h hS hH ?_
  exact bX_ (rT rN) fun he hS hH => he ▸ ⟨(af_ hS (by kernel_rfl)), hH⟩
 obtain ⟨hS, hH⟩ := HF
 refine t_bk h hS hH ?_
 refine t_N ?_
 refine t_RN ?_
 refine t_if (fun hc3 => ?_) fun hc3 => ?_
 ·refine t_RU 1 ?_
  refine ck_ 0 ?_
  refine t_N ?_
  exact k_eW (rC 0 (rT rN)) E_t2_DPattern_bool_p
 refine t_RU 2 ?_
 refine bN_ fun y4 rest2 hy4 => ?_
 refine t_U 2 ?_
 refine ck_ 0 ?_
 refine t_N ?_
 exact k_eW (rC 0 (rT rN)) E_t2_DPattern_bool_p
noncomputable def dZ_ (a0 : (Sl ag_)) : Option Bool := (if (decide (40 < (a0.l.length : Int))) = true then (some false) else ((cu_ a0 (T.fn 113 [] [])).bind fun y1 => (if (!y1) = true then (some false) else ((aB_ (S := Int) (R := (Unit ⊕ Bool)) (fun st1 => (if (decide (st1 < (a0.l.length : Int))) = true then ((elt a0 st1).bind fun y3 => ((subS a0 0 st1).bind fun y4 => ((dI_ y4 y3.Name).bind fun y5 => (if y5.2 = true then (some (.inr (.inr false))) else (some (.inl (w4 (st1 + 1)))))))) else (some (.inr (.inl ()))))) 0).bind fun y2 => (Sum.elim (fun y2 => (some true)) (fun y2 => (some y2)) y2)))))
theorem hg_ (a0 : (Sl ag_)) (r : Bool) (h : dZ_ a0 = some r) : d9_ a0 = some r := by
 unfold dZ_ at h
 refine k_W ok_71 E_bool_inj h (fun σ0 => ?_)
 refine t_RN ?_
 refine t_RU 4 ?_
 refine aK_ 10 (fun hc1 => ?_) fun hc1 => ?_
 ·refine t_N ?_
  refine t_cT rfl ?_
  refine t_RN ?_
  exact k_eW (rT rN) E_bool_p
 refine t_U 1 ?_
 refine av_ fun y1 hy1 => ?_
 refine t_N ?_
 refine t_if (fun hc2 => ?_) fun hc2 => ?_
 ·refine t_RN ?_
  exact k_eW (rT rN) E_bool_p
 refine t_RN ?_
 refine aY_ (fun st1 fr => Sub [(0, a0.t), (15, a0.t), (16, i4 (a0.l.length : Int)), (17, i4 st1)] fr.s ∧ Heap σ0 fr.σ []) (fun y2 e fr => (Sum.elim (fun y => e = (.exit 0) ∧ Sub [] fr.s ∧ Heap σ0 fr.σ []) (fun y => e = .ret ∧ endW Try.prog (Try.f71.results.toList) σ0 (E_bool y) .ret fr)) y2) (fun hS hH => ⟨(af_ hS (by kernel_rfl)), hH⟩) (fun st1 x fr h HI => ?_) fun y2 e fr h HF => ?_
 ·obtain ⟨s, σ⟩ := fr; obtain ⟨hS, hH⟩ := HI
  refine t_bk h hS hH ?_
  refine t_RN ?_
  refine t_if (fun hc3 => ?_) fun hc3 => ?_
  ·refine t_RU 1 ?_
   refine bN_ fun y3 rest1 hy3 => ?_
   refine t_U 1 ?_
   refine dx_ fun b1 => ?_
   refine t_U 1 ?_
   refine ck_ 0 ?_
   refine t_N ?_
   refine a0_ (W2 (fun _ => False) (fun _ => False)) ext_x fun mb σs hn0 hlt hlto => ?_
   refine t_U 2 ?_
   refine rw_ fun y4 hy4 => ?_
   refine t_U 1 ?_
   refine ae_ 0 ?_ (hlt := Or.inl (by kernel_rfl))
   refine av_ fun y5 hy5 => ?_
   refine t_U 3 ?_
   refine kz_ (by exact hn0) fun b2 hwr_b2 => ?_
   refine ck_ 0 ?_ (hwr := by exact Or.inl hwr_b2)
   refine t_N ?_
   refine t_RN ?_
   refine t_if (fun hc4 => ?_) fun hc4 => ?_
   ·refine t_RN ?_
    exact t_e fun he hS hH => he ▸ ⟨rfl, (eW hS hH (rT rN) E_bool_p)⟩
   refine t_RN ?_
   exact t_e fun he hS hH => he ▸ ⟨(af_ hS (by kernel_rfl)), (Heap.sel hH [] rfl (by kernel_rfl))⟩
  exact t_e fun he hS hH => he ▸ ⟨rfl, (af_ hS (by kernel_rfl)), hH⟩
 obtain ⟨s, σ⟩ := fr
 rcases y2 with y2 | y2
 ·have h := el_l h
  obtain ⟨rfl, hS, hH⟩ := HF
  refine t_bx h hS hH ?_
  refine t_RN ?_
  exact k_eW (rT rN) E_bool_p
 have h := el_r h
 obtain ⟨rfl, HE⟩ := HF
 obtain rfl := si_1 h; exact HE
noncomputable def eu_ (a0 : ag_) (a1 : ag_) : Option Bool := (if (!decide (a0.Name = a1.Name)) = true then (some false) else ((bd_ a0.Pattern a1.Pattern).bind fun y1 => (if (!y1) = true then (some false) else (some true))))
theorem h4_ (a0 : ag_) (a1 : ag_) (r : Bool) (h : eu_ a0 a1 = some r) : ev_ a0 a1 = some r := by
 unfold eu_ at h
 refine k_W ok_73 E_bool_inj h (fun σ0 => ?_)
 refine t_R ?_
 refine bG_ (fun b1 => ?_)
 refine bG_ (fun b2 => ?_)
 refine t_N ?_
 refine t_RU 1 ?_
 refine ae_ 1 ?_
 refine t_U 1 ?_
 refine ae_ 0 ?_
 refine t_N ?_
 refine t_if (fun hc1 => ?_) fun hc1 => ?_
 ·refine t_RN ?_
  exact k_eW (rT rN) E_bool_p
 refine t_RU 1 ?_
 refine ae_ 1 ?_
 refine t_U 1 ?_
 refine ae_ 0 ?_
 refine av_ fun y1 hy1 => ?_
 refine t_N ?_
 refine t_if (fun hc2 => ?_) fun hc2 => ?_
 ·refine t_RN ?_
  exact k_eW (rT rN) E_bool_p
 refine t_RN ?_
 exact k_eW (rT rN) E_bool_p
noncomputable def cp_ (a0 : DPattern) : Option Bool := ((aA_ a0 0).bind fun y1 => (some (decide (y1 ≤ 60))))
theorem f2_ (a0 : DPattern) (r : Bool) (h : cp_ a0 = some r) : bI_ a0 = some r := by
 unfold cp_ at h
 refine k_W ok_78 E_bool_inj h (fun σ0 => ?_)
 refine t_R ?_
 refine bG_ (fun b1 => ?_)
 refine t_N ?_
 refine t_R ?_
 refine ae_ 0 ?_
 refine av_ fun y1 hy1 => ?_
 refine t_N ?_
 exact k_eW (rT rN) E_bool_p
noncomputable def cn_ (a0 : (Sl ag_)) (a1 : DPattern) (a2 : ByteArray) (a3 : Bool) (a4 : Int) : Option ((Sl aj_) × Int) := ((e2_ a0 a1 a2 a4).bind fun y1 => (if (!decide (y1 = 0)) = true then (some (⟨false, []⟩, y1)) else ((do_ a2 a3).bind fun y2 => ((da_ a0 a1 a2 y2 a4).bind fun y3 => (some (y3.1, y3.2))))))
theorem gY_ (a0 : (Sl ag_)) (a1 : DPattern) (a2 : ByteArray) (a3 : Bool) (a4 : Int) (r : ((Sl aj_) × Int)) (h : cn_ a0 a1 a2 a3 a4 = some r) : dp_ a0 a1 a2 a3 a4 = some r := by
 unfold cn_ at h
 refine k_O ok_81 h (fun σ0 => ?_)
 refine t_R ?_
 refine bG_ (fun b1 => ?_)
 refine t_N ?_
 refine t_RU 1 ?_
 refine ae_ 0 ?_
 refine t_U 2 ?_
 refine av_ fun y1 hy1 => ?_
 refine t_N ?_
 refine t_RN ?_
 refine t_if (fun hc1 => ?_) fun hc1 => ?_
 ·refine t_R ?_
  refine mn_ (α := aj_) (fun t1 ht1 => ?_)
  refine t_N ?_
  exact k_eO [t1] (rT (rT rN))
 refine a0_ (W2 (fun _ => False) (fun _ => False)) ext_x fun mb σs hn0 hlt hlto => ?_
 have hlt_b1 : b1 < mb := hlt b1 _ (List.Mem.head _)
 refine t_U 1 ?_
 refine ae_ 0 ?_ (hlt := Or.inr ⟨hlt_b1, Or.inl (by kernel_rfl)⟩)
 refine t_U 3 ?_
 refine bz_ (fun y2 t2 hy2 ht2 => ?_)
 refine t_U 1 ?_
 refine bz_ (fun y3 t3 hy3 ht3 => ?_)
 refine t_N ?_
 exact k_eO [t3] (rT (rT rN))
noncomputable def eV_ (a0 : (Sl ag_)) (a1 : DPattern) (a2 : ByteArray) (a3 : Int) : Option Int := ((d6_ a0).bind fun y1 => (if (!y1) = true then (some 1) else ((bF_ a1).bind fun y2 => (if (!y2) = true then (some 1) else (if (decide (200 < (a2.size : Int))) = true then (some 1) else ((b2_ a3 0 20000).bind fun y3 => (if (!y3) = true then (some 3) else (some 0))))))))
theorem jf_ (a0 : (Sl ag_)) (a1 : DPattern) (a2 : ByteArray) (a3 : Int) (r : Int) (h : eV_ a0 a1 a2 a3 = some r) : e2_ a0 a1 a2 a3 = some r := by
 unfold eV_ at h
 refine k_W ok_84 E_i64_inj h (fun σ0 => ?_)
 refine t_R ?_
 refine bG_ (fun b1 => ?_)
 refine t_N ?_
 refine t_RU 1 ?_
 refine av_ fun y1 hy1 => ?_
 refine t_U 2 ?_
 refine aK_ 12 (fun hc1 => ?_) fun hc1 => ?_
 ·refine t_N ?_
  refine t_cT rfl ?_
  refine t_RN ?_
  exact k_eW (rT rN) E_i64_p
 refine ae_ 0 ?_
 refine av_ fun y2 hy2 => ?_
 refine t_U 3 ?_
 refine aK_ 17 (fun hc2 => ?_) fun hc2 => ?_
 ·refine t_N ?_
  refine t_cT rfl ?_
  refine t_RN ?_
  exact k_eW (rT rN) E_i64_p
 refine t_N ?_
 refine t_if (fun hc3 => ?_) fun hc3 => ?_
 ·refine t_RN ?_
  exact k_eW (rT rN) E_i64_p
 refine t_RU 1 ?_
 refine av_ fun y3 hy3 => ?_
 refine t_N ?_
 refine t_if (fun hc4 => ?_) fun hc4 => ?_
 ·refine t_RN ?_
  exact k_eW (rT rN) E_i64_p
 refine t_RN ?_
 exact k_eW (rT rN) E_i64_p
noncomputable def fs_ (a0 : Int) (a1 : Int) (a2 : Int) : Option Bool := (if (decide (a1 ≤ a0)) = true then (some (decide (a0 ≤ a2))) else (some false))
theorem j6_ (a0 : Int) (a1 : Int) (a2 : Int) (r : Bool) (h : fs_ a0 a1 a2 = some r) : b2_ a0 a1 a2 = some r := by
 unfold fs_ at h
 refine k_W ok_85 E_bool_inj h (fun σ0 => ?_)
 refine t_RN ?_
 refine t_RU 4 ?_
 refine aK_ 10 (fun hc1 => ?_) fun hc1 => ?_
 ·refine t_N ?_
  exact k_eW (rT rN) E_bool_p
 refine t_N ?_
 exact k_eW (rT rN) E_bool_p
noncomputable def fz_ (a0 : (Sl (Iv .i64))) : Option Int := ((aB_ (S := Int) (R := (Unit ⊕ Int)) (fun st1 => (if (decide (st1 < (a0.l.length : Int))) = true then ((elt a0 st1).bind fun y2 => (if (!decide (y2.v = 0)) = true then (some (.inr (.inr y2.v))) else (some (.inl (w4 (st1 + 1)))))) else (some (.inr (.inl ()))))) 0).bind fun y1 => (Sum.elim (fun y1 => (some 0)) (fun y1 => (some y1)) y1))
theorem jU_ (a0 : (Sl (Iv .i64))) (r : Int) (h : fz_ a0 = some r) : fx_ a0 = some r := by
 unfold fz_ at h
 refine k_W ok_87 E_i64_inj h (fun σ0 => ?_)
 refine t_RN ?_
 refine t_RN ?_
 refine aY_ (fun st1 fr => Sub [(5, a0.t), (6, i4 (a0.l.length : Int)), (7, i4 st1)] fr.s ∧ Heap σ0 fr.σ []) (fun y1 e fr => (Sum.elim (fun y => e = (.exit 0) ∧ Sub [] fr.s ∧ Heap σ0 fr.σ []) (fun y => e = .ret ∧ endW Try.prog (Try.f87.results.toList) σ0 (E_i64 y) .ret fr)) y1) (fun hS hH => ⟨(af_ hS (by kernel_rfl)), hH⟩) (fun st1 x fr h HI => ?_) fun y1 e fr h HF => ?_
 ·obtain ⟨s, σ⟩ := fr; obtain ⟨hS, hH⟩ := HI
  refine t_bk h hS hH ?_
  refine t_RN ?_
  refine t_if (fun hc1 => ?_) fun hc1 => ?_
  ·refine t_R ?_
   refine bN_ fun y2 rest1 hy2 => ?_
   refine t_N ?_
   refine t_RN ?_
   refine t_if (fun hc2 => ?_) fun hc2 => ?_
   ·refine t_RN ?_
    exact t_e fun he hS hH => he ▸ ⟨rfl, (eW hS hH (rT rN) E_i64_p)⟩
   refine t_RN ?_
   exact t_e fun he hS hH => he ▸ ⟨(af_ hS (by kernel_rfl)), hH⟩
  exact t_e fun he hS hH => he ▸ ⟨rfl, (af_ hS (by kernel_rfl)), hH⟩
 obtain ⟨s, σ⟩ := fr
 rcases y1 with y1 | y1
 ·have h := el_l h
  obtain ⟨rfl, hS, hH⟩ := HF
  refine t_bx h hS hH ?_
  refine t_RN ?_
  exact k_eW (rT rN) E_i64_p
 have h := el_r h
 obtain ⟨rfl, HE⟩ := HF
 obtain rfl := si_1 h; exact HE
noncomputable def cV_ (a0 : (Sl ag_)) (a1 : DPattern) (a2 : ByteArray) (a3 : Int) : Option Int := ((((d9_ a0).bind fun y6 => (if y6 = true then ((bI_ a1).bind fun y7 => (if y7 = true then ((cj_ a2).bind fun y8 => (some y8)) else (some false))) else (some false))) : Option Bool).bind fun y1 => ((dH_ y1 1).bind fun y2 => ((bt_ a3 0 20000).bind fun y3 => ((dH_ y3 3).bind fun y4 => ((fx_ (⟨false, [⟨y2⟩, ⟨y4⟩]⟩)).bind fun y5 => (some y5))))))
theorem gB_ (a0 : (Sl ag_)) (a1 : DPattern) (a2 : ByteArray) (a3 : Int) (r : Int) (h : cV_ a0 a1 a2 a3 = some r) : cY_ a0 a1 a2 a3 = some r := by
 unfold cV_ at h
 refine k_W ok_88 E_i64_inj h (fun σ0 => ?_)
 refine t_R ?_
 refine bG_ (fun b1 => ?_)
 refine t_N ?_
 refine e5_ 0 (fun y1 e fr => e = .normal ∧ Sub [(3, i4 a3), (9, .bool y1)] fr.s ∧ Heap σ0 fr.σ []) (fun y1 e fr h HF => ?_) fun y1 => ?_
 ·obtain ⟨s, σ⟩ := fr
  obtain ⟨rfl, hS, hH⟩ := HF
  refine t_bx h hS hH ?_
  refine t_RU 1 ?_
  refine av_ fun y2 hy2 => ?_
  refine t_U 1 ?_
  refine av_ fun y3 hy3 => ?_
  refine av_ fun y4 hy4 => ?_
  refine k_bs (z := true) (⟨false, [⟨y2⟩, ⟨y4⟩]⟩ : Sl (Iv .i64)) (fun t1 ht1 => ?_)
  refine gE_ (fun y5 hy5 => ?_)
  refine t_N ?_
  exact k_eW (rT rN) E_i64_p
 refine t_RU 1 ?_
 refine av_ fun y6 hy6 => ?_
 refine t_U 1 ?_
 refine aK_ 12 (fun hc1 => ?_) fun hc1 => ?_
 ·refine ae_ 0 ?_
  refine av_ fun y7 hy7 => ?_
  refine t_U 2 ?_
  refine aK_ 16 (fun hc2 => ?_) fun hc2 => ?_
  ·refine t_U 1 ?_
   refine av_ fun y8 hy8 => ?_
   refine t_N ?_
   exact t_e fun he hS hH => he ▸ ⟨rfl, (af_ hS (by kernel_rfl)), (Heap.sel hH [] rfl (by kernel_rfl))⟩
  refine t_N ?_
  exact t_e fun he hS hH => he ▸ ⟨rfl, (af_ hS (by kernel_rfl)), (Heap.sel hH [] rfl (by kernel_rfl))⟩
 refine t_N ?_
 exact t_e fun he hS hH => he ▸ ⟨rfl, (af_ hS (by kernel_rfl)), (Heap.sel hH [] rfl (by kernel_rfl))⟩
noncomputable def fb_ (a0 : Bool) (a1 : Int) : Option Int := (if a0 = true then (some 0) else (some a1))
theorem i6_ (a0 : Bool) (a1 : Int) (r : Int) (h : fb_ a0 a1 = some r) : dH_ a0 a1 = some r := by
 unfold fb_ at h
 refine k_W ok_89 E_i64_inj h (fun σ0 => ?_)
 refine t_RN ?_
 refine t_RN ?_
 refine t_if (fun hc1 => ?_) fun hc1 => ?_
 ·refine t_RN ?_
  exact k_eW (rT rN) E_i64_p
 refine t_RN ?_
 exact k_eW (rT rN) E_i64_p
noncomputable def fa_ (a0 : Int) (a1 : Int) (a2 : Int) : Option Bool := (if (decide (a1 ≤ a0)) = true then (some (decide (a0 ≤ a2))) else (some false))
theorem i3_ (a0 : Int) (a1 : Int) (a2 : Int) (r : Bool) (h : fa_ a0 a1 a2 = some r) : bt_ a0 a1 a2 = some r := by
 unfold fa_ at h
 refine k_W ok_90 E_bool_inj h (fun σ0 => ?_)
 refine t_RN ?_
 refine t_RU 4 ?_
 refine aK_ 10 (fun hc1 => ?_) fun hc1 => ?_
 ·refine t_N ?_
  exact k_eW (rT rN) E_bool_p
 refine t_N ?_
 exact k_eW (rT rN) E_bool_p
end Go.Am
