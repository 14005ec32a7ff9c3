/- Functions of the program. -/
import Derived.Test.YtnihabnkoegdjaaAd0
set_option maxRecDepth 100000
set_option maxHeartbeats 4000000
set_option linter.unusedVariables false
set_option linter.unusedSimpArgs false
namespace Go.Am
open Go.Proofs
noncomputable def bz_ (a0 : (Sl ah_)) (a1 : DPattern) (a2 : ByteArray) (a3 : Bool) (a4 : Int) : Option Bool := (if (decide (1048576 < (a2.size : Int))) = true then (some true) else ((dP_ a0 1048576).bind fun y1 => (if (decide (y1 < 0)) = true then (some true) else ((bc_ a1 y1).bind fun y2 => (if (decide (y2 < 0)) = true then (some true) else ((bW_ a0).bind fun y3 => ((a0_ a1).bind fun y4 => ((c4_ y3 y4 a2 a3 a4).bind fun y5 => ((bW_ a0).bind fun y6 => ((a0_ a1).bind fun y7 => ((cY_ y6 y7 a2 a3 a4).bind fun y8 => (if (!decide (y8.1 = y5.1)) = true then (some false) else (if (!decide (y8.2 = y5.2)) = true then (some false) else ((bW_ a0).bind fun y9 => ((dN_ y6 y9).bind fun y10 => (if (!y10) = true then (some false) else ((a0_ a1).bind fun y11 => ((bd_ y7 y11).bind fun y12 => (if (!y12) = true then (some false) else (some true))))))))))))))))))))
theorem eE_ (a0 : (Sl ah_)) (a1 : DPattern) (a2 : ByteArray) (a3 : Bool) (a4 : Int) (r : Bool) (h : bz_ a0 a1 a2 a3 a4 = some r) : cx_ a0 a1 a2 a3 a4 = some r := by
 unfold bz_ at h
 refine k_W ok_13 E_bool_inj h (fun σ0 => ?_)
 refine t_R ?_
 refine bQ_ (fun b1 => ?_)
 refine t_N ?_
 refine t_RN ?_
 refine t_if (fun hc1 => ?_) fun hc1 => ?_
 ·refine t_RN ?_
  exact k_eW (rT rN) E_bool_p
 refine t_RN ?_
 refine t_RU 2 ?_
 refine av_ fun y1 hy1 => ?_
 refine t_N ?_
 refine t_RN ?_
 refine t_if (fun hc2 => ?_) fun hc2 => ?_
 ·refine t_RN ?_
  exact k_eW (rT rN) E_bool_p
 refine t_R ?_
 refine ae_ 0 ?_
 refine t_U 1 ?_
 refine av_ fun y2 hy2 => ?_
 refine t_N ?_
 refine t_RN ?_
 refine t_if (fun hc3 => ?_) fun hc3 => ?_
 ·refine t_RN ?_
  exact k_eW (rT rN) E_bool_p
 refine a5_ [] ext_x fun mb σs hn0 hlt hlto => ?_
 have hlt_b1 : b1 < mb := hlt b1 _ (List.Mem.head _)
 refine t_U 1 ?_
 refine ci_ (fun y3 t1 hy3 ht1 => ?_)
 refine ae_ 1 ?_ (hlt := by exact (Or.inr ⟨hlt_b1, Wc.nil⟩))
 refine ci_ (fun y4 t2 hy4 ht2 => ?_)
 refine t_U 3 ?_
 refine t_h Heap.up1 ?_
 refine gH_ (fun y5 hy5 => ?_)
 refine t_N ?_
 refine t_RU 1 ?_
 refine ci_ (fun y6 t3 hy6 ht3 => ?_)
 refine t_N ?_
 refine t_R ?_
 refine ae_ 3 ?_
 refine ci_ (fun y7 t4 hy7 ht4 => ?_)
 refine do_ fun b2 => ?_
 refine ck_ 0 ?_ (h1 := by simp [ht4.1, ht4.2])
 refine t_N ?_
 refine t_RU 1 ?_
 refine ae_ 0 ?_
 refine t_U 3 ?_
 refine t_h (·.up1.up2) ?_
 refine gH_ (fun y8 hy8 => ?_)
 refine t_N ?_
 refine t_RU 4 ?_
 refine aK_ 58 (fun hc4 => ?_) fun hc4 => ?_
 ·refine t_N ?_
  refine t_cT rfl ?_
  refine t_RN ?_
  exact k_eW (rT rN) E_bool_p
 refine t_N ?_
 refine t_if (fun hc5 => ?_) fun hc5 => ?_
 ·refine t_RN ?_
  exact k_eW (rT rN) E_bool_p
 refine t_RU 2 ?_
 refine ci_ (fun y9 t5 hy9 ht5 => ?_)
 refine t_h Heap.up1 ?_
 refine gH_ (fun y10 hy10 => ?_)
 refine t_N ?_
 refine t_if (fun hc6 => ?_) fun hc6 => ?_
 ·refine t_RN ?_
  exact k_eW (rT rN) E_bool_p
 refine a5_ [] ext_x fun mb σs hn0 hlt hlto => ?_
 have hlt_b2 : b2 < mb := hlt b2 _ (List.Mem.tail _ (List.Mem.tail _ (List.Mem.tail _ (List.Mem.head _))))
 refine ae_ 3 ?_ (hlt := by exact (Or.inr ⟨hlt_b2, Wc.nil⟩))
 refine ae_ 6 ?_ (hlt := by exact (Or.inl (by kernel_rfl)))
 refine ci_ (fun y11 t6 hy11 ht6 => ?_)
 refine t_h Heap.up3 ?_
 refine gH_ (fun y12 hy12 => ?_)
 refine t_N ?_
 refine t_if (fun hc7 => ?_) fun hc7 => ?_
 ·refine t_RN ?_
  exact k_eW (rT rN) E_bool_p
 refine t_RN ?_
 exact k_eW (rT rN) E_bool_p
noncomputable def b3_ (a0 : (Sl DPattern)) (a1 : Int) : Option Int := (if (decide ((w4 (a1 - (a0.l.length : Int))) < 0)) = true then (some (-1)) else ((aD_ (S := (Int × Int)) (R := (Int ⊕ Int)) (fun st1 => (if (decide (st1.2 < (a0.l.length : Int))) = true then ((elt a0 st1.2).bind fun y2 => ((bc_ y2 st1.1).bind fun y3 => (if (decide (y3 < 0)) = true then (some (.inr (.inr (-1)))) else (some (.inl (y3, (w4 (st1.2 + 1)))))))) else (some (.inr (.inl st1.1))))) ((w4 (a1 - (a0.l.length : Int))), 0)).bind fun y1 => (Sum.elim (fun y1 => (some y1)) (fun y1 => (some y1)) y1)))
theorem ex_ (a0 : (Sl DPattern)) (a1 : Int) (r : Int) (h : b3_ a0 a1 = some r) : cV_ a0 a1 = some r := by
 unfold b3_ at h
 refine k_W ok_21 E_i64_inj h (fun σ0 => ?_)
 refine t_RN ?_
 refine t_RN ?_
 refine t_RN ?_
 refine t_if (fun hc1 => ?_) fun hc1 => ?_
 ·refine t_RN ?_
  exact k_eW (rT rN) E_i64_p
 refine t_RN ?_
 refine aZ_ (fun st1 fr => Sub [(0, a0.t), (1, i4 st1.1), (5, i4 st1.2)] fr.s ∧ Heap σ0 fr.σ []) (fun y1 e fr => (Sum.elim (fun y => e = (.exit 0) ∧ Sub [(1, i4 y)] fr.s ∧ Heap σ0 fr.σ []) (fun y => e = .ret ∧ endW Try.prog (Try.f21.results.toList) σ0 (E_i64 y) .ret fr)) y1) (fun hS hH => ⟨(af_ hS (by kernel_rfl)), hH⟩) (fun st1 x fr h HI => ?_) fun y1 e fr h HF => ?_
 ·obtain ⟨s, σ⟩ := fr; obtain ⟨hS, hH⟩ := HI
  refine t_bk h hS hH ?_
  refine t_RN ?_
  refine t_if (fun hc2 => ?_) fun hc2 => ?_
  ·refine t_RU 2 ?_
   refine bX_ fun y2 rest1 hy2 => ?_
   refine t_U 2 ?_
   refine av_ fun y3 hy3 => ?_
   refine t_N ?_
   refine t_RN ?_
   refine t_if (fun hc3 => ?_) fun hc3 => ?_
   ·refine t_RN ?_
    exact t_e fun he hS hH => he ▸ ⟨rfl, (eW hS hH (rT rN) E_i64_p)⟩
   refine t_RN ?_
   exact t_e fun he hS hH => he ▸ ⟨(af_ hS (by kernel_rfl)), hH⟩
  exact t_e fun he hS hH => he ▸ ⟨rfl, (af_ hS (by kernel_rfl)), hH⟩
 obtain ⟨s, σ⟩ := fr
 rcases y1 with y1 | y1
 ·have h := el_l h
  obtain ⟨rfl, hS, hH⟩ := HF
  refine t_bx h hS hH ?_
  refine t_RN ?_
  exact k_eW (rT rN) E_i64_p
 have h := el_r h
 obtain ⟨rfl, HE⟩ := HF
 obtain rfl := si_1 h; exact HE
noncomputable def c3_ (a0 : (Sl DPattern)) : Option (Sl DPattern) := ((mkS 56 ((⟨0, 0, ⟨#[]⟩, ⟨true, []⟩⟩ : DPattern) : DPattern) (a0.l.length : Int) (a0.l.length : Int)).bind fun y1 => ((aD_ (S := (Int × (Sl DPattern))) (R := (Sl DPattern)) (fun st1 => (if (decide (st1.1 < (a0.l.length : Int))) = true then ((elt a0 st1.1).bind fun y3 => ((a0_ y3).bind fun y4 => ((elt st1.2 st1.1).bind fun y5 => (some (.inl ((w4 (st1.1 + 1)), (setS st1.2 st1.1 (y4 : DPattern)))))))) else (some (.inr st1.2)))) (0, y1)).bind fun y2 => (some y2)))
theorem gC_ (a0 : (Sl DPattern)) (r : (Sl DPattern)) (h : c3_ a0 = some r) : cS_ a0 = some r := by
 unfold c3_ at h
 refine k_O ok_23 h (fun σ0 => ?_)
 refine t_RN ?_
 refine t_RU 2 ?_
 intro h s σ hS hH
 obtain ⟨y1, hy1, h⟩ := bind_some h
 refine oB_ (z := true) (e := 25) (by_ := 56) (x0 := ((⟨0, 0, ⟨#[]⟩, ⟨true, []⟩⟩ : DPattern) : DPattern)) (fun σ d => by simp [Enc.cells, DPattern.cells, DPattern.cellsK, Iv]) rfl hS hH rfl rfl (by kernel_rfl) (by kernel_rfl) (by kernel_rfl) (by kernel_rfl) rfl hy1 ?_; intro t1 σ s ht1 hH hS
 refine t_bk h hS hH ?_
 refine t_N ?_
 refine t_RN ?_
 refine aZ_ (fun st1 fr => Sub [(0, a0.t), (3, t1), (4, i4 st1.1)] fr.s ∧ Heap σ0 fr.σ [.own true 4 t1 st1.2.t]) (fun y2 e fr => e = (.exit 0) ∧ Sub [(3, t1)] fr.s ∧ Heap σ0 fr.σ [.own true 4 t1 y2.t]) (fun hS hH => ⟨(af_ hS (by kernel_rfl)), hH⟩) (fun st1 x fr h HI => ?_) fun y2 e fr h HF => ?_
 ·obtain ⟨s, σ⟩ := fr; obtain ⟨hS, hH⟩ := HI
  refine t_bk h hS hH ?_
  refine t_RN ?_
  refine t_if (fun hc1 => ?_) fun hc1 => ?_
  ·refine t_RU 4 ?_
   refine bX_ fun y3 rest1 hy3 => ?_
   refine t_U 1 ?_
   refine ci_ (fun y4 t2 hy4 ht2 => ?_)
   refine jS_ 1 (fun hb1 hb1e y5 hy5 hl_hb1 => ?_)
   refine t_h Heap.up1 ?_
   intro h s σ hS hH
   refine k0_ (ents := [.own true 4 t2 y4.Kids.t]) (a := st1.2) (j := st1.1) (y := y5) (y' := (y4 : DPattern)) (off := 0) (c := [i4 y5.Kind, i4 y5.Num, .str y5.Text, y5.Kids.t]) (us := [i4 y4.Kind, i4 y4.Num, .str y4.Text, t2]) (vs := [i4 y4.Kind, i4 y4.Num, .str y4.Text, y4.Kids.t]) (v := .agg [i4 y4.Kind, i4 y4.Num, .str y4.Text, t2]) rfl hS hH hl_hb1 rfl rfl rfl (by simp [ht2.1, ht2.2]) (by kernel_rfl) rfl hy5 (DPattern.cells_eq _) (HLi (HLi (HLs (HL.own rfl HL.nil)))) rfl (by rw [DPattern.enc_eq]; rfl) ?_; intro σ s hH hS
   refine t_bk h hS hH ?_
   refine t_N ?_
   refine t_RN ?_
   exact t_e fun he hS hH => he ▸ ⟨(af_ hS (by kernel_rfl)), hH⟩
  exact t_e fun he hS hH => he ▸ ⟨rfl, (af_ hS (by kernel_rfl)), hH⟩
 obtain ⟨s, σ⟩ := fr
 obtain ⟨rfl, hS, hH⟩ := HF
 refine t_bx h hS hH ?_
 refine t_RN ?_
 exact k_eO [t1] (rT rN)
noncomputable def di_ (a0 : DPattern) (a1 : DPattern) : Option Bool := (if (!decide (a0.Kind = a1.Kind)) = true then (some false) else (if (!decide (a0.Num = a1.Num)) = true then (some false) else (if (!decide (a0.Text = a1.Text)) = true then (some false) else ((cW_ a0.Kids a1.Kids).bind fun y1 => (if (!y1) = true then (some false) else (some true))))))
theorem g0_ (a0 : DPattern) (a1 : DPattern) (r : Bool) (h : di_ a0 a1 = some r) : bd_ a0 a1 = some r := by
 unfold di_ at h
 refine k_W ok_24 E_bool_inj h (fun σ0 => ?_)
 refine t_R ?_
 refine bQ_ (fun b1 => ?_)
 refine bQ_ (fun b2 => ?_)
 refine t_N ?_
 refine t_RU 1 ?_
 refine ae_ 1 ?_
 refine t_U 1 ?_
 refine ae_ 0 ?_
 refine t_N ?_
 refine t_if (fun hc1 => ?_) fun hc1 => ?_
 ·refine t_RN ?_
  exact k_eW (rT rN) E_bool_p
 refine t_RU 1 ?_
 refine ae_ 1 ?_
 refine t_U 1 ?_
 refine ae_ 0 ?_
 refine t_N ?_
 refine t_if (fun hc2 => ?_) fun hc2 => ?_
 ·refine t_RN ?_
  exact k_eW (rT rN) E_bool_p
 refine t_RU 1 ?_
 refine ae_ 1 ?_
 refine t_U 1 ?_
 refine ae_ 0 ?_
 refine t_N ?_
 refine t_if (fun hc3 => ?_) fun hc3 => ?_
 ·refine t_RN ?_
  exact k_eW (rT rN) E_bool_p
 refine t_RU 1 ?_
 refine ae_ 1 ?_
 refine t_U 1 ?_
 refine ae_ 0 ?_
 refine av_ fun y1 hy1 => ?_
 refine t_N ?_
 refine t_if (fun hc4 => ?_) fun hc4 => ?_
 ·refine t_RN ?_
  exact k_eW (rT rN) E_bool_p
 refine t_RN ?_
 exact k_eW (rT rN) E_bool_p
noncomputable def c0_ (a0 : (Sl DPattern)) (a1 : (Sl DPattern)) : Option Bool := (if ((!decide ((a0.l.length : Int) = (a1.l.length : Int)))) = true then (some false) else ((aD_ (S := Int) (R := (Unit ⊕ Bool)) (fun st1 => (if (decide (st1 < (a0.l.length : Int))) = true then ((elt a0 st1).bind fun y2 => ((elt a1 st1).bind fun y3 => ((bd_ y2 y3).bind fun y4 => (if (!y4) = true then (some (.inr (.inr false))) else (some (.inl (w4 (st1 + 1)))))))) else (some (.inr (.inl ()))))) 0).bind fun y1 => (Sum.elim (fun y1 => (some true)) (fun y1 => (some y1)) y1)))
theorem gv_ (a0 : (Sl DPattern)) (a1 : (Sl DPattern)) (r : Bool) (h : c0_ a0 a1 = some r) : cW_ a0 a1 = some r := by
 unfold c0_ at h
 refine k_W ok_25 E_bool_inj h (fun σ0 => ?_)
 refine t_RN ?_
 refine t_RN ?_
 refine t_if (fun hc1 => ?_) fun hc1 => ?_
 ·refine t_RN ?_
  exact k_eW (rT rN) E_bool_p
 refine t_RN ?_
 refine aZ_ (fun st1 fr => Sub [(0, a0.t), (1, a1.t), (5, i4 st1)] fr.s ∧ Heap σ0 fr.σ []) (fun y1 e fr => (Sum.elim (fun y => e = (.exit 0) ∧ Sub [] fr.s ∧ Heap σ0 fr.σ []) (fun y => e = .ret ∧ endW Try.prog (Try.f25.results.toList) σ0 (E_bool y) .ret fr)) y1) (fun hS hH => ⟨(af_ hS (by kernel_rfl)), hH⟩) (fun st1 x fr h HI => ?_) fun y1 e fr h HF => ?_
 ·obtain ⟨s, σ⟩ := fr; obtain ⟨hS, hH⟩ := HI
  refine t_bk h hS hH ?_
  refine t_RN ?_
  refine t_if (fun hc2 => ?_) fun hc2 => ?_
  ·refine t_D fun mb => ?_
   refine t_U 2 ?_
   refine bX_ fun y2 rest1 hy2 => ?_
   refine t_U 3 ?_
   refine bX_ fun y3 rest2 hy3 => ?_
   refine t_U 1 ?_
   refine av_ fun y4 hy4 => ?_
   refine t_N ?_
   refine t_if (fun hc3 => ?_) fun hc3 => ?_
   ·refine t_RN ?_
    exact t_e fun he hS hH => he ▸ ⟨rfl, (eW hS hH (rT rN) E_bool_p)⟩
   refine t_RN ?_
   exact t_e fun he hS hH => he ▸ ⟨(af_ hS (by kernel_rfl)), hH⟩
  exact t_e fun he hS hH => he ▸ ⟨rfl, (af_ hS (by kernel_rfl)), hH⟩
 obtain ⟨s, σ⟩ := fr
 rcases y1 with y1 | y1
 ·have h := el_l h
  obtain ⟨rfl, hS, hH⟩ := HF
  refine t_bx h hS hH ?_
  refine t_RN ?_
  exact k_eW (rT rN) E_bool_p
 have h := el_r h
 obtain ⟨rfl, HE⟩ := HF
 obtain rfl := si_1 h; exact HE
noncomputable def cD_ (a0 : (Sl ah_)) (a1 : Int) : Option Int := (if (decide ((w4 (a1 - (a0.l.length : Int))) < 0)) = true then (some (-1)) else ((aD_ (S := (Int × Int)) (R := (Int ⊕ Int)) (fun st1 => (if (decide (st1.2 < (a0.l.length : Int))) = true then ((elt a0 st1.2).bind fun y2 => ((bK_ y2 st1.1).bind fun y3 => (if (decide (y3 < 0)) = true then (some (.inr (.inr (-1)))) else (some (.inl (y3, (w4 (st1.2 + 1)))))))) else (some (.inr (.inl st1.1))))) ((w4 (a1 - (a0.l.length : Int))), 0)).bind fun y1 => (Sum.elim (fun y1 => (some y1)) (fun y1 => (some y1)) y1)))
theorem fk_ (a0 : (Sl ah_)) (a1 : Int) (r : Int) (h : cD_ a0 a1 = some r) : dP_ a0 a1 = some r := by
 unfold cD_ at h
 refine k_W ok_35 E_i64_inj h (fun σ0 => ?_)
 refine t_RN ?_
 refine t_RN ?_
 refine t_RN ?_
 refine t_if (fun hc1 => ?_) fun hc1 => ?_
 ·refine t_RN ?_
  exact k_eW (rT rN) E_i64_p
 refine t_RN ?_
 refine aZ_ (fun st1 fr => Sub [(0, a0.t), (1, i4 st1.1), (5, i4 st1.2)] fr.s ∧ Heap σ0 fr.σ []) (fun y1 e fr => (Sum.elim (fun y => e = (.exit 0) ∧ Sub [(1, i4 y)] fr.s ∧ Heap σ0 fr.σ []) (fun y => e = .ret ∧ endW Try.prog (Try.f35.results.toList) σ0 (E_i64 y) .ret fr)) y1) (fun hS hH => ⟨(af_ hS (by kernel_rfl)), hH⟩) (fun st1 x fr h HI => ?_) fun y1 e fr h HF => ?_
 ·obtain ⟨s, σ⟩ := fr; obtain ⟨hS, hH⟩ := HI
  refine t_bk h hS hH ?_
  refine t_RN ?_
  refine t_if (fun hc2 => ?_) fun hc2 => ?_
  ·refine t_RU 2 ?_
   refine bX_ fun y2 rest1 hy2 => ?_
   refine t_U 2 ?_
   refine av_ fun y3 hy3 => ?_
   refine t_N ?_
   refine t_RN ?_
   refine t_if (fun hc3 => ?_) fun hc3 => ?_
   ·refine t_RN ?_
    exact t_e fun he hS hH => he ▸ ⟨rfl, (eW hS hH (rT rN) E_i64_p)⟩
   refine t_RN ?_
   exact t_e fun he hS hH => he ▸ ⟨(af_ hS (by kernel_rfl)), hH⟩
  exact t_e fun he hS hH => he ▸ ⟨rfl, (af_ hS (by kernel_rfl)), hH⟩
 obtain ⟨s, σ⟩ := fr
 rcases y1 with y1 | y1
 ·have h := el_l h
  obtain ⟨rfl, hS, hH⟩ := HF
  refine t_bx h hS hH ?_
  refine t_RN ?_
  exact k_eW (rT rN) E_i64_p
 have h := el_r h
 obtain ⟨rfl, HE⟩ := HF
 obtain rfl := si_1 h; exact HE
noncomputable def cg_ (a0 : DPattern) (a1 : Int) : Option Int := (if (decide ((w4 (a1 - (a0.Text.size : Int))) < 0)) = true then (some (-1)) else ((cV_ a0.Kids (w4 (a1 - (a0.Text.size : Int)))).bind fun y1 => (if (decide (y1 < 0)) = true then (some (-1)) else (some y1))))
theorem fc_ (a0 : DPattern) (a1 : Int) (r : Int) (h : cg_ a0 a1 = some r) : bc_ a0 a1 = some r := by
 unfold cg_ at h
 refine k_W ok_36 E_i64_inj h (fun σ0 => ?_)
 refine t_R ?_
 refine bQ_ (fun b1 => ?_)
 refine t_N ?_
 refine t_RU 2 ?_
 refine ae_ 0 ?_
 refine t_N ?_
 refine t_RN ?_
 refine t_if (fun hc1 => ?_) fun hc1 => ?_
 ·refine t_RN ?_
  exact k_eW (rT rN) E_i64_p
 refine t_RU 1 ?_
 refine ae_ 0 ?_
 refine t_U 1 ?_
 refine av_ fun y1 hy1 => ?_
 refine t_N ?_
 refine t_RN ?_
 refine t_if (fun hc2 => ?_) fun hc2 => ?_
 ·refine t_RN ?_
  exact k_eW (rT rN) E_i64_p
 refine t_RN ?_
 exact k_eW (rT rN) E_i64_p
noncomputable def dG_ (a0 : (Sl ah_)) : Option (Sl ah_) := ((mkS 72 ((⟨⟨#[]⟩, (⟨0, 0, ⟨#[]⟩, ⟨true, []⟩⟩ : DPattern)⟩ : ah_) : ah_) (a0.l.length : Int) (a0.l.length : Int)).bind fun y1 => ((aD_ (S := (Int × (Sl ah_))) (R := (Sl ah_)) (fun st1 => (if (decide (st1.1 < (a0.l.length : Int))) = true then ((elt a0 st1.1).bind fun y3 => ((eo_ y3).bind fun y4 => ((elt st1.2 st1.1).bind fun y5 => (some (.inl ((w4 (st1.1 + 1)), (setS st1.2 st1.1 (y4 : ah_)))))))) else (some (.inr st1.2)))) (0, y1)).bind fun y2 => (some y2)))
theorem hk_ (a0 : (Sl ah_)) (r : (Sl ah_)) (h : dG_ a0 = some r) : bW_ a0 = some r := by
 unfold dG_ at h
 refine k_O ok_38 h (fun σ0 => ?_)
 refine t_RN ?_
 refine t_RU 2 ?_
 intro h s σ hS hH
 obtain ⟨y1, hy1, h⟩ := bind_some h
 refine oB_ (z := true) (e := 116) (by_ := 72) (x0 := ((⟨⟨#[]⟩, (⟨0, 0, ⟨#[]⟩, ⟨true, []⟩⟩ : DPattern)⟩ : ah_) : ah_)) (fun σ d => by simp [Enc.cells, ah_.cells, Iv]) rfl hS hH rfl rfl (by kernel_rfl) (by kernel_rfl) (by kernel_rfl) (by kernel_rfl) rfl hy1 ?_; intro t1 σ s ht1 hH hS
 refine t_bk h hS hH ?_
 refine t_N ?_
 refine t_RN ?_
 refine aZ_ (fun st1 fr => Sub [(0, a0.t), (3, t1), (4, i4 st1.1)] fr.s ∧ Heap σ0 fr.σ [.own true 5 t1 st1.2.t]) (fun y2 e fr => e = (.exit 0) ∧ Sub [(3, t1)] fr.s ∧ Heap σ0 fr.σ [.own true 5 t1 y2.t]) (fun hS hH => ⟨(af_ hS (by kernel_rfl)), hH⟩) (fun st1 x fr h HI => ?_) fun y2 e fr h HF => ?_
 ·obtain ⟨s, σ⟩ := fr; obtain ⟨hS, hH⟩ := HI
  refine t_bk h hS hH ?_
  refine t_RN ?_
  refine t_if (fun hc1 => ?_) fun hc1 => ?_
  ·refine t_RU 4 ?_
   refine bX_ fun y3 rest1 hy3 => ?_
   refine t_U 1 ?_
   refine ci_ (fun y4 t2 hy4 ht2 => ?_)
   refine jS_ 1 (fun hb1 hb1e y5 hy5 hl_hb1 => ?_)
   refine t_h Heap.up1 ?_
   intro h s σ hS hH
   refine k0_ (ents := [.own true 4 t2 y4.Pattern.Kids.t]) (a := st1.2) (j := st1.1) (y := y5) (y' := (y4 : ah_)) (off := 0) (c := [.str y5.Name, i4 y5.Pattern.Kind, i4 y5.Pattern.Num, .str y5.Pattern.Text, y5.Pattern.Kids.t]) (us := [.str y4.Name, i4 y4.Pattern.Kind, i4 y4.Pattern.Num, .str y4.Pattern.Text, t2]) (vs := [.str y4.Name, i4 y4.Pattern.Kind, i4 y4.Pattern.Num, .str y4.Pattern.Text, y4.Pattern.Kids.t]) (v := .agg [.str y4.Name, i4 y4.Pattern.Kind, i4 y4.Pattern.Num, .str y4.Pattern.Text, t2]) rfl hS hH hl_hb1 rfl rfl rfl (by simp [ht2.1, ht2.2]) (by kernel_rfl) rfl hy5 rfl (HLs (HLi (HLi (HLs (HL.own rfl HL.nil))))) rfl (by kernel_rfl) ?_; intro σ s hH hS
   refine t_bk h hS hH ?_
   refine t_N ?_
   refine t_RN ?_
   exact t_e fun he hS hH => he ▸ ⟨(af_ hS (by kernel_rfl)), hH⟩
  exact t_e fun he hS hH => he ▸ ⟨rfl, (af_ hS (by kernel_rfl)), hH⟩
 obtain ⟨s, σ⟩ := fr
 obtain ⟨rfl, hS, hH⟩ := HF
 refine t_bx h hS hH ?_
 refine t_RN ?_
 exact k_eO [t1] (rT rN)
noncomputable def dg_ (a0 : DPattern) : Option DPattern := ((cS_ a0.Kids).bind fun y1 => (some (⟨a0.Kind, a0.Num, a0.Text, y1⟩ : DPattern)))
theorem g4_ (a0 : DPattern) (r : DPattern) (h : dg_ a0 = some r) : a0_ a0 = some r := by
 unfold dg_ at h
 refine k_O ok_39 h (fun σ0 => ?_)
 refine t_R ?_
 refine bQ_ (fun b1 => ?_)
 refine do_ fun b2 => ?_
 refine t_N ?_
 refine t_R ?_
 refine do_ fun b3 => ?_
 refine t_N ?_
 refine t_RU 1 ?_
 refine ae_ 2 ?_
 refine t_U 1 ?_
 refine aI_ 0 ?_
 refine t_N ?_
 refine t_RU 1 ?_
 refine ae_ 2 ?_
 refine t_U 1 ?_
 refine aI_ 0 ?_
 refine t_N ?_
 refine t_RU 1 ?_
 refine ae_ 2 ?_
 refine t_U 1 ?_
 refine aI_ 0 ?_
 refine t_N ?_
 refine t_RU 1 ?_
 refine ae_ 2 ?_
 refine ci_ (fun y1 t1 hy1 ht1 => ?_)
 refine t_U 1 ?_
 refine bw_ 1 ht1 ?_
 refine t_N ?_
 refine t_R ?_
 refine ae_ 0 ?_
 refine ck_ 2 ?_ (h1 := by simp [ht1.1, ht1.2])
 refine t_N ?_
 refine t_h Heap.up2 ?_
 exact k_eO [t1] (rC 1 rN)
noncomputable def dJ_ (a0 : (Sl ah_)) (a1 : (Sl ah_)) : Option Bool := (if ((!decide ((a0.l.length : Int) = (a1.l.length : Int)))) = true then (some false) else ((aD_ (S := Int) (R := (Unit ⊕ Bool)) (fun st1 => (if (decide (st1 < (a0.l.length : Int))) = true then ((elt a0 st1).bind fun y2 => ((elt a1 st1).bind fun y3 => ((et_ y2 y3).bind fun y4 => (if (!y4) = true then (some (.inr (.inr false))) else (some (.inl (w4 (st1 + 1)))))))) else (some (.inr (.inl ()))))) 0).bind fun y1 => (Sum.elim (fun y1 => (some true)) (fun y1 => (some y1)) y1)))
theorem hy_ (a0 : (Sl ah_)) (a1 : (Sl ah_)) (r : Bool) (h : dJ_ a0 a1 = some r) : dN_ a0 a1 = some r := by
 unfold dJ_ at h
 refine k_W ok_40 E_bool_inj h (fun σ0 => ?_)
 refine t_RN ?_
 refine t_RN ?_
 refine t_if (fun hc1 => ?_) fun hc1 => ?_
 ·refine t_RN ?_
  exact k_eW (rT rN) E_bool_p
 refine t_RN ?_
 refine aZ_ (fun st1 fr => Sub [(0, a0.t), (1, a1.t), (5, i4 st1)] fr.s ∧ Heap σ0 fr.σ []) (fun y1 e fr => (Sum.elim (fun y => e = (.exit 0) ∧ Sub [] fr.s ∧ Heap σ0 fr.σ []) (fun y => e = .ret ∧ endW Try.prog (Try.f40.results.toList) σ0 (E_bool y) .ret fr)) y1) (fun hS hH => ⟨(af_ hS (by kernel_rfl)), hH⟩) (fun st1 x fr h HI => ?_) fun y1 e fr h HF => ?_
 ·obtain ⟨s, σ⟩ := fr; obtain ⟨hS, hH⟩ := HI
  refine t_bk h hS hH ?_
  refine t_RN ?_
  refine t_if (fun hc2 => ?_) fun hc2 => ?_
  ·refine t_D fun mb => ?_
   refine t_U 2 ?_
   refine bX_ fun y2 rest1 hy2 => ?_
   refine t_U 3 ?_
   refine bX_ fun y3 rest2 hy3 => ?_
   refine t_U 1 ?_
   refine av_ fun y4 hy4 => ?_
   refine t_N ?_
   refine t_if (fun hc3 => ?_) fun hc3 => ?_
   ·refine t_RN ?_
    exact t_e fun he hS hH => he ▸ ⟨rfl, (eW hS hH (rT rN) E_bool_p)⟩
   refine t_RN ?_
   exact t_e fun he hS hH => he ▸ ⟨(af_ hS (by kernel_rfl)), hH⟩
  exact t_e fun he hS hH => he ▸ ⟨rfl, (af_ hS (by kernel_rfl)), hH⟩
 obtain ⟨s, σ⟩ := fr
 rcases y1 with y1 | y1
 ·have h := el_l h
  obtain ⟨rfl, hS, hH⟩ := HF
  refine t_bx h hS hH ?_
  refine t_RN ?_
  exact k_eW (rT rN) E_bool_p
 have h := el_r h
 obtain ⟨rfl, HE⟩ := HF
 obtain rfl := si_1 h; exact HE
end Go.Am
