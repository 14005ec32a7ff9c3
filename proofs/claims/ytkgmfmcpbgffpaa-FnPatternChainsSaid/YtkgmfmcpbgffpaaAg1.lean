/- Functions of the program. -/
import Derived.Test.YtkgmfmcpbgffpaaAd0
set_option maxRecDepth 100000
set_option maxHeartbeats 4000000
set_option linter.unusedVariables false
set_option linter.unusedSimpArgs false
namespace Go.Am
open Go.Proofs
noncomputable def b1_ (a0 : DPattern) : Option DPattern := ((aC_ (S := (Int × (Sl DPattern))) (R := (Sl DPattern)) (fun st1 => (if (decide (st1.1 < (a0.Kids.l.length : Int))) = true then ((elt a0.Kids st1.1).bind fun y2 => ((as_ y2).bind fun y3 => ((appS 56 st1.2 (⟨false, [y3]⟩ : Sl DPattern)).bind fun y4 => (some (.inl ((w4 (st1.1 + 1)), y4)))))) else (some (.inr st1.2)))) (0, (⟨true, []⟩ : Sl DPattern))).bind fun y1 => (some (⟨a0.Kind, a0.Num, a0.Text, y1⟩ : DPattern)))
theorem ec_ (a0 : DPattern) (r : DPattern) (h : b1_ a0 = some r) : as_ a0 = some r := by
 unfold b1_ at h
 refine k_O ok_108 h (fun σ0 => ?_)
 refine t_R ?_
 refine dZ_ (fun b1 => ?_)
 refine aE_ fun b2 => ?_
 refine t_N ?_
 refine t_RU 1 ?_
 refine ah_ 1 ?_
 refine t_U 1 ?_
 refine ah_ 1 ?_
 refine t_U 1 ?_
 refine ah_ 1 ?_
 refine t_U 1 ?_
 refine aE_ fun b3 => ?_
 refine ag_ 0 ?_
 refine t_N ?_
 refine t_RN ?_
 refine t_h (Heap.addNil · true 4) ?_
 refine ch_ (fun st1 fr => ∃ t2, a0_ t2 ∧ Sub [(1, .ptr b1 0 0 4), (2, .ptr b2 0 0 4), (3, .ptr b3 0 0 4), (4, i4 st1.1)] fr.s ∧ Heap σ0 fr.σ [.box b3 [i4 a0.Kind, i4 a0.Num, .str a0.Text, t2], .box b2 [i4 0, i4 0, .str ⟨#[]⟩, (nt DPattern)], .box b1 [i4 a0.Kind, i4 a0.Num, .str a0.Text, a0.Kids.t], .own true 4 t2 st1.2.t]) (fun y1 e fr => ∃ t3, a0_ t3 ∧ e = (.exit 0) ∧ Sub [(2, .ptr b2 0 0 4), (3, .ptr b3 0 0 4)] fr.s ∧ Heap σ0 fr.σ [.box b3 [i4 a0.Kind, i4 a0.Num, .str a0.Text, t3], .box b2 [i4 0, i4 0, .str ⟨#[]⟩, (nt DPattern)], .own true 4 t3 y1.t]) (fun hS hH => ⟨(T.row true 0 []), ⟨rfl, rfl⟩, (ad_ hS (by kernel_rfl)), (Heap.sel hH [1, 2, 3, 0] rfl (by kernel_rfl))⟩) (fun st1 x fr h HI => ?_) fun y1 e fr h HF => ?_
 ·obtain ⟨s, σ⟩ := fr; obtain ⟨t2, ht2, ⟨hS, hH⟩⟩ := HI
  refine t_bk h hS hH ?_
  refine t_RU 2 ?_
  refine ah_ 2 ?_
  refine t_N ?_
  refine t_if (fun hc1 => ?_) fun hc1 => ?_
  ·refine fv_ [(9, RN), (11, RN)] ext_x fun mb σs hn0 hlt hlto => ?_
   have hlt_b3 : b3 < mb := hlt b3 _ (List.Mem.head _)
   refine t_U 1 ?_
   refine ah_ 0 ?_ (hlt := by exact (Or.inr ⟨hlt_b3, (Wc.cons (.inl (by kernel_rfl)) (Wc.cons (.inl (by kernel_rfl)) Wc.nil))⟩))
   refine t_U 1 ?_
   refine ah_ 2 ?_ (hlt := by exact (Or.inl (by kernel_rfl)))
   refine t_U 1 ?_
   refine eJ_ fun y2 rest1 hy2 => ?_
   refine t_U 1 ?_
   refine bL_ (fun y3 t4 hy3 ht4 => ?_)
   refine k_bs (z := true) (⟨false, [y3]⟩ : Sl DPattern) (fun t5 ht5 => ?_) (hb := by exact hn0) (h1 := by simp [ht4.1, ht4.2])
   refine kF_ 4 0 (fun y4 t6 hy4 ht6 => ?_) (hb := by exact hn0) (hwr := by exact fun hH b e o n h0 => Or.inr ⟨9, by kernel_rfl, fun h => h⟩)
   refine t_U 1 ?_
   refine g4_ 1 ht6 ?_ (hwr := by exact fun hH => Or.inr ⟨11, by kernel_rfl, fun h => h⟩)
   refine t_N ?_
   refine t_RN ?_
   exact t_e fun he hS hH => he ▸ ⟨t6, ht6, (ad_ hS (by kernel_rfl)), (Heap.sel hH [0, 2, 3, 1] rfl (by kernel_rfl))⟩
  exact t_e fun he hS hH => he ▸ ⟨t2, ht2, rfl, (ad_ hS (by kernel_rfl)), (Heap.sel hH [0, 1, 3] rfl (by kernel_rfl))⟩
 obtain ⟨s, σ⟩ := fr
 obtain ⟨t3, ht3, ⟨rfl, hS, hH⟩⟩ := HF
 refine t_bx h hS hH ?_
 refine t_R ?_
 refine ah_ 0 ?_
 refine ag_ 1 ?_ (h1 := by simp [ht3.1, ht3.2])
 refine t_N ?_
 refine t_h Heap.up2 ?_
 exact k_eO [t3] (rC 1 rN)
noncomputable def cR_ (a0 : Int) : Option (Int × ByteArray) := (if (decide (a0 = 1)) = true then (some (0, ⟨#[115]⟩)) else ((ee_ a0).bind fun y1 => ((aC_ (S := (Int × ByteArray × Int)) (R := (Int × ByteArray)) (fun st1 => (if (decide (st1.2.2 < (y1.2.size : Int))) = true then ((bU_ y1.2 st1.2.2).bind fun y3 => (if (decide (y3 = 112)) = true then (some (.inl ((w4 (st1.1 + 1)), st1.2.1, (w4 (st1.2.2 + 1))))) else ((subB y1.2 st1.2.2 (w4 (st1.2.2 + 1))).bind fun y4 => ((catB st1.2.1 y4).bind fun y5 => (some (.inl (st1.1, y5, (w4 (st1.2.2 + 1))))))))) else (some (.inr (st1.1, st1.2.1))))) (0, ⟨#[]⟩, 0)).bind fun y2 => (some (y2.1, y2.2)))))
theorem eg_ (a0 : Int) (r : (Int × ByteArray)) (h : cR_ a0 = some r) : bu_ a0 = some r := by
 unfold cR_ at h
 refine k_W ok_112 E_t2_i64_str_inj h (fun σ0 => ?_)
 refine t_RN ?_
 refine t_RN ?_
 refine t_if (fun hc1 => ?_) fun hc1 => ?_
 ·refine t_RN ?_
  exact k_eW (rT (rT rN)) E_t2_i64_str_p
 refine t_RU 1 ?_
 refine aL_ fun y1 hy1 => ?_
 refine t_N ?_
 refine t_RN ?_
 refine t_RN ?_
 refine t_RN ?_
 refine ch_ (fun st1 fr => Sub [(5, .str y1.2), (6, i4 st1.1), (7, .str st1.2.1), (8, i4 st1.2.2)] fr.s ∧ Heap σ0 fr.σ []) (fun y2 e fr => e = (.exit 0) ∧ Sub [(6, i4 y2.1), (7, .str y2.2)] fr.s ∧ Heap σ0 fr.σ []) (fun hS hH => ⟨(ad_ hS (by kernel_rfl)), hH⟩) (fun st1 x fr h HI => ?_) fun y2 e fr h HF => ?_
 ·obtain ⟨s, σ⟩ := fr; obtain ⟨hS, hH⟩ := HI
  refine t_bk h hS hH ?_
  refine t_RN ?_
  refine t_if (fun hc2 => ?_) fun hc2 => ?_
  ·refine t_RU 2 ?_
   refine l5_ fun y3 hy3 => ?_
   refine t_N ?_
   refine t_if (fun hc3 => ?_) fun hc3 => ?_
   ·refine t_RN ?_
    refine t_RN ?_
    exact t_e fun he hS hH => he ▸ ⟨(ad_ hS (by kernel_rfl)), hH⟩
   refine t_RU 5 ?_
   refine n4_ fun y4 hy4 => ?_
   refine qm_ fun y5 hy5 => ?_
   refine t_N ?_
   refine t_RN ?_
   exact t_e fun he hS hH => he ▸ ⟨(ad_ hS (by kernel_rfl)), hH⟩
  exact t_e fun he hS hH => he ▸ ⟨rfl, (ad_ hS (by kernel_rfl)), hH⟩
 obtain ⟨s, σ⟩ := fr
 obtain ⟨rfl, hS, hH⟩ := HF
 refine t_bx h hS hH ?_
 refine t_RN ?_
 exact k_eW (rT (rT rN)) E_t2_i64_str_p
noncomputable def a5_ (a0 : (Sl ByteArray)) (a1 : ByteArray) : Option Bool := ((bq_ a0 a1).bind fun y1 => (some (decide (0 ≤ y1))))
theorem c9_ (a0 : (Sl ByteArray)) (a1 : ByteArray) (r : Bool) (h : a5_ a0 a1 = some r) : aK_ a0 a1 = some r := by
 unfold a5_ at h
 refine k_W ok_115 E_bool_inj h (fun σ0 => ?_)
 refine t_RN ?_
 refine t_RU 2 ?_
 refine aL_ fun y1 hy1 => ?_
 refine t_N ?_
 exact k_eW (rT rN) E_bool_p
noncomputable def bp_ (a0 : (Sl DPattern)) (a1 : T) : Option Bool := (if flat1 a1 = true then ((aC_ (S := Int) (R := (Unit ⊕ Bool)) (fun st1 => (if (decide (st1 < (a0.l.length : Int))) = true then ((elt a0 st1).bind fun y2 => ((fV_ Try.prog md ext E_bool a1 [.agg [i4 y2.Kind, i4 y2.Num, .str y2.Text, y2.Kids.t]]).bind fun y3 => (if (!y3) = true then (some (.inr (.inr false))) else (some (.inl (w4 (st1 + 1))))))) else (some (.inr (.inl ()))))) 0).bind fun y1 => (Sum.elim (fun y1 => (some true)) (fun y1 => (some y1)) y1)) else none)
theorem dD_ (a0 : (Sl DPattern)) (a1 : T) (r : Bool) (h : bp_ a0 a1 = some r) : aI_ a0 a1 = some r := by
 unfold bp_ at h
 obtain ⟨hf_a1, h⟩ := h7_ h
 refine k_W ok_116 E_bool_inj h (fun σ0 => ?_) (hf := (all_cons (by kernel_rfl) (all_cons (g5_ hf_a1) all_nil)))
 refine t_RN ?_
 refine t_RN ?_
 refine ch_ (fun st1 fr => Sub [(1, a1), (7, a0.t), (8, i4 (a0.l.length : Int)), (9, i4 st1)] fr.s ∧ Heap σ0 fr.σ []) (fun y1 e fr => (Sum.elim (fun y => e = (.exit 0) ∧ Sub [] fr.s ∧ Heap σ0 fr.σ []) (fun y => e = .ret ∧ endW Try.prog (Try.f116.results.toList) σ0 (E_bool y) .ret fr)) y1) (fun hS hH => ⟨(ad_ hS (by kernel_rfl)), hH⟩) (fun st1 x fr h HI => ?_) fun y1 e fr h HF => ?_
 ·obtain ⟨s, σ⟩ := fr; obtain ⟨hS, hH⟩ := HI
  refine t_bk h hS hH ?_
  refine t_RN ?_
  refine t_if (fun hc1 => ?_) fun hc1 => ?_
  ·refine t_R ?_
   refine eJ_ fun y2 rest1 hy2 => ?_
   refine t_U 1 ?_
   refine aE_ fun b1 => ?_
   refine ag_ 0 ?_
   refine t_N ?_
   refine t_RU 1 ?_
   refine ah_ 0 ?_
   refine il_ fun y3 hy3 => ?_
   refine t_N ?_
   refine t_if (fun hc2 => ?_) fun hc2 => ?_
   ·refine t_RN ?_
    exact t_e fun he hS hH => he ▸ ⟨rfl, (eW hS hH (rT rN) E_bool_p)⟩
   refine t_RN ?_
   exact t_e fun he hS hH => he ▸ ⟨(ad_ hS (by kernel_rfl)), (Heap.sel hH [] rfl (by kernel_rfl))⟩
  exact t_e fun he hS hH => he ▸ ⟨rfl, (ad_ hS (by kernel_rfl)), hH⟩
 obtain ⟨s, σ⟩ := fr
 rcases y1 with y1 | y1
 ·have h := el_l h
  obtain ⟨rfl, hS, hH⟩ := HF
  refine t_bx h hS hH ?_
  refine t_RN ?_
  exact k_eW (rT rN) E_bool_p
 have h := el_r h
 obtain ⟨rfl, HE⟩ := HF
 obtain rfl := si_1 h; exact HE
noncomputable def bh_ (a0 : DPattern) : Option DPattern := ((aC_ (S := (Int × (Sl DPattern))) (R := (Sl DPattern)) (fun st1 => (if (decide (st1.1 < (a0.Kids.l.length : Int))) = true then ((elt a0.Kids st1.1).bind fun y2 => ((ak_ y2).bind fun y3 => ((appS 56 st1.2 (⟨false, [y3]⟩ : Sl DPattern)).bind fun y4 => (some (.inl ((w4 (st1.1 + 1)), y4)))))) else (some (.inr st1.2)))) (0, (⟨false, []⟩ : Sl DPattern))).bind fun y1 => (some (⟨a0.Kind, a0.Num, a0.Text, y1⟩ : DPattern)))
theorem dT_ (a0 : DPattern) (r : DPattern) (h : bh_ a0 = some r) : ak_ a0 = some r := by
 unfold bh_ at h
 refine k_O ok_117 h (fun σ0 => ?_)
 refine t_R ?_
 refine dZ_ (fun b1 => ?_)
 refine aE_ fun b2 => ?_
 refine t_N ?_
 refine t_R ?_
 refine oW_ (α := DPattern) (fun t1 ht1 => ?_)
 refine t_N ?_
 refine t_RU 1 ?_
 refine ah_ 2 ?_
 refine t_N ?_
 refine ch_ (fun st1 fr => ∃ t3, a0_ t3 ∧ Sub [(1, .ptr b1 0 0 4), (2, .ptr b2 0 0 4), (3, t3), (8, a0.Kids.t), (9, i4 (a0.Kids.l.length : Int)), (10, i4 st1.1)] fr.s ∧ Heap σ0 fr.σ [.box b2 [i4 0, i4 0, .str ⟨#[]⟩, (nt DPattern)], .box b1 [i4 a0.Kind, i4 a0.Num, .str a0.Text, a0.Kids.t], .own true 4 t3 st1.2.t]) (fun y1 e fr => ∃ t4, a0_ t4 ∧ e = (.exit 0) ∧ Sub [(1, .ptr b1 0 0 4), (2, .ptr b2 0 0 4), (3, t4)] fr.s ∧ Heap σ0 fr.σ [.box b2 [i4 0, i4 0, .str ⟨#[]⟩, (nt DPattern)], .box b1 [i4 a0.Kind, i4 a0.Num, .str a0.Text, a0.Kids.t], .own true 4 t4 y1.t]) (fun hS hH => ⟨t1, ht1, (ad_ hS (by kernel_rfl)), (Heap.sel hH [1, 2, 0] rfl (by kernel_rfl))⟩) (fun st1 x fr h HI => ?_) fun y1 e fr h HF => ?_
 ·obtain ⟨s, σ⟩ := fr; obtain ⟨t3, ht3, ⟨hS, hH⟩⟩ := HI
  refine t_bk h hS hH ?_
  refine t_RN ?_
  refine t_if (fun hc1 => ?_) fun hc1 => ?_
  ·refine t_R ?_
   refine eJ_ fun y2 rest1 hy2 => ?_
   refine t_U 1 ?_
   refine aE_ fun b3 => ?_
   refine ag_ 0 ?_
   refine t_N ?_
   refine t_RU 1 ?_
   refine ah_ 0 ?_
   refine bL_ (fun y3 t5 hy3 ht5 => ?_)
   refine k_bs (z := true) (⟨false, [y3]⟩ : Sl DPattern) (fun t6 ht6 => ?_) (h1 := by simp [ht5.1, ht5.2])
   refine kF_ 4 0 (fun y4 t7 hy4 ht7 => ?_)
   refine t_N ?_
   refine t_RN ?_
   exact t_e fun he hS hH => he ▸ ⟨t7, ht7, (ad_ hS (by kernel_rfl)), (Heap.sel hH [2, 3, 0] rfl (by kernel_rfl))⟩
  exact t_e fun he hS hH => he ▸ ⟨t3, ht3, rfl, (ad_ hS (by kernel_rfl)), hH⟩
 obtain ⟨s, σ⟩ := fr
 obtain ⟨t4, ht4, ⟨rfl, hS, hH⟩⟩ := HF
 refine t_bx h hS hH ?_
 refine t_RU 2 ?_
 refine g4_ 1 ht4 ?_
 refine t_N ?_
 refine t_R ?_
 refine ah_ 0 ?_
 refine ag_ 1 ?_ (h1 := by simp [ht4.1, ht4.2])
 refine t_N ?_
 refine t_h Heap.up2 ?_
 exact k_eO [t4] (rC 1 rN)
noncomputable def bV_ (a0 : Int) (a1 : Int) (a2 : ByteArray) : Option Bool := (if (decide (a0 = 1)) = true then (if (decide (a1 = 0)) = true then ((b2_ a2).bind fun y1 => (some y1)) else (some false)) else ((dp_ a0).bind fun y2 => (if y2 = true then (if (decide (a1 = 0)) = true then (if (!decide (a2 = (⟨#[]⟩ : ByteArray))) = true then ((b2_ a2).bind fun y3 => (some y3)) else (some false)) else (some false)) else ((cd_ a0).bind fun y4 => (if y4 = true then (if (decide (a2 = (⟨#[]⟩ : ByteArray))) = true then ((ba_ a1 0 200).bind fun y5 => (some y5)) else (some false)) else ((cS_ a0).bind fun y6 => (if y6 = true then (if (decide (a1 = 0)) = true then ((dw_ a2).bind fun y7 => (some y7)) else (some false)) else ((br_ a0).bind fun y8 => (if y8 = true then (if (decide (a1 = 0)) = true then (some (decide (a2 = (⟨#[]⟩ : ByteArray)))) else (some false)) else (some false))))))))))
theorem eU_ (a0 : Int) (a1 : Int) (a2 : ByteArray) (r : Bool) (h : bV_ a0 a1 a2 = some r) : b0_ a0 a1 a2 = some r := by
 unfold bV_ at h
 refine k_W ok_134 E_bool_inj h (fun σ0 => ?_)
 refine t_RN ?_
 refine t_RN ?_
 refine t_if (fun hc1 => ?_) fun hc1 => ?_
 ·refine t_RU 3 ?_
  refine bo_ 12 (fun hc2 => ?_) fun hc2 => ?_
  ·refine t_U 1 ?_
   refine aL_ fun y1 hy1 => ?_
   refine t_N ?_
   exact k_eW (rT rN) E_bool_p
  refine t_N ?_
  exact k_eW (rT rN) E_bool_p
 refine t_RU 1 ?_
 refine aL_ fun y2 hy2 => ?_
 refine t_N ?_
 refine t_if (fun hc3 => ?_) fun hc3 => ?_
 ·refine t_RU 3 ?_
  refine bo_ 21 (fun hc4 => ?_) fun hc4 => ?_
  ·refine t_U 4 ?_
   refine bo_ 25 (fun hc5 => ?_) fun hc5 => ?_
   ·refine t_U 1 ?_
    refine aL_ fun y3 hy3 => ?_
    refine t_N ?_
    exact k_eW (rT rN) E_bool_p
   refine t_N ?_
   exact k_eW (rT rN) E_bool_p
  refine t_N ?_
  exact k_eW (rT rN) E_bool_p
 refine t_RU 1 ?_
 refine aL_ fun y4 hy4 => ?_
 refine t_N ?_
 refine t_if (fun hc6 => ?_) fun hc6 => ?_
 ·refine t_RU 3 ?_
  refine bo_ 34 (fun hc7 => ?_) fun hc7 => ?_
  ·refine t_U 1 ?_
   refine aL_ fun y5 hy5 => ?_
   refine t_N ?_
   exact k_eW (rT rN) E_bool_p
  refine t_N ?_
  exact k_eW (rT rN) E_bool_p
 refine t_RU 1 ?_
 refine aL_ fun y6 hy6 => ?_
 refine t_N ?_
 refine t_if (fun hc8 => ?_) fun hc8 => ?_
 ·refine t_RU 3 ?_
  refine bo_ 43 (fun hc9 => ?_) fun hc9 => ?_
  ·refine t_U 1 ?_
   refine aL_ fun y7 hy7 => ?_
   refine t_N ?_
   exact k_eW (rT rN) E_bool_p
  refine t_N ?_
  exact k_eW (rT rN) E_bool_p
 refine t_RU 1 ?_
 refine aL_ fun y8 hy8 => ?_
 refine t_U 1 ?_
 refine bo_ 49 (fun hc10 => ?_) fun hc10 => ?_
 ·refine t_U 4 ?_
  refine bo_ 53 (fun hc11 => ?_) fun hc11 => ?_
  ·refine t_N ?_
   exact k_eW (rT rN) E_bool_p
  refine t_N ?_
  exact k_eW (rT rN) E_bool_p
 refine t_N ?_
 exact k_eW (rT rN) E_bool_p
noncomputable def df_ (a0 : Int) : Option Int := (((if (decide (a0 = 18)) = true then (some (decide (a0 = 18))) else (some (decide (a0 = 19)))) : Option Bool).bind fun y1 => (if y1 = true then (some 2) else (((if (decide (a0 = 20)) = true then (some (decide (a0 = 20))) else (if (decide (a0 = 21)) = true then (some (decide (a0 = 21))) else (some (decide (a0 = 22))))) : Option Bool).bind fun y2 => (if y2 = true then (some 1) else (some 0)))))
theorem g0_ (a0 : Int) (r : Int) (h : df_ a0 = some r) : dl_ a0 = some r := by
 unfold df_ at h
 refine k_W ok_135 E_i64_inj h (fun σ0 => ?_)
 refine t_RN ?_
 refine t_RN ?_
 refine t_RN ?_
 refine iz_ 0 (fun y1 e fr => e = .normal ∧ Sub [(3, i4 a0), (4, .bool y1)] fr.s ∧ Heap σ0 fr.σ []) (fun y1 e fr h HF => ?_) fun y1 => ?_
 ·obtain ⟨s, σ⟩ := fr
  obtain ⟨rfl, hS, hH⟩ := HF
  refine t_bx h hS hH ?_
  refine t_if (fun hc1 => ?_) fun hc1 => ?_
  ·refine t_RN ?_
   exact k_eW (rT rN) E_i64_p
  refine t_RN ?_
  refine iz_ 0 (fun y2 e fr => e = .normal ∧ Sub [(7, .bool y2)] fr.s ∧ Heap σ0 fr.σ []) (fun y2 e fr h HF => ?_) fun y2 => ?_
  ·obtain ⟨s, σ⟩ := fr
   obtain ⟨rfl, hS, hH⟩ := HF
   refine t_bx h hS hH ?_
   refine t_if (fun hc2 => ?_) fun hc2 => ?_
   ·refine t_RN ?_
    exact k_eW (rT rN) E_i64_p
   refine t_RN ?_
   exact k_eW (rT rN) E_i64_p
  refine t_if (fun hc3 => ?_) fun hc3 => ?_
  ·exact t_e fun he hS hH => he ▸ ⟨rfl, (ad_ hS (by kernel_rfl)), hH⟩
  refine t_RN ?_
  refine t_if (fun hc4 => ?_) fun hc4 => ?_
  ·exact t_e fun he hS hH => he ▸ ⟨rfl, (ad_ hS (by kernel_rfl)), hH⟩
  refine t_RN ?_
  exact t_e fun he hS hH => he ▸ ⟨rfl, (ad_ hS (by kernel_rfl)), hH⟩
 refine t_if (fun hc5 => ?_) fun hc5 => ?_
 ·exact t_e fun he hS hH => he ▸ ⟨rfl, (ad_ hS (by kernel_rfl)), hH⟩
 refine t_RN ?_
 exact t_e fun he hS hH => he ▸ ⟨rfl, (ad_ hS (by kernel_rfl)), hH⟩
noncomputable def cT_ (a0 : Int) : Option (ByteArray × ByteArray) := (if (decide (a0 = 2)) = true then (some (⟨#[97, 110, 121]⟩, ⟨#[115]⟩)) else (if (decide (a0 = 3)) = true then (some (⟨#[110, 111, 116, 97, 110, 121]⟩, ⟨#[115]⟩)) else (if (decide (a0 = 4)) = true then (some (⟨#[115, 112, 97, 110]⟩, ⟨#[115]⟩)) else (if (decide (a0 = 5)) = true then (some (⟨#[98, 114, 101, 97, 107]⟩, ⟨#[115]⟩)) else (if (decide (a0 = 6)) = true then (some (⟨#[108, 101, 110]⟩, ⟨#[110]⟩)) else (if (decide (a0 = 7)) = true then (some (⟨#[112, 111, 115]⟩, ⟨#[110]⟩)) else (if (decide (a0 = 8)) = true then (some (⟨#[114, 112, 111, 115]⟩, ⟨#[110]⟩)) else (if (decide (a0 = 9)) = true then (some (⟨#[116, 97, 98]⟩, ⟨#[110]⟩)) else (if (decide (a0 = 10)) = true then (some (⟨#[114, 116, 97, 98]⟩, ⟨#[110]⟩)) else (if (decide (a0 = 11)) = true then (some (⟨#[114, 101, 109]⟩, ⟨#[]⟩)) else (if (decide (a0 = 12)) = true then (some (⟨#[97, 114, 98]⟩, ⟨#[]⟩)) else (if (decide (a0 = 13)) = true then (some (⟨#[98, 97, 108]⟩, ⟨#[]⟩)) else (if (decide (a0 = 14)) = true then (some (⟨#[102, 101, 110, 99, 101]⟩, ⟨#[]⟩)) else (if (decide (a0 = 15)) = true then (some (⟨#[97, 98, 111, 114, 116]⟩, ⟨#[]⟩)) else (if (decide (a0 = 16)) = true then (some (⟨#[102, 97, 105, 108]⟩, ⟨#[]⟩)) else (if (decide (a0 = 17)) = true then (some (⟨#[115, 117, 99, 99, 101, 101, 100]⟩, ⟨#[]⟩)) else (if (decide (a0 = 18)) = true then (some (⟨#[97, 108, 116]⟩, ⟨#[112, 112]⟩)) else (if (decide (a0 = 19)) = true then (some (⟨#[99, 97, 116]⟩, ⟨#[112, 112]⟩)) else (if (decide (a0 = 20)) = true then (some (⟨#[97, 114, 98, 110, 111]⟩, ⟨#[112]⟩)) else (if (decide (a0 = 21)) = true then (some (⟨#[99, 111, 110, 100]⟩, ⟨#[112, 120]⟩)) else (if (decide (a0 = 22)) = true then (some (⟨#[110, 111, 119]⟩, ⟨#[112, 120]⟩)) else (if (decide (a0 = 23)) = true then (some (⟨#[99, 117, 114, 115, 111, 114]⟩, ⟨#[120]⟩)) else (if (decide (a0 = 24)) = true then (some (⟨#[100, 101, 102, 101, 114]⟩, ⟨#[120]⟩)) else (some (⟨#[]⟩, ⟨#[]⟩)))))))))))))))))))))))))
theorem f0_ (a0 : Int) (r : (ByteArray × ByteArray)) (h : cT_ a0 = some r) : ee_ a0 = some r := by
 unfold cT_ at h
 refine k_W ok_137 E_t2_str_str_inj h (fun σ0 => ?_)
 refine t_RN ?_
 refine t_RN ?_
 refine t_RN ?_
 refine t_if (fun hc1 => ?_) fun hc1 => ?_
 ·refine t_RN ?_
  exact k_eW (rT (rT rN)) E_t2_str_str_p
 refine t_RN ?_
 refine t_if (fun hc2 => ?_) fun hc2 => ?_
 ·refine t_RN ?_
  exact k_eW (rT (rT rN)) E_t2_str_str_p
 refine t_RN ?_
 refine t_if (fun hc3 => ?_) fun hc3 => ?_
 ·refine t_RN ?_
  exact k_eW (rT (rT rN)) E_t2_str_str_p
 refine t_RN ?_
 refine t_if (fun hc4 => ?_) fun hc4 => ?_
 ·refine t_RN ?_
  exact k_eW (rT (rT rN)) E_t2_str_str_p
 refine t_RN ?_
 refine t_if (fun hc5 => ?_) fun hc5 => ?_
 ·refine t_RN ?_
  exact k_eW (rT (rT rN)) E_t2_str_str_p
 refine t_RN ?_
 refine t_if (fun hc6 => ?_) fun hc6 => ?_
 ·refine t_RN ?_
  exact k_eW (rT (rT rN)) E_t2_str_str_p
 refine t_RN ?_
 refine t_if (fun hc7 => ?_) fun hc7 => ?_
 ·refine t_RN ?_
  exact k_eW (rT (rT rN)) E_t2_str_str_p
 refine t_RN ?_
 refine t_if (fun hc8 => ?_) fun hc8 => ?_
 ·refine t_RN ?_
  exact k_eW (rT (rT rN)) E_t2_str_str_p
 refine t_RN ?_
 refine t_if (fun hc9 => ?_) fun hc9 => ?_
 ·refine t_RN ?_
  exact k_eW (rT (rT rN)) E_t2_str_str_p
 refine t_RN ?_
 refine t_if (fun hc10 => ?_) fun hc10 => ?_
 ·refine t_RN ?_
  exact k_eW (rT (rT rN)) E_t2_str_str_p
 refine t_RN ?_
 refine t_if (fun hc11 => ?_) fun hc11 => ?_
 ·refine t_RN ?_
  exact k_eW (rT (rT rN)) E_t2_str_str_p
 refine t_RN ?_
 refine t_if (fun hc12 => ?_) fun hc12 => ?_
 ·refine t_RN ?_
  exact k_eW (rT (rT rN)) E_t2_str_str_p
 refine t_RN ?_
 refine t_if (fun hc13 => ?_) fun hc13 => ?_
 ·refine t_RN ?_
  exact k_eW (rT (rT rN)) E_t2_str_str_p
 refine t_RN ?_
 refine t_if (fun hc14 => ?_) fun hc14 => ?_
 ·refine t_RN ?_
  exact k_eW (rT (rT rN)) E_t2_str_str_p
 refine t_RN ?_
 refine t_if (fun hc15 => ?_) fun hc15 => ?_
 ·refine t_RN ?_
  exact k_eW (rT (rT rN)) E_t2_str_str_p
 refine t_RN ?_
 refine t_if (fun hc16 => ?_) fun hc16 => ?_
 ·refine t_RN ?_
  exact k_eW (rT (rT rN)) E_t2_str_str_p
 refine t_RN ?_
 refine t_if (fun hc17 => ?_) fun hc17 => ?_
 ·refine t_RN ?_
  exact k_eW (rT (rT rN)) E_t2_str_str_p
 refine t_RN ?_
 refine t_if (fun hc18 => ?_) fun hc18 => ?_
 ·refine t_RN ?_
  exact k_eW (rT (rT rN)) E_t2_str_str_p
 refine t_RN ?_
 refine t_if (fun hc19 => ?_) fun hc19 => ?_
 ·refine t_RN ?_
  exact k_eW (rT (rT rN)) E_t2_str_str_p
 refine t_RN ?_
 refine t_if (fun hc20 => ?_) fun hc20 => ?_
 ·refine t_RN ?_
  exact k_eW (rT (rT rN)) E_t2_str_str_p
 refine t_RN ?_
 refine t_if (fun hc21 => ?_) fun hc21 => ?_
 ·refine t_RN ?_
  exact k_eW (rT (rT rN)) E_t2_str_str_p
 refine t_RN ?_
 refine t_if (fun hc22 => ?_) fun hc22 => ?_
 ·refine t_RN ?_
  exact k_eW (rT (rT rN)) E_t2_str_str_p
 refine t_RN ?_
 refine t_if (fun hc23 => ?_) fun hc23 => ?_
 ·refine t_RN ?_
  exact k_eW (rT (rT rN)) E_t2_str_str_p
 refine t_RN ?_
 exact k_eW (rT (rT rN)) E_t2_str_str_p
noncomputable def bj_ (a0 : (Sl ByteArray)) (a1 : ByteArray) : Option Int := ((aC_ (S := Int) (R := (Unit ⊕ Int)) (fun st1 => (if (decide (st1 < (a0.l.length : Int))) = true then ((elt a0 st1).bind fun y2 => (if (decide (a1 = y2)) = true then (some (.inr (.inr st1))) else (some (.inl (w4 (st1 + 1)))))) else (some (.inr (.inl ()))))) 0).bind fun y1 => (Sum.elim (fun y1 => (some (-1))) (fun y1 => (some y1)) y1))
theorem dR_ (a0 : (Sl ByteArray)) (a1 : ByteArray) (r : Int) (h : bj_ a0 a1 = some r) : bq_ a0 a1 = some r := by
 unfold bj_ at h
 refine k_W ok_138 E_i64_inj h (fun σ0 => ?_)
 refine t_RN ?_
 refine t_RN ?_
 refine ch_ (fun st1 fr => Sub [(0, a0.t), (1, .str a1), (7, i4 (a0.l.length : Int)), (8, i4 st1)] fr.s ∧ Heap σ0 fr.σ []) (fun y1 e fr => (Sum.elim (fun y => e = (.exit 0) ∧ Sub [] fr.s ∧ Heap σ0 fr.σ []) (fun y => e = .ret ∧ endW Try.prog (Try.f138.results.toList) σ0 (E_i64 y) .ret fr)) y1) (fun hS hH => ⟨(ad_ hS (by kernel_rfl)), hH⟩) (fun st1 x fr h HI => ?_) fun y1 e fr h HF => ?_
 ·obtain ⟨s, σ⟩ := fr; obtain ⟨hS, hH⟩ := HI
  refine t_bk h hS hH ?_
  refine t_RN ?_
  refine t_if (fun hc1 => ?_) fun hc1 => ?_
  ·refine t_RN ?_
   refine t_RU 3 ?_
   refine eJ_ fun y2 rest1 hy2 => ?_
   refine t_N ?_
   refine t_if (fun hc2 => ?_) fun hc2 => ?_
   ·refine t_RN ?_
    exact t_e fun he hS hH => he ▸ ⟨rfl, (eW hS hH (rT rN) E_i64_p)⟩
   refine t_RN ?_
   exact t_e fun he hS hH => he ▸ ⟨(ad_ hS (by kernel_rfl)), hH⟩
  exact t_e fun he hS hH => he ▸ ⟨rfl, (ad_ hS (by kernel_rfl)), hH⟩
 obtain ⟨s, σ⟩ := fr
 rcases y1 with y1 | y1
 ·have h := el_l h
  obtain ⟨rfl, hS, hH⟩ := HF
  refine t_bx h hS hH ?_
  refine t_RN ?_
  exact k_eW (rT rN) E_i64_p
 have h := el_r h
 obtain ⟨rfl, HE⟩ := HF
 obtain rfl := si_1 h; exact HE
noncomputable def de_ (a0 : ByteArray) : Option Bool := (if (decide (1 ≤ (a0.size : Int))) = true then (if (decide ((a0.size : Int) ≤ 12)) = true then ((bU_ a0 0).bind fun y1 => ((bF_ y1).bind fun y2 => (if y2 = true then ((hw_ a0).bind fun y3 => ((cF_ y3 (T.fn 171 [] [])).bind fun y4 => (some y4))) else (some false)))) else (some false)) else (some false))
theorem g1_ (a0 : ByteArray) (r : Bool) (h : de_ a0 = some r) : dw_ a0 = some r := by
 unfold de_ at h
 refine k_W ok_143 E_bool_inj h (fun σ0 => ?_)
 refine t_RN ?_
 refine t_RU 4 ?_
 refine bo_ 6 (fun hc1 => ?_) fun hc1 => ?_
 ·refine t_U 5 ?_
  refine bo_ 11 (fun hc2 => ?_) fun hc2 => ?_
  ·refine t_U 1 ?_
   refine l5_ fun y1 hy1 => ?_
   refine aL_ fun y2 hy2 => ?_
   refine t_U 2 ?_
   refine bo_ 16 (fun hc3 => ?_) fun hc3 => ?_
   ·refine t_U 1 ?_
    intro h s σ hS hH
    obtain ⟨y3, hy3, h⟩ := bind_some h
    refine qe_ (e := 5) rfl hS hH rfl (by kernel_rfl) (by kernel_rfl) (by kernel_rfl) hy3 ?_; intro t1 σ s ht1 hH hS
    refine t_bk h hS hH ?_
    refine ep_ (fun y4 hy4 => ?_) (hh := by exact HC.of (HL.own rfl (HL.leaf (fun σ d => i7_ (by first | assumption | rfl)) HL.nil)))
    refine t_N ?_
    exact k_eW (rT rN) E_bool_p
   refine t_N ?_
   exact k_eW (rT rN) E_bool_p
  refine t_N ?_
  exact k_eW (rT rN) E_bool_p
 refine t_N ?_
 exact k_eW (rT rN) E_bool_p
noncomputable def dz_ (a0 : Int) : Option Bool := ((ba_ a0 2 5).bind fun y1 => (some y1))
theorem g2_ (a0 : Int) (r : Bool) (h : dz_ a0 = some r) : dp_ a0 = some r := by
 unfold dz_ at h
 refine k_W ok_163 E_bool_inj h (fun σ0 => ?_)
 refine t_RN ?_
 refine t_RU 1 ?_
 refine aL_ fun y1 hy1 => ?_
 refine t_N ?_
 exact k_eW (rT rN) E_bool_p
noncomputable def ca_ (a0 : Int) : Option Bool := ((ba_ a0 6 10).bind fun y1 => (some y1))
theorem fb_ (a0 : Int) (r : Bool) (h : ca_ a0 = some r) : cd_ a0 = some r := by
 unfold ca_ at h
 refine k_W ok_164 E_bool_inj h (fun σ0 => ?_)
 refine t_RN ?_
 refine t_RU 1 ?_
 refine aL_ fun y1 hy1 => ?_
 refine t_N ?_
 exact k_eW (rT rN) E_bool_p
noncomputable def cU_ (a0 : Int) : Option Bool := ((ba_ a0 21 24).bind fun y1 => (some y1))
theorem f2_ (a0 : Int) (r : Bool) (h : cU_ a0 = some r) : cS_ a0 = some r := by
 unfold cU_ at h
 refine k_W ok_165 E_bool_inj h (fun σ0 => ?_)
 refine t_RN ?_
 refine t_RU 1 ?_
 refine aL_ fun y1 hy1 => ?_
 refine t_N ?_
 exact k_eW (rT rN) E_bool_p
noncomputable def bs_ (a0 : Int) : Option Bool := ((ba_ a0 1 24).bind fun y1 => (some y1))
theorem d8_ (a0 : Int) (r : Bool) (h : bs_ a0 = some r) : br_ a0 = some r := by
 unfold bs_ at h
 refine k_W ok_166 E_bool_inj h (fun σ0 => ?_)
 refine t_RN ?_
 refine t_RU 1 ?_
 refine aL_ fun y1 hy1 => ?_
 refine t_N ?_
 exact k_eW (rT rN) E_bool_p
noncomputable def dP_ (a0 : Int) : Option Bool := (if (decide (65 ≤ a0)) = true then (if (decide (a0 ≤ 90)) = true then (some true) else (if (decide (97 ≤ a0)) = true then (some (decide (a0 ≤ 122))) else (some false))) else (if (decide (97 ≤ a0)) = true then (some (decide (a0 ≤ 122))) else (some false)))
theorem fX_ (a0 : Int) (r : Bool) (h : dP_ a0 = some r) : bF_ a0 = some r := by
 unfold dP_ at h
 refine k_W ok_169 E_bool_inj h (fun σ0 => ?_)
 refine t_RN ?_
 refine t_RU 3 ?_
 refine bo_ 5 (fun hc1 => ?_) fun hc1 => ?_
 ·refine t_U 4 ?_
  refine bo_ 9 (fun hc2 => ?_) fun hc2 => ?_
  ·refine t_N ?_
   exact k_eW (rT rN) E_bool_p
  refine t_U 3 ?_
  refine bo_ 12 (fun hc3 => ?_) fun hc3 => ?_
  ·refine t_N ?_
   exact k_eW (rT rN) E_bool_p
  refine t_N ?_
  exact k_eW (rT rN) E_bool_p
 refine t_U 7 ?_
 refine bo_ 12 (fun hc4 => ?_) fun hc4 => ?_
 ·refine t_N ?_
  exact k_eW (rT rN) E_bool_p
 refine t_N ?_
 exact k_eW (rT rN) E_bool_p
noncomputable def bP_ (a0 : (Sl (Iv .u8))) (a1 : T) : Option Bool := (if flat1 a1 = true then ((aC_ (S := Int) (R := (Unit ⊕ Bool)) (fun st1 => (if (decide (st1 < (a0.l.length : Int))) = true then ((elt a0 st1).bind fun y2 => ((fV_ Try.prog md ext E_bool a1 [.int .u8 y2.v]).bind fun y3 => (if (!y3) = true then (some (.inr (.inr false))) else (some (.inl (w4 (st1 + 1))))))) else (some (.inr (.inl ()))))) 0).bind fun y1 => (Sum.elim (fun y1 => (some true)) (fun y1 => (some y1)) y1)) else none)
theorem eG_ (a0 : (Sl (Iv .u8))) (a1 : T) (r : Bool) (h : bP_ a0 a1 = some r) : cF_ a0 a1 = some r := by
 unfold bP_ at h
 obtain ⟨hf_a1, h⟩ := h7_ h
 refine k_W ok_170 E_bool_inj h (fun σ0 => ?_) (hf := (all_cons (by kernel_rfl) (all_cons (g5_ hf_a1) all_nil)))
 refine t_RN ?_
 refine t_RN ?_
 refine ch_ (fun st1 fr => Sub [(1, a1), (7, a0.t), (8, i4 (a0.l.length : Int)), (9, i4 st1)] fr.s ∧ Heap σ0 fr.σ []) (fun y1 e fr => (Sum.elim (fun y => e = (.exit 0) ∧ Sub [] fr.s ∧ Heap σ0 fr.σ []) (fun y => e = .ret ∧ endW Try.prog (Try.f170.results.toList) σ0 (E_bool y) .ret fr)) y1) (fun hS hH => ⟨(ad_ hS (by kernel_rfl)), hH⟩) (fun st1 x fr h HI => ?_) fun y1 e fr h HF => ?_
 ·obtain ⟨s, σ⟩ := fr; obtain ⟨hS, hH⟩ := HI
  refine t_bk h hS hH ?_
  refine t_RN ?_
  refine t_if (fun hc1 => ?_) fun hc1 => ?_
  ·refine t_R ?_
   refine eJ_ fun y2 rest1 hy2 => ?_
   refine t_N ?_
   refine t_RU 2 ?_
   refine il_ fun y3 hy3 => ?_
   refine t_N ?_
   refine t_if (fun hc2 => ?_) fun hc2 => ?_
   ·refine t_RN ?_
    exact t_e fun he hS hH => he ▸ ⟨rfl, (eW hS hH (rT rN) E_bool_p)⟩
   refine t_RN ?_
   exact t_e fun he hS hH => he ▸ ⟨(ad_ hS (by kernel_rfl)), hH⟩
  exact t_e fun he hS hH => he ▸ ⟨rfl, (ad_ hS (by kernel_rfl)), hH⟩
 obtain ⟨s, σ⟩ := fr
 rcases y1 with y1 | y1
 ·have h := el_l h
  obtain ⟨rfl, hS, hH⟩ := HF
  refine t_bx h hS hH ?_
  refine t_RN ?_
  exact k_eW (rT rN) E_bool_p
 have h := el_r h
 obtain ⟨rfl, HE⟩ := HF
 obtain rfl := si_1 h; exact HE
noncomputable def bW_ (a0 : Int) : Option Bool := ((bF_ a0).bind fun y1 => (if y1 = true then (some true) else ((cV_ a0).bind fun y2 => (if y2 = true then (some true) else (some (decide (a0 = 95)))))))
theorem eR_ (a0 : Int) (r : Bool) (h : bW_ a0 = some r) : bY_ a0 = some r := by
 unfold bW_ at h
 refine k_W ok_171 E_bool_inj h (fun σ0 => ?_)
 refine t_RN ?_
 refine t_RU 1 ?_
 refine aL_ fun y1 hy1 => ?_
 refine t_U 1 ?_
 refine bo_ 5 (fun hc1 => ?_) fun hc1 => ?_
 ·refine t_N ?_
  exact k_eW (rT rN) E_bool_p
 refine t_U 1 ?_
 refine aL_ fun y2 hy2 => ?_
 refine t_U 2 ?_
 refine bo_ 9 (fun hc2 => ?_) fun hc2 => ?_
 ·refine t_N ?_
  exact k_eW (rT rN) E_bool_p
 refine t_N ?_
 exact k_eW (rT rN) E_bool_p
noncomputable def ea_ (a0 : Int) : Option Bool := (if (decide (48 ≤ a0)) = true then (some (decide (a0 ≤ 57))) else (some false))
theorem f8_ (a0 : Int) (r : Bool) (h : ea_ a0 = some r) : cV_ a0 = some r := by
 unfold ea_ at h
 refine k_W ok_189 E_bool_inj h (fun σ0 => ?_)
 refine t_RN ?_
 refine t_RU 3 ?_
 refine bo_ 5 (fun hc1 => ?_) fun hc1 => ?_
 ·refine t_N ?_
  exact k_eW (rT rN) E_bool_p
 refine t_N ?_
 exact k_eW (rT rN) E_bool_p
end Go.Am
