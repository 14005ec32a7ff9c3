/- Functions of the program. -/
import Derived.Test.YtkgmfmcpbgffpaaAd0
set_option maxRecDepth 100000
set_option maxHeartbeats 4000000
set_option linter.unusedVariables false
set_option linter.unusedSimpArgs false
namespace Go.Am
open Go.Proofs
noncomputable def bf_ (a0 : (Sl (Iv .u8))) : Option Bool := (if (decide (1048576 < (a0.l.length : Int))) = true then (some true) else ((bE_ a0).bind fun y1 => ((cP_ 1 a0).bind fun y2 => ((bE_ y2).bind fun y3 => ((cP_ 2 a0).bind fun y4 => ((bE_ y4).bind fun y5 => ((aC_ (S := (Int × Int × (Sl ByteArray))) (R := (Int × (Sl ByteArray))) (fun st1 => (if (decide (st1.2.1 < ((⟨false, [y1, y3, y5]⟩ : Sl DPattern).l.length : Int))) = true then ((elt (⟨false, [y1, y3, y5]⟩ : Sl DPattern) st1.2.1).bind fun y7 => ((aB_ y7).bind fun y8 => ((elt (⟨false, [y1, y3, y5]⟩ : Sl DPattern) st1.2.1).bind fun y9 => ((ax_ y9).bind fun y10 => ((aC_ (S := (Int × (Sl ByteArray))) (R := (Sl ByteArray)) (fun st2 => (if (decide (st2.1 < (y10.l.length : Int))) = true then ((aC_ (S := (Bool × Int)) (R := Bool) (fun st3 => (if (decide (st3.2 < (st2.2.l.length : Int))) = true then (if st3.1 = true then (some (.inl (true, (w4 (st3.2 + 1))))) else ((elt st2.2 st3.2).bind fun y13 => ((elt y10 st2.1).bind fun y14 => (some (.inl ((decide (y13 = y14)), (w4 (st3.2 + 1)))))))) else (some (.inr st3.1)))) (false, 0)).bind fun y12 => (if (!y12) = true then ((elt y10 st2.1).bind fun y15 => ((appS 16 st2.2 (⟨false, [y15]⟩ : Sl ByteArray)).bind fun y16 => (some (.inl ((w4 (st2.1 + 1)), y16))))) else (some (.inl ((w4 (st2.1 + 1)), st2.2))))) else (some (.inr st2.2)))) (0, st1.2.2)).bind fun y11 => (some (.inl ((w4 (st1.1 + y8)), (w4 (st1.2.1 + 1)), y11)))))))) else (some (.inr (st1.1, st1.2.2))))) (0, 0, (⟨false, []⟩ : Sl ByteArray))).bind fun y6 => ((b8_ ⟨false, [y1, y3, y5]⟩).bind fun y17 => ((dS_ ⟨false, [y1, y3, y5]⟩).bind fun y18 => ((cutS (⟨false, [y1, y3, y5]⟩ : Sl DPattern) 1).bind fun y19 => ((b8_ y19).bind fun y20 => ((ax_ y17.1).bind fun y21 => (if (!y17.2) = true then (some false) else (if (!y18.2) = true then (some false) else (if (!y20.2) = true then (some false) else ((aB_ y17.1).bind fun y22 => (if (!decide (y22 = (w4 (y6.1 + 2)))) = true then (some false) else ((aB_ y18.1).bind fun y23 => (if (!decide (y23 = (w4 (y6.1 + 2)))) = true then (some false) else ((elt (⟨false, [y1, y3, y5]⟩ : Sl DPattern) 0).bind fun y24 => ((bg_ y20.1 y24).bind fun y25 => (if (!y25) = true then (some false) else (if ((!decide ((y21.l.length : Int) = (y6.2.l.length : Int)))) = true then (some false) else ((aC_ (S := Int) (R := (Unit ⊕ Bool)) (fun st4 => (if (decide (st4 < (y21.l.length : Int))) = true then ((elt y21 st4).bind fun y27 => ((elt y6.2 st4).bind fun y28 => (if (!decide (y27 = y28)) = true then (some (.inr (.inr false))) else (some (.inl (w4 (st4 + 1))))))) else (some (.inr (.inl ()))))) 0).bind fun y26 => (Sum.elim (fun y26 => (some true)) (fun y26 => (some y26)) y26)))))))))))))))))))))))))
theorem dB_ (a0 : (Sl (Iv .u8))) (r : Bool) (h : bf_ a0 = some r) : bS_ a0 = some r := by
 unfold bf_ at h
 refine k_W ok_3 E_bool_inj h (fun σ0 => ?_)
 refine t_RN ?_
 refine t_RN ?_
 refine t_if (fun hc1 => ?_) fun hc1 => ?_
 ·refine t_RN ?_
  exact k_eW (rT rN) E_bool_p
 refine t_RU 1 ?_
 refine aL_ fun y1 hy1 => ?_
 refine t_U 1 ?_
 refine aL_ fun y2 hy2 => ?_
 refine aL_ fun y3 hy3 => ?_
 refine t_U 1 ?_
 refine aL_ fun y4 hy4 => ?_
 refine aL_ fun y5 hy5 => ?_
 refine p3_ (⟨false, [y1, y3, y5]⟩ : Sl DPattern) (fun t1 ht1 => ?_)
 refine t_N ?_
 refine t_RN ?_
 refine t_R ?_
 refine oW_ (α := ByteArray) (fun t2 ht2 => ?_)
 refine t_N ?_
 refine t_RN ?_
 refine ch_ (fun st1 fr => ∃ t4, a0_ t4 ∧ Sub [(3, t1), (4, i4 st1.1), (5, t4), (6, i4 st1.2.1)] fr.s ∧ Heap σ0 fr.σ [.flt 4 t1 (Sl.t (⟨false, [y1, y3, y5]⟩ : Sl DPattern)), .own true 1 t4 st1.2.2.t]) (fun y6 e fr => ∃ t5, a0_ t5 ∧ e = (.exit 0) ∧ Sub [(3, t1), (4, i4 y6.1), (5, t5)] fr.s ∧ Heap σ0 fr.σ [.flt 4 t1 (Sl.t (⟨false, [y1, y3, y5]⟩ : Sl DPattern)), .own true 1 t5 y6.2.t]) (fun hS hH => ⟨t2, ht2, (ad_ hS (by kernel_rfl)), (Heap.sel hH [1, 0] rfl (by kernel_rfl))⟩) (fun st1 x fr h HI => ?_) fun y6 e fr h HF => ?_
 ·obtain ⟨s, σ⟩ := fr; obtain ⟨t4, ht4, ⟨hS, hH⟩⟩ := HI
  refine t_bk h hS hH ?_
  refine t_RU 2 ?_
  refine nY_ (a := (⟨false, [y1, y3, y5]⟩ : Sl DPattern)) 0 ?_
  refine t_N ?_
  refine t_if (fun hc2 => ?_) fun hc2 => ?_
  ·refine t_RU 3 ?_
   refine kI_ 0 (fun hb1 hb1e y7 hy7 hl_hb1 => ?_)
   refine ip_ 0 0 hl_hb1 hy7 ?_
   refine aL_ fun y8 hy8 => ?_
   refine t_N ?_
   refine t_RU 2 ?_
   refine kI_ 0 (fun hb2 hb2e y9 hy9 hl_hb2 => ?_)
   refine ip_ 0 0 hl_hb2 hy9 ?_
   refine bL_ (fun y10 t6 hy10 ht6 => ?_)
   refine t_N ?_
   refine t_RN ?_
   refine ch_ (fun st2 fr => ∃ t8, a0_ t8 ∧ Sub [(3, t1), (4, i4 (w4 (st1.1 + y8))), (5, t8), (6, i4 st1.2.1), (7, t6), (8, i4 st2.1)] fr.s ∧ Heap σ0 fr.σ [.flt 4 t1 (Sl.t (⟨false, [y1, y3, y5]⟩ : Sl DPattern)), .own true 1 t8 st2.2.t, .own true 1 t6 y10.t]) (fun y11 e fr => ∃ t9, a0_ t9 ∧ e = (.exit 2) ∧ Sub [(3, t1), (4, i4 (w4 (st1.1 + y8))), (5, t9), (6, i4 st1.2.1)] fr.s ∧ Heap σ0 fr.σ [.flt 4 t1 (Sl.t (⟨false, [y1, y3, y5]⟩ : Sl DPattern)), .own true 1 t9 y11.t]) (fun hS hH => ⟨t4, ht4, (ad_ hS (by kernel_rfl)), (Heap.sel hH [1, 2, 0] rfl (by kernel_rfl))⟩) (fun st2 x fr h HI => ?_) fun y11 e fr h HF => ?_
   ·obtain ⟨s, σ⟩ := fr; obtain ⟨t8, ht8, ⟨hS, hH⟩⟩ := HI
    refine t_bk h hS hH ?_
    refine t_RU 2 ?_
    refine fu_ (a := y10) 2 ?_
    refine t_N ?_
    refine t_if (fun hc3 => ?_) fun hc3 => ?_
    ·refine t_RN ?_
     refine t_RN ?_
     refine ch_ (fun st3 fr => Sub [(3, t1), (4, i4 (w4 (st1.1 + y8))), (5, t8), (6, i4 st1.2.1), (7, t6), (8, i4 st2.1), (9, .bool st3.1), (10, i4 st3.2)] fr.s ∧ Heap σ0 fr.σ [.flt 4 t1 (Sl.t (⟨false, [y1, y3, y5]⟩ : Sl DPattern)), .own true 1 t8 st2.2.t, .own true 1 t6 y10.t]) (fun y12 e fr => e = (.exit 4) ∧ Sub [(3, t1), (4, i4 (w4 (st1.1 + y8))), (5, t8), (6, i4 st1.2.1), (7, t6), (8, i4 st2.1), (9, .bool y12)] fr.s ∧ Heap σ0 fr.σ [.flt 4 t1 (Sl.t (⟨false, [y1, y3, y5]⟩ : Sl DPattern)), .own true 1 t8 st2.2.t, .own true 1 t6 y10.t]) (fun hS hH => ⟨(ad_ hS (by kernel_rfl)), hH⟩) (fun st3 x fr h HI => ?_) fun y12 e fr h HF => ?_
     ·obtain ⟨s, σ⟩ := fr; obtain ⟨hS, hH⟩ := HI
      refine t_bk h hS hH ?_
      refine t_RU 2 ?_
      refine fu_ (a := st2.2) 1 ?_
      refine t_N ?_
      refine t_if (fun hc4 => ?_) fun hc4 => ?_
      ·refine t_D fun mb => ?_
       refine t_U 2 ?_
       refine bo_ 63 (fun hc5 => ?_) fun hc5 => ?_
       ·refine t_N ?_
        refine t_RN ?_
        exact t_e fun he hS hH => he ▸ ⟨(ad_ hS (by kernel_rfl)), hH⟩
       refine t_U 2 ?_
       refine e7_ 1 (fun hb3 hb3e y13 hy13 hl_hb3 => ?_)
       refine ek_ 1 0 hl_hb3 hy13 ?_
       refine t_U 2 ?_
       refine e7_ 2 (fun hb4 hb4e y14 hy14 hl_hb4 => ?_)
       refine ek_ 2 0 hl_hb4 hy14 ?_
       refine t_N ?_
       refine t_RN ?_
       exact t_e fun he hS hH => he ▸ ⟨(ad_ hS (by kernel_rfl)), hH⟩
      exact t_e fun he hS hH => he ▸ ⟨rfl, (ad_ hS (by kernel_rfl)), hH⟩
     obtain ⟨s, σ⟩ := fr
     obtain ⟨rfl, hS, hH⟩ := HF
     refine t_bx h hS hH ?_
     refine t_RN ?_
     refine t_if (fun hc6 => ?_) fun hc6 => ?_
     ·refine t_RU 3 ?_
      refine e7_ 2 (fun hb5 hb5e y15 hy15 hl_hb5 => ?_)
      refine ek_ 2 0 hl_hb5 hy15 ?_
      refine k_bs (z := true) (⟨false, [y15]⟩ : Sl ByteArray) (fun t10 ht10 => ?_)
      refine kF_ 2 0 (fun y16 t11 hy16 ht11 => ?_)
      refine t_N ?_
      refine t_RN ?_
      exact t_e fun he hS hH => he ▸ ⟨t11, ht11, (ad_ hS (by kernel_rfl)), (Heap.sel hH [1, 0, 2] rfl (by kernel_rfl))⟩
     refine t_RN ?_
     exact t_e fun he hS hH => he ▸ ⟨t8, ht8, (ad_ hS (by kernel_rfl)), hH⟩
    exact t_e fun he hS hH => he ▸ ⟨t8, ht8, rfl, (ad_ hS (by kernel_rfl)), (Heap.sel hH [0, 1] rfl (by kernel_rfl))⟩
   obtain ⟨s, σ⟩ := fr
   obtain ⟨t9, ht9, ⟨rfl, hS, hH⟩⟩ := HF
   refine t_bx h hS hH ?_
   refine t_RN ?_
   exact t_e fun he hS hH => he ▸ ⟨t9, ht9, (ad_ hS (by kernel_rfl)), hH⟩
  exact t_e fun he hS hH => he ▸ ⟨t4, ht4, rfl, (ad_ hS (by kernel_rfl)), hH⟩
 obtain ⟨s, σ⟩ := fr
 obtain ⟨t5, ht5, ⟨rfl, hS, hH⟩⟩ := HF
 refine t_bx h hS hH ?_
 refine t_RU 1 ?_
 intro h s σ hS hH
 obtain ⟨y17, hy17, h⟩ := bind_some h
 refine gP_ rfl (ts := [t1]) (vs := [(Sl.t (⟨false, [y1, y3, y5]⟩ : Sl DPattern))]) rfl hS rfl rfl rfl hH (jR_ hH) hy17 ?_; intro hs σ s hl hH hS
 obtain ⟨t12, rfl⟩ := len1 hl
 have hH : Heap σ0 σ [.own true 4 t12 y17.1.Kids.t, .flt 4 t1 (Sl.t (⟨false, [y1, y3, y5]⟩ : Sl DPattern)), .own true 1 t5 y6.2.t] := hH
 have ht12 : a0_ t12 := Heap.one hH
 refine t_bk h hS hH ?_
 refine t_U 3 ?_
 refine aE_ fun b1 => ?_
 refine ag_ 0 ?_ (h1 := by simp [ht12.1, ht12.2])
 refine t_N ?_
 refine t_RU 1 ?_
 refine t_h Heap.up2 ?_
 intro h s σ hS hH
 obtain ⟨y18, hy18, h⟩ := bind_some h
 refine gP_ rfl (ts := [t1]) (vs := [(Sl.t (⟨false, [y1, y3, y5]⟩ : Sl DPattern))]) rfl hS rfl rfl rfl hH (jR_ hH) hy18 ?_; intro hs σ s hl hH hS
 obtain ⟨t13, rfl⟩ := len1 hl
 have hH : Heap σ0 σ [.own true 4 t13 y18.1.Kids.t, .flt 4 t1 (Sl.t (⟨false, [y1, y3, y5]⟩ : Sl DPattern)), .box b1 [i4 y17.1.Kind, i4 y17.1.Num, .str y17.1.Text, t12], .own true 4 t12 y17.1.Kids.t, .own true 1 t5 y6.2.t] := hH
 have ht13 : a0_ t13 := Heap.one hH
 refine t_bk h hS hH ?_
 refine t_U 3 ?_
 refine aE_ fun b2 => ?_
 refine ag_ 0 ?_ (h1 := by simp [ht13.1, ht13.2])
 refine t_N ?_
 refine t_RU 1 ?_
 intro h s σ hS hH
 obtain ⟨y19, hy19, h⟩ := bind_some h
 have hH := hH.up2
 refine oA_ (e := 25) rfl hS hH rfl rfl (by kernel_rfl) (by kernel_rfl) hy19 ?_; intro t14 s hc7 hS
 obtain ⟨y20, hy20, h⟩ := bind_some h
 refine gP_ rfl (ts := [t14]) (vs := [y19.t]) rfl hS rfl rfl rfl hH (hc7 hH) hy20 ?_; intro hs σ s hl hH hS
 obtain ⟨t15, rfl⟩ := len1 hl
 have hH : Heap σ0 σ [.own true 4 t15 y20.1.Kids.t, .flt 4 t1 (Sl.t (⟨false, [y1, y3, y5]⟩ : Sl DPattern)), .box b2 [i4 y18.1.Kind, i4 y18.1.Num, .str y18.1.Text, t13], .own true 4 t13 y18.1.Kids.t, .box b1 [i4 y17.1.Kind, i4 y17.1.Num, .str y17.1.Text, t12], .own true 4 t12 y17.1.Kids.t, .own true 1 t5 y6.2.t] := hH
 have ht15 : a0_ t15 := Heap.one hH
 refine t_bk h hS hH ?_
 refine t_U 3 ?_
 refine aE_ fun b3 => ?_
 refine ag_ 0 ?_ (h1 := by simp [ht15.1, ht15.2])
 refine t_N ?_
 refine t_R ?_
 refine ah_ 5 ?_
 refine t_h Heap.up6 ?_
 refine bL_ (fun y21 t16 hy21 ht16 => ?_)
 refine t_N ?_
 refine t_D fun mb => ?_
 refine t_U 3 ?_
 refine bo_ 103 (fun hc8 => ?_) fun hc8 => ?_
 ·refine t_N ?_
  refine t_cT rfl ?_
  refine t_RN ?_
  exact k_eW (rT rN) E_bool_p
 refine t_U 4 ?_
 refine bo_ 107 (fun hc9 => ?_) fun hc9 => ?_
 ·refine t_N ?_
  refine t_cT rfl ?_
  refine t_RN ?_
  exact k_eW (rT rN) E_bool_p
 refine t_U 4 ?_
 refine bo_ 111 (fun hc10 => ?_) fun hc10 => ?_
 ·refine t_N ?_
  refine t_cT rfl ?_
  refine t_RN ?_
  exact k_eW (rT rN) E_bool_p
 refine ah_ 7 ?_
 refine t_h Heap.up1 ?_
 refine ep_ (fun y22 hy22 => ?_)
 refine t_U 5 ?_
 refine bo_ 118 (fun hc11 => ?_) fun hc11 => ?_
 ·refine t_N ?_
  refine t_cT rfl ?_
  refine t_RN ?_
  exact k_eW (rT rN) E_bool_p
 refine ah_ 5 ?_
 refine t_h Heap.up6 ?_
 refine ep_ (fun y23 hy23 => ?_)
 refine t_U 5 ?_
 refine bo_ 125 (fun hc12 => ?_) fun hc12 => ?_
 ·refine t_N ?_
  refine t_cT rfl ?_
  refine t_RN ?_
  exact k_eW (rT rN) E_bool_p
 refine ah_ 3 ?_
 refine t_U 1 ?_
 refine kI_ 5 (fun hb6 hb6e y24 hy24 hl_hb6 => ?_)
 refine ip_ 5 0 hl_hb6 hy24 ?_
 refine t_h Heap.up4 ?_
 refine ep_ (fun y25 hy25 => ?_)
 refine t_U 3 ?_
 refine bo_ 133 (fun hc13 => ?_) fun hc13 => ?_
 ·refine t_N ?_
  refine t_cT rfl ?_
  refine t_RN ?_
  exact k_eW (rT rN) E_bool_p
 refine t_U 1 ?_
 refine fu_ (a := y21) 3 ?_
 refine t_U 1 ?_
 refine fu_ (a := y6.2) 8 ?_
 refine t_N ?_
 refine t_if (fun hc14 => ?_) fun hc14 => ?_
 ·refine t_RN ?_
  exact k_eW (rT rN) E_bool_p
 refine t_RN ?_
 refine ch_ (fun st4 fr => Sub [(5, t5), (17, t16), (18, i4 st4)] fr.s ∧ Heap σ0 fr.σ [.own true 1 t5 y6.2.t, .own true 1 t16 y21.t]) (fun y26 e fr => (Sum.elim (fun y => e = (.exit 6) ∧ Sub [] fr.s ∧ Heap σ0 fr.σ []) (fun y => e = .ret ∧ endW Try.prog (Try.f3.results.toList) σ0 (E_bool y) .ret fr)) y26) (fun hS hH => ⟨(ad_ hS (by kernel_rfl)), (Heap.sel hH [8, 3] rfl (by kernel_rfl))⟩) (fun st4 x fr h HI => ?_) fun y26 e fr h HF => ?_
 ·obtain ⟨s, σ⟩ := fr; obtain ⟨hS, hH⟩ := HI
  refine t_bk h hS hH ?_
  refine t_RU 2 ?_
  refine fu_ (a := y21) 1 ?_
  refine t_N ?_
  refine t_if (fun hc15 => ?_) fun hc15 => ?_
  ·refine t_D fun mb => ?_
   refine t_U 2 ?_
   refine e7_ 1 (fun hb7 hb7e y27 hy27 hl_hb7 => ?_)
   refine ek_ 1 0 hl_hb7 hy27 ?_
   refine t_U 2 ?_
   refine e7_ 0 (fun hb8 hb8e y28 hy28 hl_hb8 => ?_)
   refine ek_ 0 0 hl_hb8 hy28 ?_
   refine t_N ?_
   refine t_if (fun hc16 => ?_) fun hc16 => ?_
   ·refine t_RN ?_
    exact t_e fun he hS hH => he ▸ ⟨rfl, (eW hS hH (rT rN) E_bool_p)⟩
   refine t_RN ?_
   exact t_e fun he hS hH => he ▸ ⟨(ad_ hS (by kernel_rfl)), hH⟩
  exact t_e fun he hS hH => he ▸ ⟨rfl, (ad_ hS (by kernel_rfl)), (Heap.sel hH [] rfl (by kernel_rfl))⟩
 obtain ⟨s, σ⟩ := fr
 rcases y26 with y26 | y26
 ·have h := el_l h
  obtain ⟨rfl, hS, hH⟩ := HF
  refine t_bx h hS hH ?_
  refine t_RN ?_
  exact k_eW (rT rN) E_bool_p
 have h := el_r h
 obtain ⟨rfl, HE⟩ := HF
 obtain rfl := si_1 h; exact HE
noncomputable def aJ_ (a0 : aa_) : Option (Int × aa_) := (((if (decide (a0.at_ < (a0.code_.l.length : Int))) = true then ((elt a0.code_ a0.at_).bind fun y2 => (some (w4 y2.v))) else (some 0)) : Option Int).bind fun y1 => (if ((decide ((w4 (a0.at_ + 1)) ≤ (a0.code_.l.length : Int)))) = true then (some (y1, (⟨a0.code_, (w4 (a0.at_ + 1)), (IntKind.u64.wrap ((IntKind.u64.wrap ((IntKind.u64.wrap (a0.seed_ * 6364136223846793005)) + (IntKind.u64.wrap y1))) + 1442695040888963407))⟩ : aa_))) else (some ((w4 ((andI .u64 ((((IntKind.u64.wrap ((IntKind.u64.wrap ((IntKind.u64.wrap (a0.seed_ * 6364136223846793005)) + (IntKind.u64.wrap y1))) + 1442695040888963407))).fdiv (2 ^ 40))) 255))), (⟨a0.code_, (w4 (a0.at_ + 1)), (IntKind.u64.wrap ((IntKind.u64.wrap ((IntKind.u64.wrap (a0.seed_ * 6364136223846793005)) + (IntKind.u64.wrap y1))) + 1442695040888963407))⟩ : aa_)))))
theorem cK_ (a0 : aa_) (r : (Int × aa_)) (h : aJ_ a0 = some r) (bp0 : Nat) : RawS Try.prog md ext 114 [.ptr bp0 0 0 3] 0 (fun hs => E_i64 r.1) [.box bp0 (aa_.cells a0)] (fun hs => [.box bp0 (aa_.cells r.2)]) := by
 unfold aJ_ at h
 refine cX_ rfl rfl ok_114 rfl ?_
 intro σ0 σ F σk s hS hH
 have hS := ad_ (L' := [(0, .ptr bp0 0 0 3)]) hS (by kernel_rfl)
 refine t_go h hS hH ?_
 refine t_RN ?_
 refine t_RN ?_
 refine t_D fun mb => ?_
 refine t_U 3 ?_
 refine ah_ 0 ?_
 refine t_U 3 ?_
 refine ah_ 0 ?_
 refine t_N ?_
 refine iz_ 0 (fun y1 e fr => e = .normal ∧ Sub [(0, .ptr bp0 0 0 3), (3, i4 y1)] fr.s ∧ Heap σ0 fr.σ [.box bp0 (aa_.cells a0), .keep F σk]) (fun y1 e fr h HF => ?_) fun y1 => ?_
 ·obtain ⟨s, σ⟩ := fr
  obtain ⟨rfl, hS, hH⟩ := HF
  refine t_bx h hS hH ?_
  refine t_RU 3 ?_
  refine ah_ 0 ?_
  refine t_U 3 ?_
  refine en_ 0 ?_
  refine t_N ?_
  refine t_RU 4 ?_
  refine ah_ 0 ?_
  refine t_U 7 ?_
  refine en_ 0 ?_
  refine t_N ?_
  refine t_D fun mb => ?_
  refine t_U 3 ?_
  refine ah_ 0 ?_
  refine t_U 3 ?_
  refine ah_ 0 ?_
  refine t_N ?_
  refine t_if (fun hc1 => ?_) fun hc1 => ?_
  ·refine t_RN ?_
   intro h s σ hS hH
   obtain rfl := si_1 h
   exact db_ [] (eV_ (v := i4 y1) hS rfl r_nil) rfl rfl hH
  refine t_RU 3 ?_
  refine ah_ 0 ?_
  refine t_N ?_
  intro h s σ hS hH
  obtain rfl := si_1 h
  exact db_ [] (eV_ (v := i4 ((w4 ((andI .u64 ((((IntKind.u64.wrap ((IntKind.u64.wrap ((IntKind.u64.wrap (a0.seed_ * 6364136223846793005)) + (IntKind.u64.wrap y1))) + 1442695040888963407))).fdiv (2 ^ 40))) 255))))) hS rfl r_nil) rfl rfl hH
 refine t_if (fun hc2 => ?_) fun hc2 => ?_
 ·refine t_D fun mb => ?_
  refine t_U 3 ?_
  refine ah_ 0 ?_
  refine t_U 3 ?_
  refine ah_ 0 ?_
  refine eJ_ fun y2 rest1 hy2 => ?_
  refine t_N ?_
  exact t_e fun he hS hH => he ▸ ⟨rfl, (ad_ hS (by kernel_rfl)), hH⟩
 exact t_e fun he hS hH => he ▸ ⟨rfl, (ad_ hS (by kernel_rfl)), hH⟩
noncomputable def au_ (a0 : aa_) (a1 : Int) : Option (Int × aa_) := (if (decide (a1 ≤ 1)) = true then (some (0, a0)) else ((aJ_ a0).bind fun y1 => (if (decide (200 < a1)) = true then ((aJ_ y1.2).bind fun y2 => ((remI (w4 ((w4 (y1.1 * 256)) + y2.1)) a1).bind fun y3 => (some (y3, y2.2)))) else ((remI y1.1 a1).bind fun y4 => (some (y4, y1.2))))))
theorem aZ_ (a0 : aa_) (a1 : Int) (r : (Int × aa_)) (h : au_ a0 a1 = some r) (bp0 : Nat) : RawS Try.prog md ext 65 [.ptr bp0 0 0 3, i4 a1] 0 (fun hs => E_i64 r.1) [.box bp0 (aa_.cells a0)] (fun hs => [.box bp0 (aa_.cells r.2)]) := by
 unfold au_ at h
 refine cX_ rfl rfl ok_65 rfl ?_
 intro σ0 σ F σk s hS hH
 have hS := ad_ (L' := [(0, .ptr bp0 0 0 3), (1, i4 a1)]) hS (by kernel_rfl)
 refine t_go h hS hH ?_
 refine t_RN ?_
 refine t_RN ?_
 refine t_if (fun hc1 => ?_) fun hc1 => ?_
 ·refine t_RN ?_
  intro h s σ hS hH
  obtain rfl := si_1 h
  exact db_ [] (eV_ (v := i4 0) hS rfl r_nil) rfl rfl hH
 refine t_RU 1 ?_
 refine a3_ (fun y1 hs hy1 hl => ?_) (hr := by exact fun y1 hy1 => cK_ _ y1 hy1 bp0)
 obtain rfl := len0 hl
 refine cA_ ?_
 refine t_N ?_
 refine t_RN ?_
 refine t_if (fun hc2 => ?_) fun hc2 => ?_
 ·refine t_RU 3 ?_
  refine a3_ (fun y2 hs hy2 hl => ?_) (hr := by exact fun y2 hy2 => cK_ _ y2 hy2 bp0)
  obtain rfl := len0 hl
  refine cA_ ?_
  refine t_N ?_
  refine t_RU 2 ?_
  intro h s σ hS hH
  obtain ⟨y3, hy3, h⟩ := bind_some h
  refine ma_ rfl hS rfl rfl hy3 ?_; intro s hS
  refine t_bk h hS hH ?_
  refine t_N ?_
  intro h s σ hS hH
  obtain rfl := si_1 h
  exact db_ [] (eV_ (v := i4 y3) hS rfl r_nil) rfl rfl hH
 refine t_RU 2 ?_
 intro h s σ hS hH
 obtain ⟨y4, hy4, h⟩ := bind_some h
 refine ma_ rfl hS rfl rfl hy4 ?_; intro s hS
 refine t_bk h hS hH ?_
 refine t_N ?_
 intro h s σ hS hH
 obtain rfl := si_1 h
 exact db_ [] (eV_ (v := i4 y4) hS rfl r_nil) rfl rfl hH
noncomputable def aS_ (a0 : aa_) (a1 : Int) : Option (Bool × aa_) := ((au_ a0 a1).bind fun y1 => (some ((decide (y1.1 = 0)), y1.2)))
theorem c2_ (a0 : aa_) (a1 : Int) (r : (Bool × aa_)) (h : aS_ a0 a1 = some r) (bp0 : Nat) : RawS Try.prog md ext 109 [.ptr bp0 0 0 3, i4 a1] 0 (fun hs => E_bool r.1) [.box bp0 (aa_.cells a0)] (fun hs => [.box bp0 (aa_.cells r.2)]) := by
 unfold aS_ at h
 refine cX_ rfl rfl ok_109 rfl ?_
 intro σ0 σ F σk s hS hH
 have hS := ad_ (L' := [(0, .ptr bp0 0 0 3), (1, i4 a1)]) hS (by kernel_rfl)
 refine t_go h hS hH ?_
 refine t_RN ?_
 refine t_RU 2 ?_
 refine a3_ (fun y1 hs hy1 hl => ?_) (hr := by exact fun y1 hy1 => aZ_ _ _ y1 hy1 bp0)
 obtain rfl := len0 hl
 refine cA_ ?_
 refine t_N ?_
 intro h s σ hS hH
 obtain rfl := si_1 h
 exact db_ [] (eV_ (v := .bool (decide (y1.1 = 0))) hS rfl r_nil) rfl rfl hH
noncomputable def aD_ (a0 : aa_) (a1 : (Sl ByteArray)) : Option (ByteArray × aa_ × (Sl ByteArray)) := ((au_ a0 (a1.l.length : Int)).bind fun y1 => ((elt a1 y1.1).bind fun y2 => (some (y2, y1.2, a1))))
theorem cD_ (a0 : aa_) (a1 : (Sl ByteArray)) (r : (ByteArray × aa_ × (Sl ByteArray))) (h : aD_ a0 a1 = some r) (bp0 : Nat) (wp1_1 : Nat) (p1_1 : T) : RawS Try.prog md ext 121 [.ptr bp0 0 0 3, p1_1] 0 (fun hs => E_str r.1) [.box bp0 (aa_.cells a0), .own true wp1_1 p1_1 a1.t] (fun hs => [.box bp0 (aa_.cells r.2.1), .own true wp1_1 p1_1 r.2.2.t]) := by
 unfold aD_ at h
 refine cX_ rfl rfl ok_121 rfl ?_
 intro σ0 σ F σk s hS hH
 have hp1_1 : a0_ p1_1 := Heap.one (hH.at 1 rfl)
 have hS := ad_ (L' := [(0, .ptr bp0 0 0 3), (1, p1_1)]) hS (by kernel_rfl)
 refine t_go h hS hH ?_
 refine t_RN ?_
 refine t_RU 3 ?_
 refine fu_ (a := a1) 1 ?_
 refine a3_ (fun y1 hs hy1 hl => ?_) (hr := by exact fun y1 hy1 => aZ_ _ _ y1 hy1 bp0)
 obtain rfl := len0 hl
 refine cA_ ?_
 refine e7_ 1 (fun hb1 hb1e y2 hy2 hl_hb1 => ?_)
 refine ek_ 1 0 hl_hb1 hy2 ?_
 refine t_N ?_
 intro h s σ hS hH
 obtain rfl := si_1 h
 exact db_ [] (eV_ (v := .str y2) hS rfl r_nil) rfl rfl hH
noncomputable def bn_ (a0 : aa_) : Option (ByteArray × aa_) := ((aD_ a0 (⟨false, [⟨#[97]⟩, ⟨#[98]⟩, ⟨#[97, 98]⟩, ⟨#[98, 97]⟩, ⟨#[97, 98, 99]⟩, ⟨#[40]⟩, ⟨#[41]⟩, ⟨#[40, 41]⟩, ⟨#[120]⟩, ⟨#[97, 97]⟩, ⟨#[99]⟩, ⟨#[34]⟩, ⟨#[97, 34, 98]⟩, ⟨#[0]⟩, ⟨#[120, 121]⟩, ⟨#[98, 99]⟩]⟩)).bind fun y1 => (some (y1.1, y1.2.1)))
theorem fE_ (a0 : aa_) (r : (ByteArray × aa_)) (h : bn_ a0 = some r) (bp0 : Nat) : RawS Try.prog md ext 73 [.ptr bp0 0 0 3] 0 (fun hs => E_str r.1) [.box bp0 (aa_.cells a0)] (fun hs => [.box bp0 (aa_.cells r.2)]) := by
 unfold bn_ at h
 refine cX_ rfl rfl ok_73 rfl ?_
 intro σ0 σ F σk s hS hH
 have hS := ad_ (L' := [(0, .ptr bp0 0 0 3)]) hS (by kernel_rfl)
 refine t_go h hS hH ?_
 refine t_RN ?_
 refine t_RU 1 ?_
 refine k_bs (z := true) (⟨false, [⟨#[97]⟩, ⟨#[98]⟩, ⟨#[97, 98]⟩, ⟨#[98, 97]⟩, ⟨#[97, 98, 99]⟩, ⟨#[40]⟩, ⟨#[41]⟩, ⟨#[40, 41]⟩, ⟨#[120]⟩, ⟨#[97, 97]⟩, ⟨#[99]⟩, ⟨#[34]⟩, ⟨#[97, 34, 98]⟩, ⟨#[0]⟩, ⟨#[120, 121]⟩, ⟨#[98, 99]⟩]⟩ : Sl ByteArray) (fun t1 ht1 => ?_)
 refine t_h Heap.up1 ?_
 refine a3_ (fun y1 hs hy1 hl => ?_) (hr := by exact fun y1 hy1 => cD_ _ _ y1 hy1 bp0 1 t1)
 obtain rfl := len0 hl
 refine cA_ ?_
 refine t_N ?_
 intro h s σ hS hH
 obtain rfl := si_1 h
 exact db_ [] (eV_ (v := .str y1.1) hS rfl r_nil) rfl rfl (Heap.sel hH [0, 2] rfl (by kernel_rfl))
noncomputable def aF_ (a0 : aa_) (a1 : (Sl (Iv .i64))) : Option (Int × aa_ × (Sl (Iv .i64))) := ((au_ a0 (a1.l.length : Int)).bind fun y1 => ((elt a1 y1.1).bind fun y2 => (some (y2.v, y1.2, a1))))
theorem cs_ (a0 : aa_) (a1 : (Sl (Iv .i64))) (r : (Int × aa_ × (Sl (Iv .i64)))) (h : aF_ a0 a1 = some r) (bp0 : Nat) (wp1_1 : Nat) (p1_1 : T) : RawS Try.prog md ext 111 [.ptr bp0 0 0 3, p1_1] 0 (fun hs => E_i64 r.1) [.box bp0 (aa_.cells a0), .own true wp1_1 p1_1 a1.t] (fun hs => [.box bp0 (aa_.cells r.2.1), .own true wp1_1 p1_1 r.2.2.t]) := by
 unfold aF_ at h
 refine cX_ rfl rfl ok_111 rfl ?_
 intro σ0 σ F σk s hS hH
 have hp1_1 : a0_ p1_1 := Heap.one (hH.at 1 rfl)
 have hS := ad_ (L' := [(0, .ptr bp0 0 0 3), (1, p1_1)]) hS (by kernel_rfl)
 refine t_go h hS hH ?_
 refine t_RN ?_
 refine t_RU 3 ?_
 refine fu_ (a := a1) 1 ?_
 refine a3_ (fun y1 hs hy1 hl => ?_) (hr := by exact fun y1 hy1 => aZ_ _ _ y1 hy1 bp0)
 obtain rfl := len0 hl
 refine cA_ ?_
 refine e7_ 1 (fun hb1 hb1e y2 hy2 hl_hb1 => ?_)
 refine ek_ 1 0 hl_hb1 hy2 ?_
 refine t_N ?_
 intro h s σ hS hH
 obtain rfl := si_1 h
 exact db_ [] (eV_ (v := i4 y2.v) hS rfl r_nil) rfl rfl hH
noncomputable def bb_ (a0 : aa_) : Option (ByteArray × aa_) := ((aD_ a0 (⟨false, [⟨#[120]⟩, ⟨#[121]⟩, ⟨#[122]⟩, ⟨#[80, 97, 116]⟩, ⟨#[97, 95, 49]⟩]⟩)).bind fun y1 => (some (y1.1, y1.2.1)))
theorem ed_ (a0 : aa_) (r : (ByteArray × aa_)) (h : bb_ a0 = some r) (bp0 : Nat) : RawS Try.prog md ext 113 [.ptr bp0 0 0 3] 0 (fun hs => E_str r.1) [.box bp0 (aa_.cells a0)] (fun hs => [.box bp0 (aa_.cells r.2)]) := by
 unfold bb_ at h
 refine cX_ rfl rfl ok_113 rfl ?_
 intro σ0 σ F σk s hS hH
 have hS := ad_ (L' := [(0, .ptr bp0 0 0 3)]) hS (by kernel_rfl)
 refine t_go h hS hH ?_
 refine t_RN ?_
 refine t_RU 1 ?_
 refine k_bs (z := true) (⟨false, [⟨#[120]⟩, ⟨#[121]⟩, ⟨#[122]⟩, ⟨#[80, 97, 116]⟩, ⟨#[97, 95, 49]⟩]⟩ : Sl ByteArray) (fun t1 ht1 => ?_)
 refine t_h Heap.up1 ?_
 refine a3_ (fun y1 hs hy1 hl => ?_) (hr := by exact fun y1 hy1 => cD_ _ _ y1 hy1 bp0 1 t1)
 obtain rfl := len0 hl
 refine cA_ ?_
 refine t_N ?_
 intro h s σ hS hH
 obtain rfl := si_1 h
 exact db_ [] (eV_ (v := .str y1.1) hS rfl r_nil) rfl rfl (Heap.sel hH [0, 2] rfl (by kernel_rfl))
noncomputable def bd_ (a0 : aa_) : Option (DPattern × aa_) := ((aF_ a0 (⟨false, [⟨1⟩, ⟨1⟩, ⟨1⟩, ⟨2⟩, ⟨3⟩, ⟨4⟩, ⟨5⟩, ⟨6⟩, ⟨6⟩, ⟨7⟩, ⟨8⟩, ⟨9⟩, ⟨10⟩, ⟨11⟩, ⟨12⟩, ⟨12⟩, ⟨13⟩, ⟨14⟩, ⟨15⟩, ⟨16⟩, ⟨17⟩, ⟨23⟩, ⟨24⟩, ⟨24⟩]⟩)).bind fun y1 => ((bu_ y1.1).bind fun y2 => (if (decide (y2.2 = (⟨#[115]⟩ : ByteArray))) = true then ((bn_ y1.2.1).bind fun y3 => (((if (decide (y1.1 = 1)) = true then ((aS_ y3.2 4).bind fun y5 => (some (y5.1, y5.2.code_, y5.2.at_, y5.2.seed_))) else (some (false, y3.2.code_, y3.2.at_, y3.2.seed_))) : Option (Bool × (Sl (Iv .u8)) × Int × Int)).bind fun y4 => (if y4.1 = true then (some ((⟨y1.1, 0, ⟨#[]⟩, ⟨true, []⟩⟩ : DPattern), (⟨y4.2.1, y4.2.2.1, y4.2.2.2⟩ : aa_))) else (some ((⟨y1.1, 0, y3.1, ⟨true, []⟩⟩ : DPattern), (⟨y4.2.1, y4.2.2.1, y4.2.2.2⟩ : aa_)))))) else (if (decide (y2.2 = (⟨#[110]⟩ : ByteArray))) = true then ((au_ y1.2.1 4).bind fun y6 => (some ((⟨y1.1, y6.1, ⟨#[]⟩, ⟨true, []⟩⟩ : DPattern), y6.2))) else (if (decide (y2.2 = (⟨#[120]⟩ : ByteArray))) = true then ((bb_ y1.2.1).bind fun y7 => (some ((⟨y1.1, 0, y7.1, ⟨true, []⟩⟩ : DPattern), y7.2))) else (some ((⟨y1.1, 0, ⟨#[]⟩, ⟨true, []⟩⟩ : DPattern), y1.2.1)))))))
theorem eb_ (a0 : aa_) (r : (DPattern × aa_)) (h : bd_ a0 = some r) (bp0 : Nat) : RawS Try.prog md ext 110 [.ptr bp0 0 0 3] Sh_DPattern.n (fun hs => Sh_DPattern.tree hs r.1) [.box bp0 (aa_.cells a0)] (fun hs => Sh_DPattern.en hs r.1 ++ [.box bp0 (aa_.cells r.2)]) := by
 unfold bd_ at h
 refine cX_ rfl rfl ok_110 rfl ?_
 intro σ0 σ F σk s hS hH
 have hS := ad_ (L' := [(0, .ptr bp0 0 0 3)]) hS (by kernel_rfl)
 refine t_go h hS hH ?_
 refine t_R ?_
 refine aE_ fun b1 => ?_
 refine t_N ?_
 refine t_RU 1 ?_
 refine k_bs (z := true) (⟨false, [⟨1⟩, ⟨1⟩, ⟨1⟩, ⟨2⟩, ⟨3⟩, ⟨4⟩, ⟨5⟩, ⟨6⟩, ⟨6⟩, ⟨7⟩, ⟨8⟩, ⟨9⟩, ⟨10⟩, ⟨11⟩, ⟨12⟩, ⟨12⟩, ⟨13⟩, ⟨14⟩, ⟨15⟩, ⟨16⟩, ⟨17⟩, ⟨23⟩, ⟨24⟩, ⟨24⟩]⟩ : Sl (Iv .i64)) (fun t1 ht1 => ?_)
 refine t_h Heap.up2 ?_
 refine a3_ (fun y1 hs hy1 hl => ?_) (hr := by exact fun y1 hy1 => cs_ _ _ y1 hy1 bp0 1 t1)
 obtain rfl := len0 hl
 refine cA_ ?_
 refine t_N ?_
 refine t_RU 2 ?_
 refine aE_ fun b2 => ?_
 refine ag_ 0 ?_
 refine t_N ?_
 refine t_RU 1 ?_
 refine aL_ fun y2 hy2 => ?_
 refine t_N ?_
 refine t_RN ?_
 refine t_RN ?_
 refine t_if (fun hc1 => ?_) fun hc1 => ?_
 ·refine t_RU 1 ?_
  refine t_h Heap.up1 ?_
  refine a3_ (fun y3 hs hy3 hl => ?_) (hr := by exact fun y3 hy3 => fE_ _ y3 hy3 bp0)
  obtain rfl := len0 hl
  refine cA_ ?_
  refine t_U 1 ?_
  refine en_ 1 ?_
  refine t_N ?_
  refine iz_ 0 (fun y4 e fr => e = .normal ∧ Sub [(2, .ptr b1 0 0 4), (4, .ptr b2 0 0 4), (28, .bool y4.1)] fr.s ∧ Heap σ0 fr.σ [.box b2 [i4 y1.1, i4 0, .str y3.1, (nt DPattern)], .box bp0 [y4.2.1.t, i4 y4.2.2.1, .int .u64 y4.2.2.2], .box b1 [i4 0, i4 0, .str ⟨#[]⟩, (nt DPattern)], .keep F σk]) (fun y4 e fr h HF => ?_) fun y4 => ?_
  ·obtain ⟨s, σ⟩ := fr
   obtain ⟨rfl, hS, hH⟩ := HF
   refine t_bx h hS hH ?_
   refine t_if (fun hc2 => ?_) fun hc2 => ?_
   ·refine t_RU 1 ?_
    refine en_ 0 ?_
    refine t_N ?_
    refine t_R ?_
    refine ah_ 0 ?_
    refine ag_ 2 ?_
    refine t_N ?_
    intro h s σ hS hH
    obtain rfl := si_1 h
    have hH := Heap.addNil hH true 4
    exact db_ [(T.row true 0 [])] (dV_ (v := .agg [i4 y1.1, i4 0, .str ⟨#[]⟩, (nt DPattern)]) hS (hH.at 1 rfl) rfl (by kernel_rfl) r_nil) rfl rfl (Heap.sel hH [0, 3, 4] rfl (by kernel_rfl))
   refine t_R ?_
   refine ah_ 0 ?_
   refine ag_ 2 ?_
   refine t_N ?_
   intro h s σ hS hH
   obtain rfl := si_1 h
   have hH := Heap.addNil hH true 4
   exact db_ [(T.row true 0 [])] (dV_ (v := .agg [i4 y1.1, i4 0, .str y3.1, (nt DPattern)]) hS (hH.at 1 rfl) rfl (by kernel_rfl) r_nil) rfl rfl (Heap.sel hH [0, 3, 4] rfl (by kernel_rfl))
  refine t_RU 3 ?_
  refine bo_ 25 (fun hc3 => ?_) fun hc3 => ?_
  ·refine t_U 1 ?_
   refine t_h Heap.up1 ?_
   refine a3_ (fun y5 hs hy5 hl => ?_) (hr := by exact fun y5 hy5 => c2_ _ _ y5 hy5 bp0)
   obtain rfl := len0 hl
   refine cA_ ?_
   refine t_N ?_
   exact t_e fun he hS hH => he ▸ ⟨rfl, (ad_ hS (by kernel_rfl)), (Heap.sel hH [1, 0, 3, 4] rfl (by kernel_rfl))⟩
  refine t_N ?_
  exact t_e fun he hS hH => he ▸ ⟨rfl, (ad_ hS (by kernel_rfl)), (Heap.sel hH [0, 1, 3, 4] rfl (by kernel_rfl))⟩
 refine t_RN ?_
 refine t_if (fun hc4 => ?_) fun hc4 => ?_
 ·refine t_RU 1 ?_
  refine t_h Heap.up1 ?_
  refine a3_ (fun y6 hs hy6 hl => ?_) (hr := by exact fun y6 hy6 => aZ_ _ _ y6 hy6 bp0)
  obtain rfl := len0 hl
  refine cA_ ?_
  refine t_U 1 ?_
  refine en_ 1 ?_
  refine t_N ?_
  refine t_R ?_
  refine ah_ 0 ?_
  refine ag_ 3 ?_
  refine t_N ?_
  intro h s σ hS hH
  obtain rfl := si_1 h
  have hH := Heap.addNil hH true 4
  exact db_ [(T.row true 0 [])] (dV_ (v := .agg [i4 y1.1, i4 y6.1, .str ⟨#[]⟩, (nt DPattern)]) hS (hH.at 1 rfl) rfl (by kernel_rfl) r_nil) rfl rfl (Heap.sel hH [0, 3, 5] rfl (by kernel_rfl))
 refine t_RN ?_
 refine t_if (fun hc5 => ?_) fun hc5 => ?_
 ·refine t_RU 1 ?_
  refine t_h Heap.up1 ?_
  refine a3_ (fun y7 hs hy7 hl => ?_) (hr := by exact fun y7 hy7 => ed_ _ y7 hy7 bp0)
  obtain rfl := len0 hl
  refine cA_ ?_
  refine t_U 1 ?_
  refine en_ 1 ?_
  refine t_N ?_
  refine t_R ?_
  refine ah_ 0 ?_
  refine ag_ 3 ?_
  refine t_N ?_
  intro h s σ hS hH
  obtain rfl := si_1 h
  have hH := Heap.addNil hH true 4
  exact db_ [(T.row true 0 [])] (dV_ (v := .agg [i4 y1.1, i4 0, .str y7.1, (nt DPattern)]) hS (hH.at 1 rfl) rfl (by kernel_rfl) r_nil) rfl rfl (Heap.sel hH [0, 3, 5] rfl (by kernel_rfl))
 refine t_R ?_
 refine ah_ 0 ?_
 refine ag_ 3 ?_
 refine t_N ?_
 intro h s σ hS hH
 obtain rfl := si_1 h
 have hH := Heap.addNil hH true 4
 exact db_ [(T.row true 0 [])] (dV_ (v := .agg [i4 y1.1, i4 0, .str ⟨#[]⟩, (nt DPattern)]) hS (hH.at 1 rfl) rfl (by kernel_rfl) r_nil) rfl rfl (Heap.sel hH [0, 3, 5] rfl (by kernel_rfl))
def cn_ (R : aa_ → Int → Option (DPattern × aa_)) : Prop := ∀ (a0 : aa_) (a1 : Int) (r : (DPattern × aa_)), R a0 a1 = some r → ∀ (bp0 : Nat), RawS Try.prog md ext 64 [.ptr bp0 0 0 3, i4 a1] Sh_DPattern.n (fun hs => Sh_DPattern.tree hs r.1) [.box bp0 (aa_.cells a0)] (fun hs => Sh_DPattern.en hs r.1 ++ [.box bp0 (aa_.cells r.2)])
noncomputable def aT_ (R_64 : aa_ → Int → Option (DPattern × aa_)) (a0 : aa_) (a1 : Int) : Option (DPattern × aa_) := (if (decide (a1 ≤ 0)) = true then ((bd_ a0).bind fun y1 => (some (y1.1, y1.2))) else ((aS_ a0 4).bind fun y2 => (if y2.1 = true then ((bd_ y2.2).bind fun y3 => (some (y3.1, y3.2))) else ((aF_ y2.2 (⟨false, [⟨18⟩, ⟨18⟩, ⟨19⟩, ⟨19⟩, ⟨19⟩, ⟨20⟩, ⟨21⟩, ⟨22⟩]⟩)).bind fun y4 => ((bu_ y4.1).bind fun y5 => ((aC_ (S := (Int × (Sl (Iv .u8)) × Int × Int × (Sl DPattern))) (R := ((Sl (Iv .u8)) × Int × Int × (Sl DPattern))) (fun st1 => (if (decide (st1.1 < y5.1)) = true then ((R_64 (⟨st1.2.1, st1.2.2.1, st1.2.2.2.1⟩ : aa_) (w4 (a1 - 1))).bind fun y7 => ((appS 56 st1.2.2.2.2 (⟨false, [y7.1]⟩ : Sl DPattern)).bind fun y8 => (some (.inl ((w4 (st1.1 + 1)), y7.2.code_, y7.2.at_, y7.2.seed_, y8))))) else (some (.inr (st1.2.1, st1.2.2.1, st1.2.2.2.1, st1.2.2.2.2))))) (0, y4.2.1.code_, y4.2.1.at_, y4.2.1.seed_, (⟨true, []⟩ : Sl DPattern))).bind fun y6 => (if (decide (y5.2 = (⟨#[120]⟩ : ByteArray))) = true then ((bb_ (⟨y6.1, y6.2.1, y6.2.2.1⟩ : aa_)).bind fun y9 => (some ((⟨y4.1, 0, y9.1, y6.2.2.2⟩ : DPattern), y9.2))) else (some ((⟨y4.1, 0, ⟨#[]⟩, y6.2.2.2⟩ : DPattern), (⟨y6.1, y6.2.1, y6.2.2.1⟩ : aa_))))))))))
theorem fP_ (R_64 : aa_ → Int → Option (DPattern × aa_)) (hR_64 : cn_ R_64) : cn_ (aT_ R_64) := by
 intro a0 a1 r h bp0
 unfold aT_ at h
 refine cX_ rfl rfl ok_64 rfl ?_
 intro σ0 σ F σk s hS hH
 have hS := ad_ (L' := [(0, .ptr bp0 0 0 3), (1, i4 a1)]) hS (by kernel_rfl)
 refine t_go h hS hH ?_
 refine t_R ?_
 refine aE_ fun b1 => ?_
 refine t_N ?_
 refine t_RU 3 ?_
 refine bo_ 12 (fun hc1 => ?_) fun hc1 => ?_
 ·refine t_N ?_
  refine t_cT rfl ?_
  refine t_RU 1 ?_
  refine t_h Heap.up1 ?_
  refine a3_ (fun y1 hs hy1 hl => ?_) (hr := by exact fun y1 hy1 => eb_ _ y1 hy1 bp0)
  obtain ⟨t1, rfl⟩ := len1 hl
  refine cA_ ?_
  refine jm_ 0 fun ht1 => ?_
  refine ag_ 2 ?_ (h1 := by simp [ht1.1, ht1.2])
  refine t_N ?_
  intro h s σ hS hH
  obtain rfl := si_1 h
  exact db_ [t1] (dV_ (v := .agg [i4 y1.1.Kind, i4 y1.1.Num, .str y1.1.Text, t1]) hS hH rfl (by kernel_rfl) r_nil) rfl rfl (Heap.sel hH [1, 2, 3] rfl (by kernel_rfl))
 refine t_U 1 ?_
 refine t_h Heap.up1 ?_
 refine a3_ (fun y2 hs hy2 hl => ?_) (hr := by exact fun y2 hy2 => c2_ _ _ y2 hy2 bp0)
 obtain rfl := len0 hl
 refine cA_ ?_
 refine t_N ?_
 refine t_if (fun hc2 => ?_) fun hc2 => ?_
 ·refine t_RU 1 ?_
  refine a3_ (fun y3 hs hy3 hl => ?_) (hr := by exact fun y3 hy3 => eb_ _ y3 hy3 bp0)
  obtain ⟨t2, rfl⟩ := len1 hl
  refine cA_ ?_
  refine jm_ 0 fun ht2 => ?_
  refine ag_ 2 ?_ (h1 := by simp [ht2.1, ht2.2])
  refine t_N ?_
  intro h s σ hS hH
  obtain rfl := si_1 h
  exact db_ [t2] (dV_ (v := .agg [i4 y3.1.Kind, i4 y3.1.Num, .str y3.1.Text, t2]) hS hH rfl (by kernel_rfl) r_nil) rfl rfl (Heap.sel hH [1, 2, 3] rfl (by kernel_rfl))
 refine t_RU 1 ?_
 refine k_bs (z := true) (⟨false, [⟨18⟩, ⟨18⟩, ⟨19⟩, ⟨19⟩, ⟨19⟩, ⟨20⟩, ⟨21⟩, ⟨22⟩]⟩ : Sl (Iv .i64)) (fun t3 ht3 => ?_)
 refine t_h Heap.up1 ?_
 refine a3_ (fun y4 hs hy4 hl => ?_) (hr := by exact fun y4 hy4 => cs_ _ _ y4 hy4 bp0 1 t3)
 obtain rfl := len0 hl
 refine cA_ ?_
 refine t_N ?_
 refine t_RU 2 ?_
 refine aE_ fun b2 => ?_
 refine ag_ 0 ?_
 refine t_N ?_
 refine t_RU 1 ?_
 refine aL_ fun y5 hy5 => ?_
 refine t_N ?_
 refine t_RN ?_
 refine t_h (Heap.addNil · true 4) ?_
 refine ch_ (fun st1 fr => ∃ t5, a0_ t5 ∧ Sub [(0, .ptr bp0 0 0 3), (1, i4 a1), (4, .ptr b1 0 0 4), (6, .ptr b2 0 0 4), (7, i4 y5.1), (8, .str y5.2), (9, i4 st1.1)] fr.s ∧ Heap σ0 fr.σ [.box b2 [i4 y4.1, i4 0, .str ⟨#[]⟩, t5], .box bp0 [st1.2.1.t, i4 st1.2.2.1, .int .u64 st1.2.2.2.1], .box b1 [i4 0, i4 0, .str ⟨#[]⟩, (nt DPattern)], .own true 4 t5 st1.2.2.2.2.t, .keep F σk]) (fun y6 e fr => ∃ t6, a0_ t6 ∧ e = (.exit 0) ∧ Sub [(0, .ptr bp0 0 0 3), (4, .ptr b1 0 0 4), (6, .ptr b2 0 0 4), (8, .str y5.2)] fr.s ∧ Heap σ0 fr.σ [.box b2 [i4 y4.1, i4 0, .str ⟨#[]⟩, t6], .box bp0 [y6.1.t, i4 y6.2.1, .int .u64 y6.2.2.1], .box b1 [i4 0, i4 0, .str ⟨#[]⟩, (nt DPattern)], .own true 4 t6 y6.2.2.2.t, .keep F σk]) (fun hS hH => ⟨(T.row true 0 []), ⟨rfl, rfl⟩, (ad_ hS (by kernel_rfl)), (Heap.sel hH [1, 2, 4, 0, 5] rfl (by kernel_rfl))⟩) (fun st1 x fr h HI => ?_) fun y6 e fr h HF => ?_
 ·obtain ⟨s, σ⟩ := fr; obtain ⟨t5, ht5, ⟨hS, hH⟩⟩ := HI
  refine t_bk h hS hH ?_
  refine t_RN ?_
  refine t_if (fun hc3 => ?_) fun hc3 => ?_
  ·refine fv_ [(5, (RB b2 RN)), (7, RN), (9, RN)] ext_x fun mb σs hn0 hlt hlto => ?_
   have hlt_b2 : b2 < mb := hlt b2 _ (List.Mem.head _)
   refine t_U 1 ?_
   refine ah_ 0 ?_ (hlt := by exact (Or.inr ⟨hlt_b2, (Wc.cons (.inr (Or.inl rfl)) (Wc.cons (.inl (by kernel_rfl)) (Wc.cons (.inl (by kernel_rfl)) Wc.nil)))⟩))
   refine t_U 3 ?_
   refine t_h Heap.up1 ?_
   refine lI_ (RB b2 RN) ext_x (Stay.box (List.Mem.head _) Stay.nil) (by exact fun x hx => Or.inr ⟨5, by kernel_rfl, hx⟩) (fun y7 hs hy7 hl => ?_) (hr := by exact fun y7 hy7 => hR_64 _ _ y7 hy7 bp0)
   obtain ⟨t7, rfl⟩ := len1 hl
   refine cA_ ?_
   refine jm_ 0 fun ht7 => ?_
   refine k_bs (z := true) (⟨false, [y7.1]⟩ : Sl DPattern) (fun t8 ht8 => ?_) (hb := by exact hn0) (h1 := by simp [ht7.1, ht7.2])
   refine kF_ 4 0 (fun y8 t9 hy8 ht9 => ?_) (hb := by exact hn0) (hwr := by exact fun hH b e o n h0 => Or.inr ⟨7, by kernel_rfl, fun h => h⟩)
   refine t_U 1 ?_
   refine g4_ 2 ht9 ?_ (hwr := by exact fun hH => Or.inr ⟨9, by kernel_rfl, fun h => h⟩)
   refine t_N ?_
   refine t_RN ?_
   exact t_e fun he hS hH => he ▸ ⟨t9, ht9, (ad_ hS (by kernel_rfl)), (Heap.sel hH [0, 2, 3, 1, 4] rfl (by kernel_rfl))⟩
  exact t_e fun he hS hH => he ▸ ⟨t5, ht5, rfl, (ad_ hS (by kernel_rfl)), hH⟩
 obtain ⟨s, σ⟩ := fr
 obtain ⟨t6, ht6, ⟨rfl, hS, hH⟩⟩ := HF
 refine t_bx h hS hH ?_
 refine t_RN ?_
 refine t_if (fun hc4 => ?_) fun hc4 => ?_
 ·refine t_RU 1 ?_
  refine t_h Heap.up1 ?_
  refine a3_ (fun y9 hs hy9 hl => ?_) (hr := by exact fun y9 hy9 => ed_ _ y9 hy9 bp0)
  obtain rfl := len0 hl
  refine cA_ ?_
  refine t_U 1 ?_
  refine en_ 1 ?_
  refine t_N ?_
  refine t_R ?_
  refine ah_ 0 ?_
  refine ag_ 2 ?_ (h1 := by simp [ht6.1, ht6.2])
  refine t_N ?_
  intro h s σ hS hH
  obtain rfl := si_1 h
  exact db_ [t6] (dV_ (v := .agg [i4 y4.1, i4 0, .str y9.1, t6]) hS hH rfl (by kernel_rfl) r_nil) rfl rfl (Heap.sel hH [3, 2, 4] rfl (by kernel_rfl))
 refine t_R ?_
 refine ah_ 0 ?_
 refine ag_ 2 ?_ (h1 := by simp [ht6.1, ht6.2])
 refine t_N ?_
 intro h s σ hS hH
 obtain rfl := si_1 h
 exact db_ [t6] (dV_ (v := .agg [i4 y4.1, i4 0, .str ⟨#[]⟩, t6]) hS hH rfl (by kernel_rfl) r_nil) rfl rfl (Heap.sel hH [3, 2, 4] rfl (by kernel_rfl))
noncomputable def BG_spec_l11Draw : Nat → (aa_ → Int → Option (DPattern × aa_))
 | 0 => (fun _ _ => none)
 | n + 1 => aT_ (BG_spec_l11Draw n)
theorem uBG_spec_l11Draw : ∀ n, cn_ ((BG_spec_l11Draw n))
 | 0 => (by intro _ _ r h; have h : none = some r := h; cases h)
 | n + 1 => fP_ (BG_spec_l11Draw n) (uBG_spec_l11Draw n)
noncomputable def cW_ (a0 : aa_) (a1 : Int) : Option (DPattern × aa_) := (BG_spec_l11Draw bigN) a0 a1
theorem f9_ (a0 : aa_) (a1 : Int) (r : (DPattern × aa_)) (h : cW_ a0 a1 = some r) (bp0 : Nat) : RawS Try.prog md ext 64 [.ptr bp0 0 0 3, i4 a1] Sh_DPattern.n (fun hs => Sh_DPattern.tree hs r.1) [.box bp0 (aa_.cells a0)] (fun hs => Sh_DPattern.en hs r.1 ++ [.box bp0 (aa_.cells r.2)]) := (uBG_spec_l11Draw bigN) a0 a1 r h bp0
noncomputable def dk_ (a0 : (Sl (Iv .u8))) : Option DPattern := ((au_ (⟨a0, 0, 0⟩ : aa_) 3).bind fun y1 => ((cW_ y1.2 y1.1).bind fun y2 => ((be_ y2.1).bind fun y3 => (some y3))))
theorem gN_ (a0 : (Sl (Iv .u8))) (r : DPattern) (h : dk_ a0 = some r) : bE_ a0 = some r := by
 unfold dk_ at h
 refine k_W ok_15 E_DPattern_inj h (fun σ0 => ?_)
 refine t_R ?_
 refine aE_ fun b1 => ?_
 refine t_N ?_
 refine t_RU 1 ?_
 refine mM_ ok_62 ?_
 refine t_RN ?_
 refine t_RU 2 ?_
 refine dZ_ (fun b2 => ?_)
 refine t_N ?_
 refine k_eI (rT rN) ?_
 refine t_N ?_
 refine t_RU 2 ?_
 refine a3_ (fun y1 hs hy1 hl => ?_) (hr := by exact fun y1 hy1 => aZ_ _ _ y1 hy1 b2)
 obtain rfl := len0 hl
 refine cA_ ?_
 refine a3_ (fun y2 hs hy2 hl => ?_) (hr := by exact fun y2 hy2 => f9_ _ _ y2 hy2 b2)
 obtain ⟨t1, rfl⟩ := len1 hl
 refine cA_ ?_
 refine jm_ 0 fun ht1 => ?_
 refine bL_ (fun y3 t2 hy3 ht2 => ?_)
 refine ag_ 3 ?_ (h1 := by simp [ht2.1, ht2.2])
 refine t_N ?_
 intro h s σ hS hH
 obtain rfl := si_1 h
 have hH := hH.up1
 exact nN_ (ents := [.own true 4 t2 y3.Kids.t]) (z := false) hH (dV_ (v := .agg [i4 y3.Kind, i4 y3.Num, .str y3.Text, t2]) hS (hH.at 1 rfl) rfl (by kernel_rfl) r_nil) (HL.agg (es1 := [.own true 4 t2 y3.Kids.t]) (es2 := []) (HLi (HLi (HLs (HL.own rfl HL.nil)))) HL.nil) (by simp [pureT, pureL, E_DPattern])
noncomputable def dX_ (a0 : Int) (a1 : (Sl (Iv .u8))) : Option (Sl (Iv .u8)) := ((appS 1 ((⟨false, [⟨(IntKind.u8.wrap a0)⟩]⟩ : Sl (Iv .u8))) a1).bind fun y1 => (some y1))
theorem hU_ (a0 : Int) (a1 : (Sl (Iv .u8))) (r : (Sl (Iv .u8))) (h : dX_ a0 a1 = some r) : cP_ a0 a1 = some r := by
 unfold dX_ at h
 refine k_W ok_16 E_sl_u8_inj h (fun σ0 => ?_)
 refine t_RN ?_
 refine t_RU 2 ?_
 refine k_bs (z := true) (⟨false, [⟨(IntKind.u8.wrap a0)⟩]⟩ : Sl (Iv .u8)) (fun t1 ht1 => ?_)
 refine t_U 1 ?_
 refine nJ_ 0 (fun y1 t2 hy1 ht2 => ?_)
 refine t_N ?_
 intro h s σ hS hH
 obtain rfl := si_1 h
 exact nN_ (ents := [.own true 1 t2 y1.t]) (z := false) hH (eV_ (v := t2) hS rfl r_nil) (HL.own rfl HL.nil) (by simp [pureT, pureL, E_sl_u8])
noncomputable def bZ_ (a0 : DPattern) : Option Int := ((aC_ (S := (Int × Int)) (R := Int) (fun st1 => (if (decide (st1.2 < (a0.Kids.l.length : Int))) = true then ((elt a0.Kids st1.2).bind fun y2 => ((aB_ y2).bind fun y3 => (some (.inl ((w4 (st1.1 + y3)), (w4 (st1.2 + 1))))))) else (some (.inr st1.1)))) (1, 0)).bind fun y1 => (some y1))
theorem eS_ (a0 : DPattern) (r : Int) (h : bZ_ a0 = some r) : aB_ a0 = some r := by
 unfold bZ_ at h
 refine k_W ok_17 E_i64_inj h (fun σ0 => ?_)
 refine t_R ?_
 refine dZ_ (fun b1 => ?_)
 refine t_N ?_
 refine t_RN ?_
 refine t_RU 1 ?_
 refine ah_ 0 ?_
 refine t_N ?_
 refine ch_ (fun st1 fr => Sub [(3, i4 st1.1), (7, a0.Kids.t), (8, i4 (a0.Kids.l.length : Int)), (9, i4 st1.2)] fr.s ∧ Heap σ0 fr.σ []) (fun y1 e fr => e = (.exit 0) ∧ Sub [(3, i4 y1)] fr.s ∧ Heap σ0 fr.σ []) (fun hS hH => ⟨(ad_ hS (by kernel_rfl)), (Heap.sel hH [] rfl (by kernel_rfl))⟩) (fun st1 x fr h HI => ?_) fun y1 e fr h HF => ?_
 ·obtain ⟨s, σ⟩ := fr; obtain ⟨hS, hH⟩ := HI
  refine t_bk h hS hH ?_
  refine t_RN ?_
  refine t_if (fun hc1 => ?_) fun hc1 => ?_
  ·refine t_R ?_
   refine eJ_ fun y2 rest1 hy2 => ?_
   refine t_U 1 ?_
   refine aE_ fun b2 => ?_
   refine ag_ 0 ?_
   refine t_N ?_
   refine t_RU 1 ?_
   refine ah_ 0 ?_
   refine aL_ fun y3 hy3 => ?_
   refine t_N ?_
   refine t_RN ?_
   exact t_e fun he hS hH => he ▸ ⟨(ad_ hS (by kernel_rfl)), (Heap.sel hH [] rfl (by kernel_rfl))⟩
  exact t_e fun he hS hH => he ▸ ⟨rfl, (ad_ hS (by kernel_rfl)), hH⟩
 obtain ⟨s, σ⟩ := fr
 obtain ⟨rfl, hS, hH⟩ := HF
 refine t_bx h hS hH ?_
 refine t_RN ?_
 exact k_eW (rT rN) E_i64_p
def a6_ (R : DPattern → (Sl ByteArray) → Option (Sl ByteArray)) : Prop := ∀ (a0 : DPattern) (a1 : (Sl ByteArray)) (r : (Sl ByteArray)), R a0 a1 = some r → ∀ (p1_1 : T), RawS Try.prog md ext 66 [.agg [i4 a0.Kind, i4 a0.Num, .str a0.Text, a0.Kids.t], p1_1] Sh_sl_str.n (fun hs => Sh_sl_str.tree hs r) [.own true 1 p1_1 a1.t] (fun hs => Sh_sl_str.en hs r ++ [])
noncomputable def aA_ (R_66 : DPattern → (Sl ByteArray) → Option (Sl ByteArray)) (a0 : DPattern) (a1 : (Sl ByteArray)) : Option (Sl ByteArray) := (((if (decide (a0.Kind = 24)) = true then ((aK_ a1 a0.Text).bind fun y7 => (some (!y7))) else (some false)) : Option Bool).bind fun y1 => (((if y1 = true then ((appS 16 a1 (⟨false, [a0.Text]⟩ : Sl ByteArray)).bind fun y6 => (some y6)) else (some a1)) : Option (Sl ByteArray)).bind fun y2 => ((aC_ (S := (Int × (Sl ByteArray))) (R := (Sl ByteArray)) (fun st1 => (if (decide (st1.1 < (a0.Kids.l.length : Int))) = true then ((elt a0.Kids st1.1).bind fun y4 => ((R_66 y4 st1.2).bind fun y5 => (some (.inl ((w4 (st1.1 + 1)), y5))))) else (some (.inr st1.2)))) (0, y2)).bind fun y3 => (some y3))))
theorem c3_ (R_66 : DPattern → (Sl ByteArray) → Option (Sl ByteArray)) (hR_66 : a6_ R_66) : a6_ (aA_ R_66) := by
 intro a0 a1 r h p1_1
 unfold aA_ at h
 refine cX_ rfl rfl ok_66 rfl ?_
 intro σ0 σ F σk s hS hH
 have hp1_1 : a0_ p1_1 := Heap.one hH
 have hS := ad_ (L' := [(0, .agg [i4 a0.Kind, i4 a0.Num, .str a0.Text, a0.Kids.t]), (1, p1_1)]) hS (by kernel_rfl)
 refine t_go h hS hH ?_
 refine t_R ?_
 refine dZ_ (fun b1 => ?_)
 refine t_N ?_
 refine iz_ 0 (fun y1 e fr => e = .normal ∧ Sub [(1, p1_1), (2, .ptr b1 0 0 4), (16, .bool y1)] fr.s ∧ Heap σ0 fr.σ [.box b1 [i4 a0.Kind, i4 a0.Num, .str a0.Text, a0.Kids.t], .own true 1 p1_1 a1.t, .keep F σk]) (fun y1 e fr h HF => ?_) fun y1 => ?_
 ·obtain ⟨s, σ⟩ := fr
  obtain ⟨rfl, hS, hH⟩ := HF
  refine t_bx h hS hH ?_
  refine iz_ 0 (fun y2 e fr => ∃ t1, a0_ t1 ∧ e = .normal ∧ Sub [(1, t1), (2, .ptr b1 0 0 4)] fr.s ∧ Heap σ0 fr.σ [.box b1 [i4 a0.Kind, i4 a0.Num, .str a0.Text, a0.Kids.t], .own true 1 t1 y2.t, .keep F σk]) (fun y2 e fr h HF => ?_) fun y2 => ?_
  ·obtain ⟨s, σ⟩ := fr
   obtain ⟨t1, ht1, ⟨rfl, hS, hH⟩⟩ := HF
   refine t_bx h hS hH ?_
   refine t_RU 1 ?_
   refine ah_ 0 ?_
   refine t_N ?_
   refine ch_ (fun st1 fr => ∃ t3, a0_ t3 ∧ Sub [(1, t3), (23, a0.Kids.t), (24, i4 (a0.Kids.l.length : Int)), (25, i4 st1.1)] fr.s ∧ Heap σ0 fr.σ [.own true 1 t3 st1.2.t, .keep F σk]) (fun y3 e fr => ∃ t4, a0_ t4 ∧ e = (.exit 0) ∧ Sub [(1, t4)] fr.s ∧ Heap σ0 fr.σ [.own true 1 t4 y3.t, .keep F σk]) (fun hS hH => ⟨t1, ht1, (ad_ hS (by kernel_rfl)), (Heap.sel hH [1, 2] rfl (by kernel_rfl))⟩) (fun st1 x fr h HI => ?_) fun y3 e fr h HF => ?_
   ·obtain ⟨s, σ⟩ := fr; obtain ⟨t3, ht3, ⟨hS, hH⟩⟩ := HI
    refine t_bk h hS hH ?_
    refine t_RN ?_
    refine t_if (fun hc1 => ?_) fun hc1 => ?_
    ·refine t_R ?_
     refine eJ_ fun y4 rest1 hy4 => ?_
     refine t_U 1 ?_
     refine aE_ fun b2 => ?_
     refine ag_ 0 ?_
     refine t_N ?_
     refine t_R ?_
     refine ah_ 0 ?_
     refine t_U 1 ?_
     refine t_h Heap.up1 ?_
     refine a3_ (fun y5 hs hy5 hl => ?_) (hr := by exact fun y5 hy5 => hR_66 _ _ y5 hy5 t3)
     obtain ⟨t5, rfl⟩ := len1 hl
     refine cA_ ?_
     refine jm_ 0 fun ht5 => ?_
     refine t_N ?_
     refine t_RN ?_
     exact t_e fun he hS hH => he ▸ ⟨t5, ht5, (ad_ hS (by kernel_rfl)), (Heap.sel hH [0, 2] rfl (by kernel_rfl))⟩
    exact t_e fun he hS hH => he ▸ ⟨t3, ht3, rfl, (ad_ hS (by kernel_rfl)), hH⟩
   obtain ⟨s, σ⟩ := fr
   obtain ⟨t4, ht4, ⟨rfl, hS, hH⟩⟩ := HF
   refine t_bx h hS hH ?_
   refine t_RN ?_
   intro h s σ hS hH
   obtain rfl := si_1 h
   exact db_ [t4] (eV_ (v := t4) hS rfl r_nil) rfl rfl hH
  refine t_if (fun hc2 => ?_) fun hc2 => ?_
  ·refine t_RU 2 ?_
   refine ah_ 0 ?_
   refine k_bs (z := true) (⟨false, [a0.Text]⟩ : Sl ByteArray) (fun t6 ht6 => ?_)
   refine kF_ 2 0 (fun y6 t7 hy6 ht7 => ?_)
   refine t_N ?_
   exact t_e fun he hS hH => he ▸ ⟨t7, ht7, rfl, (ad_ hS (by kernel_rfl)), (Heap.sel hH [1, 0, 2] rfl (by kernel_rfl))⟩
  exact t_e fun he hS hH => he ▸ ⟨p1_1, hp1_1, rfl, (ad_ hS (by kernel_rfl)), hH⟩
 refine t_RU 1 ?_
 refine ah_ 0 ?_
 refine t_U 2 ?_
 refine bo_ 10 (fun hc3 => ?_) fun hc3 => ?_
 ·refine t_U 2 ?_
  refine ah_ 0 ?_
  refine t_h Heap.up1 ?_
  refine ep_ (fun y7 hy7 => ?_)
  refine t_N ?_
  exact t_e fun he hS hH => he ▸ ⟨rfl, (ad_ hS (by kernel_rfl)), (Heap.sel hH [1, 0, 2] rfl (by kernel_rfl))⟩
 refine t_N ?_
 exact t_e fun he hS hH => he ▸ ⟨rfl, (ad_ hS (by kernel_rfl)), hH⟩
noncomputable def BG_impl_Pattern_deferred : Nat → (DPattern → (Sl ByteArray) → Option (Sl ByteArray))
 | 0 => (fun _ _ => none)
 | n + 1 => aA_ (BG_impl_Pattern_deferred n)
theorem uBG_impl_Pattern_deferred : ∀ n, a6_ ((BG_impl_Pattern_deferred n))
 | 0 => (by intro _ _ r h; have h : none = some r := h; cases h)
 | n + 1 => c3_ (BG_impl_Pattern_deferred n) (uBG_impl_Pattern_deferred n)
noncomputable def bM_ (a0 : DPattern) (a1 : (Sl ByteArray)) : Option (Sl ByteArray) := (BG_impl_Pattern_deferred bigN) a0 a1
theorem du_ (a0 : DPattern) (a1 : (Sl ByteArray)) (r : (Sl ByteArray)) (h : bM_ a0 a1 = some r) (p1_1 : T) : RawS Try.prog md ext 66 [.agg [i4 a0.Kind, i4 a0.Num, .str a0.Text, a0.Kids.t], p1_1] Sh_sl_str.n (fun hs => Sh_sl_str.tree hs r) [.own true 1 p1_1 a1.t] (fun hs => Sh_sl_str.en hs r ++ []) := (uBG_impl_Pattern_deferred bigN) a0 a1 r h p1_1
noncomputable def bt_ (a0 : DPattern) : Option (Sl ByteArray) := ((ay_ a0).bind fun y1 => (if (!y1) = true then (some ⟨true, []⟩) else ((bM_ a0 ⟨true, []⟩).bind fun y2 => (some y2))))
theorem d9_ (a0 : DPattern) (r : (Sl ByteArray)) (h : bt_ a0 = some r) : ax_ a0 = some r := by
 unfold bt_ at h
 refine k_O ok_18 h (fun σ0 => ?_)
 refine t_R ?_
 refine dZ_ (fun b1 => ?_)
 refine t_N ?_
 refine t_R ?_
 refine ah_ 0 ?_
 refine aL_ fun y1 hy1 => ?_
 refine t_N ?_
 refine t_if (fun hc1 => ?_) fun hc1 => ?_
 ·refine t_RN ?_
  refine t_h (Heap.addNil · true 1) ?_
  exact k_eO [(T.row true 0 [])] (rT rN)
 refine t_R ?_
 refine ah_ 0 ?_
 refine t_h (Heap.addNil · true 1) ?_
 refine a3_ (fun y2 hs hy2 hl => ?_) (hr := by exact fun y2 hy2 => du_ _ _ y2 hy2 (T.row true 0 []))
 obtain ⟨t1, rfl⟩ := len1 hl
 refine cA_ ?_
 refine jm_ 0 fun ht1 => ?_
 refine t_N ?_
 exact k_eO [t1] (rT rN)
noncomputable def cJ_ (a0 : (Sl DPattern)) : Option (DPattern × Bool) := (((if (decide ((a0.l.length : Int) = 0)) = true then (some (1, 0, ⟨#[]⟩, true, (⟨true, []⟩ : Sl DPattern))) else ((aI_ a0 (T.fn 53 [] [])).bind fun y2 => (if (!y2) = true then (some (0, 0, ⟨#[]⟩, false, (⟨true, []⟩ : Sl DPattern))) else (if (decide (60 < (a0.l.length : Int))) = true then (some (0, 0, ⟨#[]⟩, false, (⟨true, []⟩ : Sl DPattern))) else ((elt a0 (w4 ((a0.l.length : Int) - 1))).bind fun y3 => ((ak_ y3).bind fun y4 => ((subS a0 0 (w4 ((a0.l.length : Int) - 1))).bind fun y5 => ((im_ (S := (Int × Int × ByteArray × (Sl DPattern))) y5 (fun i1 y7 st1 => ((ak_ y7).bind fun y8 => (some (19, 0, ⟨#[]⟩, (⟨false, [y8, (⟨st1.1, st1.2.1, st1.2.2.1, st1.2.2.2⟩ : DPattern)]⟩ : Sl DPattern))))) (y4.Kind, y4.Num, y4.Text, y4.Kids)).bind fun y6 => ((ay_ (⟨y6.1, y6.2.1, y6.2.2.1, y6.2.2.2⟩ : DPattern)).bind fun y9 => (if (!y9) = true then (some (0, 0, ⟨#[]⟩, false, (⟨true, []⟩ : Sl DPattern))) else (some (y6.1, y6.2.1, y6.2.2.1, true, y6.2.2.2)))))))))))) : Option (Int × Int × ByteArray × Bool × (Sl DPattern))).bind fun y1 => (some ((⟨y1.1, y1.2.1, y1.2.2.1, y1.2.2.2.2⟩ : DPattern), y1.2.2.2.1)))
theorem e4_ (a0 : (Sl DPattern)) (r : (DPattern × Bool)) (h : cJ_ a0 = some r) : b8_ a0 = some r := by
 unfold cJ_ at h
 refine k_O ok_19 h (fun σ0 => ?_)
 refine t_R ?_
 refine aE_ fun b1 => ?_
 refine t_N ?_
 refine t_RU 2 ?_
 refine l1_ (fun y1 s σ => ∃ t1, a0_ t1 ∧ Sub [(2, .ptr b1 0 0 4), (6, .tup [.agg [i4 y1.1, i4 y1.2.1, .str y1.2.2.1, t1], .bool y1.2.2.2.1])] s ∧ Heap σ0 σ [.box b1 [i4 0, i4 0, .str ⟨#[]⟩, (nt DPattern)], .own true 4 t1 y1.2.2.2.2.t]) ok_67 (fun y1 => ?_) fun y1 s σ HF h => ?_
 ·refine t_R ?_
  refine dZ_ (fun b2 => ?_)
  refine dZ_ (fun b3 => ?_)
  refine aE_ fun b4 => ?_
  refine t_N ?_
  refine t_RN ?_
  refine t_if (fun hc1 => ?_) fun hc1 => ?_
  ·refine t_R ?_
   refine ah_ 1 ?_
   refine ag_ 0 ?_
   refine t_N ?_
   refine t_h (Heap.addNil · true 4) ?_
   exact f1_ (rC 1 (rT rN)) fun he hS hH => he ▸ ⟨(T.row true 0 []), ⟨rfl, rfl⟩, (ad_ hS (by kernel_rfl)), (Heap.sel hH [4, 0] rfl (by kernel_rfl))⟩
  refine t_RU 1 ?_
  refine aL_ fun y2 hy2 => ?_
  refine t_U 2 ?_
  refine bo_ 18 (fun hc2 => ?_) fun hc2 => ?_
  ·refine t_N ?_
   refine t_cT rfl ?_
   refine t_RU 1 ?_
   refine ag_ 0 ?_
   refine t_N ?_
   refine t_h (Heap.addNil · true 4) ?_
   exact f1_ (rC 1 (rT rN)) fun he hS hH => he ▸ ⟨(T.row true 0 []), ⟨rfl, rfl⟩, (ad_ hS (by kernel_rfl)), (Heap.sel hH [4, 0] rfl (by kernel_rfl))⟩
  refine t_N ?_
  refine t_if (fun hc3 => ?_) fun hc3 => ?_
  ·refine t_RU 1 ?_
   refine ag_ 0 ?_
   refine t_N ?_
   refine t_h (Heap.addNil · true 4) ?_
   exact f1_ (rC 1 (rT rN)) fun he hS hH => he ▸ ⟨(T.row true 0 []), ⟨rfl, rfl⟩, (ad_ hS (by kernel_rfl)), (Heap.sel hH [4, 0] rfl (by kernel_rfl))⟩
  refine t_RU 4 ?_
  refine eJ_ fun y3 rest1 hy3 => ?_
  refine t_U 1 ?_
  refine bL_ (fun y4 t2 hy4 ht2 => ?_)
  refine aE_ fun b5 => ?_
  refine ag_ 0 ?_ (h1 := by simp [ht2.1, ht2.2])
  refine t_N ?_
  refine t_RU 4 ?_
  refine l2_ fun y5 hy5 => ?_
  refine mM_ ok_118 ?_
  refine t_R ?_
  refine dZ_ (fun b6 => ?_)
  refine t_N ?_
  refine t_RN ?_
  refine k_eI (rT rN) ?_
  refine t_N ?_
  refine mc_ back_139 (fun st1 σ => ∃ t4, a0_ t4 ∧ Heap σ0 σ [.box b6 [y5.t], .box b5 [i4 st1.1, i4 st1.2.1, .str st1.2.2.1, t4], .box b4 [i4 0, i4 0, .str ⟨#[]⟩, (nt DPattern)], .box b2 [i4 19], .box b1 [i4 0, i4 0, .str ⟨#[]⟩, (nt DPattern)], .own true 4 t4 st1.2.2.2.t]) (fun hH => ⟨t2, ht2, ((Heap.sel hH [0, 1, 3, 5, 6, 2] rfl (by kernel_rfl)))⟩) (fun h => by obtain ⟨t4, ht4, hH⟩ := h; exact (hH.at 0 rfl).lent) (fun i1 y7 st1 x h s σ HI hS => ?_) fun y6 s σ h hS HI => ?_
  ·obtain ⟨t4, ht4, hH⟩ := HI
   have hS := ad_ (L' := [(3, .ptr b2 0 0 1), (6, .ptr b4 0 0 4), (8, .ptr b5 0 0 4), (36, T.fn 139 [] [.ptr b6 0 0 1]), (37, i4 i1), (38, .agg [i4 y7.Kind, i4 y7.Num, .str y7.Text, y7.Kids.t])]) hS (by kernel_rfl)
   refine t_bk h hS hH ?_
   refine t_R ?_
   refine aE_ fun b7 => ?_
   refine ag_ 0 ?_
   refine t_N ?_
   refine fv_ [(6, RN)] ext_x fun mb σs hn0 hlt hlto => ?_
   have hlt_b5 : b5 < mb := hlt b5 _ (List.Mem.tail _ (List.Mem.tail _ (List.Mem.head _)))
   have hlt_b2 : b2 < mb := hlt b2 _ (List.Mem.tail _ (List.Mem.tail _ (List.Mem.tail _ (List.Mem.tail _ (List.Mem.head _)))))
   refine ah_ 4 ?_ (hlt := by exact (Or.inr ⟨hlt_b2, (Wc.cons (.inl (by kernel_rfl)) Wc.nil)⟩))
   refine ah_ 0 ?_ (hlt := by exact (Or.inl (by kernel_rfl)))
   refine bL_ (fun y8 t5 hy8 ht5 => ?_)
   refine ah_ 3 ?_ (hlt := by exact (Or.inr ⟨hlt_b5, (Wc.cons (.inl (by kernel_rfl)) Wc.nil)⟩))
   refine t_h (·.up7.up1) ?_
   refine k_bs (z := true) (⟨false, [y8, (⟨st1.1, st1.2.1, st1.2.2.1, st1.2.2.2⟩ : DPattern)]⟩ : Sl DPattern) (fun t6 ht6 => ?_) (hb := by exact hn0) (h1 := by simp [ht4.1, ht4.2, ht5.1, ht5.2])
   intro h s σ hS hH
   refine kk_ (qs := [(0, i4 19), (3, t6)]) (z := [i4 0, i4 0, .str ⟨#[]⟩, (nt DPattern)]) (r := [i4 19, i4 0, .str ⟨#[]⟩, t6]) [[i4 19], [t6]] rfl hS rfl (by kernel_rfl) (by kernel_rfl) (⟨rfl, (by kernel_rfl), (by simp [ht6.1, ht6.2]), (by simp [ht6.1, ht6.2]), trivial⟩) (by kernel_rfl) ?_; intro s hS
   refine t_bk h hS hH ?_
   refine ag_ 3 ?_ (h1 := by simp [ht6.1, ht6.2]) (hwr := by exact fun hH => Or.inr ⟨6, by kernel_rfl, fun h => h⟩)
   refine t_N ?_
   exact t_e fun he hS hH => he ▸ ⟨rfl, t6, ht6, ((Heap.sel hH [3, 0, 4, 5, 6, 1] rfl (by kernel_rfl)))⟩
  obtain ⟨t4, ht4, hH⟩ := HI
  have hS := ad_ (L' := [(3, .ptr b2 0 0 1), (6, .ptr b4 0 0 4), (8, .ptr b5 0 0 4), (36, T.fn 139 [] [.ptr b6 0 0 1])]) hS (by kernel_rfl)
  refine t_bk h hS hH ?_
  refine t_R ?_
  refine ah_ 1 ?_
  refine t_h Heap.up5 ?_
  refine ep_ (fun y9 hy9 => ?_)
  refine t_N ?_
  refine t_if (fun hc4 => ?_) fun hc4 => ?_
  ·refine t_RU 1 ?_
   refine ag_ 3 ?_
   refine t_N ?_
   refine t_h (Heap.addNil · true 4) ?_
   exact f1_ (rC 1 (rT rN)) fun he hS hH => he ▸ ⟨(T.row true 0 []), ⟨rfl, rfl⟩, (ad_ hS (by kernel_rfl)), (Heap.sel hH [6, 0] rfl (by kernel_rfl))⟩
  refine t_R ?_
  refine ah_ 2 ?_
  refine ag_ 3 ?_ (h1 := by simp [ht4.1, ht4.2])
  refine t_N ?_
  exact f1_ (rC 0 (rT rN)) fun he hS hH => he ▸ ⟨t4, ht4, (ad_ hS (by kernel_rfl)), (Heap.sel hH [5, 1] rfl (by kernel_rfl))⟩
 obtain ⟨t1, ht1, ⟨hS, hH⟩⟩ := HF
 refine t_bk h hS hH ?_
 refine t_U 2 ?_
 refine ag_ 0 ?_ (h1 := by simp [ht1.1, ht1.2])
 refine t_N ?_
 refine t_h Heap.up1 ?_
 exact k_eO [t1] (rC 1 (rT rN))
noncomputable def dC_ (a0 : (Sl DPattern)) : Option (DPattern × Bool) := (((if (decide ((a0.l.length : Int) = 0)) = true then (some (16, 0, ⟨#[]⟩, true, (⟨true, []⟩ : Sl DPattern))) else ((aI_ a0 (T.fn 53 [] [])).bind fun y2 => (if (!y2) = true then (some (0, 0, ⟨#[]⟩, false, (⟨true, []⟩ : Sl DPattern))) else (if (decide (60 < (a0.l.length : Int))) = true then (some (0, 0, ⟨#[]⟩, false, (⟨true, []⟩ : Sl DPattern))) else ((elt a0 (w4 ((a0.l.length : Int) - 1))).bind fun y3 => ((ak_ y3).bind fun y4 => ((subS a0 0 (w4 ((a0.l.length : Int) - 1))).bind fun y5 => ((im_ (S := (Int × Int × ByteArray × (Sl DPattern))) y5 (fun i1 y7 st1 => ((ak_ y7).bind fun y8 => (some (18, 0, ⟨#[]⟩, (⟨false, [y8, (⟨st1.1, st1.2.1, st1.2.2.1, st1.2.2.2⟩ : DPattern)]⟩ : Sl DPattern))))) (y4.Kind, y4.Num, y4.Text, y4.Kids)).bind fun y6 => ((ay_ (⟨y6.1, y6.2.1, y6.2.2.1, y6.2.2.2⟩ : DPattern)).bind fun y9 => (if (!y9) = true then (some (0, 0, ⟨#[]⟩, false, (⟨true, []⟩ : Sl DPattern))) else (some (y6.1, y6.2.1, y6.2.2.1, true, y6.2.2.2)))))))))))) : Option (Int × Int × ByteArray × Bool × (Sl DPattern))).bind fun y1 => (some ((⟨y1.1, y1.2.1, y1.2.2.1, y1.2.2.2.2⟩ : DPattern), y1.2.2.2.1)))
theorem hu_ (a0 : (Sl DPattern)) (r : (DPattern × Bool)) (h : dC_ a0 = some r) : dS_ a0 = some r := by
 unfold dC_ at h
 refine k_O ok_20 h (fun σ0 => ?_)
 refine t_R ?_
 refine aE_ fun b1 => ?_
 refine t_N ?_
 refine t_RU 2 ?_
 refine l1_ (fun y1 s σ => ∃ t1, a0_ t1 ∧ Sub [(2, .ptr b1 0 0 4), (6, .tup [.agg [i4 y1.1, i4 y1.2.1, .str y1.2.2.1, t1], .bool y1.2.2.2.1])] s ∧ Heap σ0 σ [.box b1 [i4 0, i4 0, .str ⟨#[]⟩, (nt DPattern)], .own true 4 t1 y1.2.2.2.2.t]) ok_67 (fun y1 => ?_) fun y1 s σ HF h => ?_
 ·refine t_R ?_
  refine dZ_ (fun b2 => ?_)
  refine dZ_ (fun b3 => ?_)
  refine aE_ fun b4 => ?_
  refine t_N ?_
  refine t_RN ?_
  refine t_if (fun hc1 => ?_) fun hc1 => ?_
  ·refine t_R ?_
   refine ah_ 1 ?_
   refine ag_ 0 ?_
   refine t_N ?_
   refine t_h (Heap.addNil · true 4) ?_
   exact f1_ (rC 1 (rT rN)) fun he hS hH => he ▸ ⟨(T.row true 0 []), ⟨rfl, rfl⟩, (ad_ hS (by kernel_rfl)), (Heap.sel hH [4, 0] rfl (by kernel_rfl))⟩
  refine t_RU 1 ?_
  refine aL_ fun y2 hy2 => ?_
  refine t_U 2 ?_
  refine bo_ 18 (fun hc2 => ?_) fun hc2 => ?_
  ·refine t_N ?_
   refine t_cT rfl ?_
   refine t_RU 1 ?_
   refine ag_ 0 ?_
   refine t_N ?_
   refine t_h (Heap.addNil · true 4) ?_
   exact f1_ (rC 1 (rT rN)) fun he hS hH => he ▸ ⟨(T.row true 0 []), ⟨rfl, rfl⟩, (ad_ hS (by kernel_rfl)), (Heap.sel hH [4, 0] rfl (by kernel_rfl))⟩
  refine t_N ?_
  refine t_if (fun hc3 => ?_) fun hc3 => ?_
  ·refine t_RU 1 ?_
   refine ag_ 0 ?_
   refine t_N ?_
   refine t_h (Heap.addNil · true 4) ?_
   exact f1_ (rC 1 (rT rN)) fun he hS hH => he ▸ ⟨(T.row true 0 []), ⟨rfl, rfl⟩, (ad_ hS (by kernel_rfl)), (Heap.sel hH [4, 0] rfl (by kernel_rfl))⟩
  refine t_RU 4 ?_
  refine eJ_ fun y3 rest1 hy3 => ?_
  refine t_U 1 ?_
  refine bL_ (fun y4 t2 hy4 ht2 => ?_)
  refine aE_ fun b5 => ?_
  refine ag_ 0 ?_ (h1 := by simp [ht2.1, ht2.2])
  refine t_N ?_
  refine t_RU 4 ?_
  refine l2_ fun y5 hy5 => ?_
  refine mM_ ok_118 ?_
  refine t_R ?_
  refine dZ_ (fun b6 => ?_)
  refine t_N ?_
  refine t_RN ?_
  refine k_eI (rT rN) ?_
  refine t_N ?_
  refine mc_ back_139 (fun st1 σ => ∃ t4, a0_ t4 ∧ Heap σ0 σ [.box b6 [y5.t], .box b5 [i4 st1.1, i4 st1.2.1, .str st1.2.2.1, t4], .box b4 [i4 0, i4 0, .str ⟨#[]⟩, (nt DPattern)], .box b2 [i4 18], .box b1 [i4 0, i4 0, .str ⟨#[]⟩, (nt DPattern)], .own true 4 t4 st1.2.2.2.t]) (fun hH => ⟨t2, ht2, ((Heap.sel hH [0, 1, 3, 5, 6, 2] rfl (by kernel_rfl)))⟩) (fun h => by obtain ⟨t4, ht4, hH⟩ := h; exact (hH.at 0 rfl).lent) (fun i1 y7 st1 x h s σ HI hS => ?_) fun y6 s σ h hS HI => ?_
  ·obtain ⟨t4, ht4, hH⟩ := HI
   have hS := ad_ (L' := [(3, .ptr b2 0 0 1), (6, .ptr b4 0 0 4), (8, .ptr b5 0 0 4), (36, T.fn 139 [] [.ptr b6 0 0 1]), (37, i4 i1), (38, .agg [i4 y7.Kind, i4 y7.Num, .str y7.Text, y7.Kids.t])]) hS (by kernel_rfl)
   refine t_bk h hS hH ?_
   refine t_R ?_
   refine aE_ fun b7 => ?_
   refine ag_ 0 ?_
   refine t_N ?_
   refine fv_ [(6, RN)] ext_x fun mb σs hn0 hlt hlto => ?_
   have hlt_b5 : b5 < mb := hlt b5 _ (List.Mem.tail _ (List.Mem.tail _ (List.Mem.head _)))
   have hlt_b2 : b2 < mb := hlt b2 _ (List.Mem.tail _ (List.Mem.tail _ (List.Mem.tail _ (List.Mem.tail _ (List.Mem.head _)))))
   refine ah_ 4 ?_ (hlt := by exact (Or.inr ⟨hlt_b2, (Wc.cons (.inl (by kernel_rfl)) Wc.nil)⟩))
   refine ah_ 0 ?_ (hlt := by exact (Or.inl (by kernel_rfl)))
   refine bL_ (fun y8 t5 hy8 ht5 => ?_)
   refine ah_ 3 ?_ (hlt := by exact (Or.inr ⟨hlt_b5, (Wc.cons (.inl (by kernel_rfl)) Wc.nil)⟩))
   refine t_h (·.up7.up1) ?_
   refine k_bs (z := true) (⟨false, [y8, (⟨st1.1, st1.2.1, st1.2.2.1, st1.2.2.2⟩ : DPattern)]⟩ : Sl DPattern) (fun t6 ht6 => ?_) (hb := by exact hn0) (h1 := by simp [ht4.1, ht4.2, ht5.1, ht5.2])
   intro h s σ hS hH
   refine kk_ (qs := [(0, i4 18), (3, t6)]) (z := [i4 0, i4 0, .str ⟨#[]⟩, (nt DPattern)]) (r := [i4 18, i4 0, .str ⟨#[]⟩, t6]) [[i4 18], [t6]] rfl hS rfl (by kernel_rfl) (by kernel_rfl) (⟨rfl, (by kernel_rfl), (by simp [ht6.1, ht6.2]), (by simp [ht6.1, ht6.2]), trivial⟩) (by kernel_rfl) ?_; intro s hS
   refine t_bk h hS hH ?_
   refine ag_ 3 ?_ (h1 := by simp [ht6.1, ht6.2]) (hwr := by exact fun hH => Or.inr ⟨6, by kernel_rfl, fun h => h⟩)
   refine t_N ?_
   exact t_e fun he hS hH => he ▸ ⟨rfl, t6, ht6, ((Heap.sel hH [3, 0, 4, 5, 6, 1] rfl (by kernel_rfl)))⟩
  obtain ⟨t4, ht4, hH⟩ := HI
  have hS := ad_ (L' := [(3, .ptr b2 0 0 1), (6, .ptr b4 0 0 4), (8, .ptr b5 0 0 4), (36, T.fn 139 [] [.ptr b6 0 0 1])]) hS (by kernel_rfl)
  refine t_bk h hS hH ?_
  refine t_R ?_
  refine ah_ 1 ?_
  refine t_h Heap.up5 ?_
  refine ep_ (fun y9 hy9 => ?_)
  refine t_N ?_
  refine t_if (fun hc4 => ?_) fun hc4 => ?_
  ·refine t_RU 1 ?_
   refine ag_ 3 ?_
   refine t_N ?_
   refine t_h (Heap.addNil · true 4) ?_
   exact f1_ (rC 1 (rT rN)) fun he hS hH => he ▸ ⟨(T.row true 0 []), ⟨rfl, rfl⟩, (ad_ hS (by kernel_rfl)), (Heap.sel hH [6, 0] rfl (by kernel_rfl))⟩
  refine t_R ?_
  refine ah_ 2 ?_
  refine ag_ 3 ?_ (h1 := by simp [ht4.1, ht4.2])
  refine t_N ?_
  exact f1_ (rC 0 (rT rN)) fun he hS hH => he ▸ ⟨t4, ht4, (ad_ hS (by kernel_rfl)), (Heap.sel hH [5, 1] rfl (by kernel_rfl))⟩
 obtain ⟨t1, ht1, ⟨hS, hH⟩⟩ := HF
 refine t_bk h hS hH ?_
 refine t_U 2 ?_
 refine ag_ 0 ?_ (h1 := by simp [ht1.1, ht1.2])
 refine t_N ?_
 refine t_h Heap.up1 ?_
 exact k_eO [t1] (rC 1 (rT rN))
noncomputable def bK_ (a0 : DPattern) (a1 : DPattern) : Option Bool := (if (decide (a0.Kind = a1.Kind)) = true then (if (decide (a0.Num = a1.Num)) = true then (if (decide (a0.Text = a1.Text)) = true then ((aW_ a0.Kids a1.Kids (T.fn 21 [] [])).bind fun y1 => (some y1)) else (some false)) else (some false)) else (some false))
theorem ez_ (a0 : DPattern) (a1 : DPattern) (r : Bool) (h : bK_ a0 a1 = some r) : bg_ a0 a1 = some r := by
 unfold bK_ at h
 refine k_W ok_21 E_bool_inj h (fun σ0 => ?_)
 refine t_R ?_
 refine dZ_ (fun b1 => ?_)
 refine dZ_ (fun b2 => ?_)
 refine t_N ?_
 refine t_RU 1 ?_
 refine ah_ 1 ?_
 refine t_U 1 ?_
 refine ah_ 0 ?_
 refine t_U 2 ?_
 refine bo_ 10 (fun hc1 => ?_) fun hc1 => ?_
 ·refine t_U 1 ?_
  refine ah_ 1 ?_
  refine t_U 1 ?_
  refine ah_ 0 ?_
  refine t_U 3 ?_
  refine bo_ 17 (fun hc2 => ?_) fun hc2 => ?_
  ·refine t_U 1 ?_
   refine ah_ 1 ?_
   refine t_U 1 ?_
   refine ah_ 0 ?_
   refine t_U 3 ?_
   refine bo_ 24 (fun hc3 => ?_) fun hc3 => ?_
   ·refine t_U 1 ?_
    refine ah_ 1 ?_
    refine t_U 1 ?_
    refine ah_ 0 ?_
    refine aL_ fun y1 hy1 => ?_
    refine t_N ?_
    exact k_eW (rT rN) E_bool_p
   refine t_N ?_
   exact k_eW (rT rN) E_bool_p
  refine t_N ?_
  exact k_eW (rT rN) E_bool_p
 refine t_N ?_
 exact k_eW (rT rN) E_bool_p
noncomputable def bA_ (a0 : DPattern) : Option Bool := ((am_ a0 0).bind fun y1 => (some (decide (y1 ≤ 60))))
theorem em_ (a0 : DPattern) (r : Bool) (h : bA_ a0 = some r) : ay_ a0 = some r := by
 unfold bA_ at h
 refine k_W ok_53 E_bool_inj h (fun σ0 => ?_)
 refine t_R ?_
 refine dZ_ (fun b1 => ?_)
 refine t_N ?_
 refine t_R ?_
 refine ah_ 0 ?_
 refine aL_ fun y1 hy1 => ?_
 refine t_N ?_
 exact k_eW (rT rN) E_bool_p
noncomputable def b3_ (a0 : DPattern) : Option DPattern := ((as_ a0).bind fun y1 => (((if (decide (a0.Kind = 14)) = true then (some (decide (a0.Kind = 14))) else (some (decide (a0.Kind = 17)))) : Option Bool).bind fun y2 => (if y2 = true then (some (⟨1, 0, ⟨#[]⟩, ⟨true, []⟩⟩ : DPattern)) else (if (decide (a0.Kind = 15)) = true then (some (⟨16, 0, ⟨#[]⟩, ⟨true, []⟩⟩ : DPattern)) else ((aC_ (S := (Int × (Sl DPattern))) (R := (Sl DPattern)) (fun st1 => (if (decide (st1.1 < (a0.Kids.l.length : Int))) = true then ((elt a0.Kids st1.1).bind fun y4 => ((be_ y4).bind fun y5 => ((elt st1.2 st1.1).bind fun y6 => (some (.inl ((w4 (st1.1 + 1)), (setS st1.2 st1.1 (y5 : DPattern)))))))) else (some (.inr st1.2)))) (0, y1.Kids)).bind fun y3 => (some (⟨y1.Kind, y1.Num, y1.Text, y3⟩ : DPattern)))))))
theorem f4_ (a0 : DPattern) (r : DPattern) (h : b3_ a0 = some r) : be_ a0 = some r := by
 unfold b3_ at h
 refine k_O ok_63 h (fun σ0 => ?_)
 refine t_R ?_
 refine dZ_ (fun b1 => ?_)
 refine aE_ fun b2 => ?_
 refine t_N ?_
 refine t_R ?_
 refine ah_ 1 ?_
 refine bL_ (fun y1 t1 hy1 ht1 => ?_)
 refine aE_ fun b3 => ?_
 refine ag_ 0 ?_ (h1 := by simp [ht1.1, ht1.2])
 refine t_N ?_
 refine t_RU 1 ?_
 refine ah_ 3 ?_
 refine t_N ?_
 refine t_RN ?_
 refine iz_ 0 (fun y2 e fr => e = .normal ∧ Sub [(1, .ptr b1 0 0 4), (2, .ptr b2 0 0 4), (3, .ptr b3 0 0 4), (8, i4 a0.Kind), (9, .bool y2)] fr.s ∧ Heap σ0 fr.σ [.box b3 [i4 y1.Kind, i4 y1.Num, .str y1.Text, t1], .box b2 [i4 0, i4 0, .str ⟨#[]⟩, (nt DPattern)], .box b1 [i4 a0.Kind, i4 a0.Num, .str a0.Text, a0.Kids.t], .own true 4 t1 y1.Kids.t]) (fun y2 e fr h HF => ?_) fun y2 => ?_
 ·obtain ⟨s, σ⟩ := fr
  obtain ⟨rfl, hS, hH⟩ := HF
  refine t_bx h hS hH ?_
  refine t_if (fun hc1 => ?_) fun hc1 => ?_
  ·refine t_RU 1 ?_
   refine ag_ 1 ?_
   refine t_N ?_
   refine t_h (Heap.addNil · true 4) ?_
   exact k_eO [(T.row true 0 [])] (rC 1 rN)
  refine t_RN ?_
  refine t_if (fun hc2 => ?_) fun hc2 => ?_
  ·refine t_RU 1 ?_
   refine ag_ 1 ?_
   refine t_N ?_
   refine t_h (Heap.addNil · true 4) ?_
   exact k_eO [(T.row true 0 [])] (rC 1 rN)
  refine t_RN ?_
  refine ch_ (fun st1 fr => Sub [(1, .ptr b1 0 0 4), (2, .ptr b2 0 0 4), (3, .ptr b3 0 0 4), (4, i4 st1.1)] fr.s ∧ Heap σ0 fr.σ [.box b3 [i4 y1.Kind, i4 y1.Num, .str y1.Text, t1], .box b2 [i4 0, i4 0, .str ⟨#[]⟩, (nt DPattern)], .box b1 [i4 a0.Kind, i4 a0.Num, .str a0.Text, a0.Kids.t], .own true 4 t1 st1.2.t]) (fun y3 e fr => e = (.exit 1) ∧ Sub [(2, .ptr b2 0 0 4), (3, .ptr b3 0 0 4)] fr.s ∧ Heap σ0 fr.σ [.box b3 [i4 y1.Kind, i4 y1.Num, .str y1.Text, t1], .box b2 [i4 0, i4 0, .str ⟨#[]⟩, (nt DPattern)], .own true 4 t1 y3.t]) (fun hS hH => ⟨(ad_ hS (by kernel_rfl)), hH⟩) (fun st1 x fr h HI => ?_) fun y3 e fr h HF => ?_
  ·obtain ⟨s, σ⟩ := fr; obtain ⟨hS, hH⟩ := HI
   refine t_bk h hS hH ?_
   refine t_RU 2 ?_
   refine ah_ 2 ?_
   refine t_N ?_
   refine t_if (fun hc3 => ?_) fun hc3 => ?_
   ·refine fv_ [(10, RN)] ext_x fun mb σs hn0 hlt hlto => ?_
    have hlt_b3 : b3 < mb := hlt b3 _ (List.Mem.head _)
    refine t_U 1 ?_
    refine ah_ 0 ?_ (hlt := by exact (Or.inr ⟨hlt_b3, (Wc.cons (.inl (by kernel_rfl)) Wc.nil)⟩))
    refine t_U 2 ?_
    refine ah_ 2 ?_ (hlt := by exact (Or.inl (by kernel_rfl)))
    refine t_U 1 ?_
    refine eJ_ fun y4 rest1 hy4 => ?_
    refine t_U 1 ?_
    refine bL_ (fun y5 t2 hy5 ht2 => ?_)
    refine e7_ 4 (fun hb1 hb1e y6 hy6 hl_hb1 => ?_) (hlt := by exact (fun _ _ _ _ _ => Or.inl (by kernel_rfl)))
    refine t_h Heap.up4 ?_
    intro h s σ hS hH
    refine kd_ rfl (ents := [.own true 4 t2 y5.Kids.t]) (a := st1.2) (j := st1.1) (y := y6) (y' := (y5 : DPattern)) (off := 0) (c := [i4 y6.Kind, i4 y6.Num, .str y6.Text, y6.Kids.t]) (us := [i4 y5.Kind, i4 y5.Num, .str y5.Text, t2]) (vs := [i4 y5.Kind, i4 y5.Num, .str y5.Text, y5.Kids.t]) (v := .agg [i4 y5.Kind, i4 y5.Num, .str y5.Text, t2]) (by exact Or.inr ⟨10, by kernel_rfl, fun h => h⟩) rfl hS hH hl_hb1 rfl rfl rfl (by simp [ht2.1, ht2.2]) (by kernel_rfl) rfl hy6 (DPattern.cells_eq _) (HLi (HLi (HLs (HL.own rfl HL.nil)))) rfl (by rw [DPattern.enc_eq]; rfl) ?_; intro σ s hH hS
    refine t_bk h hS hH ?_
    refine t_N ?_
    refine t_RN ?_
    exact t_e fun he hS hH => he ▸ ⟨(ad_ hS (by kernel_rfl)), (Heap.sel hH [1, 2, 3, 0] rfl (by kernel_rfl))⟩
   exact t_e fun he hS hH => he ▸ ⟨rfl, (ad_ hS (by kernel_rfl)), (Heap.sel hH [0, 1, 3] rfl (by kernel_rfl))⟩
  obtain ⟨s, σ⟩ := fr
  obtain ⟨rfl, hS, hH⟩ := HF
  refine t_bx h hS hH ?_
  refine t_R ?_
  refine ah_ 0 ?_
  refine ag_ 1 ?_ (h1 := by simp [ht1.1, ht1.2])
  refine t_N ?_
  refine t_h Heap.up2 ?_
  exact k_eO [t1] (rC 1 rN)
 refine t_if (fun hc4 => ?_) fun hc4 => ?_
 ·exact t_e fun he hS hH => by subst he; exact ⟨rfl, (ad_ hS (by kernel_rfl)), (Heap.sel hH [0, 2, 3, 1] rfl (by kernel_rfl))⟩
 refine t_RN ?_
 exact t_e fun he hS hH => by subst he; exact ⟨rfl, (ad_ hS (by kernel_rfl)), (Heap.sel hH [0, 2, 3, 1] rfl (by kernel_rfl))⟩
noncomputable def aY_ (a0 : (Sl DPattern)) (a1 : (Sl DPattern)) (a2 : T) : Option Bool := (if flat1 a2 = true then (if ((!decide ((a0.l.length : Int) = (a1.l.length : Int)))) = true then (some false) else ((aC_ (S := Int) (R := (Unit ⊕ Bool)) (fun st1 => (if (decide (st1 < (a0.l.length : Int))) = true then ((elt a0 st1).bind fun y2 => ((elt a1 st1).bind fun y3 => ((fV_ Try.prog md ext E_bool a2 [.agg [i4 y2.Kind, i4 y2.Num, .str y2.Text, y2.Kids.t], .agg [i4 y3.Kind, i4 y3.Num, .str y3.Text, y3.Kids.t]]).bind fun y4 => (if (!y4) = true then (some (.inr (.inr false))) else (some (.inl (w4 (st1 + 1)))))))) else (some (.inr (.inl ()))))) 0).bind fun y1 => (Sum.elim (fun y1 => (some true)) (fun y1 => (some y1)) y1))) else none)
theorem cB_ (a0 : (Sl DPattern)) (a1 : (Sl DPattern)) (a2 : T) (r : Bool) (h : aY_ a0 a1 a2 = some r) : aW_ a0 a1 a2 = some r := by
 unfold aY_ at h
 obtain ⟨hf_a2, h⟩ := h7_ h
 refine k_W ok_68 E_bool_inj h (fun σ0 => ?_) (hf := (all_cons (by kernel_rfl) (all_cons (by kernel_rfl) (all_cons (g5_ hf_a2) all_nil))))
 refine t_RN ?_
 refine t_RN ?_
 refine t_if (fun hc1 => ?_) fun hc1 => ?_
 ·refine t_RN ?_
  exact k_eW (rT rN) E_bool_p
 refine t_RN ?_
 refine ch_ (fun st1 fr => Sub [(1, a1.t), (2, a2), (15, a0.t), (16, i4 (a0.l.length : Int)), (17, i4 st1)] fr.s ∧ Heap σ0 fr.σ []) (fun y1 e fr => (Sum.elim (fun y => e = (.exit 0) ∧ Sub [] fr.s ∧ Heap σ0 fr.σ []) (fun y => e = .ret ∧ endW Try.prog (Try.f68.results.toList) σ0 (E_bool y) .ret fr)) y1) (fun hS hH => ⟨(ad_ hS (by kernel_rfl)), hH⟩) (fun st1 x fr h HI => ?_) fun y1 e fr h HF => ?_
 ·obtain ⟨s, σ⟩ := fr; obtain ⟨hS, hH⟩ := HI
  refine t_bk h hS hH ?_
  refine t_RN ?_
  refine t_if (fun hc2 => ?_) fun hc2 => ?_
  ·refine t_RU 1 ?_
   refine eJ_ fun y2 rest1 hy2 => ?_
   refine t_U 1 ?_
   refine aE_ fun b1 => ?_
   refine t_U 1 ?_
   refine ag_ 0 ?_
   refine t_N ?_
   refine t_RU 2 ?_
   refine eJ_ fun y3 rest2 hy3 => ?_
   refine t_U 1 ?_
   refine aE_ fun b2 => ?_
   refine ag_ 0 ?_
   refine t_N ?_
   refine t_RU 1 ?_
   refine ah_ 1 ?_
   refine ah_ 0 ?_
   refine il_ fun y4 hy4 => ?_
   refine t_N ?_
   refine t_if (fun hc3 => ?_) fun hc3 => ?_
   ·refine t_RN ?_
    exact t_e fun he hS hH => he ▸ ⟨rfl, (eW hS hH (rT rN) E_bool_p)⟩
   refine t_RN ?_
   exact t_e fun he hS hH => he ▸ ⟨(ad_ hS (by kernel_rfl)), (Heap.sel hH [] rfl (by kernel_rfl))⟩
  exact t_e fun he hS hH => he ▸ ⟨rfl, (ad_ hS (by kernel_rfl)), hH⟩
 obtain ⟨s, σ⟩ := fr
 rcases y1 with y1 | y1
 ·have h := el_l h
  obtain ⟨rfl, hS, hH⟩ := HF
  refine t_bx h hS hH ?_
  refine t_RN ?_
  exact k_eW (rT rN) E_bool_p
 have h := el_r h
 obtain ⟨rfl, HE⟩ := HF
 obtain rfl := si_1 h; exact HE
noncomputable def cQ_ (a0 : ByteArray) : Option Bool := (some (decide ((a0.size : Int) ≤ 200)))
theorem f3_ (a0 : ByteArray) (r : Bool) (h : cQ_ a0 = some r) : b2_ a0 = some r := by
 unfold cQ_ at h
 refine k_W ok_76 E_bool_inj h (fun σ0 => ?_)
 refine t_RN ?_
 refine t_RN ?_
 exact k_eW (rT rN) E_bool_p
noncomputable def aU_ (a0 : DPattern) (a1 : Int) : Option Int := (if (decide (60 < (w4 (a1 + 1)))) = true then (some 61) else ((b0_ a0.Kind a0.Num a0.Text).bind fun y1 => (if (!y1) = true then (some 61) else ((dl_ a0.Kind).bind fun y2 => (if (!decide ((a0.Kids.l.length : Int) = y2)) = true then (some 61) else ((aC_ (S := (Int × Int)) (R := Int) (fun st1 => (if (decide (st1.2 < (a0.Kids.l.length : Int))) = true then ((elt a0.Kids st1.2).bind fun y4 => ((am_ y4 st1.1).bind fun y5 => (if (decide (60 < y5)) = true then (some (.inr y5)) else (some (.inl (y5, (w4 (st1.2 + 1)))))))) else (some (.inr st1.1)))) ((w4 (a1 + 1)), 0)).bind fun y3 => (some y3)))))))
theorem ck_ (a0 : DPattern) (a1 : Int) (r : Int) (h : aU_ a0 a1 = some r) : am_ a0 a1 = some r := by
 unfold aU_ at h
 refine k_W ok_99 E_i64_inj h (fun σ0 => ?_)
 refine t_R ?_
 refine dZ_ (fun b1 => ?_)
 refine t_N ?_
 refine t_RN ?_
 refine t_D fun mb => ?_
 refine t_U 3 ?_
 refine bo_ 11 (fun hc1 => ?_) fun hc1 => ?_
 ·refine t_N ?_
  refine t_cT rfl ?_
  refine t_RN ?_
  exact k_eW (rT rN) E_i64_p
 refine t_U 1 ?_
 refine ah_ 0 ?_
 refine t_U 1 ?_
 refine ah_ 0 ?_
 refine t_U 1 ?_
 refine ah_ 0 ?_
 refine aL_ fun y1 hy1 => ?_
 refine t_U 3 ?_
 refine bo_ 21 (fun hc2 => ?_) fun hc2 => ?_
 ·refine t_N ?_
  refine t_cT rfl ?_
  refine t_RN ?_
  exact k_eW (rT rN) E_i64_p
 refine t_U 1 ?_
 refine ah_ 0 ?_
 refine t_U 2 ?_
 refine ah_ 0 ?_
 refine aL_ fun y2 hy2 => ?_
 refine t_N ?_
 refine t_if (fun hc3 => ?_) fun hc3 => ?_
 ·refine t_RN ?_
  exact k_eW (rT rN) E_i64_p
 refine t_RU 1 ?_
 refine ah_ 0 ?_
 refine t_N ?_
 refine ch_ (fun st1 fr => Sub [(1, i4 st1.1), (31, a0.Kids.t), (32, i4 (a0.Kids.l.length : Int)), (33, i4 st1.2)] fr.s ∧ Heap σ0 fr.σ []) (fun y3 e fr => e = (.exit 0) ∧ Sub [(1, i4 y3)] fr.s ∧ Heap σ0 fr.σ []) (fun hS hH => ⟨(ad_ hS (by kernel_rfl)), (Heap.sel hH [] rfl (by kernel_rfl))⟩) (fun st1 x fr h HI => ?_) fun y3 e fr h HF => ?_
 ·obtain ⟨s, σ⟩ := fr; obtain ⟨hS, hH⟩ := HI
  refine t_bk h hS hH ?_
  refine t_RN ?_
  refine t_if (fun hc4 => ?_) fun hc4 => ?_
  ·refine t_R ?_
   refine eJ_ fun y4 rest1 hy4 => ?_
   refine t_U 1 ?_
   refine aE_ fun b2 => ?_
   refine ag_ 0 ?_
   refine t_N ?_
   refine t_R ?_
   refine ah_ 0 ?_
   refine t_U 1 ?_
   refine aL_ fun y5 hy5 => ?_
   refine t_N ?_
   refine t_RN ?_
   refine t_if (fun hc5 => ?_) fun hc5 => ?_
   ·exact t_e fun he hS hH => he ▸ ⟨rfl, (ad_ hS (by kernel_rfl)), (Heap.sel hH [] rfl (by kernel_rfl))⟩
   refine t_RN ?_
   exact t_e fun he hS hH => he ▸ ⟨(ad_ hS (by kernel_rfl)), (Heap.sel hH [] rfl (by kernel_rfl))⟩
  exact t_e fun he hS hH => he ▸ ⟨rfl, (ad_ hS (by kernel_rfl)), hH⟩
 obtain ⟨s, σ⟩ := fr
 obtain ⟨rfl, hS, hH⟩ := HF
 refine t_bx h hS hH ?_
 refine t_RN ?_
 exact k_eW (rT rN) E_i64_p
noncomputable def dd_ (a0 : Int) (a1 : Int) (a2 : Int) : Option Bool := (if (decide (a1 ≤ a0)) = true then (some (decide (a0 ≤ a2))) else (some false))
theorem gC_ (a0 : Int) (a1 : Int) (a2 : Int) (r : Bool) (h : dd_ a0 a1 a2 = some r) : ba_ a0 a1 a2 = some r := by
 unfold dd_ at h
 refine k_W ok_103 E_bool_inj h (fun σ0 => ?_)
 refine t_RN ?_
 refine t_RU 4 ?_
 refine bo_ 10 (fun hc1 => ?_) fun hc1 => ?_
 ·refine t_N ?_
  exact k_eW (rT rN) E_bool_p
 refine t_N ?_
 exact k_eW (rT rN) E_bool_p
end Go.Am
