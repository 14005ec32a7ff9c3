/- Functions of the program. -/
import Derived.Test.YtohkcdkmpencnaaDoorAd0
set_option maxRecDepth 100000
set_option maxHeartbeats 4000000
set_option linter.unusedVariables false
set_option linter.unusedSimpArgs false
namespace Go.Am
open Go.Proofs
noncomputable def B_laws_FnExactMatchLine (a0 : DMatch) : Option Bool := ((F_laws_szMatch a0 1048576).bind fun y1 => (if (decide (y1 < 0)) = true then (some true) else ((F_laws_toMatch a0).bind fun y2 => ((F_spec_MatchLine y2).bind fun y3 => ((F_laws_toMatch a0).bind fun y4 => ((F_impl_MatchLine y4).bind fun y5 => (if (!decide (y5 = y3)) = true then (some false) else ((F_laws_toMatch a0).bind fun y6 => ((F_laws_eqMatch y4 y6).bind fun y7 => (if (!y7) = true then (some false) else (some true)))))))))))
theorem u_laws_FnExactMatchLine (a0 : DMatch) (r : Bool) (h : B_laws_FnExactMatchLine a0 = some r) : F_laws_FnExactMatchLine a0 = some r := by
 unfold B_laws_FnExactMatchLine at h
 refine k_W ok_4 E_bool_inj h (fun σ0 => ?_)
 refine t_R ?_
 refine k_box (fun b1 => ?_)
 refine t_N ?_
 refine t_RN ?_
 refine t_R ?_
 refine k_load 0 ?_
 refine t_U 1 ?_
 refine k_call fun y1 hy1 => ?_
 refine t_N ?_
 refine t_RN ?_
 refine t_if (fun hc1 => ?_) fun hc1 => ?_
 ·refine t_RN ?_
  exact k_eW (rT rN) E_bool_p
 refine t_R ?_
 refine k_load 0 ?_
 refine k_callO1 (fun y2 t1 hy2 ht1 => ?_)
 refine k_callH (fun y3 hy3 => ?_)
 refine t_N ?_
 refine t_R ?_
 refine k_load 1 ?_
 refine k_callO1 (fun y4 t2 hy4 ht2 => ?_)
 refine k_alloc fun b2 => ?_
 refine k_storeA 0 ?_ (h1 := by simp [ht2.1, ht2.2])
 refine t_N ?_
 refine t_R ?_
 refine k_load 0 ?_
 refine t_h Heap.up1 ?_
 refine k_callH (fun y5 hy5 => ?_)
 refine t_N ?_
 refine t_RN ?_
 refine t_if (fun hc2 => ?_) fun hc2 => ?_
 ·refine t_RN ?_
  exact k_eW (rT rN) E_bool_p
 refine t_chain [] ext_x fun mb σs hn0 hlt hlto => ?_
 have hlt_b2 : b2 < mb := hlt b2 _ (List.Mem.tail _ (List.Mem.head _))
 refine k_load 1 ?_ (hlt := by exact (Or.inr ⟨hlt_b2, Wc.nil⟩))
 refine k_load 3 ?_ (hlt := by exact (Or.inl (by kernel_rfl)))
 refine k_callO1 (fun y6 t3 hy6 ht3 => ?_)
 refine t_h Heap.up1 ?_
 refine k_callH (fun y7 hy7 => ?_)
 refine t_N ?_
 refine t_if (fun hc3 => ?_) fun hc3 => ?_
 ·refine t_RN ?_
  exact k_eW (rT rN) E_bool_p
 refine t_RN ?_
 exact k_eW (rT rN) E_bool_p
noncomputable def B_laws_szMatch (a0 : DMatch) (a1 : Int) : Option Int := ((F_laws_szCaptureS a0.Captures a1).bind fun y1 => (if (decide (y1 < 0)) = true then (some (-1)) else (some y1)))
theorem u_laws_szMatch (a0 : DMatch) (a1 : Int) (r : Int) (h : B_laws_szMatch a0 a1 = some r) : F_laws_szMatch a0 a1 = some r := by
 unfold B_laws_szMatch at h
 refine k_W ok_12 E_i64_inj h (fun σ0 => ?_)
 refine t_R ?_
 refine k_box (fun b1 => ?_)
 refine t_N ?_
 refine t_RU 1 ?_
 refine k_load 0 ?_
 refine t_U 1 ?_
 refine k_call fun y1 hy1 => ?_
 refine t_N ?_
 refine t_RN ?_
 refine t_if (fun hc1 => ?_) fun hc1 => ?_
 ·refine t_RN ?_
  exact k_eW (rT rN) E_i64_p
 refine t_RN ?_
 exact k_eW (rT rN) E_i64_p
noncomputable def B_spec_MatchLine (a0 : DMatch) : Option ByteArray := ((F_spec_l16Digits a0.Start).bind fun y1 => ((catB y1 ⟨#[45]⟩).bind fun y2 => ((F_spec_l16Digits a0.End).bind fun y3 => ((catB y2 y3).bind fun y4 => ((loopO (S := (ByteArray × Int)) (R := ByteArray) (fun st1 => (if (decide (st1.2 < (a0.Captures.l.length : Int))) = true then ((elt a0.Captures st1.2).bind fun y6 => ((F_spec_CaptureText y6).bind fun y7 => (if (!decide (y7 = (⟨#[]⟩ : ByteArray))) = true then ((catB ⟨#[32]⟩ y7).bind fun y8 => ((catB st1.1 y8).bind fun y9 => (some (.inl (y9, (IntKind.i64.wrap (st1.2 + 1))))))) else (some (.inl (st1.1, (IntKind.i64.wrap (st1.2 + 1)))))))) else (some (.inr st1.1)))) (y4, 0)).bind fun y5 => (some y5))))))
theorem u_spec_MatchLine (a0 : DMatch) (r : ByteArray) (h : B_spec_MatchLine a0 = some r) : F_spec_MatchLine a0 = some r := by
 unfold B_spec_MatchLine at h
 refine k_W ok_13 E_str_inj h (fun σ0 => ?_)
 refine t_R ?_
 refine k_box (fun b1 => ?_)
 refine t_N ?_
 refine t_D fun mb => ?_
 refine t_U 1 ?_
 refine k_load 0 ?_
 refine k_call fun y1 hy1 => ?_
 refine k_cat fun y2 hy2 => ?_
 refine t_U 1 ?_
 refine k_load 0 ?_
 refine k_call fun y3 hy3 => ?_
 refine k_cat fun y4 hy4 => ?_
 refine t_N ?_
 refine t_RN ?_
 refine t_loop (fun st1 fr => Sub [(1, .ptr b1 0 0 3), (3, .str st1.1), (4, i4 st1.2)] fr.s ∧ Heap σ0 fr.σ [.box b1 (DMatch.cells a0)]) (fun y5 e fr => e = (.exit 0) ∧ Sub [(3, .str y5)] fr.s ∧ Heap σ0 fr.σ []) (fun hS hH => And.intro (sub_to hS (by kernel_rfl)) hH) (fun st1 x fr h HI => ?_) fun y5 e fr h HF => ?_
 ·obtain ⟨s, σ⟩ := fr; obtain ⟨hS, hH⟩ := HI
  refine t_bk h hS hH ?_
  refine t_RU 2 ?_
  refine k_load 0 ?_
  refine t_N ?_
  refine t_if (fun hc1 => ?_) fun hc1 => ?_
  ·refine t_RU 1 ?_
   refine k_load 0 ?_
   refine t_U 1 ?_
   refine k_elt fun y6 rest1 hy6 => ?_
   refine t_U 1 ?_
   refine k_call fun y7 hy7 => ?_
   refine t_N ?_
   refine t_RN ?_
   refine t_if (fun hc2 => ?_) fun hc2 => ?_
   ·refine t_RU 2 ?_
    refine k_cat fun y8 hy8 => ?_
    refine k_cat fun y9 hy9 => ?_
    refine t_N ?_
    refine t_RN ?_
    exact t_e fun he hS hH => he ▸ And.intro (sub_to hS (by kernel_rfl)) hH
   refine t_RN ?_
   exact t_e fun he hS hH => he ▸ And.intro (sub_to hS (by kernel_rfl)) hH
  exact t_e fun he hS hH => he ▸ And.intro rfl (And.intro (sub_to hS (by kernel_rfl)) (Heap.sel hH [] rfl (by kernel_rfl)))
 obtain ⟨s, σ⟩ := fr
 obtain ⟨rfl, hS, hH⟩ := HF
 refine t_bx h hS hH ?_
 refine t_RN ?_
 exact k_eW (rT rN) E_str_p
noncomputable def B_laws_toMatch (a0 : DMatch) : Option DMatch := ((F_laws_toCaptureS a0.Captures).bind fun y1 => (some (⟨a0.Start, a0.End, y1⟩ : DMatch)))
theorem u_laws_toMatch (a0 : DMatch) (r : DMatch) (h : B_laws_toMatch a0 = some r) : F_laws_toMatch a0 = some r := by
 unfold B_laws_toMatch at h
 refine k_O ok_14 h (fun σ0 => ?_)
 refine t_R ?_
 refine k_box (fun b1 => ?_)
 refine k_alloc fun b2 => ?_
 refine t_N ?_
 refine t_R ?_
 refine k_alloc fun b3 => ?_
 refine t_N ?_
 refine t_RU 1 ?_
 refine k_load 2 ?_
 refine t_U 1 ?_
 refine k_store 0 ?_
 refine t_N ?_
 refine t_RU 1 ?_
 refine k_load 2 ?_
 refine t_U 1 ?_
 refine k_store 0 ?_
 refine t_N ?_
 refine t_RU 1 ?_
 refine k_load 2 ?_
 refine k_callO1 (fun y1 t1 hy1 ht1 => ?_)
 refine t_U 1 ?_
 refine k_storeT 1 ht1 ?_
 refine t_N ?_
 refine t_R ?_
 refine k_load 0 ?_
 refine k_storeA 2 ?_ (h1 := by simp [ht1.1, ht1.2])
 refine t_N ?_
 refine t_h Heap.up2 ?_
 exact k_eO [t1] (rC 1 rN)
noncomputable def B_impl_MatchLine (a0 : DMatch) : Option ByteArray := ((F_impl_decimal a0.Start).bind fun y1 => ((catB y1 ⟨#[45]⟩).bind fun y2 => ((F_impl_decimal a0.End).bind fun y3 => ((catB y2 y3).bind fun y4 => ((loopO (S := (ByteArray × Int)) (R := ByteArray) (fun st1 => (if (decide (st1.2 < (a0.Captures.l.length : Int))) = true then ((elt a0.Captures st1.2).bind fun y6 => ((F_impl_CaptureText y6).bind fun y7 => (if (!decide (y7 = (⟨#[]⟩ : ByteArray))) = true then ((catB ⟨#[32]⟩ y7).bind fun y8 => ((catB st1.1 y8).bind fun y9 => (some (.inl (y9, (IntKind.i64.wrap (st1.2 + 1))))))) else (some (.inl (st1.1, (IntKind.i64.wrap (st1.2 + 1)))))))) else (some (.inr st1.1)))) (y4, 0)).bind fun y5 => (some y5))))))
theorem u_impl_MatchLine (a0 : DMatch) (r : ByteArray) (h : B_impl_MatchLine a0 = some r) : F_impl_MatchLine a0 = some r := by
 unfold B_impl_MatchLine at h
 refine k_W ok_15 E_str_inj h (fun σ0 => ?_)
 refine t_R ?_
 refine k_box (fun b1 => ?_)
 refine t_N ?_
 refine t_D fun mb => ?_
 refine t_U 1 ?_
 refine k_load 0 ?_
 refine k_call fun y1 hy1 => ?_
 refine k_cat fun y2 hy2 => ?_
 refine t_U 1 ?_
 refine k_load 0 ?_
 refine k_call fun y3 hy3 => ?_
 refine k_cat fun y4 hy4 => ?_
 refine t_N ?_
 refine t_RU 1 ?_
 refine k_load 0 ?_
 refine t_N ?_
 refine t_loop (fun st1 fr => Sub [(3, .str st1.1), (16, a0.Captures.t), (17, i4 (a0.Captures.l.length : Int)), (18, i4 st1.2)] fr.s ∧ Heap σ0 fr.σ []) (fun y5 e fr => e = (.exit 0) ∧ Sub [(3, .str y5)] fr.s ∧ Heap σ0 fr.σ []) (fun hS hH => And.intro (sub_to hS (by kernel_rfl)) (Heap.sel hH [] rfl (by kernel_rfl))) (fun st1 x fr h HI => ?_) fun y5 e fr h HF => ?_
 ·obtain ⟨s, σ⟩ := fr; obtain ⟨hS, hH⟩ := HI
  refine t_bk h hS hH ?_
  refine t_RN ?_
  refine t_if (fun hc1 => ?_) fun hc1 => ?_
  ·refine t_R ?_
   refine k_elt fun y6 rest1 hy6 => ?_
   refine t_U 1 ?_
   refine k_alloc fun b2 => ?_
   refine k_storeA 0 ?_
   refine t_N ?_
   refine t_R ?_
   refine k_load 0 ?_
   refine k_call fun y7 hy7 => ?_
   refine t_N ?_
   refine t_RN ?_
   refine t_if (fun hc2 => ?_) fun hc2 => ?_
   ·refine t_RU 2 ?_
    refine k_cat fun y8 hy8 => ?_
    refine k_cat fun y9 hy9 => ?_
    refine t_N ?_
    refine t_RN ?_
    exact t_e fun he hS hH => he ▸ And.intro (sub_to hS (by kernel_rfl)) (Heap.sel hH [] rfl (by kernel_rfl))
   refine t_RN ?_
   exact t_e fun he hS hH => he ▸ And.intro (sub_to hS (by kernel_rfl)) (Heap.sel hH [] rfl (by kernel_rfl))
  exact t_e fun he hS hH => he ▸ And.intro rfl (And.intro (sub_to hS (by kernel_rfl)) hH)
 obtain ⟨s, σ⟩ := fr
 obtain ⟨rfl, hS, hH⟩ := HF
 refine t_bx h hS hH ?_
 refine t_RN ?_
 exact k_eW (rT rN) E_str_p
noncomputable def B_laws_eqMatch (a0 : DMatch) (a1 : DMatch) : Option Bool := (if (!decide (a0.Start = a1.Start)) = true then (some false) else (if (!decide (a0.End = a1.End)) = true then (some false) else ((F_laws_eqCaptureS a0.Captures a1.Captures).bind fun y1 => (if (!y1) = true then (some false) else (some true)))))
theorem u_laws_eqMatch (a0 : DMatch) (a1 : DMatch) (r : Bool) (h : B_laws_eqMatch a0 a1 = some r) : F_laws_eqMatch a0 a1 = some r := by
 unfold B_laws_eqMatch at h
 refine k_W ok_16 E_bool_inj h (fun σ0 => ?_)
 refine t_R ?_
 refine k_box (fun b1 => ?_)
 refine k_box (fun b2 => ?_)
 refine t_N ?_
 refine t_RU 1 ?_
 refine k_load 1 ?_
 refine t_U 1 ?_
 refine k_load 0 ?_
 refine t_N ?_
 refine t_if (fun hc1 => ?_) fun hc1 => ?_
 ·refine t_RN ?_
  exact k_eW (rT rN) E_bool_p
 refine t_RU 1 ?_
 refine k_load 1 ?_
 refine t_U 1 ?_
 refine k_load 0 ?_
 refine t_N ?_
 refine t_if (fun hc2 => ?_) fun hc2 => ?_
 ·refine t_RN ?_
  exact k_eW (rT rN) E_bool_p
 refine t_RU 1 ?_
 refine k_load 1 ?_
 refine t_U 1 ?_
 refine k_load 0 ?_
 refine k_call fun y1 hy1 => ?_
 refine t_N ?_
 refine t_if (fun hc3 => ?_) fun hc3 => ?_
 ·refine t_RN ?_
  exact k_eW (rT rN) E_bool_p
 refine t_RN ?_
 exact k_eW (rT rN) E_bool_p
noncomputable def B_impl_decimal (a0 : Int) : Option ByteArray := ((F_strconv_FormatInt a0 10).bind fun y1 => (some y1))
theorem u_impl_decimal (a0 : Int) (r : ByteArray) (h : B_impl_decimal a0 = some r) : F_impl_decimal a0 = some r := by
 unfold B_impl_decimal at h
 refine k_W ok_31 E_str_inj h (fun σ0 => ?_)
 refine t_RN ?_
 refine t_RU 1 ?_
 refine k_call fun y1 hy1 => ?_
 refine t_N ?_
 exact k_eW (rT rN) E_str_p
noncomputable def B_laws_szCaptureS (a0 : (Sl DCapture)) (a1 : Int) : Option Int := (if (decide ((IntKind.i64.wrap (a1 - (a0.l.length : Int))) < 0)) = true then (some (-1)) else ((loopO (S := (Int × Int)) (R := (Int ⊕ Int)) (fun st1 => (if (decide (st1.2 < (a0.l.length : Int))) = true then ((elt a0 st1.2).bind fun y2 => ((F_laws_szCapture y2 st1.1).bind fun y3 => (if (decide (y3 < 0)) = true then (some (.inr (.inr (-1)))) else (some (.inl (y3, (IntKind.i64.wrap (st1.2 + 1)))))))) else (some (.inr (.inl st1.1))))) ((IntKind.i64.wrap (a1 - (a0.l.length : Int))), 0)).bind fun y1 => (Sum.elim (fun y1 => (some y1)) (fun y1 => (some y1)) y1)))
theorem u_laws_szCaptureS (a0 : (Sl DCapture)) (a1 : Int) (r : Int) (h : B_laws_szCaptureS a0 a1 = some r) : F_laws_szCaptureS a0 a1 = some r := by
 unfold B_laws_szCaptureS at h
 refine k_W ok_37 E_i64_inj h (fun σ0 => ?_)
 refine t_RN ?_
 refine t_RN ?_
 refine t_RN ?_
 refine t_if (fun hc1 => ?_) fun hc1 => ?_
 ·refine t_RN ?_
  exact k_eW (rT rN) E_i64_p
 refine t_RN ?_
 refine t_loop (fun st1 fr => Sub [(0, a0.t), (1, i4 st1.1), (5, i4 st1.2)] fr.s ∧ Heap σ0 fr.σ []) (fun y1 e fr => (Sum.elim (fun y => e = (.exit 0) ∧ Sub [(1, i4 y)] fr.s ∧ Heap σ0 fr.σ []) (fun y => e = .ret ∧ endW Tryd.prog (Tryd.f37.results.toList) σ0 (E_i64 y) .ret fr)) y1) (fun hS hH => And.intro (sub_to hS (by kernel_rfl)) hH) (fun st1 x fr h HI => ?_) fun y1 e fr h HF => ?_
 ·obtain ⟨s, σ⟩ := fr; obtain ⟨hS, hH⟩ := HI
  refine t_bk h hS hH ?_
  refine t_RN ?_
  refine t_if (fun hc2 => ?_) fun hc2 => ?_
  ·refine t_RU 2 ?_
   refine k_elt fun y2 rest1 hy2 => ?_
   refine t_U 2 ?_
   refine k_call fun y3 hy3 => ?_
   refine t_N ?_
   refine t_RN ?_
   refine t_if (fun hc3 => ?_) fun hc3 => ?_
   ·refine t_RN ?_
    exact t_e fun he hS hH => he ▸ And.intro rfl (eW hS hH (rT rN) E_i64_p)
   refine t_RN ?_
   exact t_e fun he hS hH => he ▸ And.intro (sub_to hS (by kernel_rfl)) hH
  exact t_e fun he hS hH => he ▸ And.intro rfl (And.intro (sub_to hS (by kernel_rfl)) hH)
 obtain ⟨s, σ⟩ := fr
 rcases y1 with y1 | y1
 ·have h := el_l h
  obtain ⟨rfl, hS, hH⟩ := HF
  refine t_bx h hS hH ?_
  refine t_RN ?_
  exact k_eW (rT rN) E_i64_p
 have h := el_r h
 obtain ⟨rfl, HE⟩ := HF
 injection h with h; subst h; exact HE
noncomputable def B_spec_l16Digits (a0 : Int) : Option ByteArray := (if (decide (a0 < 0)) = true then ((F_spec_l16Below a0).bind fun y1 => ((catB ⟨#[45]⟩ y1).bind fun y2 => (some y2))) else ((F_spec_l11Digits a0).bind fun y3 => (some y3)))
theorem u_spec_l16Digits (a0 : Int) (r : ByteArray) (h : B_spec_l16Digits a0 = some r) : F_spec_l16Digits a0 = some r := by
 unfold B_spec_l16Digits at h
 refine k_W ok_38 E_str_inj h (fun σ0 => ?_)
 refine t_RN ?_
 refine t_RN ?_
 refine t_if (fun hc1 => ?_) fun hc1 => ?_
 ·refine t_RU 1 ?_
  refine k_call fun y1 hy1 => ?_
  refine k_cat fun y2 hy2 => ?_
  refine t_N ?_
  exact k_eW (rT rN) E_str_p
 refine t_RU 1 ?_
 refine k_call fun y3 hy3 => ?_
 refine t_N ?_
 exact k_eW (rT rN) E_str_p
noncomputable def B_spec_CaptureText (a0 : DCapture) : Option ByteArray := (if (decide (a0.Kind = 3)) = true then ((catB a0.Name ⟨#[58]⟩).bind fun y1 => ((F_spec_l16Digits a0.Cursor).bind fun y2 => ((catB y1 y2).bind fun y3 => (some y3)))) else (((if (decide (a0.Kind = 1)) = true then (some (decide (a0.Kind = 1))) else (some (decide (a0.Kind = 2)))) : Option Bool).bind fun y4 => (if y4 = true then ((catB a0.Name ⟨#[58]⟩).bind fun y5 => ((F_spec_l11Literal a0.Text).bind fun y6 => ((catB y5 y6).bind fun y7 => (some y7)))) else (some ⟨#[]⟩))))
theorem u_spec_CaptureText (a0 : DCapture) (r : ByteArray) (h : B_spec_CaptureText a0 = some r) : F_spec_CaptureText a0 = some r := by
 unfold B_spec_CaptureText at h
 refine k_W ok_39 E_str_inj h (fun σ0 => ?_)
 refine t_R ?_
 refine k_box (fun b1 => ?_)
 refine t_N ?_
 refine t_RU 1 ?_
 refine k_load 0 ?_
 refine t_N ?_
 refine t_RN ?_
 refine t_if (fun hc1 => ?_) fun hc1 => ?_
 ·refine t_D fun mb => ?_
  refine t_U 1 ?_
  refine k_load 0 ?_
  refine k_cat fun y1 hy1 => ?_
  refine t_U 1 ?_
  refine k_load 0 ?_
  refine k_call fun y2 hy2 => ?_
  refine k_cat fun y3 hy3 => ?_
  refine t_N ?_
  exact k_eW (rT rN) E_str_p
 refine t_RN ?_
 refine t_cut 0 (fun y4 e fr => e = .normal ∧ Sub [(1, .ptr b1 0 0 4), (14, .bool y4)] fr.s ∧ Heap σ0 fr.σ [.box b1 (DCapture.cells a0)]) (fun y4 e fr h HF => ?_) fun y4 => ?_
 ·obtain ⟨s, σ⟩ := fr
  obtain ⟨rfl, hS, hH⟩ := HF
  refine t_bx h hS hH ?_
  refine t_if (fun hc2 => ?_) fun hc2 => ?_
  ·refine t_D fun mb => ?_
   refine t_U 1 ?_
   refine k_load 0 ?_
   refine k_cat fun y5 hy5 => ?_
   refine t_U 1 ?_
   refine k_load 0 ?_
   refine k_call fun y6 hy6 => ?_
   refine k_cat fun y7 hy7 => ?_
   refine t_N ?_
   exact k_eW (rT rN) E_str_p
  refine t_RN ?_
  exact k_eW (rT rN) E_str_p
 refine t_if (fun hc3 => ?_) fun hc3 => ?_
 ·exact t_e fun he hS hH => by subst he; exact And.intro rfl (And.intro (sub_to hS (by kernel_rfl)) hH)
 refine t_RN ?_
 exact t_e fun he hS hH => by subst he; exact And.intro rfl (And.intro (sub_to hS (by kernel_rfl)) hH)
noncomputable def B_laws_toCaptureS (a0 : (Sl DCapture)) : Option (Sl DCapture) := ((mkS 48 ((⟨⟨#[]⟩, ⟨#[]⟩, 0, 0⟩ : DCapture) : DCapture) (a0.l.length : Int) (a0.l.length : Int)).bind fun y1 => ((loopO (S := (Int × (Sl DCapture))) (R := (Sl DCapture)) (fun st1 => (if (decide (st1.1 < (a0.l.length : Int))) = true then ((elt a0 st1.1).bind fun y3 => ((F_laws_toCapture y3).bind fun y4 => ((elt st1.2 st1.1).bind fun y5 => (some (.inl ((IntKind.i64.wrap (st1.1 + 1)), (setS st1.2 st1.1 (y4 : DCapture)))))))) else (some (.inr st1.2)))) (0, y1)).bind fun y2 => (some y2)))
theorem u_laws_toCaptureS (a0 : (Sl DCapture)) (r : (Sl DCapture)) (h : B_laws_toCaptureS a0 = some r) : F_laws_toCaptureS a0 = some r := by
 unfold B_laws_toCaptureS at h
 refine k_O ok_40 h (fun σ0 => ?_)
 refine t_RN ?_
 refine t_RU 2 ?_
 intro h s σ hS hH
 obtain ⟨y1, hy1, h⟩ := bind_some h
 refine q_make (z := true) (e := 100) (by_ := 48) (x0 := ((⟨⟨#[]⟩, ⟨#[]⟩, 0, 0⟩ : DCapture) : DCapture)) (fun σ d => by simp [Enc.cells, DCapture.cells, Iv]) rfl hS hH rfl rfl (by kernel_rfl) (by kernel_rfl) (by kernel_rfl) (by kernel_rfl) rfl hy1 ?_; intro t1 σ s ht1 hH hS
 refine t_bk h hS hH ?_
 refine t_N ?_
 refine t_RN ?_
 refine t_loop (fun st1 fr => Sub [(0, a0.t), (3, t1), (4, i4 st1.1)] fr.s ∧ Heap σ0 fr.σ [.own true 4 t1 st1.2.t]) (fun y2 e fr => e = (.exit 0) ∧ Sub [(3, t1)] fr.s ∧ Heap σ0 fr.σ [.own true 4 t1 y2.t]) (fun hS hH => And.intro (sub_to hS (by kernel_rfl)) hH) (fun st1 x fr h HI => ?_) fun y2 e fr h HF => ?_
 ·obtain ⟨s, σ⟩ := fr; obtain ⟨hS, hH⟩ := HI
  refine t_bk h hS hH ?_
  refine t_RN ?_
  refine t_if (fun hc1 => ?_) fun hc1 => ?_
  ·refine t_RU 4 ?_
   refine k_elt fun y3 rest1 hy3 => ?_
   refine t_U 1 ?_
   refine k_call fun y4 hy4 => ?_
   refine k_hidx 0 (fun hb1 hb1e y5 hy5 hl_hb1 => ?_)
   intro h s σ hS hH
   refine q_hstore (ents := []) (a := st1.2) (j := st1.1) (y := y5) (y' := (y4 : DCapture)) (off := 0) (c := [.str y5.Name, .str y5.Text, i4 y5.Cursor, i4 y5.Kind]) (us := [.str y4.Name, .str y4.Text, i4 y4.Cursor, i4 y4.Kind]) (vs := [.str y4.Name, .str y4.Text, i4 y4.Cursor, i4 y4.Kind]) (v := .agg (DCapture.cells y4)) rfl hS hH hl_hb1 rfl rfl rfl (by kernel_rfl) (by kernel_rfl) rfl hy5 rfl (HLs (HLs (HLi (HLi HL.nil)))) rfl (by kernel_rfl) ?_; intro σ s hH hS
   refine t_bk h hS hH ?_
   refine t_N ?_
   refine t_RN ?_
   exact t_e fun he hS hH => he ▸ And.intro (sub_to hS (by kernel_rfl)) hH
  exact t_e fun he hS hH => he ▸ And.intro rfl (And.intro (sub_to hS (by kernel_rfl)) hH)
 obtain ⟨s, σ⟩ := fr
 obtain ⟨rfl, hS, hH⟩ := HF
 refine t_bx h hS hH ?_
 refine t_RN ?_
 exact k_eO [t1] (rT rN)
noncomputable def B_impl_CaptureText (a0 : DCapture) : Option ByteArray := (if (decide (a0.Kind = 3)) = true then ((catB a0.Name ⟨#[58]⟩).bind fun y1 => ((F_impl_decimal a0.Cursor).bind fun y2 => ((catB y1 y2).bind fun y3 => (some y3)))) else (((if (decide (a0.Kind = 1)) = true then (some (decide (a0.Kind = 1))) else (some (decide (a0.Kind = 2)))) : Option Bool).bind fun y4 => (if y4 = true then ((catB a0.Name ⟨#[58]⟩).bind fun y5 => ((F_impl_QuoteText a0.Text).bind fun y6 => ((catB y5 y6).bind fun y7 => (some y7)))) else (some ⟨#[]⟩))))
theorem u_impl_CaptureText (a0 : DCapture) (r : ByteArray) (h : B_impl_CaptureText a0 = some r) : F_impl_CaptureText a0 = some r := by
 unfold B_impl_CaptureText at h
 refine k_W ok_41 E_str_inj h (fun σ0 => ?_)
 refine t_R ?_
 refine k_box (fun b1 => ?_)
 refine t_N ?_
 refine t_RU 1 ?_
 refine k_load 0 ?_
 refine t_N ?_
 refine t_RN ?_
 refine t_if (fun hc1 => ?_) fun hc1 => ?_
 ·refine t_D fun mb => ?_
  refine t_U 1 ?_
  refine k_load 0 ?_
  refine k_cat fun y1 hy1 => ?_
  refine t_U 1 ?_
  refine k_load 0 ?_
  refine k_call fun y2 hy2 => ?_
  refine k_cat fun y3 hy3 => ?_
  refine t_N ?_
  exact k_eW (rT rN) E_str_p
 refine t_RN ?_
 refine t_cut 0 (fun y4 e fr => e = .normal ∧ Sub [(1, .ptr b1 0 0 4), (14, .bool y4)] fr.s ∧ Heap σ0 fr.σ [.box b1 (DCapture.cells a0)]) (fun y4 e fr h HF => ?_) fun y4 => ?_
 ·obtain ⟨s, σ⟩ := fr
  obtain ⟨rfl, hS, hH⟩ := HF
  refine t_bx h hS hH ?_
  refine t_if (fun hc2 => ?_) fun hc2 => ?_
  ·refine t_D fun mb => ?_
   refine t_U 1 ?_
   refine k_load 0 ?_
   refine k_cat fun y5 hy5 => ?_
   refine t_U 1 ?_
   refine k_load 0 ?_
   refine k_call fun y6 hy6 => ?_
   refine k_cat fun y7 hy7 => ?_
   refine t_N ?_
   exact k_eW (rT rN) E_str_p
  refine t_RN ?_
  exact k_eW (rT rN) E_str_p
 refine t_if (fun hc3 => ?_) fun hc3 => ?_
 ·exact t_e fun he hS hH => by subst he; exact And.intro rfl (And.intro (sub_to hS (by kernel_rfl)) hH)
 refine t_RN ?_
 exact t_e fun he hS hH => by subst he; exact And.intro rfl (And.intro (sub_to hS (by kernel_rfl)) hH)
noncomputable def B_laws_eqCaptureS (a0 : (Sl DCapture)) (a1 : (Sl DCapture)) : Option Bool := (if ((!decide ((a0.l.length : Int) = (a1.l.length : Int)))) = true then (some false) else ((loopO (S := Int) (R := (Unit ⊕ Bool)) (fun st1 => (if (decide (st1 < (a0.l.length : Int))) = true then ((elt a0 st1).bind fun y2 => ((elt a1 st1).bind fun y3 => ((F_laws_eqCapture y2 y3).bind fun y4 => (if (!y4) = true then (some (.inr (.inr false))) else (some (.inl (IntKind.i64.wrap (st1 + 1)))))))) else (some (.inr (.inl ()))))) 0).bind fun y1 => (Sum.elim (fun y1 => (some true)) (fun y1 => (some y1)) y1)))
theorem u_laws_eqCaptureS (a0 : (Sl DCapture)) (a1 : (Sl DCapture)) (r : Bool) (h : B_laws_eqCaptureS a0 a1 = some r) : F_laws_eqCaptureS a0 a1 = some r := by
 unfold B_laws_eqCaptureS at h
 refine k_W ok_42 E_bool_inj h (fun σ0 => ?_)
 refine t_RN ?_
 refine t_RN ?_
 refine t_if (fun hc1 => ?_) fun hc1 => ?_
 ·refine t_RN ?_
  exact k_eW (rT rN) E_bool_p
 refine t_RN ?_
 refine t_loop (fun st1 fr => Sub [(0, a0.t), (1, a1.t), (5, i4 st1)] fr.s ∧ Heap σ0 fr.σ []) (fun y1 e fr => (Sum.elim (fun y => e = (.exit 0) ∧ Sub [] fr.s ∧ Heap σ0 fr.σ []) (fun y => e = .ret ∧ endW Tryd.prog (Tryd.f42.results.toList) σ0 (E_bool y) .ret fr)) y1) (fun hS hH => And.intro (sub_to hS (by kernel_rfl)) hH) (fun st1 x fr h HI => ?_) fun y1 e fr h HF => ?_
 ·obtain ⟨s, σ⟩ := fr; obtain ⟨hS, hH⟩ := HI
  refine t_bk h hS hH ?_
  refine t_RN ?_
  refine t_if (fun hc2 => ?_) fun hc2 => ?_
  ·refine t_D fun mb => ?_
   refine t_U 2 ?_
   refine k_elt fun y2 rest1 hy2 => ?_
   refine t_U 3 ?_
   refine k_elt fun y3 rest2 hy3 => ?_
   refine t_U 1 ?_
   refine k_call fun y4 hy4 => ?_
   refine t_N ?_
   refine t_if (fun hc3 => ?_) fun hc3 => ?_
   ·refine t_RN ?_
    exact t_e fun he hS hH => he ▸ And.intro rfl (eW hS hH (rT rN) E_bool_p)
   refine t_RN ?_
   exact t_e fun he hS hH => he ▸ And.intro (sub_to hS (by kernel_rfl)) hH
  exact t_e fun he hS hH => he ▸ And.intro rfl (And.intro (sub_to hS (by kernel_rfl)) hH)
 obtain ⟨s, σ⟩ := fr
 rcases y1 with y1 | y1
 ·have h := el_l h
  obtain ⟨rfl, hS, hH⟩ := HF
  refine t_bx h hS hH ?_
  refine t_RN ?_
  exact k_eW (rT rN) E_bool_p
 have h := el_r h
 obtain ⟨rfl, HE⟩ := HF
 injection h with h; subst h; exact HE
noncomputable def B_impl_QuoteText (a0 : ByteArray) : Option ByteArray := ((F_strings_ReplaceAll a0 ⟨#[34]⟩ ⟨#[34, 34]⟩).bind fun y1 => ((catB ⟨#[34]⟩ y1).bind fun y2 => ((catB y2 ⟨#[34]⟩).bind fun y3 => (some y3))))
theorem u_impl_QuoteText (a0 : ByteArray) (r : ByteArray) (h : B_impl_QuoteText a0 = some r) : F_impl_QuoteText a0 = some r := by
 unfold B_impl_QuoteText at h
 refine k_W ok_59 E_str_inj h (fun σ0 => ?_)
 refine t_RN ?_
 refine t_RU 1 ?_
 refine k_call fun y1 hy1 => ?_
 refine k_cat fun y2 hy2 => ?_
 refine k_cat fun y3 hy3 => ?_
 refine t_N ?_
 exact k_eW (rT rN) E_str_p
noncomputable def B_laws_szCapture (a0 : DCapture) (a1 : Int) : Option Int := (if (decide ((IntKind.i64.wrap (a1 - (a0.Name.size : Int))) < 0)) = true then (some (-1)) else (if ((decide ((IntKind.i64.wrap ((IntKind.i64.wrap (a1 - (a0.Name.size : Int))) - (a0.Text.size : Int))) < 0))) = true then (some (-1)) else (some (IntKind.i64.wrap ((IntKind.i64.wrap (a1 - (a0.Name.size : Int))) - (a0.Text.size : Int))))))
theorem u_laws_szCapture (a0 : DCapture) (a1 : Int) (r : Int) (h : B_laws_szCapture a0 a1 = some r) : F_laws_szCapture a0 a1 = some r := by
 unfold B_laws_szCapture at h
 refine k_W ok_72 E_i64_inj h (fun σ0 => ?_)
 refine t_R ?_
 refine k_box (fun b1 => ?_)
 refine t_N ?_
 refine t_RU 2 ?_
 refine k_load 0 ?_
 refine t_N ?_
 refine t_RN ?_
 refine t_if (fun hc1 => ?_) fun hc1 => ?_
 ·refine t_RN ?_
  exact k_eW (rT rN) E_i64_p
 refine t_RU 2 ?_
 refine k_load 0 ?_
 refine t_N ?_
 refine t_RN ?_
 refine t_if (fun hc2 => ?_) fun hc2 => ?_
 ·refine t_RN ?_
  exact k_eW (rT rN) E_i64_p
 refine t_RN ?_
 exact k_eW (rT rN) E_i64_p
noncomputable def B_spec_l16Below (a0 : Int) : Option ByteArray := ((strS ((⟨false, [⟨(IntKind.u8.wrap (IntKind.i64.wrap (48 - (a0.tmod 10))))⟩]⟩ : Sl (Iv .u8)))).bind fun y1 => (if (decide ((-10) < a0)) = true then (some y1) else ((F_spec_l16Below (IntKind.i64.wrap (a0.tdiv 10))).bind fun y2 => ((catB y2 y1).bind fun y3 => (some y3)))))
theorem u_spec_l16Below (a0 : Int) (r : ByteArray) (h : B_spec_l16Below a0 = some r) : F_spec_l16Below a0 = some r := by
 unfold B_spec_l16Below at h
 refine k_W ok_73 E_str_inj h (fun σ0 => ?_)
 refine t_RN ?_
 refine t_RU 4 ?_
 refine k_bs (z := true) (⟨false, [⟨(IntKind.u8.wrap (IntKind.i64.wrap (48 - (a0.tmod 10))))⟩]⟩ : Sl (Iv .u8)) (fun t1 ht1 => ?_)
 refine k_b2s (a := (⟨false, [⟨(IntKind.u8.wrap (IntKind.i64.wrap (48 - (a0.tmod 10))))⟩]⟩ : Sl (Iv .u8))) 0 (fun y1 hy1 => ?_)
 refine t_N ?_
 refine t_RN ?_
 refine t_if (fun hc1 => ?_) fun hc1 => ?_
 ·refine t_RN ?_
  exact k_eW (rT rN) E_str_p
 refine t_RU 2 ?_
 refine k_call fun y2 hy2 => ?_
 refine t_U 1 ?_
 refine k_cat fun y3 hy3 => ?_
 refine t_N ?_
 exact k_eW (rT rN) E_str_p
noncomputable def B_spec_l11Digits (a0 : Int) : Option ByteArray := (if (decide (a0 < 10)) = true then ((strS ((⟨false, [⟨(IntKind.u8.wrap (IntKind.i64.wrap (48 + a0)))⟩]⟩ : Sl (Iv .u8)))).bind fun y1 => (some y1)) else ((F_spec_l11Digits (IntKind.i64.wrap (a0.tdiv 10))).bind fun y2 => ((strS ((⟨false, [⟨(IntKind.u8.wrap (IntKind.i64.wrap (48 + (a0.tmod 10))))⟩]⟩ : Sl (Iv .u8)))).bind fun y3 => ((catB y2 y3).bind fun y4 => (some y4)))))
theorem u_spec_l11Digits (a0 : Int) (r : ByteArray) (h : B_spec_l11Digits a0 = some r) : F_spec_l11Digits a0 = some r := by
 unfold B_spec_l11Digits at h
 refine k_W ok_74 E_str_inj h (fun σ0 => ?_)
 refine t_RN ?_
 refine t_RN ?_
 refine t_if (fun hc1 => ?_) fun hc1 => ?_
 ·refine t_RU 3 ?_
  refine k_bs (z := true) (⟨false, [⟨(IntKind.u8.wrap (IntKind.i64.wrap (48 + a0)))⟩]⟩ : Sl (Iv .u8)) (fun t1 ht1 => ?_)
  refine k_b2s (a := (⟨false, [⟨(IntKind.u8.wrap (IntKind.i64.wrap (48 + a0)))⟩]⟩ : Sl (Iv .u8))) 0 (fun y1 hy1 => ?_)
  refine t_N ?_
  exact k_eW (rT rN) E_str_p
 refine t_chainV [2] [] ext_x fun mb σs hn0 hlt hlto => ?_
 refine t_U 2 ?_
 refine k_call fun y2 hy2 => ?_
 refine t_U 4 ?_
 refine k_bs (z := true) (⟨false, [⟨(IntKind.u8.wrap (IntKind.i64.wrap (48 + (a0.tmod 10))))⟩]⟩ : Sl (Iv .u8)) (fun t2 ht2 => ?_) (hb := by exact hn0)
 refine k_b2s (a := (⟨false, [⟨(IntKind.u8.wrap (IntKind.i64.wrap (48 + (a0.tmod 10))))⟩]⟩ : Sl (Iv .u8))) 0 (fun y3 hy3 => ?_) (hq := by kernel_rfl)
 refine k_cat fun y4 hy4 => ?_
 refine t_N ?_
 exact k_eW (rT rN) E_str_p
noncomputable def B_spec_l11Literal (a0 : ByteArray) : Option ByteArray := ((loopO (S := (Int × (Sl (Iv .u8)))) (R := (Sl (Iv .u8))) (fun st1 => (if (decide (st1.1 < (a0.size : Int))) = true then ((byteAt a0 st1.1).bind fun y2 => ((appS 1 st1.2 (⟨false, [⟨y2⟩]⟩ : Sl (Iv .u8))).bind fun y3 => ((byteAt a0 st1.1).bind fun y4 => (if (decide (y4 = 34)) = true then ((appS 1 y3 (⟨false, [⟨34⟩]⟩ : Sl (Iv .u8))).bind fun y5 => (some (.inl ((IntKind.i64.wrap (st1.1 + 1)), y5)))) else (some (.inl ((IntKind.i64.wrap (st1.1 + 1)), y3))))))) else (some (.inr st1.2)))) (0, (⟨false, [⟨34⟩]⟩ : Sl (Iv .u8)))).bind fun y1 => ((appS 1 y1 (⟨false, [⟨34⟩]⟩ : Sl (Iv .u8))).bind fun y6 => ((strS y6).bind fun y7 => (some y7))))
theorem u_spec_l11Literal (a0 : ByteArray) (r : ByteArray) (h : B_spec_l11Literal a0 = some r) : F_spec_l11Literal a0 = some r := by
 unfold B_spec_l11Literal at h
 refine k_W ok_75 E_str_inj h (fun σ0 => ?_)
 refine t_RN ?_
 refine t_R ?_
 refine k_bs (z := true) (⟨false, [⟨34⟩]⟩ : Sl (Iv .u8)) (fun t1 ht1 => ?_)
 refine t_N ?_
 refine t_RN ?_
 refine t_loop (fun st1 fr => ∃ t3, IsOne t3 ∧ Sub [(0, .str a0), (3, t3), (4, i4 st1.1)] fr.s ∧ Heap σ0 fr.σ [.own true 1 t3 st1.2.t]) (fun y1 e fr => ∃ t4, IsOne t4 ∧ e = (.exit 0) ∧ Sub [(3, t4)] fr.s ∧ Heap σ0 fr.σ [.own true 1 t4 y1.t]) (fun hS hH => Exists.intro t1 (And.intro ht1 (And.intro (sub_to hS (by kernel_rfl)) hH))) (fun st1 x fr h HI => ?_) fun y1 e fr h HF => ?_
 ·obtain ⟨s, σ⟩ := fr; obtain ⟨t3, ht3, ⟨hS, hH⟩⟩ := HI
  refine t_bk h hS hH ?_
  refine t_RN ?_
  refine t_if (fun hc1 => ?_) fun hc1 => ?_
  ·refine t_RU 3 ?_
   refine k_byte fun y2 hy2 => ?_
   refine k_bs (z := true) (⟨false, [⟨y2⟩]⟩ : Sl (Iv .u8)) (fun t5 ht5 => ?_)
   refine k_app 1 0 (fun y3 t6 hy3 ht6 => ?_)
   refine t_N ?_
   refine t_RU 2 ?_
   refine k_byte fun y4 hy4 => ?_
   refine t_N ?_
   refine t_if (fun hc2 => ?_) fun hc2 => ?_
   ·refine t_RU 1 ?_
    refine k_bs (z := true) (⟨false, [⟨34⟩]⟩ : Sl (Iv .u8)) (fun t7 ht7 => ?_)
    refine k_app 1 0 (fun y5 t8 hy5 ht8 => ?_)
    refine t_N ?_
    refine t_RN ?_
    exact t_e fun he hS hH => he ▸ Exists.intro t8 (And.intro ht8 (And.intro (sub_to hS (by kernel_rfl)) hH))
   refine t_RN ?_
   exact t_e fun he hS hH => he ▸ Exists.intro t6 (And.intro ht6 (And.intro (sub_to hS (by kernel_rfl)) hH))
  exact t_e fun he hS hH => he ▸ Exists.intro t3 (And.intro ht3 (And.intro rfl (And.intro (sub_to hS (by kernel_rfl)) hH)))
 obtain ⟨s, σ⟩ := fr
 obtain ⟨t4, ht4, ⟨rfl, hS, hH⟩⟩ := HF
 refine t_bx h hS hH ?_
 refine t_RU 1 ?_
 refine k_bs (z := true) (⟨false, [⟨34⟩]⟩ : Sl (Iv .u8)) (fun t9 ht9 => ?_)
 refine k_app 1 0 (fun y6 t10 hy6 ht10 => ?_)
 refine k_b2s (a := y6) 0 (fun y7 hy7 => ?_)
 refine t_N ?_
 exact k_eW (rT rN) E_str_p
noncomputable def B_laws_toCapture (a0 : DCapture) : Option DCapture := (some a0)
theorem u_laws_toCapture (a0 : DCapture) (r : DCapture) (h : B_laws_toCapture a0 = some r) : F_laws_toCapture a0 = some r := by
 unfold B_laws_toCapture at h
 refine k_W ok_76 E_DCapture_inj h (fun σ0 => ?_)
 refine t_R ?_
 refine k_box (fun b1 => ?_)
 refine k_alloc fun b2 => ?_
 refine t_N ?_
 refine t_R ?_
 refine k_alloc fun b3 => ?_
 refine t_N ?_
 refine t_RU 1 ?_
 refine k_load 2 ?_
 refine t_U 1 ?_
 refine k_store 0 ?_
 refine t_N ?_
 refine t_RU 1 ?_
 refine k_load 2 ?_
 refine t_U 1 ?_
 refine k_store 0 ?_
 refine t_N ?_
 refine t_RU 1 ?_
 refine k_load 2 ?_
 refine t_U 1 ?_
 refine k_store 0 ?_
 refine t_N ?_
 refine t_RU 1 ?_
 refine k_load 2 ?_
 refine t_U 1 ?_
 refine k_store 0 ?_
 refine t_N ?_
 refine t_R ?_
 refine k_load 0 ?_
 refine k_storeA 1 ?_
 refine t_N ?_
 exact k_eW (rC 0 rN) E_DCapture_p
noncomputable def B_laws_eqCapture (a0 : DCapture) (a1 : DCapture) : Option Bool := (if (!decide (a0.Name = a1.Name)) = true then (some false) else (if (!decide (a0.Text = a1.Text)) = true then (some false) else (if (!decide (a0.Cursor = a1.Cursor)) = true then (some false) else (if (!decide (a0.Kind = a1.Kind)) = true then (some false) else (some true)))))
theorem u_laws_eqCapture (a0 : DCapture) (a1 : DCapture) (r : Bool) (h : B_laws_eqCapture a0 a1 = some r) : F_laws_eqCapture a0 a1 = some r := by
 unfold B_laws_eqCapture at h
 refine k_W ok_77 E_bool_inj h (fun σ0 => ?_)
 refine t_R ?_
 refine k_box (fun b1 => ?_)
 refine k_box (fun b2 => ?_)
 refine t_N ?_
 refine t_RU 1 ?_
 refine k_load 1 ?_
 refine t_U 1 ?_
 refine k_load 0 ?_
 refine t_N ?_
 refine t_if (fun hc1 => ?_) fun hc1 => ?_
 ·refine t_RN ?_
  exact k_eW (rT rN) E_bool_p
 refine t_RU 1 ?_
 refine k_load 1 ?_
 refine t_U 1 ?_
 refine k_load 0 ?_
 refine t_N ?_
 refine t_if (fun hc2 => ?_) fun hc2 => ?_
 ·refine t_RN ?_
  exact k_eW (rT rN) E_bool_p
 refine t_RU 1 ?_
 refine k_load 1 ?_
 refine t_U 1 ?_
 refine k_load 0 ?_
 refine t_N ?_
 refine t_if (fun hc3 => ?_) fun hc3 => ?_
 ·refine t_RN ?_
  exact k_eW (rT rN) E_bool_p
 refine t_RU 1 ?_
 refine k_load 1 ?_
 refine t_U 1 ?_
 refine k_load 0 ?_
 refine t_N ?_
 refine t_if (fun hc4 => ?_) fun hc4 => ?_
 ·refine t_RN ?_
  exact k_eW (rT rN) E_bool_p
 refine t_RN ?_
 exact k_eW (rT rN) E_bool_p
end Go.Am
