/- Functions of the program. -/
import Derived.Test.YtohkcdkmpencnaaGreatDoorAd0
set_option maxRecDepth 100000
set_option maxHeartbeats 4000000
set_option linter.unusedVariables false
set_option linter.unusedSimpArgs false
namespace Go.Am
open Go.Proofs
noncomputable def B_laws_heldFileS (a0 : (Sl DFile)) (a1 : Int) : Option Int := ((loopO (S := (Int × Int)) (R := (Int ⊕ Int)) (fun st1 => (if (decide (st1.2 < (a0.l.length : Int))) = true then ((elt a0 st1.2).bind fun y2 => ((F_laws_markText st1.1).bind fun y3 => (if (!decide (y2.Name = y3)) = true then (some (.inr (.inr (-1)))) else ((elt a0 st1.2).bind fun y4 => ((F_laws_heldStringS y4.Lines (IntKind.i64.wrap (st1.1 + 1))).bind fun y5 => (if (decide (y5 < 0)) = true then (some (.inr (.inr (-1)))) else ((elt a0 st1.2).bind fun y6 => (if (!decide (y6.Mode = y5)) = true then (some (.inr (.inr (-1)))) else ((elt a0 st1.2).bind fun y7 => (if (!decide (y7.At = (IntKind.i64.wrap (y5 + 1)))) = true then (some (.inr (.inr (-1)))) else (some (.inl ((IntKind.i64.wrap ((IntKind.i64.wrap (y5 + 1)) + 1)), (IntKind.i64.wrap (st1.2 + 1))))))))))))))) else (some (.inr (.inl st1.1))))) (a1, 0)).bind fun y1 => (Sum.elim (fun y1 => (some y1)) (fun y1 => (some y1)) y1))
theorem u_laws_heldFileS (a0 : (Sl DFile)) (a1 : Int) (r : Int) (h : B_laws_heldFileS a0 a1 = some r) : F_laws_heldFileS a0 a1 = some r := by
 unfold B_laws_heldFileS at h
 refine k_W ok_29 E_i64_inj h (fun σ0 => ?_)
 refine t_RN ?_
 refine t_RN ?_
 refine t_loop (fun st1 fr => Sub [(0, a0.t), (1, i4 st1.1), (5, i4 st1.2)] fr.s ∧ Heap σ0 fr.σ []) (fun y1 e fr => (Sum.elim (fun y => e = (.exit 0) ∧ Sub [(1, i4 y)] fr.s ∧ Heap σ0 fr.σ []) (fun y => e = .ret ∧ endW Tryz.prog (Tryz.f29.results.toList) σ0 (E_i64 y) .ret fr)) y1) (fun hS hH => And.intro (sub_to hS (by kernel_rfl)) hH) (fun st1 x fr h HI => ?_) fun y1 e fr h HF => ?_
 ·obtain ⟨s, σ⟩ := fr; obtain ⟨hS, hH⟩ := HI
  refine t_bk h hS hH ?_
  refine t_RN ?_
  refine t_if (fun hc1 => ?_) fun hc1 => ?_
  ·refine t_D fun mb => ?_
   refine t_U 2 ?_
   refine k_elt fun y2 rest1 hy2 => ?_
   refine t_U 3 ?_
   refine k_call fun y3 hy3 => ?_
   refine t_N ?_
   refine t_if (fun hc2 => ?_) fun hc2 => ?_
   ·refine t_RN ?_
    exact t_e fun he hS hH => he ▸ And.intro rfl (eW hS hH (rT rN) E_i64_p)
   refine t_RN ?_
   refine t_RU 2 ?_
   refine k_elt fun y4 rest2 hy4 => ?_
   refine t_U 3 ?_
   refine k_call fun y5 hy5 => ?_
   refine t_N ?_
   refine t_RN ?_
   refine t_if (fun hc3 => ?_) fun hc3 => ?_
   ·refine t_RN ?_
    exact t_e fun he hS hH => he ▸ And.intro rfl (eW hS hH (rT rN) E_i64_p)
   refine t_RU 2 ?_
   refine k_elt fun y6 rest3 hy6 => ?_
   refine t_N ?_
   refine t_if (fun hc4 => ?_) fun hc4 => ?_
   ·refine t_RN ?_
    exact t_e fun he hS hH => he ▸ And.intro rfl (eW hS hH (rT rN) E_i64_p)
   refine t_RN ?_
   refine t_RU 2 ?_
   refine k_elt fun y7 rest4 hy7 => ?_
   refine t_N ?_
   refine t_if (fun hc5 => ?_) fun hc5 => ?_
   ·refine t_RN ?_
    exact t_e fun he hS hH => he ▸ And.intro rfl (eW hS hH (rT rN) E_i64_p)
   refine t_RN ?_
   refine t_RN ?_
   exact t_e fun he hS hH => he ▸ And.intro (sub_to hS (by kernel_rfl)) hH
  exact t_e fun he hS hH => he ▸ And.intro rfl (And.intro (sub_to hS (by kernel_rfl)) hH)
 obtain ⟨s, σ⟩ := fr
 rcases y1 with y1 | y1
 ·have h := el_l h
  obtain ⟨rfl, hS, hH⟩ := HF
  refine t_bx h hS hH ?_
  refine t_RN ?_
  exact k_eW (rT rN) E_i64_p
 have h := el_r h
 obtain ⟨rfl, HE⟩ := HF
 injection h with h; subst h; exact HE
noncomputable def B_laws_szFile (a0 : DFile) (a1 : Int) : Option Int := (if (decide ((IntKind.i64.wrap (a1 - (a0.Name.size : Int))) < 0)) = true then (some (-1)) else ((F_laws_szStringS a0.Lines (IntKind.i64.wrap (a1 - (a0.Name.size : Int)))).bind fun y1 => (if (decide (y1 < 0)) = true then (some (-1)) else (some y1))))
theorem u_laws_szFile (a0 : DFile) (a1 : Int) (r : Int) (h : B_laws_szFile a0 a1 = some r) : F_laws_szFile a0 a1 = some r := by
 unfold B_laws_szFile at h
 refine k_W ok_30 E_i64_inj h (fun σ0 => ?_)
 refine t_R ?_
 refine k_box (fun b1 => ?_)
 refine t_N ?_
 refine t_RU 2 ?_
 refine k_load 0 ?_
 refine t_N ?_
 refine t_RN ?_
 refine t_if (fun hc1 => ?_) fun hc1 => ?_
 ·refine t_RN ?_
  exact k_eW (rT rN) E_i64_p
 refine t_RU 1 ?_
 refine k_load 0 ?_
 refine t_U 1 ?_
 refine k_call fun y1 hy1 => ?_
 refine t_N ?_
 refine t_RN ?_
 refine t_if (fun hc2 => ?_) fun hc2 => ?_
 ·refine t_RN ?_
  exact k_eW (rT rN) E_i64_p
 refine t_RN ?_
 exact k_eW (rT rN) E_i64_p
noncomputable def B_spec_l00In (a0 : Int) (a1 : Int) (a2 : Int) : Option Bool := (if (decide (a1 ≤ a0)) = true then (some (decide (a0 ≤ a2))) else (some false))
theorem u_spec_l00In (a0 : Int) (a1 : Int) (a2 : Int) (r : Bool) (h : B_spec_l00In a0 a1 a2 = some r) : F_spec_l00In a0 a1 a2 = some r := by
 unfold B_spec_l00In at h
 refine k_W ok_31 E_bool_inj h (fun σ0 => ?_)
 refine t_RN ?_
 refine t_RU 4 ?_
 refine t_gif 10 (fun hc1 => ?_) fun hc1 => ?_
 ·refine t_N ?_
  exact k_eW (rT rN) E_bool_p
 refine t_N ?_
 exact k_eW (rT rN) E_bool_p
noncomputable def B_spec_IsName (a0 : ByteArray) : Option Bool := (if (!decide (a0 = (⟨#[]⟩ : ByteArray))) = true then (if (decide ((a0.size : Int) ≤ 12)) = true then ((F_spec_l02NameEnd a0 0).bind fun y1 => (some (decide (y1 = (a0.size : Int))))) else (some false)) else (some false))
theorem u_spec_IsName (a0 : ByteArray) (r : Bool) (h : B_spec_IsName a0 = some r) : F_spec_IsName a0 = some r := by
 unfold B_spec_IsName at h
 refine k_W ok_32 E_bool_inj h (fun σ0 => ?_)
 refine t_RN ?_
 refine t_RU 3 ?_
 refine t_gif 5 (fun hc1 => ?_) fun hc1 => ?_
 ·refine t_U 5 ?_
  refine t_gif 10 (fun hc2 => ?_) fun hc2 => ?_
  ·refine t_U 1 ?_
   refine k_call fun y1 hy1 => ?_
   refine t_N ?_
   exact k_eW (rT rN) E_bool_p
  refine t_N ?_
  exact k_eW (rT rN) E_bool_p
 refine t_N ?_
 exact k_eW (rT rN) E_bool_p
noncomputable def B_spec_ValidValue (a0 : DValue) : Option Bool := (if (decide (a0.Kind = 1)) = true then ((F_spec_l06Plain a0 false true false).bind fun y1 => (if y1 = true then (some (decide ((a0.Text.size : Int) ≤ 200))) else (some false))) else (if (decide (a0.Kind = 2)) = true then ((F_spec_l06Plain a0 true false false).bind fun y2 => (if y2 = true then ((F_spec_l00In a0.Num (-1000000000000) 1000000000000).bind fun y3 => (some y3)) else (some false))) else (if (decide (a0.Kind = 3)) = true then ((F_spec_l06Plain a0 false true false).bind fun y4 => (if y4 = true then ((F_spec_l00In (a0.Text.size : Int) 1 1200).bind fun y5 => (some y5)) else (some false))) else (((if (decide (a0.Kind = 4)) = true then (some (decide (a0.Kind = 4))) else (if (decide (a0.Kind = 5)) = true then (some (decide (a0.Kind = 5))) else (some (decide (a0.Kind = 6))))) : Option Bool).bind fun y6 => (if y6 = true then ((F_spec_l06Plain a0 false false true).bind fun y7 => (if y7 = true then ((F_spec_l00In a0.Ref 1 1000000).bind fun y8 => (some y8)) else (some false))) else (((if (decide (a0.Kind = 7)) = true then (some (decide (a0.Kind = 7))) else (some (decide (a0.Kind = 8)))) : Option Bool).bind fun y9 => (if y9 = true then ((F_spec_l06Plain a0 false true false).bind fun y10 => (if y10 = true then ((F_spec_IsName a0.Text).bind fun y11 => (some y11)) else (some false))) else (some false))))))))
theorem u_spec_ValidValue (a0 : DValue) (r : Bool) (h : B_spec_ValidValue a0 = some r) : F_spec_ValidValue a0 = some r := by
 unfold B_spec_ValidValue at h
 refine k_W ok_33 E_bool_inj h (fun σ0 => ?_)
 refine t_R ?_
 refine k_box (fun b1 => ?_)
 refine t_N ?_
 refine t_RU 1 ?_
 refine k_load 0 ?_
 refine t_N ?_
 refine t_RN ?_
 refine t_if (fun hc1 => ?_) fun hc1 => ?_
 ·refine t_R ?_
  refine k_load 0 ?_
  refine k_call fun y1 hy1 => ?_
  refine t_U 1 ?_
  refine t_gif 9 (fun hc2 => ?_) fun hc2 => ?_
  ·refine t_U 1 ?_
   refine k_load 0 ?_
   refine t_N ?_
   exact k_eW (rT rN) E_bool_p
  refine t_N ?_
  exact k_eW (rT rN) E_bool_p
 refine t_RN ?_
 refine t_if (fun hc3 => ?_) fun hc3 => ?_
 ·refine t_R ?_
  refine k_load 0 ?_
  refine k_call fun y2 hy2 => ?_
  refine t_U 1 ?_
  refine t_gif 19 (fun hc4 => ?_) fun hc4 => ?_
  ·refine t_U 1 ?_
   refine k_load 0 ?_
   refine k_call fun y3 hy3 => ?_
   refine t_N ?_
   exact k_eW (rT rN) E_bool_p
  refine t_N ?_
  exact k_eW (rT rN) E_bool_p
 refine t_RN ?_
 refine t_if (fun hc5 => ?_) fun hc5 => ?_
 ·refine t_R ?_
  refine k_load 0 ?_
  refine k_call fun y4 hy4 => ?_
  refine t_U 1 ?_
  refine t_gif 28 (fun hc6 => ?_) fun hc6 => ?_
  ·refine t_U 1 ?_
   refine k_load 0 ?_
   refine t_U 1 ?_
   refine k_call fun y5 hy5 => ?_
   refine t_N ?_
   exact k_eW (rT rN) E_bool_p
  refine t_N ?_
  exact k_eW (rT rN) E_bool_p
 refine t_RN ?_
 refine t_cut 0 (fun y6 e fr => e = .normal ∧ Sub [(1, .ptr b1 0 0 4), (4, i4 a0.Kind), (34, .bool y6)] fr.s ∧ Heap σ0 fr.σ [.box b1 (DValue.cells a0)]) (fun y6 e fr h HF => ?_) fun y6 => ?_
 ·obtain ⟨s, σ⟩ := fr
  obtain ⟨rfl, hS, hH⟩ := HF
  refine t_bx h hS hH ?_
  refine t_if (fun hc7 => ?_) fun hc7 => ?_
  ·refine t_R ?_
   refine k_load 0 ?_
   refine k_call fun y7 hy7 => ?_
   refine t_U 1 ?_
   refine t_gif 40 (fun hc8 => ?_) fun hc8 => ?_
   ·refine t_U 1 ?_
    refine k_load 0 ?_
    refine k_call fun y8 hy8 => ?_
    refine t_N ?_
    exact k_eW (rT rN) E_bool_p
   refine t_N ?_
   exact k_eW (rT rN) E_bool_p
  refine t_RN ?_
  refine t_cut 0 (fun y9 e fr => e = .normal ∧ Sub [(1, .ptr b1 0 0 4), (45, .bool y9)] fr.s ∧ Heap σ0 fr.σ [.box b1 (DValue.cells a0)]) (fun y9 e fr h HF => ?_) fun y9 => ?_
  ·obtain ⟨s, σ⟩ := fr
   obtain ⟨rfl, hS, hH⟩ := HF
   refine t_bx h hS hH ?_
   refine t_if (fun hc9 => ?_) fun hc9 => ?_
   ·refine t_R ?_
    refine k_load 0 ?_
    refine k_call fun y10 hy10 => ?_
    refine t_U 1 ?_
    refine t_gif 50 (fun hc10 => ?_) fun hc10 => ?_
    ·refine t_U 1 ?_
     refine k_load 0 ?_
     refine k_call fun y11 hy11 => ?_
     refine t_N ?_
     exact k_eW (rT rN) E_bool_p
    refine t_N ?_
    exact k_eW (rT rN) E_bool_p
   refine t_RN ?_
   exact k_eW (rT rN) E_bool_p
  refine t_if (fun hc11 => ?_) fun hc11 => ?_
  ·exact t_e fun he hS hH => by subst he; exact And.intro rfl (And.intro (sub_to hS (by kernel_rfl)) hH)
  refine t_RN ?_
  exact t_e fun he hS hH => by subst he; exact And.intro rfl (And.intro (sub_to hS (by kernel_rfl)) hH)
 refine t_if (fun hc12 => ?_) fun hc12 => ?_
 ·exact t_e fun he hS hH => by subst he; exact And.intro rfl (And.intro (sub_to hS (by kernel_rfl)) hH)
 refine t_RN ?_
 refine t_if (fun hc13 => ?_) fun hc13 => ?_
 ·exact t_e fun he hS hH => by subst he; exact And.intro rfl (And.intro (sub_to hS (by kernel_rfl)) hH)
 refine t_RN ?_
 exact t_e fun he hS hH => by subst he; exact And.intro rfl (And.intro (sub_to hS (by kernel_rfl)) hH)
noncomputable def B_spec_l06Digits (a0 : Int) : Option ByteArray := (if (decide (a0 = 0)) = true then (some ⟨#[48]⟩) else ((loopO (S := (ByteArray × Int)) (R := ByteArray) (fun st1 => (if (!decide (st1.2 = 0)) = true then (((if (decide ((st1.2.tmod 10) < 0)) = true then (some (IntKind.i64.wrap (0 - (st1.2.tmod 10)))) else (some (st1.2.tmod 10))) : Option Int).bind fun y2 => ((strS ((⟨false, [⟨(IntKind.u8.wrap (IntKind.i64.wrap (48 + y2)))⟩]⟩ : Sl (Iv .u8)))).bind fun y3 => ((catB y3 st1.1).bind fun y4 => (some (.inl (y4, (IntKind.i64.wrap (st1.2.tdiv 10)))))))) else (some (.inr st1.1)))) (⟨#[]⟩, a0)).bind fun y1 => (if (decide (a0 < 0)) = true then ((catB ⟨#[45]⟩ y1).bind fun y5 => (some y5)) else (some y1))))
theorem u_spec_l06Digits (a0 : Int) (r : ByteArray) (h : B_spec_l06Digits a0 = some r) : F_spec_l06Digits a0 = some r := by
 unfold B_spec_l06Digits at h
 refine k_W ok_34 E_str_inj h (fun σ0 => ?_)
 refine t_RN ?_
 refine t_RN ?_
 refine t_if (fun hc1 => ?_) fun hc1 => ?_
 ·refine t_RN ?_
  exact k_eW (rT rN) E_str_p
 refine t_RN ?_
 refine t_RN ?_
 refine t_loop (fun st1 fr => Sub [(0, i4 a0), (3, .str st1.1), (4, i4 st1.2)] fr.s ∧ Heap σ0 fr.σ []) (fun y1 e fr => e = (.exit 0) ∧ Sub [(0, i4 a0), (3, .str y1)] fr.s ∧ Heap σ0 fr.σ []) (fun hS hH => And.intro (sub_to hS (by kernel_rfl)) hH) (fun st1 x fr h HI => ?_) fun y1 e fr h HF => ?_
 ·obtain ⟨s, σ⟩ := fr; obtain ⟨hS, hH⟩ := HI
  refine t_bk h hS hH ?_
  refine t_RN ?_
  refine t_if (fun hc2 => ?_) fun hc2 => ?_
  ·refine t_RN ?_
   refine t_RN ?_
   refine t_cut 0 (fun y2 e fr => e = .normal ∧ Sub [(0, i4 a0), (3, .str st1.1), (4, i4 st1.2), (5, i4 y2)] fr.s ∧ Heap σ0 fr.σ []) (fun y2 e fr h HF => ?_) fun y2 => ?_
   ·obtain ⟨s, σ⟩ := fr
    obtain ⟨rfl, hS, hH⟩ := HF
    refine t_bx h hS hH ?_
    refine t_RU 3 ?_
    refine k_bs (z := true) (⟨false, [⟨(IntKind.u8.wrap (IntKind.i64.wrap (48 + y2)))⟩]⟩ : Sl (Iv .u8)) (fun t1 ht1 => ?_)
    refine k_b2s (a := (⟨false, [⟨(IntKind.u8.wrap (IntKind.i64.wrap (48 + y2)))⟩]⟩ : Sl (Iv .u8))) 0 (fun y3 hy3 => ?_)
    refine t_U 1 ?_
    refine k_cat fun y4 hy4 => ?_
    refine t_N ?_
    refine t_RN ?_
    exact t_e fun he hS hH => he ▸ And.intro (sub_to hS (by kernel_rfl)) (Heap.sel hH [] rfl (by kernel_rfl))
   refine t_if (fun hc3 => ?_) fun hc3 => ?_
   ·refine t_RN ?_
    exact t_e fun he hS hH => he ▸ And.intro rfl (And.intro (sub_to hS (by kernel_rfl)) hH)
   exact t_e fun he hS hH => he ▸ And.intro rfl (And.intro (sub_to hS (by kernel_rfl)) hH)
  exact t_e fun he hS hH => he ▸ And.intro rfl (And.intro (sub_to hS (by kernel_rfl)) hH)
 obtain ⟨s, σ⟩ := fr
 obtain ⟨rfl, hS, hH⟩ := HF
 refine t_bx h hS hH ?_
 refine t_RN ?_
 refine t_if (fun hc4 => ?_) fun hc4 => ?_
 ·refine t_RU 1 ?_
  refine k_cat fun y5 hy5 => ?_
  refine t_N ?_
  refine t_RN ?_
  exact k_eW (rT rN) E_str_p
 refine t_RN ?_
 exact k_eW (rT rN) E_str_p
noncomputable def B_spec_ValueText (a0 : DValue) : Option ByteArray := ((F_spec_ValidValue a0).bind fun y1 => (if (!y1) = true then (some ⟨#[]⟩) else (if (decide (a0.Kind = 1)) = true then ((F_spec_QuoteText a0.Text).bind fun y2 => (some y2)) else (if (decide (a0.Kind = 2)) = true then ((F_spec_l06Digits a0.Num).bind fun y3 => (some y3)) else (if (decide (a0.Kind = 3)) = true then ((catB ⟨#[60]⟩ a0.Text).bind fun y4 => ((catB y4 ⟨#[62]⟩).bind fun y5 => (some y5))) else (if (decide (a0.Kind = 7)) = true then ((catB ⟨#[46]⟩ a0.Text).bind fun y6 => (some y6)) else (if (decide (a0.Kind = 8)) = true then ((catB ⟨#[42]⟩ a0.Text).bind fun y7 => (some y7)) else ((F_spec_DataType a0).bind fun y8 => ((catB y8 ⟨#[35]⟩).bind fun y9 => ((F_spec_l06Digits a0.Ref).bind fun y10 => ((catB y9 y10).bind fun y11 => (some y11))))))))))))
theorem u_spec_ValueText (a0 : DValue) (r : ByteArray) (h : B_spec_ValueText a0 = some r) : F_spec_ValueText a0 = some r := by
 unfold B_spec_ValueText at h
 refine k_W ok_35 E_str_inj h (fun σ0 => ?_)
 refine t_R ?_
 refine k_box (fun b1 => ?_)
 refine t_N ?_
 refine t_R ?_
 refine k_load 0 ?_
 refine k_call fun y1 hy1 => ?_
 refine t_N ?_
 refine t_if (fun hc1 => ?_) fun hc1 => ?_
 ·refine t_RN ?_
  exact k_eW (rT rN) E_str_p
 refine t_RU 1 ?_
 refine k_load 0 ?_
 refine t_N ?_
 refine t_RN ?_
 refine t_if (fun hc2 => ?_) fun hc2 => ?_
 ·refine t_RU 1 ?_
  refine k_load 0 ?_
  refine k_call fun y2 hy2 => ?_
  refine t_N ?_
  exact k_eW (rT rN) E_str_p
 refine t_RN ?_
 refine t_if (fun hc3 => ?_) fun hc3 => ?_
 ·refine t_RU 1 ?_
  refine k_load 0 ?_
  refine k_call fun y3 hy3 => ?_
  refine t_N ?_
  exact k_eW (rT rN) E_str_p
 refine t_RN ?_
 refine t_if (fun hc4 => ?_) fun hc4 => ?_
 ·refine t_RU 1 ?_
  refine k_load 0 ?_
  refine k_cat fun y4 hy4 => ?_
  refine k_cat fun y5 hy5 => ?_
  refine t_N ?_
  exact k_eW (rT rN) E_str_p
 refine t_RN ?_
 refine t_if (fun hc5 => ?_) fun hc5 => ?_
 ·refine t_RU 1 ?_
  refine k_load 0 ?_
  refine k_cat fun y6 hy6 => ?_
  refine t_N ?_
  exact k_eW (rT rN) E_str_p
 refine t_RN ?_
 refine t_if (fun hc6 => ?_) fun hc6 => ?_
 ·refine t_RU 1 ?_
  refine k_load 0 ?_
  refine k_cat fun y7 hy7 => ?_
  refine t_N ?_
  exact k_eW (rT rN) E_str_p
 refine t_D fun mb => ?_
 refine k_load 0 ?_
 refine k_call fun y8 hy8 => ?_
 refine k_cat fun y9 hy9 => ?_
 refine t_U 1 ?_
 refine k_load 0 ?_
 refine k_call fun y10 hy10 => ?_
 refine k_cat fun y11 hy11 => ?_
 refine t_N ?_
 exact k_eW (rT rN) E_str_p
noncomputable def B_spec_l21Lines (a0 : (Sl ByteArray)) (a1 : Int) (a2 : Int) : Option Bool := (if (decide (a1 < (a0.l.length : Int))) = true then (some false) else ((loopO (S := Int) (R := (Unit ⊕ Bool)) (fun st1 => (if (decide (st1 < (a0.l.length : Int))) = true then ((elt a0 st1).bind fun y2 => (if (decide (a2 < (y2.size : Int))) = true then (some (.inr (.inr false))) else (some (.inl (IntKind.i64.wrap (st1 + 1)))))) else (some (.inr (.inl ()))))) 0).bind fun y1 => (Sum.elim (fun y1 => (some true)) (fun y1 => (some y1)) y1)))
theorem u_spec_l21Lines (a0 : (Sl ByteArray)) (a1 : Int) (a2 : Int) (r : Bool) (h : B_spec_l21Lines a0 a1 a2 = some r) : F_spec_l21Lines a0 a1 a2 = some r := by
 unfold B_spec_l21Lines at h
 refine k_W ok_36 E_bool_inj h (fun σ0 => ?_)
 refine t_RN ?_
 refine t_RN ?_
 refine t_if (fun hc1 => ?_) fun hc1 => ?_
 ·refine t_RN ?_
  exact k_eW (rT rN) E_bool_p
 refine t_RN ?_
 refine t_loop (fun st1 fr => Sub [(0, a0.t), (2, i4 a2), (7, i4 st1)] fr.s ∧ Heap σ0 fr.σ []) (fun y1 e fr => (Sum.elim (fun y => e = (.exit 0) ∧ Sub [] fr.s ∧ Heap σ0 fr.σ []) (fun y => e = .ret ∧ endW Tryz.prog (Tryz.f36.results.toList) σ0 (E_bool y) .ret fr)) y1) (fun hS hH => And.intro (sub_to hS (by kernel_rfl)) hH) (fun st1 x fr h HI => ?_) fun y1 e fr h HF => ?_
 ·obtain ⟨s, σ⟩ := fr; obtain ⟨hS, hH⟩ := HI
  refine t_bk h hS hH ?_
  refine t_RN ?_
  refine t_if (fun hc2 => ?_) fun hc2 => ?_
  ·refine t_RU 2 ?_
   refine k_elt fun y2 rest1 hy2 => ?_
   refine t_N ?_
   refine t_if (fun hc3 => ?_) fun hc3 => ?_
   ·refine t_RN ?_
    exact t_e fun he hS hH => he ▸ And.intro rfl (eW hS hH (rT rN) E_bool_p)
   refine t_RN ?_
   exact t_e fun he hS hH => he ▸ And.intro (sub_to hS (by kernel_rfl)) hH
  exact t_e fun he hS hH => he ▸ And.intro rfl (And.intro (sub_to hS (by kernel_rfl)) hH)
 obtain ⟨s, σ⟩ := fr
 rcases y1 with y1 | y1
 ·have h := el_l h
  obtain ⟨rfl, hS, hH⟩ := HF
  refine t_bx h hS hH ?_
  refine t_RN ?_
  exact k_eW (rT rN) E_bool_p
 have h := el_r h
 obtain ⟨rfl, HE⟩ := HF
 injection h with h; subst h; exact HE
noncomputable def B_spec_l21File (a0 : DFile) : Option Bool := ((F_spec_IsName a0.Name).bind fun y1 => (if (!y1) = true then (some false) else ((F_spec_l21Lines a0.Lines 40 200).bind fun y2 => (if (!y2) = true then (some false) else ((F_spec_l00In a0.Mode 0 3).bind fun y3 => (if (!y3) = true then (some false) else ((F_spec_l00In a0.At 0 (a0.Lines.l.length : Int)).bind fun y4 => (if y4 = true then (if (decide (a0.Mode = 1)) = true then (some true) else (some (decide (a0.At = 0)))) else (some false)))))))))
theorem u_spec_l21File (a0 : DFile) (r : Bool) (h : B_spec_l21File a0 = some r) : F_spec_l21File a0 = some r := by
 unfold B_spec_l21File at h
 refine k_W ok_37 E_bool_inj h (fun σ0 => ?_)
 refine t_R ?_
 refine k_box (fun b1 => ?_)
 refine t_N ?_
 refine t_RU 1 ?_
 refine k_load 0 ?_
 refine k_call fun y1 hy1 => ?_
 refine t_U 2 ?_
 refine t_gif 7 (fun hc1 => ?_) fun hc1 => ?_
 ·refine t_N ?_
  refine t_cT rfl ?_
  refine t_RN ?_
  exact k_eW (rT rN) E_bool_p
 refine t_U 1 ?_
 refine k_load 0 ?_
 refine k_call fun y2 hy2 => ?_
 refine t_U 3 ?_
 refine t_gif 13 (fun hc2 => ?_) fun hc2 => ?_
 ·refine t_N ?_
  refine t_cT rfl ?_
  refine t_RN ?_
  exact k_eW (rT rN) E_bool_p
 refine t_U 1 ?_
 refine k_load 0 ?_
 refine k_call fun y3 hy3 => ?_
 refine t_N ?_
 refine t_if (fun hc3 => ?_) fun hc3 => ?_
 ·refine t_RN ?_
  exact k_eW (rT rN) E_bool_p
 refine t_RU 1 ?_
 refine k_load 0 ?_
 refine t_U 1 ?_
 refine k_load 0 ?_
 refine t_U 1 ?_
 refine k_call fun y4 hy4 => ?_
 refine t_U 1 ?_
 refine t_gif 25 (fun hc4 => ?_) fun hc4 => ?_
 ·refine t_U 1 ?_
  refine k_load 0 ?_
  refine t_U 2 ?_
  refine t_gif 29 (fun hc5 => ?_) fun hc5 => ?_
  ·refine t_N ?_
   exact k_eW (rT rN) E_bool_p
  refine t_U 1 ?_
  refine k_load 0 ?_
  refine t_N ?_
  exact k_eW (rT rN) E_bool_p
 refine t_N ?_
 exact k_eW (rT rN) E_bool_p
noncomputable def B_spec_l21Texts (a0 : (Sl ByteArray)) : Option (Sl ByteArray) := ((appS 16 (⟨false, []⟩ : Sl ByteArray) a0).bind fun y1 => (some y1))
theorem u_spec_l21Texts (a0 : (Sl ByteArray)) (r : (Sl ByteArray)) (h : B_spec_l21Texts a0 = some r) : F_spec_l21Texts a0 = some r := by
 unfold B_spec_l21Texts at h
 refine k_O ok_38 h (fun σ0 => ?_)
 refine t_RN ?_
 refine t_R ?_
 refine k_bs0 (α := ByteArray) (fun t1 ht1 => ?_)
 refine t_U 1 ?_
 refine k_appR 0 (fun y1 t2 hy1 ht2 => ?_)
 refine t_N ?_
 exact k_eO [t2] (rT rN)
noncomputable def B_laws_toFile (a0 : DFile) : Option DFile := ((F_laws_toStringS a0.Lines).bind fun y1 => (some (⟨a0.Name, y1, a0.Mode, a0.At⟩ : DFile)))
theorem u_laws_toFile (a0 : DFile) (r : DFile) (h : B_laws_toFile a0 = some r) : F_laws_toFile a0 = some r := by
 unfold B_laws_toFile at h
 refine k_O ok_39 h (fun σ0 => ?_)
 refine t_R ?_
 refine k_box (fun b1 => ?_)
 refine k_alloc fun b2 => ?_
 refine t_N ?_
 refine t_R ?_
 refine k_alloc fun b3 => ?_
 refine t_N ?_
 refine t_RU 1 ?_
 refine k_load 2 ?_
 refine t_U 1 ?_
 refine k_store 0 ?_
 refine t_N ?_
 refine t_RU 1 ?_
 refine k_load 2 ?_
 refine k_callO1 (fun y1 t1 hy1 ht1 => ?_)
 refine t_U 1 ?_
 refine k_storeT 1 ht1 ?_
 refine t_N ?_
 refine t_RU 1 ?_
 refine k_load 3 ?_
 refine t_U 1 ?_
 refine k_store 0 ?_
 refine t_N ?_
 refine t_RU 1 ?_
 refine k_load 3 ?_
 refine t_U 1 ?_
 refine k_store 0 ?_
 refine t_N ?_
 refine t_R ?_
 refine k_load 0 ?_
 refine k_storeA 2 ?_ (h1 := by simp [ht1.1, ht1.2])
 refine t_N ?_
 refine t_h Heap.up2 ?_
 exact k_eO [t1] (rC 1 rN)
noncomputable def B_impl_within (a0 : Int) (a1 : Int) (a2 : Int) : Option Bool := (if (decide (a1 ≤ a0)) = true then (some (decide (a0 ≤ a2))) else (some false))
theorem u_impl_within (a0 : Int) (a1 : Int) (a2 : Int) (r : Bool) (h : B_impl_within a0 a1 a2 = some r) : F_impl_within a0 a1 a2 = some r := by
 unfold B_impl_within at h
 refine k_W ok_40 E_bool_inj h (fun σ0 => ?_)
 refine t_RN ?_
 refine t_RU 4 ?_
 refine t_gif 10 (fun hc1 => ?_) fun hc1 => ?_
 ·refine t_N ?_
  exact k_eW (rT rN) E_bool_p
 refine t_N ?_
 exact k_eW (rT rN) E_bool_p
noncomputable def B_impl_IsName (a0 : ByteArray) : Option Bool := (if (decide (1 ≤ (a0.size : Int))) = true then (if (decide ((a0.size : Int) ≤ 12)) = true then ((byteAt a0 0).bind fun y1 => ((F_impl_isLetter y1).bind fun y2 => (if y2 = true then ((bytesS a0).bind fun y3 => ((F_impl_areAll_byte y3 (T.fn 61 [] [])).bind fun y4 => (some y4))) else (some false)))) else (some false)) else (some false))
theorem u_impl_IsName (a0 : ByteArray) (r : Bool) (h : B_impl_IsName a0 = some r) : F_impl_IsName a0 = some r := by
 unfold B_impl_IsName at h
 refine k_W ok_41 E_bool_inj h (fun σ0 => ?_)
 refine t_RN ?_
 refine t_RU 4 ?_
 refine t_gif 6 (fun hc1 => ?_) fun hc1 => ?_
 ·refine t_U 5 ?_
  refine t_gif 11 (fun hc2 => ?_) fun hc2 => ?_
  ·refine t_U 1 ?_
   refine k_byte fun y1 hy1 => ?_
   refine k_call fun y2 hy2 => ?_
   refine t_U 2 ?_
   refine t_gif 16 (fun hc3 => ?_) fun hc3 => ?_
   ·refine t_U 1 ?_
    intro h s σ hS hH
    obtain ⟨y3, hy3, h⟩ := bind_some h
    refine q_s2b (e := 5) rfl hS hH rfl (by kernel_rfl) (by kernel_rfl) (by kernel_rfl) hy3 ?_; intro t1 σ s ht1 hH hS
    refine t_bk h hS hH ?_
    refine k_callH (fun y4 hy4 => ?_) (hh := by exact HC.of (HL.own rfl (HL.leaf (fun σ d => hold_flat1 (by first | assumption | rfl)) HL.nil)))
    refine t_N ?_
    exact k_eW (rT rN) E_bool_p
   refine t_N ?_
   exact k_eW (rT rN) E_bool_p
  refine t_N ?_
  exact k_eW (rT rN) E_bool_p
 refine t_N ?_
 exact k_eW (rT rN) E_bool_p
noncomputable def B_impl_ValidValue (a0 : DValue) : Option Bool := (if (decide (a0.Kind = 1)) = true then (if ((decide (a0.Kind = 1) && (decide (a0.Num = 0) && (decide (a0.Text = a0.Text) && (decide (a0.Ref = 0) && true))))) = true then (some (decide ((a0.Text.size : Int) ≤ 200))) else (some false)) else (if (decide (a0.Kind = 2)) = true then (if ((decide (a0.Kind = 2) && (decide (a0.Num = a0.Num) && (decide (a0.Text = (⟨#[]⟩ : ByteArray)) && (decide (a0.Ref = 0) && true))))) = true then ((F_impl_within a0.Num (-1000000000000) 1000000000000).bind fun y1 => (some y1)) else (some false)) else (if (decide (a0.Kind = 3)) = true then (if ((decide (a0.Kind = 3) && (decide (a0.Num = 0) && (decide (a0.Text = a0.Text) && (decide (a0.Ref = 0) && true))))) = true then (if (decide (1 ≤ (a0.Text.size : Int))) = true then (some (decide ((a0.Text.size : Int) ≤ 1200))) else (some false)) else (some false)) else (((if (decide (a0.Kind = 4)) = true then (some (decide (a0.Kind = 4))) else (if (decide (a0.Kind = 5)) = true then (some (decide (a0.Kind = 5))) else (some (decide (a0.Kind = 6))))) : Option Bool).bind fun y2 => (if y2 = true then (if ((decide (a0.Kind = a0.Kind) && (decide (a0.Num = 0) && (decide (a0.Text = (⟨#[]⟩ : ByteArray)) && (decide (a0.Ref = a0.Ref) && true))))) = true then ((F_impl_isObjectId a0.Ref).bind fun y3 => (some y3)) else (some false)) else (((if (decide (a0.Kind = 7)) = true then (some (decide (a0.Kind = 7))) else (some (decide (a0.Kind = 8)))) : Option Bool).bind fun y4 => (if y4 = true then (if ((decide (a0.Kind = a0.Kind) && (decide (a0.Num = 0) && (decide (a0.Text = a0.Text) && (decide (a0.Ref = 0) && true))))) = true then ((F_impl_IsName a0.Text).bind fun y5 => (some y5)) else (some false)) else (some false))))))))
theorem u_impl_ValidValue (a0 : DValue) (r : Bool) (h : B_impl_ValidValue a0 = some r) : F_impl_ValidValue a0 = some r := by
 unfold B_impl_ValidValue at h
 refine k_W ok_42 E_bool_inj h (fun σ0 => ?_)
 refine t_R ?_
 refine k_box (fun b1 => ?_)
 refine t_N ?_
 refine t_RU 1 ?_
 refine k_load 0 ?_
 refine t_N ?_
 refine t_RN ?_
 refine t_if (fun hc1 => ?_) fun hc1 => ?_
 ·refine t_R ?_
  refine k_load 0 ?_
  refine t_U 1 ?_
  refine k_load 0 ?_
  refine t_U 1 ?_
  intro h s σ hS hH
  refine q_eqS (xs := [i4 a0.Kind, i4 a0.Num, .str a0.Text, i4 a0.Ref]) (ys := [i4 1, i4 0, .str a0.Text, i4 0]) (v := (decide (a0.Kind = 1) && (decide (a0.Num = 0) && (decide (a0.Text = a0.Text) && (decide (a0.Ref = 0) && true))))) rfl hS rfl rfl (by kernel_rfl) (by kernel_rfl) ?_; intro s hS
  refine t_bk h hS hH ?_
  refine t_U 1 ?_
  refine t_gif 12 (fun hc2 => ?_) fun hc2 => ?_
  ·refine t_U 1 ?_
   refine k_load 0 ?_
   refine t_N ?_
   exact k_eW (rT rN) E_bool_p
  refine t_N ?_
  exact k_eW (rT rN) E_bool_p
 refine t_RN ?_
 refine t_if (fun hc3 => ?_) fun hc3 => ?_
 ·refine t_R ?_
  refine k_load 0 ?_
  refine t_U 1 ?_
  refine k_load 0 ?_
  refine t_U 1 ?_
  intro h s σ hS hH
  refine q_eqS (xs := [i4 a0.Kind, i4 a0.Num, .str a0.Text, i4 a0.Ref]) (ys := [i4 2, i4 a0.Num, .str ⟨#[]⟩, i4 0]) (v := (decide (a0.Kind = 2) && (decide (a0.Num = a0.Num) && (decide (a0.Text = (⟨#[]⟩ : ByteArray)) && (decide (a0.Ref = 0) && true))))) rfl hS rfl rfl (by kernel_rfl) (by kernel_rfl) ?_; intro s hS
  refine t_bk h hS hH ?_
  refine t_U 1 ?_
  refine t_gif 25 (fun hc4 => ?_) fun hc4 => ?_
  ·refine t_U 1 ?_
   refine k_load 0 ?_
   refine k_call fun y1 hy1 => ?_
   refine t_N ?_
   exact k_eW (rT rN) E_bool_p
  refine t_N ?_
  exact k_eW (rT rN) E_bool_p
 refine t_RN ?_
 refine t_if (fun hc5 => ?_) fun hc5 => ?_
 ·refine t_R ?_
  refine k_load 0 ?_
  refine t_U 1 ?_
  refine k_load 0 ?_
  refine t_U 1 ?_
  intro h s σ hS hH
  refine q_eqS (xs := [i4 a0.Kind, i4 a0.Num, .str a0.Text, i4 a0.Ref]) (ys := [i4 3, i4 0, .str a0.Text, i4 0]) (v := (decide (a0.Kind = 3) && (decide (a0.Num = 0) && (decide (a0.Text = a0.Text) && (decide (a0.Ref = 0) && true))))) rfl hS rfl rfl (by kernel_rfl) (by kernel_rfl) ?_; intro s hS
  refine t_bk h hS hH ?_
  refine t_U 1 ?_
  refine t_gif 37 (fun hc6 => ?_) fun hc6 => ?_
  ·refine t_U 1 ?_
   refine k_load 0 ?_
   refine t_U 4 ?_
   refine t_gif 43 (fun hc7 => ?_) fun hc7 => ?_
   ·refine t_U 1 ?_
    refine k_load 0 ?_
    refine t_N ?_
    exact k_eW (rT rN) E_bool_p
   refine t_N ?_
   exact k_eW (rT rN) E_bool_p
  refine t_N ?_
  exact k_eW (rT rN) E_bool_p
 refine t_RN ?_
 refine t_cut 0 (fun y2 e fr => e = .normal ∧ Sub [(1, .ptr b1 0 0 4), (4, i4 a0.Kind), (49, .bool y2)] fr.s ∧ Heap σ0 fr.σ [.box b1 (DValue.cells a0)]) (fun y2 e fr h HF => ?_) fun y2 => ?_
 ·obtain ⟨s, σ⟩ := fr
  obtain ⟨rfl, hS, hH⟩ := HF
  refine t_bx h hS hH ?_
  refine t_if (fun hc8 => ?_) fun hc8 => ?_
  ·refine t_R ?_
   refine k_load 0 ?_
   refine t_U 1 ?_
   refine k_load 0 ?_
   refine t_U 1 ?_
   refine k_load 0 ?_
   refine t_U 1 ?_
   intro h s σ hS hH
   refine q_eqS (xs := [i4 a0.Kind, i4 a0.Num, .str a0.Text, i4 a0.Ref]) (ys := [i4 a0.Kind, i4 0, .str ⟨#[]⟩, i4 a0.Ref]) (v := (decide (a0.Kind = a0.Kind) && (decide (a0.Num = 0) && (decide (a0.Text = (⟨#[]⟩ : ByteArray)) && (decide (a0.Ref = a0.Ref) && true))))) rfl hS rfl rfl (by kernel_rfl) (by kernel_rfl) ?_; intro s hS
   refine t_bk h hS hH ?_
   refine t_U 1 ?_
   refine t_gif 60 (fun hc9 => ?_) fun hc9 => ?_
   ·refine t_U 1 ?_
    refine k_load 0 ?_
    refine k_call fun y3 hy3 => ?_
    refine t_N ?_
    exact k_eW (rT rN) E_bool_p
   refine t_N ?_
   exact k_eW (rT rN) E_bool_p
  refine t_RN ?_
  refine t_cut 0 (fun y4 e fr => e = .normal ∧ Sub [(1, .ptr b1 0 0 4), (65, .bool y4)] fr.s ∧ Heap σ0 fr.σ [.box b1 (DValue.cells a0)]) (fun y4 e fr h HF => ?_) fun y4 => ?_
  ·obtain ⟨s, σ⟩ := fr
   obtain ⟨rfl, hS, hH⟩ := HF
   refine t_bx h hS hH ?_
   refine t_if (fun hc10 => ?_) fun hc10 => ?_
   ·refine t_R ?_
    refine k_load 0 ?_
    refine t_U 1 ?_
    refine k_load 0 ?_
    refine t_U 1 ?_
    refine k_load 0 ?_
    refine t_U 1 ?_
    intro h s σ hS hH
    refine q_eqS (xs := [i4 a0.Kind, i4 a0.Num, .str a0.Text, i4 a0.Ref]) (ys := [i4 a0.Kind, i4 0, .str a0.Text, i4 0]) (v := (decide (a0.Kind = a0.Kind) && (decide (a0.Num = 0) && (decide (a0.Text = a0.Text) && (decide (a0.Ref = 0) && true))))) rfl hS rfl rfl (by kernel_rfl) (by kernel_rfl) ?_; intro s hS
    refine t_bk h hS hH ?_
    refine t_U 1 ?_
    refine t_gif 75 (fun hc11 => ?_) fun hc11 => ?_
    ·refine t_U 1 ?_
     refine k_load 0 ?_
     refine k_call fun y5 hy5 => ?_
     refine t_N ?_
     exact k_eW (rT rN) E_bool_p
    refine t_N ?_
    exact k_eW (rT rN) E_bool_p
   refine t_RN ?_
   exact k_eW (rT rN) E_bool_p
  refine t_if (fun hc12 => ?_) fun hc12 => ?_
  ·exact t_e fun he hS hH => by subst he; exact And.intro rfl (And.intro (sub_to hS (by kernel_rfl)) hH)
  refine t_RN ?_
  exact t_e fun he hS hH => by subst he; exact And.intro rfl (And.intro (sub_to hS (by kernel_rfl)) hH)
 refine t_if (fun hc13 => ?_) fun hc13 => ?_
 ·exact t_e fun he hS hH => by subst he; exact And.intro rfl (And.intro (sub_to hS (by kernel_rfl)) hH)
 refine t_RN ?_
 refine t_if (fun hc14 => ?_) fun hc14 => ?_
 ·exact t_e fun he hS hH => by subst he; exact And.intro rfl (And.intro (sub_to hS (by kernel_rfl)) hH)
 refine t_RN ?_
 exact t_e fun he hS hH => by subst he; exact And.intro rfl (And.intro (sub_to hS (by kernel_rfl)) hH)
noncomputable def B_impl_decimal (a0 : Int) : Option ByteArray := ((F_strconv_FormatInt a0 10).bind fun y1 => (some y1))
theorem u_impl_decimal (a0 : Int) (r : ByteArray) (h : B_impl_decimal a0 = some r) : F_impl_decimal a0 = some r := by
 unfold B_impl_decimal at h
 refine k_W ok_43 E_str_inj h (fun σ0 => ?_)
 refine t_RN ?_
 refine t_RU 1 ?_
 refine k_call fun y1 hy1 => ?_
 refine t_N ?_
 exact k_eW (rT rN) E_str_p
noncomputable def B_impl_Value_text (a0 : DValue) : Option ByteArray := (if (decide (a0.Kind = 1)) = true then ((F_impl_QuoteText a0.Text).bind fun y1 => (some y1)) else (if (decide (a0.Kind = 2)) = true then ((F_impl_decimal a0.Num).bind fun y2 => (some y2)) else (if (decide (a0.Kind = 3)) = true then ((catB ⟨#[60]⟩ a0.Text).bind fun y3 => ((catB y3 ⟨#[62]⟩).bind fun y4 => (some y4))) else (if (decide (a0.Kind = 7)) = true then ((catB ⟨#[46]⟩ a0.Text).bind fun y5 => (some y5)) else (if (decide (a0.Kind = 8)) = true then ((catB ⟨#[42]⟩ a0.Text).bind fun y6 => (some y6)) else ((F_impl_typeName a0.Kind).bind fun y7 => ((catB y7 ⟨#[35]⟩).bind fun y8 => ((F_impl_decimal a0.Ref).bind fun y9 => ((catB y8 y9).bind fun y10 => (some y10))))))))))
theorem u_impl_Value_text (a0 : DValue) (r : ByteArray) (h : B_impl_Value_text a0 = some r) : F_impl_Value_text a0 = some r := by
 unfold B_impl_Value_text at h
 refine k_W ok_44 E_str_inj h (fun σ0 => ?_)
 refine t_R ?_
 refine k_box (fun b1 => ?_)
 refine t_N ?_
 refine t_RU 1 ?_
 refine k_load 0 ?_
 refine t_N ?_
 refine t_RN ?_
 refine t_if (fun hc1 => ?_) fun hc1 => ?_
 ·refine t_RU 1 ?_
  refine k_load 0 ?_
  refine k_call fun y1 hy1 => ?_
  refine t_N ?_
  exact k_eW (rT rN) E_str_p
 refine t_RN ?_
 refine t_if (fun hc2 => ?_) fun hc2 => ?_
 ·refine t_RU 1 ?_
  refine k_load 0 ?_
  refine k_call fun y2 hy2 => ?_
  refine t_N ?_
  exact k_eW (rT rN) E_str_p
 refine t_RN ?_
 refine t_if (fun hc3 => ?_) fun hc3 => ?_
 ·refine t_RU 1 ?_
  refine k_load 0 ?_
  refine k_cat fun y3 hy3 => ?_
  refine k_cat fun y4 hy4 => ?_
  refine t_N ?_
  exact k_eW (rT rN) E_str_p
 refine t_RN ?_
 refine t_if (fun hc4 => ?_) fun hc4 => ?_
 ·refine t_RU 1 ?_
  refine k_load 0 ?_
  refine k_cat fun y5 hy5 => ?_
  refine t_N ?_
  exact k_eW (rT rN) E_str_p
 refine t_RN ?_
 refine t_if (fun hc5 => ?_) fun hc5 => ?_
 ·refine t_RU 1 ?_
  refine k_load 0 ?_
  refine k_cat fun y6 hy6 => ?_
  refine t_N ?_
  exact k_eW (rT rN) E_str_p
 refine t_D fun mb => ?_
 refine t_U 1 ?_
 refine k_load 0 ?_
 refine k_call fun y7 hy7 => ?_
 refine k_cat fun y8 hy8 => ?_
 refine t_U 1 ?_
 refine k_load 0 ?_
 refine k_call fun y9 hy9 => ?_
 refine k_cat fun y10 hy10 => ?_
 refine t_N ?_
 exact k_eW (rT rN) E_str_p
noncomputable def B_impl_ValidConsole_1 (a0 : ByteArray) : Option Bool := (some (decide ((a0.size : Int) ≤ 1300)))
theorem u_impl_ValidConsole_1 (a0 : ByteArray) (r : Bool) (h : B_impl_ValidConsole_1 a0 = some r) : F_impl_ValidConsole_1 a0 = some r := by
 unfold B_impl_ValidConsole_1 at h
 refine k_W ok_45 E_bool_inj h (fun σ0 => ?_)
 refine t_RN ?_
 refine t_RN ?_
 exact k_eW (rT rN) E_bool_p
noncomputable def B_impl_areAll_string (a0 : (Sl ByteArray)) (a1 : T) : Option Bool := (if flat1 a1 = true then ((loopO (S := Int) (R := (Unit ⊕ Bool)) (fun st1 => (if (decide (st1 < (a0.l.length : Int))) = true then ((elt a0 st1).bind fun y2 => ((callV Tryz.prog md ext E_bool a1 [.str y2]).bind fun y3 => (if (!y3) = true then (some (.inr (.inr false))) else (some (.inl (IntKind.i64.wrap (st1 + 1))))))) else (some (.inr (.inl ()))))) 0).bind fun y1 => (Sum.elim (fun y1 => (some true)) (fun y1 => (some y1)) y1)) else none)
theorem u_impl_areAll_string (a0 : (Sl ByteArray)) (a1 : T) (r : Bool) (h : B_impl_areAll_string a0 a1 = some r) : F_impl_areAll_string a0 a1 = some r := by
 unfold B_impl_areAll_string at h
 obtain ⟨hf_a1, h⟩ := if_some h
 refine k_W ok_46 E_bool_inj h (fun σ0 => ?_) (hf := (all_cons (by kernel_rfl) (all_cons (flat3_of hf_a1) all_nil)))
 refine t_RN ?_
 refine t_RN ?_
 refine t_loop (fun st1 fr => Sub [(1, a1), (7, a0.t), (8, i4 (a0.l.length : Int)), (9, i4 st1)] fr.s ∧ Heap σ0 fr.σ []) (fun y1 e fr => (Sum.elim (fun y => e = (.exit 0) ∧ Sub [] fr.s ∧ Heap σ0 fr.σ []) (fun y => e = .ret ∧ endW Tryz.prog (Tryz.f46.results.toList) σ0 (E_bool y) .ret fr)) y1) (fun hS hH => And.intro (sub_to hS (by kernel_rfl)) hH) (fun st1 x fr h HI => ?_) fun y1 e fr h HF => ?_
 ·obtain ⟨s, σ⟩ := fr; obtain ⟨hS, hH⟩ := HI
  refine t_bk h hS hH ?_
  refine t_RN ?_
  refine t_if (fun hc1 => ?_) fun hc1 => ?_
  ·refine t_R ?_
   refine k_elt fun y2 rest1 hy2 => ?_
   refine t_N ?_
   refine t_RU 2 ?_
   refine k_callP fun y3 hy3 => ?_
   refine t_N ?_
   refine t_if (fun hc2 => ?_) fun hc2 => ?_
   ·refine t_RN ?_
    exact t_e fun he hS hH => he ▸ And.intro rfl (eW hS hH (rT rN) E_bool_p)
   refine t_RN ?_
   exact t_e fun he hS hH => he ▸ And.intro (sub_to hS (by kernel_rfl)) hH
  exact t_e fun he hS hH => he ▸ And.intro rfl (And.intro (sub_to hS (by kernel_rfl)) hH)
 obtain ⟨s, σ⟩ := fr
 rcases y1 with y1 | y1
 ·have h := el_l h
  obtain ⟨rfl, hS, hH⟩ := HF
  refine t_bx h hS hH ?_
  refine t_RN ?_
  exact k_eW (rT rN) E_bool_p
 have h := el_r h
 obtain ⟨rfl, HE⟩ := HF
 injection h with h; subst h; exact HE
noncomputable def B_impl_isShort (a0 : ByteArray) : Option Bool := (some (decide ((a0.size : Int) ≤ 200)))
theorem u_impl_isShort (a0 : ByteArray) (r : Bool) (h : B_impl_isShort a0 = some r) : F_impl_isShort a0 = some r := by
 unfold B_impl_isShort at h
 refine k_W ok_47 E_bool_inj h (fun σ0 => ?_)
 refine t_RN ?_
 refine t_RN ?_
 exact k_eW (rT rN) E_bool_p
noncomputable def B_impl_areAll_File (a0 : (Sl DFile)) (a1 : T) : Option Bool := (if flat1 a1 = true then ((loopO (S := Int) (R := (Unit ⊕ Bool)) (fun st1 => (if (decide (st1 < (a0.l.length : Int))) = true then ((elt a0 st1).bind fun y2 => ((callV Tryz.prog md ext E_bool a1 [.agg (DFile.cells y2)]).bind fun y3 => (if (!y3) = true then (some (.inr (.inr false))) else (some (.inl (IntKind.i64.wrap (st1 + 1))))))) else (some (.inr (.inl ()))))) 0).bind fun y1 => (Sum.elim (fun y1 => (some true)) (fun y1 => (some y1)) y1)) else none)
theorem u_impl_areAll_File (a0 : (Sl DFile)) (a1 : T) (r : Bool) (h : B_impl_areAll_File a0 a1 = some r) : F_impl_areAll_File a0 a1 = some r := by
 unfold B_impl_areAll_File at h
 obtain ⟨hf_a1, h⟩ := if_some h
 refine k_W ok_48 E_bool_inj h (fun σ0 => ?_) (hf := (all_cons (by kernel_rfl) (all_cons (flat3_of hf_a1) all_nil)))
 refine t_RN ?_
 refine t_RN ?_
 refine t_loop (fun st1 fr => Sub [(1, a1), (7, a0.t), (8, i4 (a0.l.length : Int)), (9, i4 st1)] fr.s ∧ Heap σ0 fr.σ []) (fun y1 e fr => (Sum.elim (fun y => e = (.exit 0) ∧ Sub [] fr.s ∧ Heap σ0 fr.σ []) (fun y => e = .ret ∧ endW Tryz.prog (Tryz.f48.results.toList) σ0 (E_bool y) .ret fr)) y1) (fun hS hH => And.intro (sub_to hS (by kernel_rfl)) hH) (fun st1 x fr h HI => ?_) fun y1 e fr h HF => ?_
 ·obtain ⟨s, σ⟩ := fr; obtain ⟨hS, hH⟩ := HI
  refine t_bk h hS hH ?_
  refine t_RN ?_
  refine t_if (fun hc1 => ?_) fun hc1 => ?_
  ·refine t_R ?_
   refine k_elt fun y2 rest1 hy2 => ?_
   refine t_U 1 ?_
   refine k_alloc fun b1 => ?_
   refine k_storeA 0 ?_
   refine t_N ?_
   refine t_RU 1 ?_
   refine k_load 0 ?_
   refine k_callP fun y3 hy3 => ?_
   refine t_N ?_
   refine t_if (fun hc2 => ?_) fun hc2 => ?_
   ·refine t_RN ?_
    exact t_e fun he hS hH => he ▸ And.intro rfl (eW hS hH (rT rN) E_bool_p)
   refine t_RN ?_
   exact t_e fun he hS hH => he ▸ And.intro (sub_to hS (by kernel_rfl)) (Heap.sel hH [] rfl (by kernel_rfl))
  exact t_e fun he hS hH => he ▸ And.intro rfl (And.intro (sub_to hS (by kernel_rfl)) hH)
 obtain ⟨s, σ⟩ := fr
 rcases y1 with y1 | y1
 ·have h := el_l h
  obtain ⟨rfl, hS, hH⟩ := HF
  refine t_bx h hS hH ?_
  refine t_RN ?_
  exact k_eW (rT rN) E_bool_p
 have h := el_r h
 obtain ⟨rfl, HE⟩ := HF
 injection h with h; subst h; exact HE
noncomputable def B_impl_File_isValid (a0 : DFile) : Option Bool := (((if (decide ((a0.Lines.l.length : Int) ≤ 40)) = true then ((F_impl_areAll_string a0.Lines (T.fn 47 [] [])).bind fun y6 => (some y6)) else (some false)) : Option Bool).bind fun y1 => ((((F_impl_within a0.At 0 (a0.Lines.l.length : Int)).bind fun y5 => (if y5 = true then (if (decide (a0.At = 0)) = true then (some true) else (some (decide (a0.Mode = 1)))) else (some false))) : Option Bool).bind fun y2 => ((F_impl_IsName a0.Name).bind fun y3 => (if y3 = true then (if y1 = true then (if y2 = true then (if (decide (a0.Mode = 0)) = true then (some true) else ((F_impl_isMode a0.Mode).bind fun y4 => (some y4))) else (some false)) else (some false)) else (some false)))))
theorem u_impl_File_isValid (a0 : DFile) (r : Bool) (h : B_impl_File_isValid a0 = some r) : F_impl_File_isValid a0 = some r := by
 unfold B_impl_File_isValid at h
 refine k_W ok_49 E_bool_inj h (fun σ0 => ?_)
 refine t_R ?_
 refine k_box (fun b1 => ?_)
 refine t_N ?_
 refine t_cut 0 (fun y1 e fr => e = .normal ∧ Sub [(1, .ptr b1 0 0 4), (3, .bool y1)] fr.s ∧ Heap σ0 fr.σ [.box b1 (DFile.cells a0)]) (fun y1 e fr h HF => ?_) fun y1 => ?_
 ·obtain ⟨s, σ⟩ := fr
  obtain ⟨rfl, hS, hH⟩ := HF
  refine t_bx h hS hH ?_
  refine t_cut 0 (fun y2 e fr => e = .normal ∧ Sub [(1, .ptr b1 0 0 4), (3, .bool y1), (4, .bool y2)] fr.s ∧ Heap σ0 fr.σ [.box b1 (DFile.cells a0)]) (fun y2 e fr h HF => ?_) fun y2 => ?_
  ·obtain ⟨s, σ⟩ := fr
   obtain ⟨rfl, hS, hH⟩ := HF
   refine t_bx h hS hH ?_
   refine t_RU 1 ?_
   refine k_load 0 ?_
   refine k_call fun y3 hy3 => ?_
   refine t_U 1 ?_
   refine t_gif 33 (fun hc1 => ?_) fun hc1 => ?_
   ·refine t_U 3 ?_
    refine t_gif 36 (fun hc2 => ?_) fun hc2 => ?_
    ·refine t_U 3 ?_
     refine t_gif 39 (fun hc3 => ?_) fun hc3 => ?_
     ·refine t_U 1 ?_
      refine k_load 0 ?_
      refine t_U 2 ?_
      refine t_gif 43 (fun hc4 => ?_) fun hc4 => ?_
      ·refine t_N ?_
       exact k_eW (rT rN) E_bool_p
      refine t_U 1 ?_
      refine k_load 0 ?_
      refine k_call fun y4 hy4 => ?_
      refine t_N ?_
      exact k_eW (rT rN) E_bool_p
     refine t_N ?_
     exact k_eW (rT rN) E_bool_p
    refine t_N ?_
    exact k_eW (rT rN) E_bool_p
   refine t_N ?_
   exact k_eW (rT rN) E_bool_p
  refine t_RU 1 ?_
  refine k_load 0 ?_
  refine t_U 1 ?_
  refine k_load 0 ?_
  refine t_U 1 ?_
  refine k_call fun y5 hy5 => ?_
  refine t_U 1 ?_
  refine t_gif 20 (fun hc5 => ?_) fun hc5 => ?_
  ·refine t_U 1 ?_
   refine k_load 0 ?_
   refine t_U 2 ?_
   refine t_gif 24 (fun hc6 => ?_) fun hc6 => ?_
   ·refine t_N ?_
    exact t_e fun he hS hH => he ▸ And.intro rfl (And.intro (sub_to hS (by kernel_rfl)) hH)
   refine t_U 1 ?_
   refine k_load 0 ?_
   refine t_N ?_
   exact t_e fun he hS hH => by subst he; exact And.intro rfl (And.intro (sub_to hS (by kernel_rfl)) hH)
  refine t_N ?_
  exact t_e fun he hS hH => he ▸ And.intro rfl (And.intro (sub_to hS (by kernel_rfl)) hH)
 refine t_RU 1 ?_
 refine k_load 0 ?_
 refine t_U 3 ?_
 refine t_gif 9 (fun hc7 => ?_) fun hc7 => ?_
 ·refine t_U 1 ?_
  refine k_load 0 ?_
  refine k_call fun y6 hy6 => ?_
  refine t_N ?_
  exact t_e fun he hS hH => he ▸ And.intro rfl (And.intro (sub_to hS (by kernel_rfl)) hH)
 refine t_N ?_
 exact t_e fun he hS hH => he ▸ And.intro rfl (And.intro (sub_to hS (by kernel_rfl)) hH)
noncomputable def B_impl_isSorted_File (a0 : (Sl DFile)) (a1 : T) : Option Bool := (if flat1 a1 = true then ((loopO (S := Int) (R := (Unit ⊕ Bool)) (fun st1 => (if (decide (st1 < (a0.l.length : Int))) = true then ((elt a0 (IntKind.i64.wrap (st1 - 1))).bind fun y2 => ((callV Tryz.prog md ext E_str a1 [.agg (DFile.cells y2)]).bind fun y3 => ((elt a0 st1).bind fun y4 => ((callV Tryz.prog md ext E_str a1 [.agg (DFile.cells y4)]).bind fun y5 => (if (!Op.bytesLess y3.toList y5.toList) = true then (some (.inr (.inr false))) else (some (.inl (IntKind.i64.wrap (st1 + 1))))))))) else (some (.inr (.inl ()))))) 1).bind fun y1 => (Sum.elim (fun y1 => (some true)) (fun y1 => (some y1)) y1)) else none)
theorem u_impl_isSorted_File (a0 : (Sl DFile)) (a1 : T) (r : Bool) (h : B_impl_isSorted_File a0 a1 = some r) : F_impl_isSorted_File a0 a1 = some r := by
 unfold B_impl_isSorted_File at h
 obtain ⟨hf_a1, h⟩ := if_some h
 refine k_W ok_50 E_bool_inj h (fun σ0 => ?_) (hf := (all_cons (by kernel_rfl) (all_cons (flat3_of hf_a1) all_nil)))
 refine t_RN ?_
 refine t_RN ?_
 refine t_loop (fun st1 fr => Sub [(0, a0.t), (1, a1), (5, i4 st1)] fr.s ∧ Heap σ0 fr.σ []) (fun y1 e fr => (Sum.elim (fun y => e = (.exit 0) ∧ Sub [] fr.s ∧ Heap σ0 fr.σ []) (fun y => e = .ret ∧ endW Tryz.prog (Tryz.f50.results.toList) σ0 (E_bool y) .ret fr)) y1) (fun hS hH => And.intro (sub_to hS (by kernel_rfl)) hH) (fun st1 x fr h HI => ?_) fun y1 e fr h HF => ?_
 ·obtain ⟨s, σ⟩ := fr; obtain ⟨hS, hH⟩ := HI
  refine t_bk h hS hH ?_
  refine t_RN ?_
  refine t_if (fun hc1 => ?_) fun hc1 => ?_
  ·refine t_D fun mb => ?_
   refine t_U 4 ?_
   refine k_elt fun y2 rest1 hy2 => ?_
   refine t_U 1 ?_
   refine k_callP fun y3 hy3 => ?_
   refine t_U 3 ?_
   refine k_elt fun y4 rest2 hy4 => ?_
   refine t_U 1 ?_
   refine k_callP fun y5 hy5 => ?_
   refine t_N ?_
   refine t_if (fun hc2 => ?_) fun hc2 => ?_
   ·refine t_RN ?_
    exact t_e fun he hS hH => he ▸ And.intro rfl (eW hS hH (rT rN) E_bool_p)
   refine t_RN ?_
   exact t_e fun he hS hH => he ▸ And.intro (sub_to hS (by kernel_rfl)) hH
  exact t_e fun he hS hH => he ▸ And.intro rfl (And.intro (sub_to hS (by kernel_rfl)) hH)
 obtain ⟨s, σ⟩ := fr
 rcases y1 with y1 | y1
 ·have h := el_l h
  obtain ⟨rfl, hS, hH⟩ := HF
  refine t_bx h hS hH ?_
  refine t_RN ?_
  exact k_eW (rT rN) E_bool_p
 have h := el_r h
 obtain ⟨rfl, HE⟩ := HF
 injection h with h; subst h; exact HE
noncomputable def B_impl_nameOfFile (a0 : DFile) : Option ByteArray := (some a0.Name)
theorem u_impl_nameOfFile (a0 : DFile) (r : ByteArray) (h : B_impl_nameOfFile a0 = some r) : F_impl_nameOfFile a0 = some r := by
 unfold B_impl_nameOfFile at h
 refine k_W ok_51 E_str_inj h (fun σ0 => ?_)
 refine t_R ?_
 refine k_box (fun b1 => ?_)
 refine t_N ?_
 refine t_RU 1 ?_
 refine k_load 0 ?_
 refine t_N ?_
 exact k_eW (rT rN) E_str_p
noncomputable def B_slices_Clone_string (a0 : (Sl ByteArray)) : Option (Sl ByteArray) := (if a0.z = true then (some ⟨true, []⟩) else ((appS 16 (⟨false, []⟩ : Sl ByteArray) a0).bind fun y1 => (some y1)))
theorem u_slices_Clone_string (a0 : (Sl ByteArray)) (r : (Sl ByteArray)) (h : B_slices_Clone_string a0 = some r) : F_slices_Clone_string a0 = some r := by
 unfold B_slices_Clone_string at h
 refine k_O ok_52 h (fun σ0 => ?_)
 refine t_RN ?_
 refine t_RN ?_
 refine t_if (fun hc1 => ?_) fun hc1 => ?_
 ·refine t_RN ?_
  refine t_h (Heap.addNil · true 1) ?_
  exact k_eO [(T.row true 0 [])] (rT rN)
 refine t_R ?_
 refine k_bs0 (α := ByteArray) (fun t1 ht1 => ?_)
 refine t_U 1 ?_
 refine k_appR 0 (fun y1 t2 hy1 ht2 => ?_)
 refine t_N ?_
 exact k_eO [t2] (rT rN)
noncomputable def B_laws_eqFile (a0 : DFile) (a1 : DFile) : Option Bool := (if (!decide (a0.Name = a1.Name)) = true then (some false) else ((F_laws_eqStringS a0.Lines a1.Lines).bind fun y1 => (if (!y1) = true then (some false) else (if (!decide (a0.Mode = a1.Mode)) = true then (some false) else (if (!decide (a0.At = a1.At)) = true then (some false) else (some true))))))
theorem u_laws_eqFile (a0 : DFile) (a1 : DFile) (r : Bool) (h : B_laws_eqFile a0 a1 = some r) : F_laws_eqFile a0 a1 = some r := by
 unfold B_laws_eqFile at h
 refine k_W ok_53 E_bool_inj h (fun σ0 => ?_)
 refine t_R ?_
 refine k_box (fun b1 => ?_)
 refine k_box (fun b2 => ?_)
 refine t_N ?_
 refine t_RU 1 ?_
 refine k_load 1 ?_
 refine t_U 1 ?_
 refine k_load 0 ?_
 refine t_N ?_
 refine t_if (fun hc1 => ?_) fun hc1 => ?_
 ·refine t_RN ?_
  exact k_eW (rT rN) E_bool_p
 refine t_RU 1 ?_
 refine k_load 1 ?_
 refine t_U 1 ?_
 refine k_load 0 ?_
 refine k_call fun y1 hy1 => ?_
 refine t_N ?_
 refine t_if (fun hc2 => ?_) fun hc2 => ?_
 ·refine t_RN ?_
  exact k_eW (rT rN) E_bool_p
 refine t_RU 1 ?_
 refine k_load 1 ?_
 refine t_U 1 ?_
 refine k_load 0 ?_
 refine t_N ?_
 refine t_if (fun hc3 => ?_) fun hc3 => ?_
 ·refine t_RN ?_
  exact k_eW (rT rN) E_bool_p
 refine t_RU 1 ?_
 refine k_load 1 ?_
 refine t_U 1 ?_
 refine k_load 0 ?_
 refine t_N ?_
 refine t_if (fun hc4 => ?_) fun hc4 => ?_
 ·refine t_RN ?_
  exact k_eW (rT rN) E_bool_p
 refine t_RN ?_
 exact k_eW (rT rN) E_bool_p
noncomputable def B_laws_markText (a0 : Int) : Option ByteArray := (if (decide (a0 ≤ 0)) = true then (some ⟨#[109, 48]⟩) else ((loopO (S := (Int × ByteArray)) (R := ByteArray) (fun st1 => (if (decide (0 < st1.1)) = true then ((strS ((⟨false, [⟨(IntKind.u8.wrap (IntKind.i64.wrap (48 + (st1.1.tmod 10))))⟩]⟩ : Sl (Iv .u8)))).bind fun y2 => ((catB y2 st1.2).bind fun y3 => (some (.inl ((IntKind.i64.wrap (st1.1.tdiv 10)), y3))))) else (some (.inr st1.2)))) (a0, ⟨#[]⟩)).bind fun y1 => ((catB ⟨#[109]⟩ y1).bind fun y4 => (some y4))))
theorem u_laws_markText (a0 : Int) (r : ByteArray) (h : B_laws_markText a0 = some r) : F_laws_markText a0 = some r := by
 unfold B_laws_markText at h
 refine k_W ok_54 E_str_inj h (fun σ0 => ?_)
 refine t_RN ?_
 refine t_RN ?_
 refine t_if (fun hc1 => ?_) fun hc1 => ?_
 ·refine t_RN ?_
  exact k_eW (rT rN) E_str_p
 refine t_RN ?_
 refine t_loop (fun st1 fr => Sub [(0, i4 st1.1), (3, .str st1.2)] fr.s ∧ Heap σ0 fr.σ []) (fun y1 e fr => e = (.exit 0) ∧ Sub [(3, .str y1)] fr.s ∧ Heap σ0 fr.σ []) (fun hS hH => And.intro (sub_to hS (by kernel_rfl)) hH) (fun st1 x fr h HI => ?_) fun y1 e fr h HF => ?_
 ·obtain ⟨s, σ⟩ := fr; obtain ⟨hS, hH⟩ := HI
  refine t_bk h hS hH ?_
  refine t_RN ?_
  refine t_if (fun hc2 => ?_) fun hc2 => ?_
  ·refine t_RU 4 ?_
   refine k_bs (z := true) (⟨false, [⟨(IntKind.u8.wrap (IntKind.i64.wrap (48 + (st1.1.tmod 10))))⟩]⟩ : Sl (Iv .u8)) (fun t1 ht1 => ?_)
   refine k_b2s (a := (⟨false, [⟨(IntKind.u8.wrap (IntKind.i64.wrap (48 + (st1.1.tmod 10))))⟩]⟩ : Sl (Iv .u8))) 0 (fun y2 hy2 => ?_)
   refine t_U 1 ?_
   refine k_cat fun y3 hy3 => ?_
   refine t_N ?_
   refine t_RN ?_
   exact t_e fun he hS hH => he ▸ And.intro (sub_to hS (by kernel_rfl)) (Heap.sel hH [] rfl (by kernel_rfl))
  exact t_e fun he hS hH => he ▸ And.intro rfl (And.intro (sub_to hS (by kernel_rfl)) hH)
 obtain ⟨s, σ⟩ := fr
 obtain ⟨rfl, hS, hH⟩ := HF
 refine t_bx h hS hH ?_
 refine t_RU 1 ?_
 refine k_cat fun y4 hy4 => ?_
 refine t_N ?_
 exact k_eW (rT rN) E_str_p
noncomputable def B_spec_l02NameEnd (a0 : ByteArray) (a1 : Int) : Option Int := (if (decide ((a0.size : Int) ≤ a1)) = true then (some a1) else ((byteAt a0 a1).bind fun y1 => ((F_spec_l02Letter y1).bind fun y2 => (if (!y2) = true then (some a1) else ((loopO (S := Int) (R := Int) (fun st1 => (if (decide (st1 < (a0.size : Int))) = true then ((byteAt a0 st1).bind fun y4 => ((F_spec_l02Letter y4).bind fun y5 => (if y5 = true then (some (.inl (IntKind.i64.wrap (st1 + 1)))) else ((byteAt a0 st1).bind fun y6 => ((F_spec_l02Digit y6).bind fun y7 => (if y7 = true then (some (.inl (IntKind.i64.wrap (st1 + 1)))) else ((byteAt a0 st1).bind fun y8 => (if (decide (y8 = 95)) = true then (some (.inl (IntKind.i64.wrap (st1 + 1)))) else (some (.inr st1)))))))))) else (some (.inr st1)))) a1).bind fun y3 => (some y3))))))
theorem u_spec_l02NameEnd (a0 : ByteArray) (a1 : Int) (r : Int) (h : B_spec_l02NameEnd a0 a1 = some r) : F_spec_l02NameEnd a0 a1 = some r := by
 unfold B_spec_l02NameEnd at h
 refine k_W ok_55 E_i64_inj h (fun σ0 => ?_)
 refine t_RN ?_
 refine t_RU 5 ?_
 refine t_gif 9 (fun hc1 => ?_) fun hc1 => ?_
 ·refine t_N ?_
  refine t_cT rfl ?_
  refine t_RN ?_
  exact k_eW (rT rN) E_i64_p
 refine t_U 2 ?_
 refine k_byte fun y1 hy1 => ?_
 refine k_call fun y2 hy2 => ?_
 refine t_N ?_
 refine t_if (fun hc2 => ?_) fun hc2 => ?_
 ·refine t_RN ?_
  exact k_eW (rT rN) E_i64_p
 refine t_loop (fun st1 fr => Sub [(0, .str a0), (1, i4 st1)] fr.s ∧ Heap σ0 fr.σ []) (fun y3 e fr => e = (.exit 0) ∧ Sub [(1, i4 y3)] fr.s ∧ Heap σ0 fr.σ []) (fun hS hH => And.intro (sub_to hS (by kernel_rfl)) hH) (fun st1 x fr h HI => ?_) fun y3 e fr h HF => ?_
 ·obtain ⟨s, σ⟩ := fr; obtain ⟨hS, hH⟩ := HI
  refine t_bk h hS hH ?_
  refine t_RU 5 ?_
  refine t_gif 21 (fun hc3 => ?_) fun hc3 => ?_
  ·refine t_U 2 ?_
   refine k_byte fun y4 hy4 => ?_
   refine k_call fun y5 hy5 => ?_
   refine t_U 1 ?_
   refine t_gif 26 (fun hc4 => ?_) fun hc4 => ?_
   ·refine t_N ?_
    refine t_cT rfl ?_
    refine t_RN ?_
    exact t_e fun he hS hH => he ▸ And.intro (sub_to hS (by kernel_rfl)) hH
   refine t_U 2 ?_
   refine k_byte fun y6 hy6 => ?_
   refine k_call fun y7 hy7 => ?_
   refine t_U 2 ?_
   refine t_gif 32 (fun hc5 => ?_) fun hc5 => ?_
   ·refine t_N ?_
    refine t_cT rfl ?_
    refine t_RN ?_
    exact t_e fun he hS hH => he ▸ And.intro (sub_to hS (by kernel_rfl)) hH
   refine t_U 2 ?_
   refine k_byte fun y8 hy8 => ?_
   refine t_N ?_
   refine t_if (fun hc6 => ?_) fun hc6 => ?_
   ·refine t_RN ?_
    exact t_e fun he hS hH => he ▸ And.intro (sub_to hS (by kernel_rfl)) hH
   exact t_e fun he hS hH => he ▸ And.intro rfl (And.intro (sub_to hS (by kernel_rfl)) hH)
  refine t_N ?_
  refine t_cF ff_ne ?_
  exact t_e fun he hS hH => he ▸ And.intro rfl (And.intro (sub_to hS (by kernel_rfl)) hH)
 obtain ⟨s, σ⟩ := fr
 obtain ⟨rfl, hS, hH⟩ := HF
 refine t_bx h hS hH ?_
 refine t_RN ?_
 exact k_eW (rT rN) E_i64_p
noncomputable def B_spec_l06Plain (a0 : DValue) (a1 : Bool) (a2 : Bool) (a3 : Bool) : Option Bool := (if a1 = true then (if a2 = true then (if a3 = true then (some true) else (some (decide (a0.Ref = 0)))) else (if (decide (a0.Text = (⟨#[]⟩ : ByteArray))) = true then (if a3 = true then (some true) else (some (decide (a0.Ref = 0)))) else (some false))) else (if (decide (a0.Num = 0)) = true then (if a2 = true then (if a3 = true then (some true) else (some (decide (a0.Ref = 0)))) else (if (decide (a0.Text = (⟨#[]⟩ : ByteArray))) = true then (if a3 = true then (some true) else (some (decide (a0.Ref = 0)))) else (some false))) else (some false)))
theorem u_spec_l06Plain (a0 : DValue) (a1 : Bool) (a2 : Bool) (a3 : Bool) (r : Bool) (h : B_spec_l06Plain a0 a1 a2 a3 = some r) : F_spec_l06Plain a0 a1 a2 a3 = some r := by
 unfold B_spec_l06Plain at h
 refine k_W ok_56 E_bool_inj h (fun σ0 => ?_)
 refine t_R ?_
 refine k_box (fun b1 => ?_)
 refine t_N ?_
 refine t_RU 2 ?_
 refine t_gif 10 (fun hc1 => ?_) fun hc1 => ?_
 ·refine t_U 7 ?_
  refine t_gif 17 (fun hc2 => ?_) fun hc2 => ?_
  ·refine t_U 8 ?_
   refine t_gif 25 (fun hc3 => ?_) fun hc3 => ?_
   ·refine t_N ?_
    exact k_eW (rT rN) E_bool_p
   refine t_U 1 ?_
   refine k_load 0 ?_
   refine t_N ?_
   exact k_eW (rT rN) E_bool_p
  refine t_U 1 ?_
  refine k_load 0 ?_
  refine t_U 4 ?_
  refine t_gif 23 (fun hc4 => ?_) fun hc4 => ?_
  ·refine t_U 2 ?_
   refine t_gif 25 (fun hc5 => ?_) fun hc5 => ?_
   ·refine t_N ?_
    exact k_eW (rT rN) E_bool_p
   refine t_U 1 ?_
   refine k_load 0 ?_
   refine t_N ?_
   exact k_eW (rT rN) E_bool_p
  refine t_N ?_
  exact k_eW (rT rN) E_bool_p
 refine t_U 1 ?_
 refine k_load 0 ?_
 refine t_U 3 ?_
 refine t_gif 15 (fun hc6 => ?_) fun hc6 => ?_
 ·refine t_U 2 ?_
  refine t_gif 17 (fun hc7 => ?_) fun hc7 => ?_
  ·refine t_U 8 ?_
   refine t_gif 25 (fun hc8 => ?_) fun hc8 => ?_
   ·refine t_N ?_
    exact k_eW (rT rN) E_bool_p
   refine t_U 1 ?_
   refine k_load 0 ?_
   refine t_N ?_
   exact k_eW (rT rN) E_bool_p
  refine t_U 1 ?_
  refine k_load 0 ?_
  refine t_U 4 ?_
  refine t_gif 23 (fun hc9 => ?_) fun hc9 => ?_
  ·refine t_U 2 ?_
   refine t_gif 25 (fun hc10 => ?_) fun hc10 => ?_
   ·refine t_N ?_
    exact k_eW (rT rN) E_bool_p
   refine t_U 1 ?_
   refine k_load 0 ?_
   refine t_N ?_
   exact k_eW (rT rN) E_bool_p
  refine t_N ?_
  exact k_eW (rT rN) E_bool_p
 refine t_N ?_
 exact k_eW (rT rN) E_bool_p
noncomputable def B_spec_QuoteText (a0 : ByteArray) : Option ByteArray := ((loopO (S := (ByteArray × Int)) (R := ByteArray) (fun st1 => (if (decide (st1.2 < (a0.size : Int))) = true then ((byteAt a0 st1.2).bind fun y2 => (((if (decide (y2 = 34)) = true then ((catB st1.1 ⟨#[34]⟩).bind fun y6 => (some y6)) else (some st1.1)) : Option ByteArray).bind fun y3 => ((subB a0 st1.2 (IntKind.i64.wrap (st1.2 + 1))).bind fun y4 => ((catB y3 y4).bind fun y5 => (some (.inl (y5, (IntKind.i64.wrap (st1.2 + 1))))))))) else (some (.inr st1.1)))) (⟨#[34]⟩, 0)).bind fun y1 => ((catB y1 ⟨#[34]⟩).bind fun y7 => (some y7)))
theorem u_spec_QuoteText (a0 : ByteArray) (r : ByteArray) (h : B_spec_QuoteText a0 = some r) : F_spec_QuoteText a0 = some r := by
 unfold B_spec_QuoteText at h
 refine k_W ok_57 E_str_inj h (fun σ0 => ?_)
 refine t_RN ?_
 refine t_RN ?_
 refine t_RN ?_
 refine t_loop (fun st1 fr => Sub [(0, .str a0), (3, .str st1.1), (4, i4 st1.2)] fr.s ∧ Heap σ0 fr.σ []) (fun y1 e fr => e = (.exit 0) ∧ Sub [(3, .str y1)] fr.s ∧ Heap σ0 fr.σ []) (fun hS hH => And.intro (sub_to hS (by kernel_rfl)) hH) (fun st1 x fr h HI => ?_) fun y1 e fr h HF => ?_
 ·obtain ⟨s, σ⟩ := fr; obtain ⟨hS, hH⟩ := HI
  refine t_bk h hS hH ?_
  refine t_RN ?_
  refine t_if (fun hc1 => ?_) fun hc1 => ?_
  ·refine t_RU 2 ?_
   refine k_byte fun y2 hy2 => ?_
   refine t_N ?_
   refine t_cut 0 (fun y3 e fr => e = .normal ∧ Sub [(0, .str a0), (3, .str y3), (4, i4 st1.2)] fr.s ∧ Heap σ0 fr.σ []) (fun y3 e fr h HF => ?_) fun y3 => ?_
   ·obtain ⟨s, σ⟩ := fr
    obtain ⟨rfl, hS, hH⟩ := HF
    refine t_bx h hS hH ?_
    refine t_RU 5 ?_
    refine k_subB fun y4 hy4 => ?_
    refine k_cat fun y5 hy5 => ?_
    refine t_N ?_
    refine t_RN ?_
    exact t_e fun he hS hH => he ▸ And.intro (sub_to hS (by kernel_rfl)) hH
   refine t_if (fun hc2 => ?_) fun hc2 => ?_
   ·refine t_RU 1 ?_
    refine k_cat fun y6 hy6 => ?_
    refine t_N ?_
    exact t_e fun he hS hH => he ▸ And.intro rfl (And.intro (sub_to hS (by kernel_rfl)) hH)
   exact t_e fun he hS hH => he ▸ And.intro rfl (And.intro (sub_to hS (by kernel_rfl)) hH)
  exact t_e fun he hS hH => he ▸ And.intro rfl (And.intro (sub_to hS (by kernel_rfl)) hH)
 obtain ⟨s, σ⟩ := fr
 obtain ⟨rfl, hS, hH⟩ := HF
 refine t_bx h hS hH ?_
 refine t_RU 1 ?_
 refine k_cat fun y7 hy7 => ?_
 refine t_N ?_
 exact k_eW (rT rN) E_str_p
noncomputable def B_spec_DataType (a0 : DValue) : Option ByteArray := ((F_spec_ValidValue a0).bind fun y1 => (if (!y1) = true then (some ⟨#[]⟩) else ((elt (⟨false, [⟨#[115, 116, 114, 105, 110, 103]⟩, ⟨#[105, 110, 116, 101, 103, 101, 114]⟩, ⟨#[112, 97, 116, 116, 101, 114, 110]⟩, ⟨#[97, 114, 114, 97, 121]⟩, ⟨#[116, 97, 98, 108, 101]⟩, ⟨#[114, 101, 99, 111, 114, 100]⟩, ⟨#[110, 97, 109, 101]⟩, ⟨#[101, 120, 112, 114, 101, 115, 115, 105, 111, 110]⟩]⟩ : Sl ByteArray) (IntKind.i64.wrap (a0.Kind - 1))).bind fun y2 => (some y2))))
theorem u_spec_DataType (a0 : DValue) (r : ByteArray) (h : B_spec_DataType a0 = some r) : F_spec_DataType a0 = some r := by
 unfold B_spec_DataType at h
 refine k_W ok_58 E_str_inj h (fun σ0 => ?_)
 refine t_R ?_
 refine k_box (fun b1 => ?_)
 refine t_N ?_
 refine t_R ?_
 refine k_load 0 ?_
 refine k_call fun y1 hy1 => ?_
 refine t_N ?_
 refine t_if (fun hc1 => ?_) fun hc1 => ?_
 ·refine t_RN ?_
  exact k_eW (rT rN) E_str_p
 refine t_R ?_
 refine k_bs (z := true) (⟨false, [⟨#[115, 116, 114, 105, 110, 103]⟩, ⟨#[105, 110, 116, 101, 103, 101, 114]⟩, ⟨#[112, 97, 116, 116, 101, 114, 110]⟩, ⟨#[97, 114, 114, 97, 121]⟩, ⟨#[116, 97, 98, 108, 101]⟩, ⟨#[114, 101, 99, 111, 114, 100]⟩, ⟨#[110, 97, 109, 101]⟩, ⟨#[101, 120, 112, 114, 101, 115, 115, 105, 111, 110]⟩]⟩ : Sl ByteArray) (fun t1 ht1 => ?_)
 refine t_U 1 ?_
 refine k_load 1 ?_
 refine t_U 1 ?_
 refine k_hidx 0 (fun hb1 hb1e y2 hy2 hl_hb1 => ?_)
 refine k_hload 0 0 hl_hb1 hy2 ?_
 refine t_N ?_
 exact k_eW (rT rN) E_str_p
noncomputable def B_impl_isLetter (a0 : Int) : Option Bool := (if (decide (65 ≤ a0)) = true then (if (decide (a0 ≤ 90)) = true then (some true) else (if (decide (97 ≤ a0)) = true then (some (decide (a0 ≤ 122))) else (some false))) else (if (decide (97 ≤ a0)) = true then (some (decide (a0 ≤ 122))) else (some false)))
theorem u_impl_isLetter (a0 : Int) (r : Bool) (h : B_impl_isLetter a0 = some r) : F_impl_isLetter a0 = some r := by
 unfold B_impl_isLetter at h
 refine k_W ok_59 E_bool_inj h (fun σ0 => ?_)
 refine t_RN ?_
 refine t_RU 3 ?_
 refine t_gif 5 (fun hc1 => ?_) fun hc1 => ?_
 ·refine t_U 4 ?_
  refine t_gif 9 (fun hc2 => ?_) fun hc2 => ?_
  ·refine t_N ?_
   exact k_eW (rT rN) E_bool_p
  refine t_U 3 ?_
  refine t_gif 12 (fun hc3 => ?_) fun hc3 => ?_
  ·refine t_N ?_
   exact k_eW (rT rN) E_bool_p
  refine t_N ?_
  exact k_eW (rT rN) E_bool_p
 refine t_U 7 ?_
 refine t_gif 12 (fun hc4 => ?_) fun hc4 => ?_
 ·refine t_N ?_
  exact k_eW (rT rN) E_bool_p
 refine t_N ?_
 exact k_eW (rT rN) E_bool_p
noncomputable def B_impl_areAll_byte (a0 : (Sl (Iv .u8))) (a1 : T) : Option Bool := (if flat1 a1 = true then ((loopO (S := Int) (R := (Unit ⊕ Bool)) (fun st1 => (if (decide (st1 < (a0.l.length : Int))) = true then ((elt a0 st1).bind fun y2 => ((callV Tryz.prog md ext E_bool a1 [.int .u8 y2.v]).bind fun y3 => (if (!y3) = true then (some (.inr (.inr false))) else (some (.inl (IntKind.i64.wrap (st1 + 1))))))) else (some (.inr (.inl ()))))) 0).bind fun y1 => (Sum.elim (fun y1 => (some true)) (fun y1 => (some y1)) y1)) else none)
theorem u_impl_areAll_byte (a0 : (Sl (Iv .u8))) (a1 : T) (r : Bool) (h : B_impl_areAll_byte a0 a1 = some r) : F_impl_areAll_byte a0 a1 = some r := by
 unfold B_impl_areAll_byte at h
 obtain ⟨hf_a1, h⟩ := if_some h
 refine k_W ok_60 E_bool_inj h (fun σ0 => ?_) (hf := (all_cons (by kernel_rfl) (all_cons (flat3_of hf_a1) all_nil)))
 refine t_RN ?_
 refine t_RN ?_
 refine t_loop (fun st1 fr => Sub [(1, a1), (7, a0.t), (8, i4 (a0.l.length : Int)), (9, i4 st1)] fr.s ∧ Heap σ0 fr.σ []) (fun y1 e fr => (Sum.elim (fun y => e = (.exit 0) ∧ Sub [] fr.s ∧ Heap σ0 fr.σ []) (fun y => e = .ret ∧ endW Tryz.prog (Tryz.f60.results.toList) σ0 (E_bool y) .ret fr)) y1) (fun hS hH => And.intro (sub_to hS (by kernel_rfl)) hH) (fun st1 x fr h HI => ?_) fun y1 e fr h HF => ?_
 ·obtain ⟨s, σ⟩ := fr; obtain ⟨hS, hH⟩ := HI
  refine t_bk h hS hH ?_
  refine t_RN ?_
  refine t_if (fun hc1 => ?_) fun hc1 => ?_
  ·refine t_R ?_
   refine k_elt fun y2 rest1 hy2 => ?_
   refine t_N ?_
   refine t_RU 2 ?_
   refine k_callP fun y3 hy3 => ?_
   refine t_N ?_
   refine t_if (fun hc2 => ?_) fun hc2 => ?_
   ·refine t_RN ?_
    exact t_e fun he hS hH => he ▸ And.intro rfl (eW hS hH (rT rN) E_bool_p)
   refine t_RN ?_
   exact t_e fun he hS hH => he ▸ And.intro (sub_to hS (by kernel_rfl)) hH
  exact t_e fun he hS hH => he ▸ And.intro rfl (And.intro (sub_to hS (by kernel_rfl)) hH)
 obtain ⟨s, σ⟩ := fr
 rcases y1 with y1 | y1
 ·have h := el_l h
  obtain ⟨rfl, hS, hH⟩ := HF
  refine t_bx h hS hH ?_
  refine t_RN ?_
  exact k_eW (rT rN) E_bool_p
 have h := el_r h
 obtain ⟨rfl, HE⟩ := HF
 injection h with h; subst h; exact HE
noncomputable def B_impl_isNameByte (a0 : Int) : Option Bool := ((F_impl_isLetter a0).bind fun y1 => (if y1 = true then (some true) else ((F_impl_isDigit a0).bind fun y2 => (if y2 = true then (some true) else (some (decide (a0 = 95)))))))
theorem u_impl_isNameByte (a0 : Int) (r : Bool) (h : B_impl_isNameByte a0 = some r) : F_impl_isNameByte a0 = some r := by
 unfold B_impl_isNameByte at h
 refine k_W ok_61 E_bool_inj h (fun σ0 => ?_)
 refine t_RN ?_
 refine t_RU 1 ?_
 refine k_call fun y1 hy1 => ?_
 refine t_U 1 ?_
 refine t_gif 5 (fun hc1 => ?_) fun hc1 => ?_
 ·refine t_N ?_
  exact k_eW (rT rN) E_bool_p
 refine t_U 1 ?_
 refine k_call fun y2 hy2 => ?_
 refine t_U 2 ?_
 refine t_gif 9 (fun hc2 => ?_) fun hc2 => ?_
 ·refine t_N ?_
  exact k_eW (rT rN) E_bool_p
 refine t_N ?_
 exact k_eW (rT rN) E_bool_p
noncomputable def B_impl_isObjectId (a0 : Int) : Option Bool := ((F_impl_within a0 1 1000000).bind fun y1 => (some y1))
theorem u_impl_isObjectId (a0 : Int) (r : Bool) (h : B_impl_isObjectId a0 = some r) : F_impl_isObjectId a0 = some r := by
 unfold B_impl_isObjectId at h
 refine k_W ok_62 E_bool_inj h (fun σ0 => ?_)
 refine t_RN ?_
 refine t_RU 1 ?_
 refine k_call fun y1 hy1 => ?_
 refine t_N ?_
 exact k_eW (rT rN) E_bool_p
noncomputable def B_impl_QuoteText (a0 : ByteArray) : Option ByteArray := ((F_strings_ReplaceAll a0 ⟨#[34]⟩ ⟨#[34, 34]⟩).bind fun y1 => ((catB ⟨#[34]⟩ y1).bind fun y2 => ((catB y2 ⟨#[34]⟩).bind fun y3 => (some y3))))
theorem u_impl_QuoteText (a0 : ByteArray) (r : ByteArray) (h : B_impl_QuoteText a0 = some r) : F_impl_QuoteText a0 = some r := by
 unfold B_impl_QuoteText at h
 refine k_W ok_64 E_str_inj h (fun σ0 => ?_)
 refine t_RN ?_
 refine t_RU 1 ?_
 refine k_call fun y1 hy1 => ?_
 refine k_cat fun y2 hy2 => ?_
 refine k_cat fun y3 hy3 => ?_
 refine t_N ?_
 exact k_eW (rT rN) E_str_p
noncomputable def B_impl_isMode (a0 : Int) : Option Bool := ((F_impl_within a0 1 3).bind fun y1 => (some y1))
theorem u_impl_isMode (a0 : Int) (r : Bool) (h : B_impl_isMode a0 = some r) : F_impl_isMode a0 = some r := by
 unfold B_impl_isMode at h
 refine k_W ok_66 E_bool_inj h (fun σ0 => ?_)
 refine t_RN ?_
 refine t_RU 1 ?_
 refine k_call fun y1 hy1 => ?_
 refine t_N ?_
 exact k_eW (rT rN) E_bool_p
noncomputable def B_spec_l02Letter (a0 : Int) : Option Bool := (if (decide (65 ≤ a0)) = true then (if (decide (a0 ≤ 90)) = true then (some true) else (if (decide (97 ≤ a0)) = true then (some (decide (a0 ≤ 122))) else (some false))) else (if (decide (97 ≤ a0)) = true then (some (decide (a0 ≤ 122))) else (some false)))
theorem u_spec_l02Letter (a0 : Int) (r : Bool) (h : B_spec_l02Letter a0 = some r) : F_spec_l02Letter a0 = some r := by
 unfold B_spec_l02Letter at h
 refine k_W ok_67 E_bool_inj h (fun σ0 => ?_)
 refine t_RN ?_
 refine t_RU 3 ?_
 refine t_gif 5 (fun hc1 => ?_) fun hc1 => ?_
 ·refine t_U 4 ?_
  refine t_gif 9 (fun hc2 => ?_) fun hc2 => ?_
  ·refine t_N ?_
   exact k_eW (rT rN) E_bool_p
  refine t_U 3 ?_
  refine t_gif 12 (fun hc3 => ?_) fun hc3 => ?_
  ·refine t_N ?_
   exact k_eW (rT rN) E_bool_p
  refine t_N ?_
  exact k_eW (rT rN) E_bool_p
 refine t_U 7 ?_
 refine t_gif 12 (fun hc4 => ?_) fun hc4 => ?_
 ·refine t_N ?_
  exact k_eW (rT rN) E_bool_p
 refine t_N ?_
 exact k_eW (rT rN) E_bool_p
noncomputable def B_spec_l02Digit (a0 : Int) : Option Bool := (if (decide (48 ≤ a0)) = true then (some (decide (a0 ≤ 57))) else (some false))
theorem u_spec_l02Digit (a0 : Int) (r : Bool) (h : B_spec_l02Digit a0 = some r) : F_spec_l02Digit a0 = some r := by
 unfold B_spec_l02Digit at h
 refine k_W ok_68 E_bool_inj h (fun σ0 => ?_)
 refine t_RN ?_
 refine t_RU 3 ?_
 refine t_gif 5 (fun hc1 => ?_) fun hc1 => ?_
 ·refine t_N ?_
  exact k_eW (rT rN) E_bool_p
 refine t_N ?_
 exact k_eW (rT rN) E_bool_p
noncomputable def B_impl_isDigit (a0 : Int) : Option Bool := (if (decide (48 ≤ a0)) = true then (some (decide (a0 ≤ 57))) else (some false))
theorem u_impl_isDigit (a0 : Int) (r : Bool) (h : B_impl_isDigit a0 = some r) : F_impl_isDigit a0 = some r := by
 unfold B_impl_isDigit at h
 refine k_W ok_69 E_bool_inj h (fun σ0 => ?_)
 refine t_RN ?_
 refine t_RU 3 ?_
 refine t_gif 5 (fun hc1 => ?_) fun hc1 => ?_
 ·refine t_N ?_
  exact k_eW (rT rN) E_bool_p
 refine t_N ?_
 exact k_eW (rT rN) E_bool_p
end Go.Am
