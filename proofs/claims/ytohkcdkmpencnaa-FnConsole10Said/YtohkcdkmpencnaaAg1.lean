/- Functions of the program. -/
import Derived.Test.YtohkcdkmpencnaaAd0
set_option maxRecDepth 100000
set_option maxHeartbeats 4000000
set_option linter.unusedVariables false
set_option linter.unusedSimpArgs false
namespace Go.Am
open Go.Proofs
noncomputable def cQ_ (a0 : ByteArray) : Option Bool := (if (decide (1 ≤ (a0.size : Int))) = true then (if (decide ((a0.size : Int) ≤ 12)) = true then ((b5_ a0 0).bind fun y1 => ((bJ_ y1).bind fun y2 => (if y2 = true then ((gE_ a0).bind fun y3 => ((cu_ y3 (T.fn 83 [] [])).bind fun y4 => (some y4))) else (some false)))) else (some false)) else (some false))
theorem gj_ (a0 : ByteArray) (r : Bool) (h : cQ_ a0 = some r) : cP_ a0 = some r := by
 unfold cQ_ at h
 refine k_W ok_37 E_bool_inj h (fun σ0 => ?_)
 refine t_RN ?_
 refine t_RU 4 ?_
 refine aE_ 6 (fun hc1 => ?_) fun hc1 => ?_
 ·refine t_U 5 ?_
  refine aE_ 11 (fun hc2 => ?_) fun hc2 => ?_
  ·refine t_U 1 ?_
   refine gW_ fun y1 hy1 => ?_
   refine aB_ fun y2 hy2 => ?_
   refine t_U 2 ?_
   refine aE_ 16 (fun hc3 => ?_) fun hc3 => ?_
   ·refine t_U 1 ?_
    intro h s σ hS hH
    obtain ⟨y3, hy3, h⟩ := bind_some h
    refine oZ_ (e := 5) rfl hS hH rfl (by kernel_rfl) (by kernel_rfl) (by kernel_rfl) hy3 ?_; intro t1 σ s ht1 hH hS
    refine t_bk h hS hH ?_
    refine j5_ (fun y4 hy4 => ?_) (hh := by exact HC.of (HL.own rfl (HL.leaf (fun σ d => is_ (by first | assumption | rfl)) HL.nil)))
    refine t_N ?_
    exact k_eW (rT rN) E_bool_p
   refine t_N ?_
   exact k_eW (rT rN) E_bool_p
  refine t_N ?_
  exact k_eW (rT rN) E_bool_p
 refine t_N ?_
 exact k_eW (rT rN) E_bool_p
noncomputable def cW_ (a0 : Int) : Option Bool := ((bd_ a0 1 3).bind fun y1 => (some y1))
theorem gs_ (a0 : Int) (r : Bool) (h : cW_ a0 = some r) : c6_ a0 = some r := by
 unfold cW_ at h
 refine k_W ok_38 E_bool_inj h (fun σ0 => ?_)
 refine t_RN ?_
 refine t_RU 1 ?_
 refine aB_ fun y1 hy1 => ?_
 refine t_N ?_
 exact k_eW (rT rN) E_bool_p
noncomputable def cH_ (a0 : ak_) : Option ByteArray := (some a0.Name)
theorem er_ (a0 : ak_) (r : ByteArray) (h : cH_ a0 = some r) : ew_ a0 = some r := by
 unfold cH_ at h
 refine k_W ok_40 E_str_inj h (fun σ0 => ?_)
 refine t_R ?_
 refine gc_ (fun b1 => ?_)
 refine t_N ?_
 refine t_RU 1 ?_
 refine ad_ 0 ?_
 refine t_N ?_
 exact k_eW (rT rN) E_str_p
noncomputable def cX_ (a0 : ByteArray) : Option Bool := (if (!decide (a0 = (⟨#[]⟩ : ByteArray))) = true then (if (decide ((a0.size : Int) ≤ 12)) = true then ((bX_ a0 0).bind fun y1 => (some (decide (y1 = (a0.size : Int))))) else (some false)) else (some false))
theorem gl_ (a0 : ByteArray) (r : Bool) (h : cX_ a0 = some r) : cR_ a0 = some r := by
 unfold cX_ at h
 refine k_W ok_62 E_bool_inj h (fun σ0 => ?_)
 refine t_RN ?_
 refine t_RU 3 ?_
 refine aE_ 5 (fun hc1 => ?_) fun hc1 => ?_
 ·refine t_U 5 ?_
  refine aE_ 10 (fun hc2 => ?_) fun hc2 => ?_
  ·refine t_U 1 ?_
   refine aB_ fun y1 hy1 => ?_
   refine t_N ?_
   exact k_eW (rT rN) E_bool_p
  refine t_N ?_
  exact k_eW (rT rN) E_bool_p
 refine t_N ?_
 exact k_eW (rT rN) E_bool_p
noncomputable def dd_ (a0 : Int) (a1 : Int) (a2 : Int) : Option Bool := (if (decide (a1 ≤ a0)) = true then (some (decide (a0 ≤ a2))) else (some false))
theorem gx_ (a0 : Int) (a1 : Int) (a2 : Int) (r : Bool) (h : dd_ a0 a1 a2 = some r) : b4_ a0 a1 a2 = some r := by
 unfold dd_ at h
 refine k_W ok_63 E_bool_inj h (fun σ0 => ?_)
 refine t_RN ?_
 refine t_RU 4 ?_
 refine aE_ 10 (fun hc1 => ?_) fun hc1 => ?_
 ·refine t_N ?_
  exact k_eW (rT rN) E_bool_p
 refine t_N ?_
 exact k_eW (rT rN) E_bool_p
noncomputable def ck_ (a0 : (Sl ByteArray)) (a1 : Int) (a2 : Int) : Option Bool := (if (decide (a1 < (a0.l.length : Int))) = true then (some false) else ((aW_ (S := Int) (R := (Unit ⊕ Bool)) (fun st1 => (if (decide (st1 < (a0.l.length : Int))) = true then ((elt a0 st1).bind fun y2 => (if (decide (a2 < (y2.size : Int))) = true then (some (.inr (.inr false))) else (some (.inl (w4 (st1 + 1)))))) else (some (.inr (.inl ()))))) 0).bind fun y1 => (Sum.elim (fun y1 => (some true)) (fun y1 => (some y1)) y1)))
theorem fs_ (a0 : (Sl ByteArray)) (a1 : Int) (a2 : Int) (r : Bool) (h : ck_ a0 a1 a2 = some r) : aV_ a0 a1 a2 = some r := by
 unfold ck_ at h
 refine k_W ok_71 E_bool_inj h (fun σ0 => ?_)
 refine t_RN ?_
 refine t_RN ?_
 refine t_if (fun hc1 => ?_) fun hc1 => ?_
 ·refine t_RN ?_
  exact k_eW (rT rN) E_bool_p
 refine t_RN ?_
 refine cb_ (fun st1 fr => Sub [(0, a0.t), (2, i4 a2), (7, i4 st1)] fr.s ∧ Heap σ0 fr.σ []) (fun y1 e fr => (Sum.elim (fun y => e = (.exit 0) ∧ Sub [] fr.s ∧ Heap σ0 fr.σ []) (fun y => e = .ret ∧ endW Try.prog (Try.f71.results.toList) σ0 (E_bool y) .ret fr)) y1) (fun hS hH => ⟨(ae_ hS (by kernel_rfl)), hH⟩) (fun st1 x fr h HI => ?_) fun y1 e fr h HF => ?_
 ·obtain ⟨s, σ⟩ := fr; obtain ⟨hS, hH⟩ := HI
  refine t_bk h hS hH ?_
  refine t_RN ?_
  refine t_if (fun hc2 => ?_) fun hc2 => ?_
  ·refine t_RU 2 ?_
   refine d8_ fun y2 rest1 hy2 => ?_
   refine t_N ?_
   refine t_if (fun hc3 => ?_) fun hc3 => ?_
   ·refine t_RN ?_
    exact t_e fun he hS hH => he ▸ ⟨rfl, (eW hS hH (rT rN) E_bool_p)⟩
   refine t_RN ?_
   exact t_e fun he hS hH => he ▸ ⟨(ae_ hS (by kernel_rfl)), hH⟩
  exact t_e fun he hS hH => he ▸ ⟨rfl, (ae_ hS (by kernel_rfl)), hH⟩
 obtain ⟨s, σ⟩ := fr
 rcases y1 with y1 | y1
 ·have h := el_l h
  obtain ⟨rfl, hS, hH⟩ := HF
  refine t_bx h hS hH ?_
  refine t_RN ?_
  exact k_eW (rT rN) E_bool_p
 have h := el_r h
 obtain ⟨rfl, HE⟩ := HF
 obtain rfl := si_1 h; exact HE
noncomputable def cD_ (a0 : ak_) : Option Bool := ((cR_ a0.Name).bind fun y1 => (if (!y1) = true then (some false) else ((aV_ a0.Lines 40 200).bind fun y2 => (if (!y2) = true then (some false) else ((b4_ a0.Mode 0 3).bind fun y3 => (if (!y3) = true then (some false) else ((b4_ a0.At 0 (a0.Lines.l.length : Int)).bind fun y4 => (if y4 = true then (if (decide (a0.Mode = 1)) = true then (some true) else (some (decide (a0.At = 0)))) else (some false)))))))))
theorem fC_ (a0 : ak_) (r : Bool) (h : cD_ a0 = some r) : cC_ a0 = some r := by
 unfold cD_ at h
 refine k_W ok_72 E_bool_inj h (fun σ0 => ?_)
 refine t_R ?_
 refine gc_ (fun b1 => ?_)
 refine t_N ?_
 refine t_RU 1 ?_
 refine ad_ 0 ?_
 refine aB_ fun y1 hy1 => ?_
 refine t_U 2 ?_
 refine aE_ 7 (fun hc1 => ?_) fun hc1 => ?_
 ·refine t_N ?_
  refine t_cT rfl ?_
  refine t_RN ?_
  exact k_eW (rT rN) E_bool_p
 refine t_U 1 ?_
 refine ad_ 0 ?_
 refine aB_ fun y2 hy2 => ?_
 refine t_U 3 ?_
 refine aE_ 13 (fun hc2 => ?_) fun hc2 => ?_
 ·refine t_N ?_
  refine t_cT rfl ?_
  refine t_RN ?_
  exact k_eW (rT rN) E_bool_p
 refine t_U 1 ?_
 refine ad_ 0 ?_
 refine aB_ fun y3 hy3 => ?_
 refine t_N ?_
 refine t_if (fun hc3 => ?_) fun hc3 => ?_
 ·refine t_RN ?_
  exact k_eW (rT rN) E_bool_p
 refine t_RU 1 ?_
 refine ad_ 0 ?_
 refine t_U 1 ?_
 refine ad_ 0 ?_
 refine t_U 1 ?_
 refine aB_ fun y4 hy4 => ?_
 refine t_U 1 ?_
 refine aE_ 25 (fun hc4 => ?_) fun hc4 => ?_
 ·refine t_U 1 ?_
  refine ad_ 0 ?_
  refine t_U 2 ?_
  refine aE_ 29 (fun hc5 => ?_) fun hc5 => ?_
  ·refine t_N ?_
   exact k_eW (rT rN) E_bool_p
  refine t_U 1 ?_
  refine ad_ 0 ?_
  refine t_N ?_
  exact k_eW (rT rN) E_bool_p
 refine t_N ?_
 exact k_eW (rT rN) E_bool_p
noncomputable def a5_ (a0 : ByteArray) : Option Bool := (some (decide ((a0.size : Int) ≤ 1300)))
theorem dj_ (a0 : ByteArray) (r : Bool) (h : a5_ a0 = some r) : b3_ a0 = some r := by
 unfold a5_ at h
 refine k_W ok_73 E_bool_inj h (fun σ0 => ?_)
 refine t_RN ?_
 refine t_RN ?_
 exact k_eW (rT rN) E_bool_p
noncomputable def bf_ (a0 : (Sl ByteArray)) (a1 : T) : Option Bool := (if flat1 a1 = true then ((aW_ (S := Int) (R := (Unit ⊕ Bool)) (fun st1 => (if (decide (st1 < (a0.l.length : Int))) = true then ((elt a0 st1).bind fun y2 => ((ef_ Try.prog md ext E_bool a1 [.str y2]).bind fun y3 => (if (!y3) = true then (some (.inr (.inr false))) else (some (.inl (w4 (st1 + 1))))))) else (some (.inr (.inl ()))))) 0).bind fun y1 => (Sum.elim (fun y1 => (some true)) (fun y1 => (some y1)) y1)) else none)
theorem dB_ (a0 : (Sl ByteArray)) (a1 : T) (r : Bool) (h : bf_ a0 a1 = some r) : al_ a0 a1 = some r := by
 unfold bf_ at h
 obtain ⟨hf_a1, h⟩ := f6_ h
 refine k_W ok_74 E_bool_inj h (fun σ0 => ?_) (hf := (all_cons (by kernel_rfl) (all_cons (eX_ hf_a1) all_nil)))
 refine t_RN ?_
 refine t_RN ?_
 refine cb_ (fun st1 fr => Sub [(1, a1), (7, a0.t), (8, i4 (a0.l.length : Int)), (9, i4 st1)] fr.s ∧ Heap σ0 fr.σ []) (fun y1 e fr => (Sum.elim (fun y => e = (.exit 0) ∧ Sub [] fr.s ∧ Heap σ0 fr.σ []) (fun y => e = .ret ∧ endW Try.prog (Try.f74.results.toList) σ0 (E_bool y) .ret fr)) y1) (fun hS hH => ⟨(ae_ hS (by kernel_rfl)), hH⟩) (fun st1 x fr h HI => ?_) fun y1 e fr h HF => ?_
 ·obtain ⟨s, σ⟩ := fr; obtain ⟨hS, hH⟩ := HI
  refine t_bk h hS hH ?_
  refine t_RN ?_
  refine t_if (fun hc1 => ?_) fun hc1 => ?_
  ·refine t_R ?_
   refine d8_ fun y2 rest1 hy2 => ?_
   refine t_N ?_
   refine t_RU 2 ?_
   refine fd_ fun y3 hy3 => ?_
   refine t_N ?_
   refine t_if (fun hc2 => ?_) fun hc2 => ?_
   ·refine t_RN ?_
    exact t_e fun he hS hH => he ▸ ⟨rfl, (eW hS hH (rT rN) E_bool_p)⟩
   refine t_RN ?_
   exact t_e fun he hS hH => he ▸ ⟨(ae_ hS (by kernel_rfl)), hH⟩
  exact t_e fun he hS hH => he ▸ ⟨rfl, (ae_ hS (by kernel_rfl)), hH⟩
 obtain ⟨s, σ⟩ := fr
 rcases y1 with y1 | y1
 ·have h := el_l h
  obtain ⟨rfl, hS, hH⟩ := HF
  refine t_bx h hS hH ?_
  refine t_RN ?_
  exact k_eW (rT rN) E_bool_p
 have h := el_r h
 obtain ⟨rfl, HE⟩ := HF
 obtain rfl := si_1 h; exact HE
noncomputable def c0_ (a0 : Int) (a1 : Int) (a2 : Int) : Option Bool := (if (decide (a1 ≤ a0)) = true then (some (decide (a0 ≤ a2))) else (some false))
theorem gf_ (a0 : Int) (a1 : Int) (a2 : Int) (r : Bool) (h : c0_ a0 a1 a2 = some r) : bd_ a0 a1 a2 = some r := by
 unfold c0_ at h
 refine k_W ok_75 E_bool_inj h (fun σ0 => ?_)
 refine t_RN ?_
 refine t_RU 4 ?_
 refine aE_ 10 (fun hc1 => ?_) fun hc1 => ?_
 ·refine t_N ?_
  exact k_eW (rT rN) E_bool_p
 refine t_N ?_
 exact k_eW (rT rN) E_bool_p
noncomputable def bM_ (a0 : (Sl ak_)) (a1 : T) : Option Bool := (if flat1 a1 = true then ((aW_ (S := Int) (R := (Unit ⊕ Bool)) (fun st1 => (if (decide (st1 < (a0.l.length : Int))) = true then ((elt a0 st1).bind fun y2 => ((ef_ Try.prog md ext E_bool a1 [.agg (ak_.cells y2)]).bind fun y3 => (if (!y3) = true then (some (.inr (.inr false))) else (some (.inl (w4 (st1 + 1))))))) else (some (.inr (.inl ()))))) 0).bind fun y1 => (Sum.elim (fun y1 => (some true)) (fun y1 => (some y1)) y1)) else none)
theorem d9_ (a0 : (Sl ak_)) (a1 : T) (r : Bool) (h : bM_ a0 a1 = some r) : bG_ a0 a1 = some r := by
 unfold bM_ at h
 obtain ⟨hf_a1, h⟩ := f6_ h
 refine k_W ok_76 E_bool_inj h (fun σ0 => ?_) (hf := (all_cons (by kernel_rfl) (all_cons (eX_ hf_a1) all_nil)))
 refine t_RN ?_
 refine t_RN ?_
 refine cb_ (fun st1 fr => Sub [(1, a1), (7, a0.t), (8, i4 (a0.l.length : Int)), (9, i4 st1)] fr.s ∧ Heap σ0 fr.σ []) (fun y1 e fr => (Sum.elim (fun y => e = (.exit 0) ∧ Sub [] fr.s ∧ Heap σ0 fr.σ []) (fun y => e = .ret ∧ endW Try.prog (Try.f76.results.toList) σ0 (E_bool y) .ret fr)) y1) (fun hS hH => ⟨(ae_ hS (by kernel_rfl)), hH⟩) (fun st1 x fr h HI => ?_) fun y1 e fr h HF => ?_
 ·obtain ⟨s, σ⟩ := fr; obtain ⟨hS, hH⟩ := HI
  refine t_bk h hS hH ?_
  refine t_RN ?_
  refine t_if (fun hc1 => ?_) fun hc1 => ?_
  ·refine t_R ?_
   refine d8_ fun y2 rest1 hy2 => ?_
   refine t_U 1 ?_
   refine bg_ fun b1 => ?_
   refine av_ 0 ?_
   refine t_N ?_
   refine t_RU 1 ?_
   refine ad_ 0 ?_
   refine fd_ fun y3 hy3 => ?_
   refine t_N ?_
   refine t_if (fun hc2 => ?_) fun hc2 => ?_
   ·refine t_RN ?_
    exact t_e fun he hS hH => he ▸ ⟨rfl, (eW hS hH (rT rN) E_bool_p)⟩
   refine t_RN ?_
   exact t_e fun he hS hH => he ▸ ⟨(ae_ hS (by kernel_rfl)), (Heap.sel hH [] rfl (by kernel_rfl))⟩
  exact t_e fun he hS hH => he ▸ ⟨rfl, (ae_ hS (by kernel_rfl)), hH⟩
 obtain ⟨s, σ⟩ := fr
 rcases y1 with y1 | y1
 ·have h := el_l h
  obtain ⟨rfl, hS, hH⟩ := HF
  refine t_bx h hS hH ?_
  refine t_RN ?_
  exact k_eW (rT rN) E_bool_p
 have h := el_r h
 obtain ⟨rfl, HE⟩ := HF
 obtain rfl := si_1 h; exact HE
noncomputable def bv_ (a0 : ak_) : Option Bool := (((if (decide ((a0.Lines.l.length : Int) ≤ 40)) = true then ((al_ a0.Lines (T.fn 32 [] [])).bind fun y6 => (some y6)) else (some false)) : Option Bool).bind fun y1 => ((((bd_ a0.At 0 (a0.Lines.l.length : Int)).bind fun y5 => (if y5 = true then (if (decide (a0.At = 0)) = true then (some true) else (some (decide (a0.Mode = 1)))) else (some false))) : Option Bool).bind fun y2 => ((cP_ a0.Name).bind fun y3 => (if y3 = true then (if y1 = true then (if y2 = true then (if (decide (a0.Mode = 0)) = true then (some true) else ((c6_ a0.Mode).bind fun y4 => (some y4))) else (some false)) else (some false)) else (some false)))))
theorem dJ_ (a0 : ak_) (r : Bool) (h : bv_ a0 = some r) : bq_ a0 = some r := by
 unfold bv_ at h
 refine k_W ok_77 E_bool_inj h (fun σ0 => ?_)
 refine t_R ?_
 refine gc_ (fun b1 => ?_)
 refine t_N ?_
 refine gD_ 0 (fun y1 e fr => e = .normal ∧ Sub [(1, .ptr b1 0 0 4), (3, .bool y1)] fr.s ∧ Heap σ0 fr.σ [.box b1 (ak_.cells a0)]) (fun y1 e fr h HF => ?_) fun y1 => ?_
 ·obtain ⟨s, σ⟩ := fr
  obtain ⟨rfl, hS, hH⟩ := HF
  refine t_bx h hS hH ?_
  refine gD_ 0 (fun y2 e fr => e = .normal ∧ Sub [(1, .ptr b1 0 0 4), (3, .bool y1), (4, .bool y2)] fr.s ∧ Heap σ0 fr.σ [.box b1 (ak_.cells a0)]) (fun y2 e fr h HF => ?_) fun y2 => ?_
  ·obtain ⟨s, σ⟩ := fr
   obtain ⟨rfl, hS, hH⟩ := HF
   refine t_bx h hS hH ?_
   refine t_RU 1 ?_
   refine ad_ 0 ?_
   refine aB_ fun y3 hy3 => ?_
   refine t_U 1 ?_
   refine aE_ 33 (fun hc1 => ?_) fun hc1 => ?_
   ·refine t_U 3 ?_
    refine aE_ 36 (fun hc2 => ?_) fun hc2 => ?_
    ·refine t_U 3 ?_
     refine aE_ 39 (fun hc3 => ?_) fun hc3 => ?_
     ·refine t_U 1 ?_
      refine ad_ 0 ?_
      refine t_U 2 ?_
      refine aE_ 43 (fun hc4 => ?_) fun hc4 => ?_
      ·refine t_N ?_
       exact k_eW (rT rN) E_bool_p
      refine t_U 1 ?_
      refine ad_ 0 ?_
      refine aB_ fun y4 hy4 => ?_
      refine t_N ?_
      exact k_eW (rT rN) E_bool_p
     refine t_N ?_
     exact k_eW (rT rN) E_bool_p
    refine t_N ?_
    exact k_eW (rT rN) E_bool_p
   refine t_N ?_
   exact k_eW (rT rN) E_bool_p
  refine t_RU 1 ?_
  refine ad_ 0 ?_
  refine t_U 1 ?_
  refine ad_ 0 ?_
  refine t_U 1 ?_
  refine aB_ fun y5 hy5 => ?_
  refine t_U 1 ?_
  refine aE_ 20 (fun hc5 => ?_) fun hc5 => ?_
  ·refine t_U 1 ?_
   refine ad_ 0 ?_
   refine t_U 2 ?_
   refine aE_ 24 (fun hc6 => ?_) fun hc6 => ?_
   ·refine t_N ?_
    exact t_e fun he hS hH => he ▸ ⟨rfl, (ae_ hS (by kernel_rfl)), hH⟩
   refine t_U 1 ?_
   refine ad_ 0 ?_
   refine t_N ?_
   exact t_e fun he hS hH => by subst he; exact ⟨rfl, (ae_ hS (by kernel_rfl)), hH⟩
  refine t_N ?_
  exact t_e fun he hS hH => he ▸ ⟨rfl, (ae_ hS (by kernel_rfl)), hH⟩
 refine t_RU 1 ?_
 refine ad_ 0 ?_
 refine t_U 3 ?_
 refine aE_ 9 (fun hc7 => ?_) fun hc7 => ?_
 ·refine t_U 1 ?_
  refine ad_ 0 ?_
  refine aB_ fun y6 hy6 => ?_
  refine t_N ?_
  exact t_e fun he hS hH => he ▸ ⟨rfl, (ae_ hS (by kernel_rfl)), hH⟩
 refine t_N ?_
 exact t_e fun he hS hH => he ▸ ⟨rfl, (ae_ hS (by kernel_rfl)), hH⟩
noncomputable def bi_ (a0 : (Sl ak_)) (a1 : T) : Option Bool := (if flat1 a1 = true then ((aW_ (S := Int) (R := (Unit ⊕ Bool)) (fun st1 => (if (decide (st1 < (a0.l.length : Int))) = true then ((elt a0 (w4 (st1 - 1))).bind fun y2 => ((ef_ Try.prog md ext E_str a1 [.agg (ak_.cells y2)]).bind fun y3 => ((elt a0 st1).bind fun y4 => ((ef_ Try.prog md ext E_str a1 [.agg (ak_.cells y4)]).bind fun y5 => (if (!Op.bytesLess y3.toList y5.toList) = true then (some (.inr (.inr false))) else (some (.inl (w4 (st1 + 1))))))))) else (some (.inr (.inl ()))))) 1).bind fun y1 => (Sum.elim (fun y1 => (some true)) (fun y1 => (some y1)) y1)) else none)
theorem dC_ (a0 : (Sl ak_)) (a1 : T) (r : Bool) (h : bi_ a0 a1 = some r) : bh_ a0 a1 = some r := by
 unfold bi_ at h
 obtain ⟨hf_a1, h⟩ := f6_ h
 refine k_W ok_78 E_bool_inj h (fun σ0 => ?_) (hf := (all_cons (by kernel_rfl) (all_cons (eX_ hf_a1) all_nil)))
 refine t_RN ?_
 refine t_RN ?_
 refine cb_ (fun st1 fr => Sub [(0, a0.t), (1, a1), (5, i4 st1)] fr.s ∧ Heap σ0 fr.σ []) (fun y1 e fr => (Sum.elim (fun y => e = (.exit 0) ∧ Sub [] fr.s ∧ Heap σ0 fr.σ []) (fun y => e = .ret ∧ endW Try.prog (Try.f78.results.toList) σ0 (E_bool y) .ret fr)) y1) (fun hS hH => ⟨(ae_ hS (by kernel_rfl)), hH⟩) (fun st1 x fr h HI => ?_) fun y1 e fr h HF => ?_
 ·obtain ⟨s, σ⟩ := fr; obtain ⟨hS, hH⟩ := HI
  refine t_bk h hS hH ?_
  refine t_RN ?_
  refine t_if (fun hc1 => ?_) fun hc1 => ?_
  ·refine t_D fun mb => ?_
   refine t_U 4 ?_
   refine d8_ fun y2 rest1 hy2 => ?_
   refine t_U 1 ?_
   refine fd_ fun y3 hy3 => ?_
   refine t_U 3 ?_
   refine d8_ fun y4 rest2 hy4 => ?_
   refine t_U 1 ?_
   refine fd_ fun y5 hy5 => ?_
   refine t_N ?_
   refine t_if (fun hc2 => ?_) fun hc2 => ?_
   ·refine t_RN ?_
    exact t_e fun he hS hH => he ▸ ⟨rfl, (eW hS hH (rT rN) E_bool_p)⟩
   refine t_RN ?_
   exact t_e fun he hS hH => he ▸ ⟨(ae_ hS (by kernel_rfl)), hH⟩
  exact t_e fun he hS hH => he ▸ ⟨rfl, (ae_ hS (by kernel_rfl)), hH⟩
 obtain ⟨s, σ⟩ := fr
 rcases y1 with y1 | y1
 ·have h := el_l h
  obtain ⟨rfl, hS, hH⟩ := HF
  refine t_bx h hS hH ?_
  refine t_RN ?_
  exact k_eW (rT rN) E_bool_p
 have h := el_r h
 obtain ⟨rfl, HE⟩ := HF
 obtain rfl := si_1 h; exact HE
noncomputable def ba_ (a0 : (Sl ByteArray)) : Option (Sl ByteArray) := (if a0.z = true then (some ⟨true, []⟩) else ((appS 16 (⟨false, []⟩ : Sl ByteArray) a0).bind fun y1 => (some y1)))
theorem du_ (a0 : (Sl ByteArray)) (r : (Sl ByteArray)) (h : ba_ a0 = some r) : ay_ a0 = some r := by
 unfold ba_ at h
 refine k_O ok_79 h (fun σ0 => ?_)
 refine t_RN ?_
 refine t_RN ?_
 refine t_if (fun hc1 => ?_) fun hc1 => ?_
 ·refine t_RN ?_
  refine t_h (Heap.addNil · true 1) ?_
  exact k_eO [(T.row true 0 [])] (rT rN)
 refine t_R ?_
 refine kF_ (α := ByteArray) (fun t1 ht1 => ?_)
 refine t_U 1 ?_
 refine jR_ 0 (fun y1 t2 hy1 ht2 => ?_)
 refine t_N ?_
 exact k_eO [t2] (rT rN)
noncomputable def B_spec_l21Names  : Option (Sl ByteArray) := (some ⟨false, [⟨#[68, 65, 84, 65]⟩, ⟨#[73, 78]⟩, ⟨#[76, 79, 71]⟩, ⟨#[79, 85, 84, 49]⟩, ⟨#[84]⟩, ⟨#[90, 57]⟩, ⟨#[97, 95, 98]⟩]⟩)
theorem fb_  (r : (Sl ByteArray)) (h : B_spec_l21Names  = some r) : F_spec_l21Names  = some r := by
 unfold B_spec_l21Names at h
 refine k_W ok_80 E_sl_str_inj h (fun σ0 => ?_)
 refine t_RN ?_
 refine t_R ?_
 refine k_bs (z := true) (⟨false, [⟨#[68, 65, 84, 65]⟩, ⟨#[73, 78]⟩, ⟨#[76, 79, 71]⟩, ⟨#[79, 85, 84, 49]⟩, ⟨#[84]⟩, ⟨#[90, 57]⟩, ⟨#[97, 95, 98]⟩]⟩ : Sl ByteArray) (fun t1 ht1 => ?_)
 refine t_N ?_
 intro h s σ hS hH
 obtain rfl := si_1 h
 exact ki_ (ents := [.own true 1 t1 (Sl.t (⟨false, [⟨#[68, 65, 84, 65]⟩, ⟨#[73, 78]⟩, ⟨#[76, 79, 71]⟩, ⟨#[79, 85, 84, 49]⟩, ⟨#[84]⟩, ⟨#[90, 57]⟩, ⟨#[97, 95, 98]⟩]⟩ : Sl ByteArray))]) (z := false) hH (dH_ (v := t1) hS rfl r_nil) (HL.own rfl HL.nil) (by simp [pureT, pureL, E_sl_str])
noncomputable def dm_ (a0 : Int) : Option Bool := (if (decide (65 ≤ a0)) = true then (if (decide (a0 ≤ 90)) = true then (some true) else (if (decide (97 ≤ a0)) = true then (some (decide (a0 ≤ 122))) else (some false))) else (if (decide (97 ≤ a0)) = true then (some (decide (a0 ≤ 122))) else (some false)))
theorem fc_ (a0 : Int) (r : Bool) (h : dm_ a0 = some r) : bJ_ a0 = some r := by
 unfold dm_ at h
 refine k_W ok_81 E_bool_inj h (fun σ0 => ?_)
 refine t_RN ?_
 refine t_RU 3 ?_
 refine aE_ 5 (fun hc1 => ?_) fun hc1 => ?_
 ·refine t_U 4 ?_
  refine aE_ 9 (fun hc2 => ?_) fun hc2 => ?_
  ·refine t_N ?_
   exact k_eW (rT rN) E_bool_p
  refine t_U 3 ?_
  refine aE_ 12 (fun hc3 => ?_) fun hc3 => ?_
  ·refine t_N ?_
   exact k_eW (rT rN) E_bool_p
  refine t_N ?_
  exact k_eW (rT rN) E_bool_p
 refine t_U 7 ?_
 refine aE_ 12 (fun hc4 => ?_) fun hc4 => ?_
 ·refine t_N ?_
  exact k_eW (rT rN) E_bool_p
 refine t_N ?_
 exact k_eW (rT rN) E_bool_p
noncomputable def bC_ (a0 : (Sl (Iv .u8))) (a1 : T) : Option Bool := (if flat1 a1 = true then ((aW_ (S := Int) (R := (Unit ⊕ Bool)) (fun st1 => (if (decide (st1 < (a0.l.length : Int))) = true then ((elt a0 st1).bind fun y2 => ((ef_ Try.prog md ext E_bool a1 [.int .u8 y2.v]).bind fun y3 => (if (!y3) = true then (some (.inr (.inr false))) else (some (.inl (w4 (st1 + 1))))))) else (some (.inr (.inl ()))))) 0).bind fun y1 => (Sum.elim (fun y1 => (some true)) (fun y1 => (some y1)) y1)) else none)
theorem dR_ (a0 : (Sl (Iv .u8))) (a1 : T) (r : Bool) (h : bC_ a0 a1 = some r) : cu_ a0 a1 = some r := by
 unfold bC_ at h
 obtain ⟨hf_a1, h⟩ := f6_ h
 refine k_W ok_82 E_bool_inj h (fun σ0 => ?_) (hf := (all_cons (by kernel_rfl) (all_cons (eX_ hf_a1) all_nil)))
 refine t_RN ?_
 refine t_RN ?_
 refine cb_ (fun st1 fr => Sub [(1, a1), (7, a0.t), (8, i4 (a0.l.length : Int)), (9, i4 st1)] fr.s ∧ Heap σ0 fr.σ []) (fun y1 e fr => (Sum.elim (fun y => e = (.exit 0) ∧ Sub [] fr.s ∧ Heap σ0 fr.σ []) (fun y => e = .ret ∧ endW Try.prog (Try.f82.results.toList) σ0 (E_bool y) .ret fr)) y1) (fun hS hH => ⟨(ae_ hS (by kernel_rfl)), hH⟩) (fun st1 x fr h HI => ?_) fun y1 e fr h HF => ?_
 ·obtain ⟨s, σ⟩ := fr; obtain ⟨hS, hH⟩ := HI
  refine t_bk h hS hH ?_
  refine t_RN ?_
  refine t_if (fun hc1 => ?_) fun hc1 => ?_
  ·refine t_R ?_
   refine d8_ fun y2 rest1 hy2 => ?_
   refine t_N ?_
   refine t_RU 2 ?_
   refine fd_ fun y3 hy3 => ?_
   refine t_N ?_
   refine t_if (fun hc2 => ?_) fun hc2 => ?_
   ·refine t_RN ?_
    exact t_e fun he hS hH => he ▸ ⟨rfl, (eW hS hH (rT rN) E_bool_p)⟩
   refine t_RN ?_
   exact t_e fun he hS hH => he ▸ ⟨(ae_ hS (by kernel_rfl)), hH⟩
  exact t_e fun he hS hH => he ▸ ⟨rfl, (ae_ hS (by kernel_rfl)), hH⟩
 obtain ⟨s, σ⟩ := fr
 rcases y1 with y1 | y1
 ·have h := el_l h
  obtain ⟨rfl, hS, hH⟩ := HF
  refine t_bx h hS hH ?_
  refine t_RN ?_
  exact k_eW (rT rN) E_bool_p
 have h := el_r h
 obtain ⟨rfl, HE⟩ := HF
 obtain rfl := si_1 h; exact HE
noncomputable def bW_ (a0 : Int) : Option Bool := ((bJ_ a0).bind fun y1 => (if y1 = true then (some true) else ((cz_ a0).bind fun y2 => (if y2 = true then (some true) else (some (decide (a0 = 95)))))))
theorem ev_ (a0 : Int) (r : Bool) (h : bW_ a0 = some r) : bY_ a0 = some r := by
 unfold bW_ at h
 refine k_W ok_83 E_bool_inj h (fun σ0 => ?_)
 refine t_RN ?_
 refine t_RU 1 ?_
 refine aB_ fun y1 hy1 => ?_
 refine t_U 1 ?_
 refine aE_ 5 (fun hc1 => ?_) fun hc1 => ?_
 ·refine t_N ?_
  exact k_eW (rT rN) E_bool_p
 refine t_U 1 ?_
 refine aB_ fun y2 hy2 => ?_
 refine t_U 2 ?_
 refine aE_ 9 (fun hc2 => ?_) fun hc2 => ?_
 ·refine t_N ?_
  exact k_eW (rT rN) E_bool_p
 refine t_N ?_
 exact k_eW (rT rN) E_bool_p
noncomputable def bc_ (a0 : ByteArray) (a1 : Int) : Option Int := (if (decide ((a0.size : Int) ≤ a1)) = true then (some a1) else ((b5_ a0 a1).bind fun y1 => ((a2_ y1).bind fun y2 => (if (!y2) = true then (some a1) else ((aW_ (S := Int) (R := Int) (fun st1 => (if (decide (st1 < (a0.size : Int))) = true then ((b5_ a0 st1).bind fun y4 => ((a2_ y4).bind fun y5 => (if y5 = true then (some (.inl (w4 (st1 + 1)))) else ((b5_ a0 st1).bind fun y6 => ((bD_ y6).bind fun y7 => (if y7 = true then (some (.inl (w4 (st1 + 1)))) else ((b5_ a0 st1).bind fun y8 => (if (decide (y8 = 95)) = true then (some (.inl (w4 (st1 + 1)))) else (some (.inr st1)))))))))) else (some (.inr st1)))) a1).bind fun y3 => (some y3))))))
theorem eA_ (a0 : ByteArray) (a1 : Int) (r : Int) (h : bc_ a0 a1 = some r) : bX_ a0 a1 = some r := by
 unfold bc_ at h
 refine k_W ok_95 E_i64_inj h (fun σ0 => ?_)
 refine t_RN ?_
 refine t_RU 5 ?_
 refine aE_ 9 (fun hc1 => ?_) fun hc1 => ?_
 ·refine t_N ?_
  refine t_cT rfl ?_
  refine t_RN ?_
  exact k_eW (rT rN) E_i64_p
 refine t_U 2 ?_
 refine gW_ fun y1 hy1 => ?_
 refine aB_ fun y2 hy2 => ?_
 refine t_N ?_
 refine t_if (fun hc2 => ?_) fun hc2 => ?_
 ·refine t_RN ?_
  exact k_eW (rT rN) E_i64_p
 refine cb_ (fun st1 fr => Sub [(0, .str a0), (1, i4 st1)] fr.s ∧ Heap σ0 fr.σ []) (fun y3 e fr => e = (.exit 0) ∧ Sub [(1, i4 y3)] fr.s ∧ Heap σ0 fr.σ []) (fun hS hH => ⟨(ae_ hS (by kernel_rfl)), hH⟩) (fun st1 x fr h HI => ?_) fun y3 e fr h HF => ?_
 ·obtain ⟨s, σ⟩ := fr; obtain ⟨hS, hH⟩ := HI
  refine t_bk h hS hH ?_
  refine t_RU 5 ?_
  refine aE_ 21 (fun hc3 => ?_) fun hc3 => ?_
  ·refine t_U 2 ?_
   refine gW_ fun y4 hy4 => ?_
   refine aB_ fun y5 hy5 => ?_
   refine t_U 1 ?_
   refine aE_ 26 (fun hc4 => ?_) fun hc4 => ?_
   ·refine t_N ?_
    refine t_cT rfl ?_
    refine t_RN ?_
    exact t_e fun he hS hH => he ▸ ⟨(ae_ hS (by kernel_rfl)), hH⟩
   refine t_U 2 ?_
   refine gW_ fun y6 hy6 => ?_
   refine aB_ fun y7 hy7 => ?_
   refine t_U 2 ?_
   refine aE_ 32 (fun hc5 => ?_) fun hc5 => ?_
   ·refine t_N ?_
    refine t_cT rfl ?_
    refine t_RN ?_
    exact t_e fun he hS hH => he ▸ ⟨(ae_ hS (by kernel_rfl)), hH⟩
   refine t_U 2 ?_
   refine gW_ fun y8 hy8 => ?_
   refine t_N ?_
   refine t_if (fun hc6 => ?_) fun hc6 => ?_
   ·refine t_RN ?_
    exact t_e fun he hS hH => he ▸ ⟨(ae_ hS (by kernel_rfl)), hH⟩
   exact t_e fun he hS hH => he ▸ ⟨rfl, (ae_ hS (by kernel_rfl)), hH⟩
  refine t_N ?_
  refine t_cF ff_ne ?_
  exact t_e fun he hS hH => he ▸ ⟨rfl, (ae_ hS (by kernel_rfl)), hH⟩
 obtain ⟨s, σ⟩ := fr
 obtain ⟨rfl, hS, hH⟩ := HF
 refine t_bx h hS hH ?_
 refine t_RN ?_
 exact k_eW (rT rN) E_i64_p
noncomputable def dG_ (a0 : Int) : Option Bool := (if (decide (48 ≤ a0)) = true then (some (decide (a0 ≤ 57))) else (some false))
theorem fy_ (a0 : Int) (r : Bool) (h : dG_ a0 = some r) : cz_ a0 = some r := by
 unfold dG_ at h
 refine k_W ok_98 E_bool_inj h (fun σ0 => ?_)
 refine t_RN ?_
 refine t_RU 3 ?_
 refine aE_ 5 (fun hc1 => ?_) fun hc1 => ?_
 ·refine t_N ?_
  exact k_eW (rT rN) E_bool_p
 refine t_N ?_
 exact k_eW (rT rN) E_bool_p
noncomputable def c8_ (a0 : Int) : Option Bool := (if (decide (65 ≤ a0)) = true then (if (decide (a0 ≤ 90)) = true then (some true) else (if (decide (97 ≤ a0)) = true then (some (decide (a0 ≤ 122))) else (some false))) else (if (decide (97 ≤ a0)) = true then (some (decide (a0 ≤ 122))) else (some false)))
theorem eL_ (a0 : Int) (r : Bool) (h : c8_ a0 = some r) : a2_ a0 = some r := by
 unfold c8_ at h
 refine k_W ok_102 E_bool_inj h (fun σ0 => ?_)
 refine t_RN ?_
 refine t_RU 3 ?_
 refine aE_ 5 (fun hc1 => ?_) fun hc1 => ?_
 ·refine t_U 4 ?_
  refine aE_ 9 (fun hc2 => ?_) fun hc2 => ?_
  ·refine t_N ?_
   exact k_eW (rT rN) E_bool_p
  refine t_U 3 ?_
  refine aE_ 12 (fun hc3 => ?_) fun hc3 => ?_
  ·refine t_N ?_
   exact k_eW (rT rN) E_bool_p
  refine t_N ?_
  exact k_eW (rT rN) E_bool_p
 refine t_U 7 ?_
 refine aE_ 12 (fun hc4 => ?_) fun hc4 => ?_
 ·refine t_N ?_
  exact k_eW (rT rN) E_bool_p
 refine t_N ?_
 exact k_eW (rT rN) E_bool_p
noncomputable def dr_ (a0 : Int) : Option Bool := (if (decide (48 ≤ a0)) = true then (some (decide (a0 ≤ 57))) else (some false))
theorem fr_ (a0 : Int) (r : Bool) (h : dr_ a0 = some r) : bD_ a0 = some r := by
 unfold dr_ at h
 refine k_W ok_103 E_bool_inj h (fun σ0 => ?_)
 refine t_RN ?_
 refine t_RU 3 ?_
 refine aE_ 5 (fun hc1 => ?_) fun hc1 => ?_
 ·refine t_N ?_
  exact k_eW (rT rN) E_bool_p
 refine t_N ?_
 exact k_eW (rT rN) E_bool_p
end Go.Am
