/- Functions of the program. -/
import Derived.Test.YtohkcdkmpencnaaDoorAd0
set_option maxRecDepth 100000
set_option maxHeartbeats 4000000
set_option linter.unusedVariables false
set_option linter.unusedSimpArgs false
namespace Go.Am
open Go.Proofs
noncomputable def B_laws_eqStringS (a0 : (Sl ByteArray)) (a1 : (Sl ByteArray)) : Option Bool := (if ((!decide ((a0.l.length : Int) = (a1.l.length : Int)))) = true then (some false) else ((loopO (S := Int) (R := (Unit ⊕ Bool)) (fun st1 => (if (decide (st1 < (a0.l.length : Int))) = true then ((elt a0 st1).bind fun y2 => ((elt a1 st1).bind fun y3 => (if (!decide (y2 = y3)) = true then (some (.inr (.inr false))) else (some (.inl (IntKind.i64.wrap (st1 + 1))))))) else (some (.inr (.inl ()))))) 0).bind fun y1 => (Sum.elim (fun y1 => (some true)) (fun y1 => (some y1)) y1)))
theorem u_laws_eqStringS (a0 : (Sl ByteArray)) (a1 : (Sl ByteArray)) (r : Bool) (h : B_laws_eqStringS a0 a1 = some r) : F_laws_eqStringS a0 a1 = some r := by
 unfold B_laws_eqStringS at h
 refine k_W ok_111 E_bool_inj h (fun σ0 => ?_)
 refine t_RN ?_
 refine t_RN ?_
 refine t_if (fun hc1 => ?_) fun hc1 => ?_
 ·refine t_RN ?_
  exact k_eW (rT rN) E_bool_p
 refine t_RN ?_
 refine t_loop (fun st1 fr => Sub [(0, a0.t), (1, a1.t), (5, i4 st1)] fr.s ∧ Heap σ0 fr.σ []) (fun y1 e fr => (Sum.elim (fun y => e = (.exit 0) ∧ Sub [] fr.s ∧ Heap σ0 fr.σ []) (fun y => e = .ret ∧ endW Tryd.prog (Tryd.f111.results.toList) σ0 (E_bool y) .ret fr)) y1) (fun hS hH => And.intro (sub_to hS (by kernel_rfl)) hH) (fun st1 x fr h HI => ?_) fun y1 e fr h HF => ?_
 ·obtain ⟨s, σ⟩ := fr; obtain ⟨hS, hH⟩ := HI
  refine t_bk h hS hH ?_
  refine t_RN ?_
  refine t_if (fun hc2 => ?_) fun hc2 => ?_
  ·refine t_D fun mb => ?_
   refine t_U 2 ?_
   refine k_elt fun y2 rest1 hy2 => ?_
   refine t_U 3 ?_
   refine k_elt fun y3 rest2 hy3 => ?_
   refine t_N ?_
   refine t_if (fun hc3 => ?_) fun hc3 => ?_
   ·refine t_RN ?_
    exact t_e fun he hS hH => he ▸ And.intro rfl (eW hS hH (rT rN) E_bool_p)
   refine t_RN ?_
   exact t_e fun he hS hH => he ▸ And.intro (sub_to hS (by kernel_rfl)) hH
  exact t_e fun he hS hH => he ▸ And.intro rfl (And.intro (sub_to hS (by kernel_rfl)) hH)
 obtain ⟨s, σ⟩ := fr
 rcases y1 with y1 | y1
 ·have h := el_l h
  obtain ⟨rfl, hS, hH⟩ := HF
  refine t_bx h hS hH ?_
  refine t_RN ?_
  exact k_eW (rT rN) E_bool_p
 have h := el_r h
 obtain ⟨rfl, HE⟩ := HF
 injection h with h; subst h; exact HE
noncomputable def B_laws_eqFileS (a0 : (Sl DFile)) (a1 : (Sl DFile)) : Option Bool := (if ((!decide ((a0.l.length : Int) = (a1.l.length : Int)))) = true then (some false) else ((loopO (S := Int) (R := (Unit ⊕ Bool)) (fun st1 => (if (decide (st1 < (a0.l.length : Int))) = true then ((elt a0 st1).bind fun y2 => ((elt a1 st1).bind fun y3 => ((F_laws_eqFile y2 y3).bind fun y4 => (if (!y4) = true then (some (.inr (.inr false))) else (some (.inl (IntKind.i64.wrap (st1 + 1)))))))) else (some (.inr (.inl ()))))) 0).bind fun y1 => (Sum.elim (fun y1 => (some true)) (fun y1 => (some y1)) y1)))
theorem u_laws_eqFileS (a0 : (Sl DFile)) (a1 : (Sl DFile)) (r : Bool) (h : B_laws_eqFileS a0 a1 = some r) : F_laws_eqFileS a0 a1 = some r := by
 unfold B_laws_eqFileS at h
 refine k_W ok_112 E_bool_inj h (fun σ0 => ?_)
 refine t_RN ?_
 refine t_RN ?_
 refine t_if (fun hc1 => ?_) fun hc1 => ?_
 ·refine t_RN ?_
  exact k_eW (rT rN) E_bool_p
 refine t_RN ?_
 refine t_loop (fun st1 fr => Sub [(0, a0.t), (1, a1.t), (5, i4 st1)] fr.s ∧ Heap σ0 fr.σ []) (fun y1 e fr => (Sum.elim (fun y => e = (.exit 0) ∧ Sub [] fr.s ∧ Heap σ0 fr.σ []) (fun y => e = .ret ∧ endW Tryd.prog (Tryd.f112.results.toList) σ0 (E_bool y) .ret fr)) y1) (fun hS hH => And.intro (sub_to hS (by kernel_rfl)) hH) (fun st1 x fr h HI => ?_) fun y1 e fr h HF => ?_
 ·obtain ⟨s, σ⟩ := fr; obtain ⟨hS, hH⟩ := HI
  refine t_bk h hS hH ?_
  refine t_RN ?_
  refine t_if (fun hc2 => ?_) fun hc2 => ?_
  ·refine t_D fun mb => ?_
   refine t_U 2 ?_
   refine k_elt fun y2 rest1 hy2 => ?_
   refine t_U 3 ?_
   refine k_elt fun y3 rest2 hy3 => ?_
   refine t_U 1 ?_
   refine k_call fun y4 hy4 => ?_
   refine t_N ?_
   refine t_if (fun hc3 => ?_) fun hc3 => ?_
   ·refine t_RN ?_
    exact t_e fun he hS hH => he ▸ And.intro rfl (eW hS hH (rT rN) E_bool_p)
   refine t_RN ?_
   exact t_e fun he hS hH => he ▸ And.intro (sub_to hS (by kernel_rfl)) hH
  exact t_e fun he hS hH => he ▸ And.intro rfl (And.intro (sub_to hS (by kernel_rfl)) hH)
 obtain ⟨s, σ⟩ := fr
 rcases y1 with y1 | y1
 ·have h := el_l h
  obtain ⟨rfl, hS, hH⟩ := HF
  refine t_bx h hS hH ?_
  refine t_RN ?_
  exact k_eW (rT rN) E_bool_p
 have h := el_r h
 obtain ⟨rfl, HE⟩ := HF
 injection h with h; subst h; exact HE
noncomputable def B_laws_szObject (a0 : DObject) (a1 : Int) : Option Int := (if (decide ((IntKind.i64.wrap (a1 - (a0.Name.size : Int))) < 0)) = true then (some (-1)) else ((F_laws_szValueS a0.Keys (IntKind.i64.wrap (a1 - (a0.Name.size : Int)))).bind fun y1 => (if (decide (y1 < 0)) = true then (some (-1)) else ((F_laws_szValueS a0.Vals y1).bind fun y2 => (if (decide (y2 < 0)) = true then (some (-1)) else ((F_laws_szValue a0.Default y2).bind fun y3 => (if (decide (y3 < 0)) = true then (some (-1)) else (some y3))))))))
theorem u_laws_szObject (a0 : DObject) (a1 : Int) (r : Int) (h : B_laws_szObject a0 a1 = some r) : F_laws_szObject a0 a1 = some r := by
 unfold B_laws_szObject at h
 refine k_W ok_120 E_i64_inj h (fun σ0 => ?_)
 refine t_R ?_
 refine k_box (fun b1 => ?_)
 refine t_N ?_
 refine t_RU 2 ?_
 refine k_load 0 ?_
 refine t_N ?_
 refine t_RN ?_
 refine t_if (fun hc1 => ?_) fun hc1 => ?_
 ·refine t_RN ?_
  exact k_eW (rT rN) E_i64_p
 refine t_RU 1 ?_
 refine k_load 0 ?_
 refine t_U 1 ?_
 refine k_call fun y1 hy1 => ?_
 refine t_N ?_
 refine t_RN ?_
 refine t_if (fun hc2 => ?_) fun hc2 => ?_
 ·refine t_RN ?_
  exact k_eW (rT rN) E_i64_p
 refine t_RU 1 ?_
 refine k_load 0 ?_
 refine t_U 1 ?_
 refine k_call fun y2 hy2 => ?_
 refine t_N ?_
 refine t_RN ?_
 refine t_if (fun hc3 => ?_) fun hc3 => ?_
 ·refine t_RN ?_
  exact k_eW (rT rN) E_i64_p
 refine t_RU 1 ?_
 refine k_load 0 ?_
 refine t_U 1 ?_
 refine k_call fun y3 hy3 => ?_
 refine t_N ?_
 refine t_RN ?_
 refine t_if (fun hc4 => ?_) fun hc4 => ?_
 ·refine t_RN ?_
  exact k_eW (rT rN) E_i64_p
 refine t_RN ?_
 exact k_eW (rT rN) E_i64_p
noncomputable def B_laws_szBinding (a0 : DBinding) (a1 : Int) : Option Int := (if (decide ((IntKind.i64.wrap (a1 - (a0.Name.size : Int))) < 0)) = true then (some (-1)) else ((F_laws_szValue a0.Value (IntKind.i64.wrap (a1 - (a0.Name.size : Int)))).bind fun y1 => (if (decide (y1 < 0)) = true then (some (-1)) else (some y1))))
theorem u_laws_szBinding (a0 : DBinding) (a1 : Int) (r : Int) (h : B_laws_szBinding a0 a1 = some r) : F_laws_szBinding a0 a1 = some r := by
 unfold B_laws_szBinding at h
 refine k_W ok_121 E_i64_inj h (fun σ0 => ?_)
 refine t_R ?_
 refine k_box (fun b1 => ?_)
 refine t_N ?_
 refine t_RU 2 ?_
 refine k_load 0 ?_
 refine t_N ?_
 refine t_RN ?_
 refine t_if (fun hc1 => ?_) fun hc1 => ?_
 ·refine t_RN ?_
  exact k_eW (rT rN) E_i64_p
 refine t_RU 1 ?_
 refine k_load 0 ?_
 refine t_U 1 ?_
 refine k_call fun y1 hy1 => ?_
 refine t_N ?_
 refine t_RN ?_
 refine t_if (fun hc2 => ?_) fun hc2 => ?_
 ·refine t_RN ?_
  exact k_eW (rT rN) E_i64_p
 refine t_RN ?_
 exact k_eW (rT rN) E_i64_p
noncomputable def B_laws_szFunction (a0 : DFunction) (a1 : Int) : Option Int := (if (decide ((IntKind.i64.wrap (a1 - (a0.Name.size : Int))) < 0)) = true then (some (-1)) else ((F_laws_szStringS a0.Params (IntKind.i64.wrap (a1 - (a0.Name.size : Int)))).bind fun y1 => (if (decide (y1 < 0)) = true then (some (-1)) else ((F_laws_szStringS a0.Locals y1).bind fun y2 => (if (decide (y2 < 0)) = true then (some (-1)) else (if (decide ((IntKind.i64.wrap (y2 - (a0.Label.size : Int))) < 0)) = true then (some (-1)) else (some (IntKind.i64.wrap (y2 - (a0.Label.size : Int))))))))))
theorem u_laws_szFunction (a0 : DFunction) (a1 : Int) (r : Int) (h : B_laws_szFunction a0 a1 = some r) : F_laws_szFunction a0 a1 = some r := by
 unfold B_laws_szFunction at h
 refine k_W ok_122 E_i64_inj h (fun σ0 => ?_)
 refine t_R ?_
 refine k_box (fun b1 => ?_)
 refine t_N ?_
 refine t_RU 2 ?_
 refine k_load 0 ?_
 refine t_N ?_
 refine t_RN ?_
 refine t_if (fun hc1 => ?_) fun hc1 => ?_
 ·refine t_RN ?_
  exact k_eW (rT rN) E_i64_p
 refine t_RU 1 ?_
 refine k_load 0 ?_
 refine t_U 1 ?_
 refine k_call fun y1 hy1 => ?_
 refine t_N ?_
 refine t_RN ?_
 refine t_if (fun hc2 => ?_) fun hc2 => ?_
 ·refine t_RN ?_
  exact k_eW (rT rN) E_i64_p
 refine t_RU 1 ?_
 refine k_load 0 ?_
 refine t_U 1 ?_
 refine k_call fun y2 hy2 => ?_
 refine t_N ?_
 refine t_RN ?_
 refine t_if (fun hc3 => ?_) fun hc3 => ?_
 ·refine t_RN ?_
  exact k_eW (rT rN) E_i64_p
 refine t_RU 2 ?_
 refine k_load 0 ?_
 refine t_N ?_
 refine t_RN ?_
 refine t_if (fun hc4 => ?_) fun hc4 => ?_
 ·refine t_RN ?_
  exact k_eW (rT rN) E_i64_p
 refine t_RN ?_
 exact k_eW (rT rN) E_i64_p
noncomputable def B_laws_szRecordType (a0 : DRecordType) (a1 : Int) : Option Int := (if (decide ((IntKind.i64.wrap (a1 - (a0.Name.size : Int))) < 0)) = true then (some (-1)) else ((F_laws_szStringS a0.Fields (IntKind.i64.wrap (a1 - (a0.Name.size : Int)))).bind fun y1 => (if (decide (y1 < 0)) = true then (some (-1)) else (some y1))))
theorem u_laws_szRecordType (a0 : DRecordType) (a1 : Int) (r : Int) (h : B_laws_szRecordType a0 a1 = some r) : F_laws_szRecordType a0 a1 = some r := by
 unfold B_laws_szRecordType at h
 refine k_W ok_123 E_i64_inj h (fun σ0 => ?_)
 refine t_R ?_
 refine k_box (fun b1 => ?_)
 refine t_N ?_
 refine t_RU 2 ?_
 refine k_load 0 ?_
 refine t_N ?_
 refine t_RN ?_
 refine t_if (fun hc1 => ?_) fun hc1 => ?_
 ·refine t_RN ?_
  exact k_eW (rT rN) E_i64_p
 refine t_RU 1 ?_
 refine k_load 0 ?_
 refine t_U 1 ?_
 refine k_call fun y1 hy1 => ?_
 refine t_N ?_
 refine t_RN ?_
 refine t_if (fun hc2 => ?_) fun hc2 => ?_
 ·refine t_RN ?_
  exact k_eW (rT rN) E_i64_p
 refine t_RN ?_
 exact k_eW (rT rN) E_i64_p
noncomputable def B_laws_szFile (a0 : DFile) (a1 : Int) : Option Int := (if (decide ((IntKind.i64.wrap (a1 - (a0.Name.size : Int))) < 0)) = true then (some (-1)) else ((F_laws_szStringS a0.Lines (IntKind.i64.wrap (a1 - (a0.Name.size : Int)))).bind fun y1 => (if (decide (y1 < 0)) = true then (some (-1)) else (some y1))))
theorem u_laws_szFile (a0 : DFile) (a1 : Int) (r : Int) (h : B_laws_szFile a0 a1 = some r) : F_laws_szFile a0 a1 = some r := by
 unfold B_laws_szFile at h
 refine k_W ok_124 E_i64_inj h (fun σ0 => ?_)
 refine t_R ?_
 refine k_box (fun b1 => ?_)
 refine t_N ?_
 refine t_RU 2 ?_
 refine k_load 0 ?_
 refine t_N ?_
 refine t_RN ?_
 refine t_if (fun hc1 => ?_) fun hc1 => ?_
 ·refine t_RN ?_
  exact k_eW (rT rN) E_i64_p
 refine t_RU 1 ?_
 refine k_load 0 ?_
 refine t_U 1 ?_
 refine k_call fun y1 hy1 => ?_
 refine t_N ?_
 refine t_RN ?_
 refine t_if (fun hc2 => ?_) fun hc2 => ?_
 ·refine t_RN ?_
  exact k_eW (rT rN) E_i64_p
 refine t_RN ?_
 exact k_eW (rT rN) E_i64_p
noncomputable def B_laws_toObject (a0 : DObject) : Option DObject := ((F_laws_toValueS a0.Keys).bind fun y1 => ((F_laws_toValueS a0.Vals).bind fun y2 => ((F_laws_toValue a0.Default).bind fun y3 => (some (⟨a0.Id, a0.Kind, a0.Name, a0.Low, y1, y2, y3⟩ : DObject)))))
theorem u_laws_toObject (a0 : DObject) (r : DObject) (h : B_laws_toObject a0 = some r) : F_laws_toObject a0 = some r := by
 unfold B_laws_toObject at h
 refine k_O ok_125 h (fun σ0 => ?_)
 refine t_R ?_
 refine k_box (fun b1 => ?_)
 refine k_alloc fun b2 => ?_
 refine t_N ?_
 refine t_R ?_
 refine k_alloc fun b3 => ?_
 refine t_N ?_
 refine t_RU 1 ?_
 refine k_load 2 ?_
 refine t_U 1 ?_
 refine k_store 0 ?_
 refine t_N ?_
 refine t_RU 1 ?_
 refine k_load 2 ?_
 refine t_U 1 ?_
 refine k_store 0 ?_
 refine t_N ?_
 refine t_RU 1 ?_
 refine k_load 2 ?_
 refine t_U 1 ?_
 refine k_store 0 ?_
 refine t_N ?_
 refine t_RU 1 ?_
 refine k_load 2 ?_
 refine t_U 1 ?_
 refine k_store 0 ?_
 refine t_N ?_
 refine t_RU 1 ?_
 refine k_load 2 ?_
 refine k_callO1 (fun y1 t1 hy1 ht1 => ?_)
 refine t_U 1 ?_
 refine k_storeT 1 ht1 ?_
 refine t_N ?_
 refine t_RU 1 ?_
 refine k_load 3 ?_
 refine k_callO1 (fun y2 t2 hy2 ht2 => ?_)
 refine t_U 1 ?_
 refine k_storeT 1 ht2 ?_
 refine t_N ?_
 refine t_RU 1 ?_
 refine k_load 4 ?_
 refine k_call fun y3 hy3 => ?_
 refine t_U 1 ?_
 refine k_store 0 ?_
 refine t_N ?_
 refine t_R ?_
 refine k_load 0 ?_
 refine k_storeA 3 ?_ (h1 := by simp [ht1.1, ht1.2, ht2.1, ht2.2])
 refine t_N ?_
 refine t_h (·.up2.up3) ?_
 exact k_eO [t1, t2] (rC 2 rN)
noncomputable def B_laws_toBinding (a0 : DBinding) : Option DBinding := ((F_laws_toValue a0.Value).bind fun y1 => (some (⟨a0.Name, y1⟩ : DBinding)))
theorem u_laws_toBinding (a0 : DBinding) (r : DBinding) (h : B_laws_toBinding a0 = some r) : F_laws_toBinding a0 = some r := by
 unfold B_laws_toBinding at h
 refine k_W ok_126 E_DBinding_inj h (fun σ0 => ?_)
 refine t_R ?_
 refine k_box (fun b1 => ?_)
 refine k_alloc fun b2 => ?_
 refine t_N ?_
 refine t_R ?_
 refine k_alloc fun b3 => ?_
 refine t_N ?_
 refine t_RU 1 ?_
 refine k_load 2 ?_
 refine t_U 1 ?_
 refine k_store 0 ?_
 refine t_N ?_
 refine t_RU 1 ?_
 refine k_load 2 ?_
 refine k_call fun y1 hy1 => ?_
 refine t_U 1 ?_
 refine k_store 0 ?_
 refine t_N ?_
 refine t_R ?_
 refine k_load 0 ?_
 refine k_storeA 1 ?_
 refine t_N ?_
 exact k_eW (rC 0 rN) E_DBinding_p
noncomputable def B_laws_toFunction (a0 : DFunction) : Option DFunction := ((F_laws_toStringS a0.Params).bind fun y1 => ((F_laws_toStringS a0.Locals).bind fun y2 => (some (⟨a0.Name, y1, y2, a0.Label⟩ : DFunction))))
theorem u_laws_toFunction (a0 : DFunction) (r : DFunction) (h : B_laws_toFunction a0 = some r) : F_laws_toFunction a0 = some r := by
 unfold B_laws_toFunction at h
 refine k_O ok_127 h (fun σ0 => ?_)
 refine t_R ?_
 refine k_box (fun b1 => ?_)
 refine k_alloc fun b2 => ?_
 refine t_N ?_
 refine t_R ?_
 refine k_alloc fun b3 => ?_
 refine t_N ?_
 refine t_RU 1 ?_
 refine k_load 2 ?_
 refine t_U 1 ?_
 refine k_store 0 ?_
 refine t_N ?_
 refine t_RU 1 ?_
 refine k_load 2 ?_
 refine k_callO1 (fun y1 t1 hy1 ht1 => ?_)
 refine t_U 1 ?_
 refine k_storeT 1 ht1 ?_
 refine t_N ?_
 refine t_RU 1 ?_
 refine k_load 3 ?_
 refine k_callO1 (fun y2 t2 hy2 ht2 => ?_)
 refine t_U 1 ?_
 refine k_storeT 1 ht2 ?_
 refine t_N ?_
 refine t_RU 1 ?_
 refine k_load 4 ?_
 refine t_U 1 ?_
 refine k_store 0 ?_
 refine t_N ?_
 refine t_R ?_
 refine k_load 0 ?_
 refine k_storeA 3 ?_ (h1 := by simp [ht1.1, ht1.2, ht2.1, ht2.2])
 refine t_N ?_
 refine t_h (·.up2.up3) ?_
 exact k_eO [t1, t2] (rC 2 rN)
noncomputable def B_laws_toRecordType (a0 : DRecordType) : Option DRecordType := ((F_laws_toStringS a0.Fields).bind fun y1 => (some (⟨a0.Name, y1⟩ : DRecordType)))
theorem u_laws_toRecordType (a0 : DRecordType) (r : DRecordType) (h : B_laws_toRecordType a0 = some r) : F_laws_toRecordType a0 = some r := by
 unfold B_laws_toRecordType at h
 refine k_O ok_128 h (fun σ0 => ?_)
 refine t_R ?_
 refine k_box (fun b1 => ?_)
 refine k_alloc fun b2 => ?_
 refine t_N ?_
 refine t_R ?_
 refine k_alloc fun b3 => ?_
 refine t_N ?_
 refine t_RU 1 ?_
 refine k_load 2 ?_
 refine t_U 1 ?_
 refine k_store 0 ?_
 refine t_N ?_
 refine t_RU 1 ?_
 refine k_load 2 ?_
 refine k_callO1 (fun y1 t1 hy1 ht1 => ?_)
 refine t_U 1 ?_
 refine k_storeT 1 ht1 ?_
 refine t_N ?_
 refine t_R ?_
 refine k_load 0 ?_
 refine k_storeA 2 ?_ (h1 := by simp [ht1.1, ht1.2])
 refine t_N ?_
 refine t_h Heap.up2 ?_
 exact k_eO [t1] (rC 1 rN)
noncomputable def B_laws_toFile (a0 : DFile) : Option DFile := ((F_laws_toStringS a0.Lines).bind fun y1 => (some (⟨a0.Name, y1, a0.Mode, a0.At⟩ : DFile)))
theorem u_laws_toFile (a0 : DFile) (r : DFile) (h : B_laws_toFile a0 = some r) : F_laws_toFile a0 = some r := by
 unfold B_laws_toFile at h
 refine k_O ok_129 h (fun σ0 => ?_)
 refine t_R ?_
 refine k_box (fun b1 => ?_)
 refine k_alloc fun b2 => ?_
 refine t_N ?_
 refine t_R ?_
 refine k_alloc fun b3 => ?_
 refine t_N ?_
 refine t_RU 1 ?_
 refine k_load 2 ?_
 refine t_U 1 ?_
 refine k_store 0 ?_
 refine t_N ?_
 refine t_RU 1 ?_
 refine k_load 2 ?_
 refine k_callO1 (fun y1 t1 hy1 ht1 => ?_)
 refine t_U 1 ?_
 refine k_storeT 1 ht1 ?_
 refine t_N ?_
 refine t_RU 1 ?_
 refine k_load 3 ?_
 refine t_U 1 ?_
 refine k_store 0 ?_
 refine t_N ?_
 refine t_RU 1 ?_
 refine k_load 3 ?_
 refine t_U 1 ?_
 refine k_store 0 ?_
 refine t_N ?_
 refine t_R ?_
 refine k_load 0 ?_
 refine k_storeA 2 ?_ (h1 := by simp [ht1.1, ht1.2])
 refine t_N ?_
 refine t_h Heap.up2 ?_
 exact k_eO [t1] (rC 1 rN)
noncomputable def B_laws_eqObject (a0 : DObject) (a1 : DObject) : Option Bool := (if (!decide (a0.Id = a1.Id)) = true then (some false) else (if (!decide (a0.Kind = a1.Kind)) = true then (some false) else (if (!decide (a0.Name = a1.Name)) = true then (some false) else (if (!decide (a0.Low = a1.Low)) = true then (some false) else ((F_laws_eqValueS a0.Keys a1.Keys).bind fun y1 => (if (!y1) = true then (some false) else ((F_laws_eqValueS a0.Vals a1.Vals).bind fun y2 => (if (!y2) = true then (some false) else ((F_laws_eqValue a0.Default a1.Default).bind fun y3 => (if (!y3) = true then (some false) else (some true)))))))))))
theorem u_laws_eqObject (a0 : DObject) (a1 : DObject) (r : Bool) (h : B_laws_eqObject a0 a1 = some r) : F_laws_eqObject a0 a1 = some r := by
 unfold B_laws_eqObject at h
 refine k_W ok_130 E_bool_inj h (fun σ0 => ?_)
 refine t_R ?_
 refine k_box (fun b1 => ?_)
 refine k_box (fun b2 => ?_)
 refine t_N ?_
 refine t_RU 1 ?_
 refine k_load 1 ?_
 refine t_U 1 ?_
 refine k_load 0 ?_
 refine t_N ?_
 refine t_if (fun hc1 => ?_) fun hc1 => ?_
 ·refine t_RN ?_
  exact k_eW (rT rN) E_bool_p
 refine t_RU 1 ?_
 refine k_load 1 ?_
 refine t_U 1 ?_
 refine k_load 0 ?_
 refine t_N ?_
 refine t_if (fun hc2 => ?_) fun hc2 => ?_
 ·refine t_RN ?_
  exact k_eW (rT rN) E_bool_p
 refine t_RU 1 ?_
 refine k_load 1 ?_
 refine t_U 1 ?_
 refine k_load 0 ?_
 refine t_N ?_
 refine t_if (fun hc3 => ?_) fun hc3 => ?_
 ·refine t_RN ?_
  exact k_eW (rT rN) E_bool_p
 refine t_RU 1 ?_
 refine k_load 1 ?_
 refine t_U 1 ?_
 refine k_load 0 ?_
 refine t_N ?_
 refine t_if (fun hc4 => ?_) fun hc4 => ?_
 ·refine t_RN ?_
  exact k_eW (rT rN) E_bool_p
 refine t_RU 1 ?_
 refine k_load 1 ?_
 refine t_U 1 ?_
 refine k_load 0 ?_
 refine k_call fun y1 hy1 => ?_
 refine t_N ?_
 refine t_if (fun hc5 => ?_) fun hc5 => ?_
 ·refine t_RN ?_
  exact k_eW (rT rN) E_bool_p
 refine t_RU 1 ?_
 refine k_load 1 ?_
 refine t_U 1 ?_
 refine k_load 0 ?_
 refine k_call fun y2 hy2 => ?_
 refine t_N ?_
 refine t_if (fun hc6 => ?_) fun hc6 => ?_
 ·refine t_RN ?_
  exact k_eW (rT rN) E_bool_p
 refine t_RU 1 ?_
 refine k_load 1 ?_
 refine t_U 1 ?_
 refine k_load 0 ?_
 refine k_call fun y3 hy3 => ?_
 refine t_N ?_
 refine t_if (fun hc7 => ?_) fun hc7 => ?_
 ·refine t_RN ?_
  exact k_eW (rT rN) E_bool_p
 refine t_RN ?_
 exact k_eW (rT rN) E_bool_p
noncomputable def B_laws_eqBinding (a0 : DBinding) (a1 : DBinding) : Option Bool := (if (!decide (a0.Name = a1.Name)) = true then (some false) else ((F_laws_eqValue a0.Value a1.Value).bind fun y1 => (if (!y1) = true then (some false) else (some true))))
theorem u_laws_eqBinding (a0 : DBinding) (a1 : DBinding) (r : Bool) (h : B_laws_eqBinding a0 a1 = some r) : F_laws_eqBinding a0 a1 = some r := by
 unfold B_laws_eqBinding at h
 refine k_W ok_131 E_bool_inj h (fun σ0 => ?_)
 refine t_R ?_
 refine k_box (fun b1 => ?_)
 refine k_box (fun b2 => ?_)
 refine t_N ?_
 refine t_RU 1 ?_
 refine k_load 1 ?_
 refine t_U 1 ?_
 refine k_load 0 ?_
 refine t_N ?_
 refine t_if (fun hc1 => ?_) fun hc1 => ?_
 ·refine t_RN ?_
  exact k_eW (rT rN) E_bool_p
 refine t_RU 1 ?_
 refine k_load 1 ?_
 refine t_U 1 ?_
 refine k_load 0 ?_
 refine k_call fun y1 hy1 => ?_
 refine t_N ?_
 refine t_if (fun hc2 => ?_) fun hc2 => ?_
 ·refine t_RN ?_
  exact k_eW (rT rN) E_bool_p
 refine t_RN ?_
 exact k_eW (rT rN) E_bool_p
noncomputable def B_laws_eqFunction (a0 : DFunction) (a1 : DFunction) : Option Bool := (if (!decide (a0.Name = a1.Name)) = true then (some false) else ((F_laws_eqStringS a0.Params a1.Params).bind fun y1 => (if (!y1) = true then (some false) else ((F_laws_eqStringS a0.Locals a1.Locals).bind fun y2 => (if (!y2) = true then (some false) else (if (!decide (a0.Label = a1.Label)) = true then (some false) else (some true)))))))
theorem u_laws_eqFunction (a0 : DFunction) (a1 : DFunction) (r : Bool) (h : B_laws_eqFunction a0 a1 = some r) : F_laws_eqFunction a0 a1 = some r := by
 unfold B_laws_eqFunction at h
 refine k_W ok_132 E_bool_inj h (fun σ0 => ?_)
 refine t_R ?_
 refine k_box (fun b1 => ?_)
 refine k_box (fun b2 => ?_)
 refine t_N ?_
 refine t_RU 1 ?_
 refine k_load 1 ?_
 refine t_U 1 ?_
 refine k_load 0 ?_
 refine t_N ?_
 refine t_if (fun hc1 => ?_) fun hc1 => ?_
 ·refine t_RN ?_
  exact k_eW (rT rN) E_bool_p
 refine t_RU 1 ?_
 refine k_load 1 ?_
 refine t_U 1 ?_
 refine k_load 0 ?_
 refine k_call fun y1 hy1 => ?_
 refine t_N ?_
 refine t_if (fun hc2 => ?_) fun hc2 => ?_
 ·refine t_RN ?_
  exact k_eW (rT rN) E_bool_p
 refine t_RU 1 ?_
 refine k_load 1 ?_
 refine t_U 1 ?_
 refine k_load 0 ?_
 refine k_call fun y2 hy2 => ?_
 refine t_N ?_
 refine t_if (fun hc3 => ?_) fun hc3 => ?_
 ·refine t_RN ?_
  exact k_eW (rT rN) E_bool_p
 refine t_RU 1 ?_
 refine k_load 1 ?_
 refine t_U 1 ?_
 refine k_load 0 ?_
 refine t_N ?_
 refine t_if (fun hc4 => ?_) fun hc4 => ?_
 ·refine t_RN ?_
  exact k_eW (rT rN) E_bool_p
 refine t_RN ?_
 exact k_eW (rT rN) E_bool_p
noncomputable def B_laws_eqRecordType (a0 : DRecordType) (a1 : DRecordType) : Option Bool := (if (!decide (a0.Name = a1.Name)) = true then (some false) else ((F_laws_eqStringS a0.Fields a1.Fields).bind fun y1 => (if (!y1) = true then (some false) else (some true))))
theorem u_laws_eqRecordType (a0 : DRecordType) (a1 : DRecordType) (r : Bool) (h : B_laws_eqRecordType a0 a1 = some r) : F_laws_eqRecordType a0 a1 = some r := by
 unfold B_laws_eqRecordType at h
 refine k_W ok_133 E_bool_inj h (fun σ0 => ?_)
 refine t_R ?_
 refine k_box (fun b1 => ?_)
 refine k_box (fun b2 => ?_)
 refine t_N ?_
 refine t_RU 1 ?_
 refine k_load 1 ?_
 refine t_U 1 ?_
 refine k_load 0 ?_
 refine t_N ?_
 refine t_if (fun hc1 => ?_) fun hc1 => ?_
 ·refine t_RN ?_
  exact k_eW (rT rN) E_bool_p
 refine t_RU 1 ?_
 refine k_load 1 ?_
 refine t_U 1 ?_
 refine k_load 0 ?_
 refine k_call fun y1 hy1 => ?_
 refine t_N ?_
 refine t_if (fun hc2 => ?_) fun hc2 => ?_
 ·refine t_RN ?_
  exact k_eW (rT rN) E_bool_p
 refine t_RN ?_
 exact k_eW (rT rN) E_bool_p
noncomputable def B_laws_eqFile (a0 : DFile) (a1 : DFile) : Option Bool := (if (!decide (a0.Name = a1.Name)) = true then (some false) else ((F_laws_eqStringS a0.Lines a1.Lines).bind fun y1 => (if (!y1) = true then (some false) else (if (!decide (a0.Mode = a1.Mode)) = true then (some false) else (if (!decide (a0.At = a1.At)) = true then (some false) else (some true))))))
theorem u_laws_eqFile (a0 : DFile) (a1 : DFile) (r : Bool) (h : B_laws_eqFile a0 a1 = some r) : F_laws_eqFile a0 a1 = some r := by
 unfold B_laws_eqFile at h
 refine k_W ok_134 E_bool_inj h (fun σ0 => ?_)
 refine t_R ?_
 refine k_box (fun b1 => ?_)
 refine k_box (fun b2 => ?_)
 refine t_N ?_
 refine t_RU 1 ?_
 refine k_load 1 ?_
 refine t_U 1 ?_
 refine k_load 0 ?_
 refine t_N ?_
 refine t_if (fun hc1 => ?_) fun hc1 => ?_
 ·refine t_RN ?_
  exact k_eW (rT rN) E_bool_p
 refine t_RU 1 ?_
 refine k_load 1 ?_
 refine t_U 1 ?_
 refine k_load 0 ?_
 refine k_call fun y1 hy1 => ?_
 refine t_N ?_
 refine t_if (fun hc2 => ?_) fun hc2 => ?_
 ·refine t_RN ?_
  exact k_eW (rT rN) E_bool_p
 refine t_RU 1 ?_
 refine k_load 1 ?_
 refine t_U 1 ?_
 refine k_load 0 ?_
 refine t_N ?_
 refine t_if (fun hc3 => ?_) fun hc3 => ?_
 ·refine t_RN ?_
  exact k_eW (rT rN) E_bool_p
 refine t_RU 1 ?_
 refine k_load 1 ?_
 refine t_U 1 ?_
 refine k_load 0 ?_
 refine t_N ?_
 refine t_if (fun hc4 => ?_) fun hc4 => ?_
 ·refine t_RN ?_
  exact k_eW (rT rN) E_bool_p
 refine t_RN ?_
 exact k_eW (rT rN) E_bool_p
noncomputable def B_laws_szValueS (a0 : (Sl DValue)) (a1 : Int) : Option Int := (if (decide ((IntKind.i64.wrap (a1 - (a0.l.length : Int))) < 0)) = true then (some (-1)) else ((loopO (S := (Int × Int)) (R := (Int ⊕ Int)) (fun st1 => (if (decide (st1.2 < (a0.l.length : Int))) = true then ((elt a0 st1.2).bind fun y2 => ((F_laws_szValue y2 st1.1).bind fun y3 => (if (decide (y3 < 0)) = true then (some (.inr (.inr (-1)))) else (some (.inl (y3, (IntKind.i64.wrap (st1.2 + 1)))))))) else (some (.inr (.inl st1.1))))) ((IntKind.i64.wrap (a1 - (a0.l.length : Int))), 0)).bind fun y1 => (Sum.elim (fun y1 => (some y1)) (fun y1 => (some y1)) y1)))
theorem u_laws_szValueS (a0 : (Sl DValue)) (a1 : Int) (r : Int) (h : B_laws_szValueS a0 a1 = some r) : F_laws_szValueS a0 a1 = some r := by
 unfold B_laws_szValueS at h
 refine k_W ok_148 E_i64_inj h (fun σ0 => ?_)
 refine t_RN ?_
 refine t_RN ?_
 refine t_RN ?_
 refine t_if (fun hc1 => ?_) fun hc1 => ?_
 ·refine t_RN ?_
  exact k_eW (rT rN) E_i64_p
 refine t_RN ?_
 refine t_loop (fun st1 fr => Sub [(0, a0.t), (1, i4 st1.1), (5, i4 st1.2)] fr.s ∧ Heap σ0 fr.σ []) (fun y1 e fr => (Sum.elim (fun y => e = (.exit 0) ∧ Sub [(1, i4 y)] fr.s ∧ Heap σ0 fr.σ []) (fun y => e = .ret ∧ endW Tryd.prog (Tryd.f148.results.toList) σ0 (E_i64 y) .ret fr)) y1) (fun hS hH => And.intro (sub_to hS (by kernel_rfl)) hH) (fun st1 x fr h HI => ?_) fun y1 e fr h HF => ?_
 ·obtain ⟨s, σ⟩ := fr; obtain ⟨hS, hH⟩ := HI
  refine t_bk h hS hH ?_
  refine t_RN ?_
  refine t_if (fun hc2 => ?_) fun hc2 => ?_
  ·refine t_RU 2 ?_
   refine k_elt fun y2 rest1 hy2 => ?_
   refine t_U 2 ?_
   refine k_call fun y3 hy3 => ?_
   refine t_N ?_
   refine t_RN ?_
   refine t_if (fun hc3 => ?_) fun hc3 => ?_
   ·refine t_RN ?_
    exact t_e fun he hS hH => he ▸ And.intro rfl (eW hS hH (rT rN) E_i64_p)
   refine t_RN ?_
   exact t_e fun he hS hH => he ▸ And.intro (sub_to hS (by kernel_rfl)) hH
  exact t_e fun he hS hH => he ▸ And.intro rfl (And.intro (sub_to hS (by kernel_rfl)) hH)
 obtain ⟨s, σ⟩ := fr
 rcases y1 with y1 | y1
 ·have h := el_l h
  obtain ⟨rfl, hS, hH⟩ := HF
  refine t_bx h hS hH ?_
  refine t_RN ?_
  exact k_eW (rT rN) E_i64_p
 have h := el_r h
 obtain ⟨rfl, HE⟩ := HF
 injection h with h; subst h; exact HE
noncomputable def B_laws_szValue (a0 : DValue) (a1 : Int) : Option Int := (if (decide ((IntKind.i64.wrap (a1 - (a0.Text.size : Int))) < 0)) = true then (some (-1)) else (some (IntKind.i64.wrap (a1 - (a0.Text.size : Int)))))
theorem u_laws_szValue (a0 : DValue) (a1 : Int) (r : Int) (h : B_laws_szValue a0 a1 = some r) : F_laws_szValue a0 a1 = some r := by
 unfold B_laws_szValue at h
 refine k_W ok_149 E_i64_inj h (fun σ0 => ?_)
 refine t_R ?_
 refine k_box (fun b1 => ?_)
 refine t_N ?_
 refine t_RU 2 ?_
 refine k_load 0 ?_
 refine t_N ?_
 refine t_RN ?_
 refine t_if (fun hc1 => ?_) fun hc1 => ?_
 ·refine t_RN ?_
  exact k_eW (rT rN) E_i64_p
 refine t_RN ?_
 exact k_eW (rT rN) E_i64_p
noncomputable def B_laws_toValueS (a0 : (Sl DValue)) : Option (Sl DValue) := ((mkS 40 ((⟨0, 0, ⟨#[]⟩, 0⟩ : DValue) : DValue) (a0.l.length : Int) (a0.l.length : Int)).bind fun y1 => ((loopO (S := (Int × (Sl DValue))) (R := (Sl DValue)) (fun st1 => (if (decide (st1.1 < (a0.l.length : Int))) = true then ((elt a0 st1.1).bind fun y3 => ((F_laws_toValue y3).bind fun y4 => ((elt st1.2 st1.1).bind fun y5 => (some (.inl ((IntKind.i64.wrap (st1.1 + 1)), (setS st1.2 st1.1 (y4 : DValue)))))))) else (some (.inr st1.2)))) (0, y1)).bind fun y2 => (some y2)))
theorem u_laws_toValueS (a0 : (Sl DValue)) (r : (Sl DValue)) (h : B_laws_toValueS a0 = some r) : F_laws_toValueS a0 = some r := by
 unfold B_laws_toValueS at h
 refine k_O ok_150 h (fun σ0 => ?_)
 refine t_RN ?_
 refine t_RU 2 ?_
 intro h s σ hS hH
 obtain ⟨y1, hy1, h⟩ := bind_some h
 refine q_make (z := true) (e := 29) (by_ := 40) (x0 := ((⟨0, 0, ⟨#[]⟩, 0⟩ : DValue) : DValue)) (fun σ d => by simp [Enc.cells, DValue.cells, Iv]) rfl hS hH rfl rfl (by kernel_rfl) (by kernel_rfl) (by kernel_rfl) (by kernel_rfl) rfl hy1 ?_; intro t1 σ s ht1 hH hS
 refine t_bk h hS hH ?_
 refine t_N ?_
 refine t_RN ?_
 refine t_loop (fun st1 fr => Sub [(0, a0.t), (3, t1), (4, i4 st1.1)] fr.s ∧ Heap σ0 fr.σ [.own true 4 t1 st1.2.t]) (fun y2 e fr => e = (.exit 0) ∧ Sub [(3, t1)] fr.s ∧ Heap σ0 fr.σ [.own true 4 t1 y2.t]) (fun hS hH => And.intro (sub_to hS (by kernel_rfl)) hH) (fun st1 x fr h HI => ?_) fun y2 e fr h HF => ?_
 ·obtain ⟨s, σ⟩ := fr; obtain ⟨hS, hH⟩ := HI
  refine t_bk h hS hH ?_
  refine t_RN ?_
  refine t_if (fun hc1 => ?_) fun hc1 => ?_
  ·refine t_RU 4 ?_
   refine k_elt fun y3 rest1 hy3 => ?_
   refine t_U 1 ?_
   refine k_call fun y4 hy4 => ?_
   refine k_hidx 0 (fun hb1 hb1e y5 hy5 hl_hb1 => ?_)
   intro h s σ hS hH
   refine q_hstore (ents := []) (a := st1.2) (j := st1.1) (y := y5) (y' := (y4 : DValue)) (off := 0) (c := [i4 y5.Kind, i4 y5.Num, .str y5.Text, i4 y5.Ref]) (us := [i4 y4.Kind, i4 y4.Num, .str y4.Text, i4 y4.Ref]) (vs := [i4 y4.Kind, i4 y4.Num, .str y4.Text, i4 y4.Ref]) (v := .agg (DValue.cells y4)) rfl hS hH hl_hb1 rfl rfl rfl (by kernel_rfl) (by kernel_rfl) rfl hy5 rfl (HLi (HLi (HLs (HLi HL.nil)))) rfl (by kernel_rfl) ?_; intro σ s hH hS
   refine t_bk h hS hH ?_
   refine t_N ?_
   refine t_RN ?_
   exact t_e fun he hS hH => he ▸ And.intro (sub_to hS (by kernel_rfl)) hH
  exact t_e fun he hS hH => he ▸ And.intro rfl (And.intro (sub_to hS (by kernel_rfl)) hH)
 obtain ⟨s, σ⟩ := fr
 obtain ⟨rfl, hS, hH⟩ := HF
 refine t_bx h hS hH ?_
 refine t_RN ?_
 exact k_eO [t1] (rT rN)
noncomputable def B_laws_toValue (a0 : DValue) : Option DValue := (some a0)
theorem u_laws_toValue (a0 : DValue) (r : DValue) (h : B_laws_toValue a0 = some r) : F_laws_toValue a0 = some r := by
 unfold B_laws_toValue at h
 refine k_W ok_151 E_DValue_inj h (fun σ0 => ?_)
 refine t_R ?_
 refine k_box (fun b1 => ?_)
 refine k_alloc fun b2 => ?_
 refine t_N ?_
 refine t_R ?_
 refine k_alloc fun b3 => ?_
 refine t_N ?_
 refine t_RU 1 ?_
 refine k_load 2 ?_
 refine t_U 1 ?_
 refine k_store 0 ?_
 refine t_N ?_
 refine t_RU 1 ?_
 refine k_load 2 ?_
 refine t_U 1 ?_
 refine k_store 0 ?_
 refine t_N ?_
 refine t_RU 1 ?_
 refine k_load 2 ?_
 refine t_U 1 ?_
 refine k_store 0 ?_
 refine t_N ?_
 refine t_RU 1 ?_
 refine k_load 2 ?_
 refine t_U 1 ?_
 refine k_store 0 ?_
 refine t_N ?_
 refine t_R ?_
 refine k_load 0 ?_
 refine k_storeA 1 ?_
 refine t_N ?_
 exact k_eW (rC 0 rN) E_DValue_p
noncomputable def B_laws_eqValueS (a0 : (Sl DValue)) (a1 : (Sl DValue)) : Option Bool := (if ((!decide ((a0.l.length : Int) = (a1.l.length : Int)))) = true then (some false) else ((loopO (S := Int) (R := (Unit ⊕ Bool)) (fun st1 => (if (decide (st1 < (a0.l.length : Int))) = true then ((elt a0 st1).bind fun y2 => ((elt a1 st1).bind fun y3 => ((F_laws_eqValue y2 y3).bind fun y4 => (if (!y4) = true then (some (.inr (.inr false))) else (some (.inl (IntKind.i64.wrap (st1 + 1)))))))) else (some (.inr (.inl ()))))) 0).bind fun y1 => (Sum.elim (fun y1 => (some true)) (fun y1 => (some y1)) y1)))
theorem u_laws_eqValueS (a0 : (Sl DValue)) (a1 : (Sl DValue)) (r : Bool) (h : B_laws_eqValueS a0 a1 = some r) : F_laws_eqValueS a0 a1 = some r := by
 unfold B_laws_eqValueS at h
 refine k_W ok_152 E_bool_inj h (fun σ0 => ?_)
 refine t_RN ?_
 refine t_RN ?_
 refine t_if (fun hc1 => ?_) fun hc1 => ?_
 ·refine t_RN ?_
  exact k_eW (rT rN) E_bool_p
 refine t_RN ?_
 refine t_loop (fun st1 fr => Sub [(0, a0.t), (1, a1.t), (5, i4 st1)] fr.s ∧ Heap σ0 fr.σ []) (fun y1 e fr => (Sum.elim (fun y => e = (.exit 0) ∧ Sub [] fr.s ∧ Heap σ0 fr.σ []) (fun y => e = .ret ∧ endW Tryd.prog (Tryd.f152.results.toList) σ0 (E_bool y) .ret fr)) y1) (fun hS hH => And.intro (sub_to hS (by kernel_rfl)) hH) (fun st1 x fr h HI => ?_) fun y1 e fr h HF => ?_
 ·obtain ⟨s, σ⟩ := fr; obtain ⟨hS, hH⟩ := HI
  refine t_bk h hS hH ?_
  refine t_RN ?_
  refine t_if (fun hc2 => ?_) fun hc2 => ?_
  ·refine t_D fun mb => ?_
   refine t_U 2 ?_
   refine k_elt fun y2 rest1 hy2 => ?_
   refine t_U 3 ?_
   refine k_elt fun y3 rest2 hy3 => ?_
   refine t_U 1 ?_
   refine k_call fun y4 hy4 => ?_
   refine t_N ?_
   refine t_if (fun hc3 => ?_) fun hc3 => ?_
   ·refine t_RN ?_
    exact t_e fun he hS hH => he ▸ And.intro rfl (eW hS hH (rT rN) E_bool_p)
   refine t_RN ?_
   exact t_e fun he hS hH => he ▸ And.intro (sub_to hS (by kernel_rfl)) hH
  exact t_e fun he hS hH => he ▸ And.intro rfl (And.intro (sub_to hS (by kernel_rfl)) hH)
 obtain ⟨s, σ⟩ := fr
 rcases y1 with y1 | y1
 ·have h := el_l h
  obtain ⟨rfl, hS, hH⟩ := HF
  refine t_bx h hS hH ?_
  refine t_RN ?_
  exact k_eW (rT rN) E_bool_p
 have h := el_r h
 obtain ⟨rfl, HE⟩ := HF
 injection h with h; subst h; exact HE
noncomputable def B_laws_eqValue (a0 : DValue) (a1 : DValue) : Option Bool := (if (!decide (a0.Kind = a1.Kind)) = true then (some false) else (if (!decide (a0.Num = a1.Num)) = true then (some false) else (if (!decide (a0.Text = a1.Text)) = true then (some false) else (if (!decide (a0.Ref = a1.Ref)) = true then (some false) else (some true)))))
theorem u_laws_eqValue (a0 : DValue) (a1 : DValue) (r : Bool) (h : B_laws_eqValue a0 a1 = some r) : F_laws_eqValue a0 a1 = some r := by
 unfold B_laws_eqValue at h
 refine k_W ok_153 E_bool_inj h (fun σ0 => ?_)
 refine t_R ?_
 refine k_box (fun b1 => ?_)
 refine k_box (fun b2 => ?_)
 refine t_N ?_
 refine t_RU 1 ?_
 refine k_load 1 ?_
 refine t_U 1 ?_
 refine k_load 0 ?_
 refine t_N ?_
 refine t_if (fun hc1 => ?_) fun hc1 => ?_
 ·refine t_RN ?_
  exact k_eW (rT rN) E_bool_p
 refine t_RU 1 ?_
 refine k_load 1 ?_
 refine t_U 1 ?_
 refine k_load 0 ?_
 refine t_N ?_
 refine t_if (fun hc2 => ?_) fun hc2 => ?_
 ·refine t_RN ?_
  exact k_eW (rT rN) E_bool_p
 refine t_RU 1 ?_
 refine k_load 1 ?_
 refine t_U 1 ?_
 refine k_load 0 ?_
 refine t_N ?_
 refine t_if (fun hc3 => ?_) fun hc3 => ?_
 ·refine t_RN ?_
  exact k_eW (rT rN) E_bool_p
 refine t_RU 1 ?_
 refine k_load 1 ?_
 refine t_U 1 ?_
 refine k_load 0 ?_
 refine t_N ?_
 refine t_if (fun hc4 => ?_) fun hc4 => ?_
 ·refine t_RN ?_
  exact k_eW (rT rN) E_bool_p
 refine t_RN ?_
 exact k_eW (rT rN) E_bool_p
end Go.Am
