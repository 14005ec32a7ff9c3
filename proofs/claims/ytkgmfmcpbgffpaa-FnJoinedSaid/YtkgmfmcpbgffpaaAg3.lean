/- Functions of the program. -/
import Derived.Test.YtkgmfmcpbgffpaaAd0
import Derived.Test.YtkgmfmcpbgffpaaAg1
set_option maxRecDepth 100000
set_option maxHeartbeats 4000000
set_option linter.unusedVariables false
set_option linter.unusedSimpArgs false
namespace Go.Am
open Go.Proofs
noncomputable def dt_ (a0 : Int) (a1 : Int) (a2 : ByteArray) : Option Bool := (if (decide (a0 = 1)) = true then (if (decide (a1 = 0)) = true then ((a9_ a2).bind fun y1 => (some y1)) else (some false)) else ((fB_ a0).bind fun y2 => (if y2 = true then (if (decide (a1 = 0)) = true then (if (!decide (a2 = (⟨#[]⟩ : ByteArray))) = true then ((a9_ a2).bind fun y3 => (some y3)) else (some false)) else (some false)) else ((d0_ a0).bind fun y4 => (if y4 = true then (if (decide (a2 = (⟨#[]⟩ : ByteArray))) = true then ((b3_ a1 0 200).bind fun y5 => (some y5)) else (some false)) else ((eS_ a0).bind fun y6 => (if y6 = true then (if (decide (a1 = 0)) = true then ((ea_ a2).bind fun y7 => (some y7)) else (some false)) else ((cM_ a0).bind fun y8 => (if y8 = true then (if (decide (a1 = 0)) = true then (some (decide (a2 = (⟨#[]⟩ : ByteArray)))) else (some false)) else (some false))))))))))
theorem hz_ (a0 : Int) (a1 : Int) (a2 : ByteArray) (r : Bool) (h : dt_ a0 a1 a2 = some r) : du_ a0 a1 a2 = some r := by
 unfold dt_ at h
 refine k_W ok_134 E_bool_inj h (fun σ0 => ?_)
 refine t_RN ?_
 refine t_RN ?_
 refine t_if (fun hc1 => ?_) fun hc1 => ?_
 ·refine t_RU 3 ?_
  refine ay_ 12 (fun hc2 => ?_) fun hc2 => ?_
  ·refine t_U 1 ?_
   refine an_ fun y1 hy1 => ?_
   refine t_N ?_
   exact k_eW (rT rN) E_bool_p
  refine t_N ?_
  exact k_eW (rT rN) E_bool_p
 refine t_RU 1 ?_
 refine an_ fun y2 hy2 => ?_
 refine t_N ?_
 refine t_if (fun hc3 => ?_) fun hc3 => ?_
 ·refine t_RU 3 ?_
  refine ay_ 21 (fun hc4 => ?_) fun hc4 => ?_
  ·refine t_U 4 ?_
   refine ay_ 25 (fun hc5 => ?_) fun hc5 => ?_
   ·refine t_U 1 ?_
    refine an_ fun y3 hy3 => ?_
    refine t_N ?_
    exact k_eW (rT rN) E_bool_p
   refine t_N ?_
   exact k_eW (rT rN) E_bool_p
  refine t_N ?_
  exact k_eW (rT rN) E_bool_p
 refine t_RU 1 ?_
 refine an_ fun y4 hy4 => ?_
 refine t_N ?_
 refine t_if (fun hc6 => ?_) fun hc6 => ?_
 ·refine t_RU 3 ?_
  refine ay_ 34 (fun hc7 => ?_) fun hc7 => ?_
  ·refine t_U 1 ?_
   refine an_ fun y5 hy5 => ?_
   refine t_N ?_
   exact k_eW (rT rN) E_bool_p
  refine t_N ?_
  exact k_eW (rT rN) E_bool_p
 refine t_RU 1 ?_
 refine an_ fun y6 hy6 => ?_
 refine t_N ?_
 refine t_if (fun hc8 => ?_) fun hc8 => ?_
 ·refine t_RU 3 ?_
  refine ay_ 43 (fun hc9 => ?_) fun hc9 => ?_
  ·refine t_U 1 ?_
   refine an_ fun y7 hy7 => ?_
   refine t_N ?_
   exact k_eW (rT rN) E_bool_p
  refine t_N ?_
  exact k_eW (rT rN) E_bool_p
 refine t_RU 1 ?_
 refine an_ fun y8 hy8 => ?_
 refine t_U 1 ?_
 refine ay_ 49 (fun hc10 => ?_) fun hc10 => ?_
 ·refine t_U 4 ?_
  refine ay_ 53 (fun hc11 => ?_) fun hc11 => ?_
  ·refine t_N ?_
   exact k_eW (rT rN) E_bool_p
  refine t_N ?_
  exact k_eW (rT rN) E_bool_p
 refine t_N ?_
 exact k_eW (rT rN) E_bool_p
noncomputable def fK_ (a0 : Int) : Option Int := (((if (decide (a0 = 18)) = true then (some (decide (a0 = 18))) else (some (decide (a0 = 19)))) : Option Bool).bind fun y1 => (if y1 = true then (some 2) else (((if (decide (a0 = 20)) = true then (some (decide (a0 = 20))) else (if (decide (a0 = 21)) = true then (some (decide (a0 = 21))) else (some (decide (a0 = 22))))) : Option Bool).bind fun y2 => (if y2 = true then (some 1) else (some 0)))))
theorem ka_ (a0 : Int) (r : Int) (h : fK_ a0 = some r) : fv_ a0 = some r := by
 unfold fK_ at h
 refine k_W ok_135 E_i64_inj h (fun σ0 => ?_)
 refine t_RN ?_
 refine t_RN ?_
 refine t_RN ?_
 refine d4_ 0 (fun y1 e fr => e = .normal ∧ Sub [(3, i4 a0), (4, .bool y1)] fr.s ∧ Heap σ0 fr.σ []) (fun y1 e fr h HF => ?_) fun y1 => ?_
 ·obtain ⟨s, σ⟩ := fr
  obtain ⟨rfl, hS, hH⟩ := HF
  refine t_bx h hS hH ?_
  refine t_if (fun hc1 => ?_) fun hc1 => ?_
  ·refine t_RN ?_
   exact k_eW (rT rN) E_i64_p
  refine t_RN ?_
  refine d4_ 0 (fun y2 e fr => e = .normal ∧ Sub [(7, .bool y2)] fr.s ∧ Heap σ0 fr.σ []) (fun y2 e fr h HF => ?_) fun y2 => ?_
  ·obtain ⟨s, σ⟩ := fr
   obtain ⟨rfl, hS, hH⟩ := HF
   refine t_bx h hS hH ?_
   refine t_if (fun hc2 => ?_) fun hc2 => ?_
   ·refine t_RN ?_
    exact k_eW (rT rN) E_i64_p
   refine t_RN ?_
   exact k_eW (rT rN) E_i64_p
  refine t_if (fun hc3 => ?_) fun hc3 => ?_
  ·exact t_e fun he hS hH => he ▸ ⟨rfl, (ad_ hS (by kernel_rfl)), hH⟩
  refine t_RN ?_
  refine t_if (fun hc4 => ?_) fun hc4 => ?_
  ·exact t_e fun he hS hH => he ▸ ⟨rfl, (ad_ hS (by kernel_rfl)), hH⟩
  refine t_RN ?_
  exact t_e fun he hS hH => he ▸ ⟨rfl, (ad_ hS (by kernel_rfl)), hH⟩
 refine t_if (fun hc5 => ?_) fun hc5 => ?_
 ·exact t_e fun he hS hH => he ▸ ⟨rfl, (ad_ hS (by kernel_rfl)), hH⟩
 refine t_RN ?_
 exact t_e fun he hS hH => he ▸ ⟨rfl, (ad_ hS (by kernel_rfl)), hH⟩
noncomputable def eU_ (a0 : Int) : Option (ByteArray × ByteArray) := (if (decide (a0 = 2)) = true then (some (⟨#[97, 110, 121]⟩, ⟨#[115]⟩)) else (if (decide (a0 = 3)) = true then (some (⟨#[110, 111, 116, 97, 110, 121]⟩, ⟨#[115]⟩)) else (if (decide (a0 = 4)) = true then (some (⟨#[115, 112, 97, 110]⟩, ⟨#[115]⟩)) else (if (decide (a0 = 5)) = true then (some (⟨#[98, 114, 101, 97, 107]⟩, ⟨#[115]⟩)) else (if (decide (a0 = 6)) = true then (some (⟨#[108, 101, 110]⟩, ⟨#[110]⟩)) else (if (decide (a0 = 7)) = true then (some (⟨#[112, 111, 115]⟩, ⟨#[110]⟩)) else (if (decide (a0 = 8)) = true then (some (⟨#[114, 112, 111, 115]⟩, ⟨#[110]⟩)) else (if (decide (a0 = 9)) = true then (some (⟨#[116, 97, 98]⟩, ⟨#[110]⟩)) else (if (decide (a0 = 10)) = true then (some (⟨#[114, 116, 97, 98]⟩, ⟨#[110]⟩)) else (if (decide (a0 = 11)) = true then (some (⟨#[114, 101, 109]⟩, ⟨#[]⟩)) else (if (decide (a0 = 12)) = true then (some (⟨#[97, 114, 98]⟩, ⟨#[]⟩)) else (if (decide (a0 = 13)) = true then (some (⟨#[98, 97, 108]⟩, ⟨#[]⟩)) else (if (decide (a0 = 14)) = true then (some (⟨#[102, 101, 110, 99, 101]⟩, ⟨#[]⟩)) else (if (decide (a0 = 15)) = true then (some (⟨#[97, 98, 111, 114, 116]⟩, ⟨#[]⟩)) else (if (decide (a0 = 16)) = true then (some (⟨#[102, 97, 105, 108]⟩, ⟨#[]⟩)) else (if (decide (a0 = 17)) = true then (some (⟨#[115, 117, 99, 99, 101, 101, 100]⟩, ⟨#[]⟩)) else (if (decide (a0 = 18)) = true then (some (⟨#[97, 108, 116]⟩, ⟨#[112, 112]⟩)) else (if (decide (a0 = 19)) = true then (some (⟨#[99, 97, 116]⟩, ⟨#[112, 112]⟩)) else (if (decide (a0 = 20)) = true then (some (⟨#[97, 114, 98, 110, 111]⟩, ⟨#[112]⟩)) else (if (decide (a0 = 21)) = true then (some (⟨#[99, 111, 110, 100]⟩, ⟨#[112, 120]⟩)) else (if (decide (a0 = 22)) = true then (some (⟨#[110, 111, 119]⟩, ⟨#[112, 120]⟩)) else (if (decide (a0 = 23)) = true then (some (⟨#[99, 117, 114, 115, 111, 114]⟩, ⟨#[120]⟩)) else (if (decide (a0 = 24)) = true then (some (⟨#[100, 101, 102, 101, 114]⟩, ⟨#[120]⟩)) else (some (⟨#[]⟩, ⟨#[]⟩)))))))))))))))))))))))))
theorem i9_ (a0 : Int) (r : (ByteArray × ByteArray)) (h : eU_ a0 = some r) : gA_ a0 = some r := by
 unfold eU_ at h
 refine k_W ok_137 E_t2_str_str_inj h (fun σ0 => ?_)
 refine t_RN ?_
 refine t_RN ?_
 refine t_RN ?_
 refine t_if (fun hc1 => ?_) fun hc1 => ?_
 ·refine t_RN ?_
  exact k_eW (rT (rT rN)) E_t2_str_str_p
 refine t_RN ?_
 refine t_if (fun hc2 => ?_) fun hc2 => ?_
 ·refine t_RN ?_
  exact k_eW (rT (rT rN)) E_t2_str_str_p
 refine t_RN ?_
 refine t_if (fun hc3 => ?_) fun hc3 => ?_
 ·refine t_RN ?_
  exact k_eW (rT (rT rN)) E_t2_str_str_p
 refine t_RN ?_
 refine t_if (fun hc4 => ?_) fun hc4 => ?_
 ·refine t_RN ?_
  exact k_eW (rT (rT rN)) E_t2_str_str_p
 refine t_RN ?_
 refine t_if (fun hc5 => ?_) fun hc5 => ?_
 ·refine t_RN ?_
  exact k_eW (rT (rT rN)) E_t2_str_str_p
 refine t_RN ?_
 refine t_if (fun hc6 => ?_) fun hc6 => ?_
 ·refine t_RN ?_
  exact k_eW (rT (rT rN)) E_t2_str_str_p
 refine t_RN ?_
 refine t_if (fun hc7 => ?_) fun hc7 => ?_
 ·refine t_RN ?_
  exact k_eW (rT (rT rN)) E_t2_str_str_p
 refine t_RN ?_
 refine t_if (fun hc8 => ?_) fun hc8 => ?_
 ·refine t_RN ?_
  exact k_eW (rT (rT rN)) E_t2_str_str_p
 refine t_RN ?_
 refine t_if (fun hc9 => ?_) fun hc9 => ?_
 ·refine t_RN ?_
  exact k_eW (rT (rT rN)) E_t2_str_str_p
 refine t_RN ?_
 refine t_if (fun hc10 => ?_) fun hc10 => ?_
 ·refine t_RN ?_
  exact k_eW (rT (rT rN)) E_t2_str_str_p
 refine t_RN ?_
 refine t_if (fun hc11 => ?_) fun hc11 => ?_
 ·refine t_RN ?_
  exact k_eW (rT (rT rN)) E_t2_str_str_p
 refine t_RN ?_
 refine t_if (fun hc12 => ?_) fun hc12 => ?_
 ·refine t_RN ?_
  exact k_eW (rT (rT rN)) E_t2_str_str_p
 refine t_RN ?_
 refine t_if (fun hc13 => ?_) fun hc13 => ?_
 ·refine t_RN ?_
  exact k_eW (rT (rT rN)) E_t2_str_str_p
 refine t_RN ?_
 refine t_if (fun hc14 => ?_) fun hc14 => ?_
 ·refine t_RN ?_
  exact k_eW (rT (rT rN)) E_t2_str_str_p
 refine t_RN ?_
 refine t_if (fun hc15 => ?_) fun hc15 => ?_
 ·refine t_RN ?_
  exact k_eW (rT (rT rN)) E_t2_str_str_p
 refine t_RN ?_
 refine t_if (fun hc16 => ?_) fun hc16 => ?_
 ·refine t_RN ?_
  exact k_eW (rT (rT rN)) E_t2_str_str_p
 refine t_RN ?_
 refine t_if (fun hc17 => ?_) fun hc17 => ?_
 ·refine t_RN ?_
  exact k_eW (rT (rT rN)) E_t2_str_str_p
 refine t_RN ?_
 refine t_if (fun hc18 => ?_) fun hc18 => ?_
 ·refine t_RN ?_
  exact k_eW (rT (rT rN)) E_t2_str_str_p
 refine t_RN ?_
 refine t_if (fun hc19 => ?_) fun hc19 => ?_
 ·refine t_RN ?_
  exact k_eW (rT (rT rN)) E_t2_str_str_p
 refine t_RN ?_
 refine t_if (fun hc20 => ?_) fun hc20 => ?_
 ·refine t_RN ?_
  exact k_eW (rT (rT rN)) E_t2_str_str_p
 refine t_RN ?_
 refine t_if (fun hc21 => ?_) fun hc21 => ?_
 ·refine t_RN ?_
  exact k_eW (rT (rT rN)) E_t2_str_str_p
 refine t_RN ?_
 refine t_if (fun hc22 => ?_) fun hc22 => ?_
 ·refine t_RN ?_
  exact k_eW (rT (rT rN)) E_t2_str_str_p
 refine t_RN ?_
 refine t_if (fun hc23 => ?_) fun hc23 => ?_
 ·refine t_RN ?_
  exact k_eW (rT (rT rN)) E_t2_str_str_p
 refine t_RN ?_
 exact k_eW (rT (rT rN)) E_t2_str_str_p
noncomputable def e5_ (a0 : DPattern) : Option Bool := ((c2_ a0.Kind 1 24).bind fun y1 => (if (!y1) = true then (some false) else ((cr_ a0.Kind).bind fun y2 => (if (!decide ((a0.Kids.l.length : Int) = y2.1)) = true then (some false) else (if (decide (y2.2 = (⟨#[115]⟩ : ByteArray))) = true then (if (decide (a0.Num = 0)) = true then (if (decide ((a0.Text.size : Int) ≤ 200)) = true then (if (decide (a0.Kind = 1)) = true then (some true) else (some (!decide (a0.Text = (⟨#[]⟩ : ByteArray))))) else (some false)) else (some false)) else (if (decide (y2.2 = (⟨#[110]⟩ : ByteArray))) = true then (if (decide (a0.Text = (⟨#[]⟩ : ByteArray))) = true then ((c2_ a0.Num 0 200).bind fun y3 => (some y3)) else (some false)) else (if (decide (y2.2 = (⟨#[120]⟩ : ByteArray))) = true then (if (decide (a0.Num = 0)) = true then ((fD_ a0.Text).bind fun y4 => (some y4)) else (some false)) else (if (decide (a0.Num = 0)) = true then (some (decide (a0.Text = (⟨#[]⟩ : ByteArray)))) else (some false)))))))))
theorem jb_ (a0 : DPattern) (r : Bool) (h : e5_ a0 = some r) : e4_ a0 = some r := by
 unfold e5_ at h
 refine k_W ok_140 E_bool_inj h (fun σ0 => ?_)
 refine t_R ?_
 refine cm_ (fun b1 => ?_)
 refine t_N ?_
 refine t_RU 1 ?_
 refine ab_ 0 ?_
 refine an_ fun y1 hy1 => ?_
 refine t_N ?_
 refine t_if (fun hc1 => ?_) fun hc1 => ?_
 ·refine t_RN ?_
  exact k_eW (rT rN) E_bool_p
 refine t_RU 1 ?_
 refine ab_ 0 ?_
 refine an_ fun y2 hy2 => ?_
 refine t_N ?_
 refine t_RU 1 ?_
 refine ab_ 0 ?_
 refine t_N ?_
 refine t_if (fun hc2 => ?_) fun hc2 => ?_
 ·refine t_RN ?_
  exact k_eW (rT rN) E_bool_p
 refine t_RN ?_
 refine t_RN ?_
 refine t_if (fun hc3 => ?_) fun hc3 => ?_
 ·refine t_RU 1 ?_
  refine ab_ 0 ?_
  refine t_U 2 ?_
  refine ay_ 26 (fun hc4 => ?_) fun hc4 => ?_
  ·refine t_U 1 ?_
   refine ab_ 0 ?_
   refine t_U 4 ?_
   refine ay_ 32 (fun hc5 => ?_) fun hc5 => ?_
   ·refine t_U 1 ?_
    refine ab_ 0 ?_
    refine t_U 2 ?_
    refine ay_ 36 (fun hc6 => ?_) fun hc6 => ?_
    ·refine t_N ?_
     exact k_eW (rT rN) E_bool_p
    refine t_U 1 ?_
    refine ab_ 0 ?_
    refine t_N ?_
    exact k_eW (rT rN) E_bool_p
   refine t_N ?_
   exact k_eW (rT rN) E_bool_p
  refine t_N ?_
  exact k_eW (rT rN) E_bool_p
 refine t_RN ?_
 refine t_if (fun hc7 => ?_) fun hc7 => ?_
 ·refine t_RU 1 ?_
  refine ab_ 0 ?_
  refine t_U 2 ?_
  refine ay_ 47 (fun hc8 => ?_) fun hc8 => ?_
  ·refine t_U 1 ?_
   refine ab_ 0 ?_
   refine an_ fun y3 hy3 => ?_
   refine t_N ?_
   exact k_eW (rT rN) E_bool_p
  refine t_N ?_
  exact k_eW (rT rN) E_bool_p
 refine t_RN ?_
 refine t_if (fun hc9 => ?_) fun hc9 => ?_
 ·refine t_RU 1 ?_
  refine ab_ 0 ?_
  refine t_U 2 ?_
  refine ay_ 57 (fun hc10 => ?_) fun hc10 => ?_
  ·refine t_U 1 ?_
   refine ab_ 0 ?_
   refine an_ fun y4 hy4 => ?_
   refine t_N ?_
   exact k_eW (rT rN) E_bool_p
  refine t_N ?_
  exact k_eW (rT rN) E_bool_p
 refine t_RU 1 ?_
 refine ab_ 0 ?_
 refine t_U 2 ?_
 refine ay_ 65 (fun hc11 => ?_) fun hc11 => ?_
 ·refine t_U 1 ?_
  refine ab_ 0 ?_
  refine t_N ?_
  exact k_eW (rT rN) E_bool_p
 refine t_N ?_
 exact k_eW (rT rN) E_bool_p
noncomputable def cT_ (a0 : (Sl DNamed)) (a1 : T) : Option Bool := (if flat1 a1 = true then ((az_ (S := Int) (R := (Unit ⊕ Bool)) (fun st1 => (if (decide (st1 < (a0.l.length : Int))) = true then ((elt a0 st1).bind fun y2 => ((g5_ Try.prog md ext E_bool a1 [.agg (DNamed.cells y2)]).bind fun y3 => (if (!y3) = true then (some (.inr (.inr false))) else (some (.inl (w4 (st1 + 1))))))) else (some (.inr (.inl ()))))) 0).bind fun y1 => (Sum.elim (fun y1 => (some true)) (fun y1 => (some y1)) y1)) else none)
theorem gS_ (a0 : (Sl DNamed)) (a1 : T) (r : Bool) (h : cT_ a0 a1 = some r) : cX_ a0 a1 = some r := by
 unfold cT_ at h
 obtain ⟨hf_a1, h⟩ := hs_ h
 refine k_W ok_141 E_bool_inj h (fun σ0 => ?_) (hf := (all_cons (by kernel_rfl) (all_cons (h9_ hf_a1) all_nil)))
 refine t_RN ?_
 refine t_RN ?_
 refine bv_ (fun st1 fr => Sub [(1, a1), (7, a0.t), (8, i4 (a0.l.length : Int)), (9, i4 st1)] fr.s ∧ Heap σ0 fr.σ []) (fun y1 e fr => (Sum.elim (fun y => e = (.exit 0) ∧ Sub [] fr.s ∧ Heap σ0 fr.σ []) (fun y => e = .ret ∧ endW Try.prog (Try.f141.results.toList) σ0 (E_bool y) .ret fr)) y1) (fun hS hH => ⟨(ad_ hS (by kernel_rfl)), hH⟩) (fun st1 x fr h HI => ?_) fun y1 e fr h HF => ?_
 ·obtain ⟨s, σ⟩ := fr; obtain ⟨hS, hH⟩ := HI
  refine t_bk h hS hH ?_
  refine t_RN ?_
  refine t_if (fun hc1 => ?_) fun hc1 => ?_
  ·refine t_R ?_
   refine cA_ fun y2 rest1 hy2 => ?_
   refine t_U 1 ?_
   refine a2_ fun b1 => ?_
   refine af_ 0 ?_
   refine t_N ?_
   refine t_RU 1 ?_
   refine ab_ 0 ?_
   refine kA_ fun y3 hy3 => ?_
   refine t_N ?_
   refine t_if (fun hc2 => ?_) fun hc2 => ?_
   ·refine t_RN ?_
    exact t_e fun he hS hH => he ▸ ⟨rfl, (eW hS hH (rT rN) E_bool_p)⟩
   refine t_RN ?_
   exact t_e fun he hS hH => he ▸ ⟨(ad_ hS (by kernel_rfl)), (Heap.sel hH [] rfl (by kernel_rfl))⟩
  exact t_e fun he hS hH => he ▸ ⟨rfl, (ad_ hS (by kernel_rfl)), hH⟩
 obtain ⟨s, σ⟩ := fr
 rcases y1 with y1 | y1
 ·have h := el_l h
  obtain ⟨rfl, hS, hH⟩ := HF
  refine t_bx h hS hH ?_
  refine t_RN ?_
  exact k_eW (rT rN) E_bool_p
 have h := el_r h
 obtain ⟨rfl, HE⟩ := HF
 obtain rfl := si_1 h; exact HE
noncomputable def dz_ (a0 : DNamed) : Option Bool := ((ea_ a0.Name).bind fun y1 => (if y1 = true then ((aW_ a0.Pattern).bind fun y2 => (some y2)) else (some false)))
theorem hH_ (a0 : DNamed) (r : Bool) (h : dz_ a0 = some r) : dA_ a0 = some r := by
 unfold dz_ at h
 refine k_W ok_142 E_bool_inj h (fun σ0 => ?_)
 refine t_R ?_
 refine cm_ (fun b1 => ?_)
 refine t_N ?_
 refine t_RU 1 ?_
 refine ab_ 0 ?_
 refine an_ fun y1 hy1 => ?_
 refine t_U 1 ?_
 refine ay_ 6 (fun hc1 => ?_) fun hc1 => ?_
 ·refine t_U 1 ?_
  refine ab_ 0 ?_
  refine an_ fun y2 hy2 => ?_
  refine t_N ?_
  exact k_eW (rT rN) E_bool_p
 refine t_N ?_
 exact k_eW (rT rN) E_bool_p
noncomputable def fz_ (a0 : ByteArray) : Option Bool := (if (decide (1 ≤ (a0.size : Int))) = true then (if (decide ((a0.size : Int) ≤ 12)) = true then ((aP_ a0 0).bind fun y1 => ((dh_ y1).bind fun y2 => (if y2 = true then ((ls_ a0).bind fun y3 => ((eQ_ y3 (T.fn 171 [] [])).bind fun y4 => (some y4))) else (some false)))) else (some false)) else (some false))
theorem kq_ (a0 : ByteArray) (r : Bool) (h : fz_ a0 = some r) : ea_ a0 = some r := by
 unfold fz_ at h
 refine k_W ok_143 E_bool_inj h (fun σ0 => ?_)
 refine t_RN ?_
 refine t_RU 4 ?_
 refine ay_ 6 (fun hc1 => ?_) fun hc1 => ?_
 ·refine t_U 5 ?_
  refine ay_ 11 (fun hc2 => ?_) fun hc2 => ?_
  ·refine t_U 1 ?_
   refine dP_ fun y1 hy1 => ?_
   refine an_ fun y2 hy2 => ?_
   refine t_U 2 ?_
   refine ay_ 16 (fun hc3 => ?_) fun hc3 => ?_
   ·refine t_U 1 ?_
    intro h s σ hS hH
    obtain ⟨y3, hy3, h⟩ := bind_some h
    refine vz_ (e := 5) rfl hS hH rfl (by kernel_rfl) (by kernel_rfl) (by kernel_rfl) hy3 ?_; intro t1 σ s ht1 hH hS
    refine t_bk h hS hH ?_
    refine oV_ (fun y4 hy4 => ?_) (hh := by exact HC.of (HL.own rfl (HL.leaf (fun σ d => nn_ (by first | assumption | rfl)) HL.nil)))
    refine t_N ?_
    exact k_eW (rT rN) E_bool_p
   refine t_N ?_
   exact k_eW (rT rN) E_bool_p
  refine t_N ?_
  exact k_eW (rT rN) E_bool_p
 refine t_N ?_
 exact k_eW (rT rN) E_bool_p
noncomputable def d6_ (a0 : (Sl DNamed)) (a1 : ByteArray) : Option (DPattern × Bool) := ((((az_ (S := Int) (R := (Unit ⊕ Int)) (fun st1 => (if (decide (st1 < (a0.l.length : Int))) = true then ((elt a0 st1).bind fun y3 => (if (decide (y3.Name = a1)) = true then (some (.inr (.inr st1))) else (some (.inl (w4 (st1 + 1)))))) else (some (.inr (.inl ()))))) 0).bind fun y2 => (Sum.elim (fun y2 => (some (-1))) (fun y2 => (some y2)) y2)) : Option Int).bind fun y1 => (if (decide (y1 < 0)) = true then (some ((⟨0, 0, ⟨#[]⟩, ⟨true, []⟩⟩ : DPattern), false)) else ((elt a0 y1).bind fun y4 => (some (y4.Pattern, true)))))
theorem gV_ (a0 : (Sl DNamed)) (a1 : ByteArray) (r : (DPattern × Bool)) (h : d6_ a0 a1 = some r) : eb_ a0 a1 = some r := by
 unfold d6_ at h
 refine k_W ok_144 E_t2_DPattern_bool_inj h (fun σ0 => ?_)
 refine t_R ?_
 refine cm_ (fun b1 => ?_)
 refine a2_ fun b2 => ?_
 refine t_N ?_
 refine t_RU 2 ?_
 refine jJ_ (fun y1 s σ => Sub [(0, a0.t), (4, .ptr b2 0 0 4), (9, i4 y1)] s ∧ Heap σ0 σ [.box b2 [i4 0, i4 0, .str ⟨#[]⟩, (nt DPattern)]]) ok_148 (fun y1 => ?_) fun y1 s σ HF h => ?_
 ·refine t_RN ?_
  refine t_RN ?_
  refine bv_ (fun st1 fr => Sub [(0, a0.t), (1, T.fn 172 [] [.ptr b1 0 0 1]), (7, i4 (a0.l.length : Int)), (8, i4 st1)] fr.s ∧ Heap σ0 fr.σ [.box b2 [i4 0, i4 0, .str ⟨#[]⟩, (nt DPattern)], .box b1 [.str a1]]) (fun y2 e fr => (Sum.elim (fun y => e = (.exit 0) ∧ Sub [] fr.s ∧ Heap σ0 fr.σ [.box b2 [i4 0, i4 0, .str ⟨#[]⟩, (nt DPattern)]]) (fun y => e = .ret ∧ Sub [(4, i4 y)] fr.s ∧ Heap σ0 fr.σ [.box b2 [i4 0, i4 0, .str ⟨#[]⟩, (nt DPattern)]])) y2) (fun hS hH => ⟨(ad_ hS (by kernel_rfl)), hH⟩) (fun st1 x fr h HI => ?_) fun y2 e fr h HF => ?_
  ·obtain ⟨s, σ⟩ := fr; obtain ⟨hS, hH⟩ := HI
   refine t_bk h hS hH ?_
   refine t_RN ?_
   refine t_if (fun hc1 => ?_) fun hc1 => ?_
   ·refine t_RN ?_
    refine t_RU 3 ?_
    refine cA_ fun y3 rest1 hy3 => ?_
    refine t_U 1 ?_
    refine fP_ ok_172 ?_
    refine t_R ?_
    refine cm_ (fun b3 => ?_)
    refine t_N ?_
    refine t_RU 1 ?_
    refine ab_ 0 ?_
    refine ab_ 2 ?_
    refine t_N ?_
    refine k_eI (rT rN) ?_
    refine t_N ?_
    refine t_if (fun hc2 => ?_) fun hc2 => ?_
    ·refine t_RN ?_
     exact t_e fun he hS hH => he ▸ ⟨rfl, (ad_ hS (by kernel_rfl)), (Heap.sel hH [1] rfl (by kernel_rfl))⟩
    refine t_RN ?_
    exact t_e fun he hS hH => he ▸ ⟨(ad_ hS (by kernel_rfl)), (Heap.sel hH [1, 2] rfl (by kernel_rfl))⟩
   exact t_e fun he hS hH => he ▸ ⟨rfl, (ad_ hS (by kernel_rfl)), (Heap.sel hH [0] rfl (by kernel_rfl))⟩
  obtain ⟨s, σ⟩ := fr
  rcases y2 with y2 | y2
  ·have h := el_l h
   obtain ⟨rfl, hS, hH⟩ := HF
   refine t_bx h hS hH ?_
   refine t_RN ?_
   exact fO_ (rT rN) fun he hS hH => he ▸ ⟨(ad_ hS (by kernel_rfl)), hH⟩
  have h := el_r h
  obtain ⟨rfl, hS, hH⟩ := HF
  refine t_bx h hS hH ?_
  exact fO_ (rT rN) fun he hS hH => he ▸ ⟨(ad_ hS (by kernel_rfl)), hH⟩
 obtain ⟨hS, hH⟩ := HF
 refine t_bk h hS hH ?_
 refine t_N ?_
 refine t_RN ?_
 refine t_if (fun hc3 => ?_) fun hc3 => ?_
 ·refine t_RU 1 ?_
  refine af_ 0 ?_
  refine t_N ?_
  exact k_eW (rC 0 (rT rN)) E_t2_DPattern_bool_p
 refine t_RU 2 ?_
 refine cA_ fun y4 rest2 hy4 => ?_
 refine t_U 2 ?_
 refine af_ 0 ?_
 refine t_N ?_
 exact k_eW (rC 0 (rT rN)) E_t2_DPattern_bool_p
noncomputable def ee_ (a0 : ByteArray) (a1 : Int) (a2 : Int) : Option Int := ((az_ (S := (Int × Int)) (R := (Unit ⊕ Int)) (fun st1 => (if (decide (st1.2 < (a0.size : Int))) = true then ((aP_ a0 st1.2).bind fun y2 => (((if (decide (y2 = 40)) = true then (some (w4 (st1.1 + 1))) else (if (decide (y2 = 41)) = true then (some (w4 (st1.1 - 1))) else (some st1.1))) : Option Int).bind fun y3 => (if (decide (y3 < 0)) = true then (some (.inr (.inr (-1)))) else (if (decide (y3 = 0)) = true then (if (decide (a2 < (w4 (st1.2 + 1)))) = true then (some (.inr (.inr (w4 (st1.2 + 1))))) else (some (.inl (y3, (w4 (st1.2 + 1)))))) else (some (.inl (y3, (w4 (st1.2 + 1))))))))) else (some (.inr (.inl ()))))) (0, a1)).bind fun y1 => (Sum.elim (fun y1 => (some (-1))) (fun y1 => (some y1)) y1))
theorem iD_ (a0 : ByteArray) (a1 : Int) (a2 : Int) (r : Int) (h : ee_ a0 a1 a2 = some r) : aU_ a0 a1 a2 = some r := by
 unfold ee_ at h
 refine k_W ok_146 E_i64_inj h (fun σ0 => ?_)
 refine t_RN ?_
 refine t_RN ?_
 refine t_RN ?_
 refine bv_ (fun st1 fr => Sub [(0, .str a0), (2, i4 a2), (7, i4 st1.1), (8, i4 st1.2)] fr.s ∧ Heap σ0 fr.σ []) (fun y1 e fr => (Sum.elim (fun y => e = (.exit 0) ∧ Sub [] fr.s ∧ Heap σ0 fr.σ []) (fun y => e = .ret ∧ endW Try.prog (Try.f146.results.toList) σ0 (E_i64 y) .ret fr)) y1) (fun hS hH => ⟨(ad_ hS (by kernel_rfl)), hH⟩) (fun st1 x fr h HI => ?_) fun y1 e fr h HF => ?_
 ·obtain ⟨s, σ⟩ := fr; obtain ⟨hS, hH⟩ := HI
  refine t_bk h hS hH ?_
  refine t_RN ?_
  refine t_if (fun hc1 => ?_) fun hc1 => ?_
  ·refine t_RU 2 ?_
   refine dP_ fun y2 hy2 => ?_
   refine t_N ?_
   refine d4_ 2 (fun y3 e fr => e = .normal ∧ Sub [(0, .str a0), (2, i4 a2), (7, i4 y3), (8, i4 st1.2)] fr.s ∧ Heap σ0 fr.σ []) (fun y3 e fr h HF => ?_) fun y3 => ?_
   ·obtain ⟨s, σ⟩ := fr
    obtain ⟨rfl, hS, hH⟩ := HF
    refine t_bx h hS hH ?_
    refine t_RN ?_
    refine t_if (fun hc2 => ?_) fun hc2 => ?_
    ·refine t_RN ?_
     exact t_e fun he hS hH => he ▸ ⟨rfl, (eW hS hH (rT rN) E_i64_p)⟩
    refine t_RU 3 ?_
    refine ay_ 31 (fun hc3 => ?_) fun hc3 => ?_
    ·refine t_N ?_
     refine t_if (fun hc4 => ?_) fun hc4 => ?_
     ·refine t_RN ?_
      exact t_e fun he hS hH => he ▸ ⟨rfl, (eW hS hH (rT rN) E_i64_p)⟩
     refine t_RN ?_
     exact t_e fun he hS hH => he ▸ ⟨(ad_ hS (by kernel_rfl)), hH⟩
    refine t_N ?_
    refine t_cF ff_ne ?_
    refine t_RN ?_
    exact t_e fun he hS hH => he ▸ ⟨(ad_ hS (by kernel_rfl)), hH⟩
   refine t_RN ?_
   refine t_if (fun hc5 => ?_) fun hc5 => ?_
   ·refine t_RN ?_
    exact t_e fun he hS hH => he ▸ ⟨rfl, (ad_ hS (by kernel_rfl)), hH⟩
   refine t_RN ?_
   refine t_if (fun hc6 => ?_) fun hc6 => ?_
   ·refine t_RN ?_
    exact t_e fun he hS hH => he ▸ ⟨rfl, (ad_ hS (by kernel_rfl)), hH⟩
   exact t_e fun he hS hH => he ▸ ⟨rfl, (ad_ hS (by kernel_rfl)), hH⟩
  exact t_e fun he hS hH => he ▸ ⟨rfl, (ad_ hS (by kernel_rfl)), hH⟩
 obtain ⟨s, σ⟩ := fr
 rcases y1 with y1 | y1
 ·have h := el_l h
  obtain ⟨rfl, hS, hH⟩ := HF
  refine t_bx h hS hH ?_
  refine t_RN ?_
  exact k_eW (rT rN) E_i64_p
 have h := el_r h
 obtain ⟨rfl, HE⟩ := HF
 obtain rfl := si_1 h; exact HE

noncomputable def b0_ (a0 : Int) (a1 : Int) (a2 : ByteArray) (a3 : ByteArray) (a4 : Int) : Option Int := (((((if (decide (a0 = 1)) = true then ((subB a3 a4 (a3.size : Int)).bind fun y3 => ((cV_ y3 a2).bind fun y4 => (if y4 = true then (some (.inr (w4 (a4 + (a2.size : Int))))) else (some (.inl ()))))) else (((if (decide (a0 = 2)) = true then (some (decide (a0 = 2))) else (some (decide (a0 = 3)))) : Option Bool).bind fun y5 => (if y5 = true then (if (decide (a4 < (a3.size : Int))) = true then ((aP_ a3 a4).bind fun y6 => ((bt_ y6 a2).bind fun y7 => (if (y7 == (decide (a0 = 2))) = true then (some (.inr (w4 (a4 + 1)))) else (some (.inl ()))))) else (some (.inl ()))) else (if (decide (a0 = 4)) = true then ((az_ (S := Int) (R := Int) (fun st1 => (if (decide (st1 < (a3.size : Int))) = true then ((aP_ a3 st1).bind fun y9 => ((bt_ y9 a2).bind fun y10 => (if y10 = true then (some (.inl (w4 (st1 + 1)))) else (some (.inr st1))))) else (some (.inr st1)))) a4).bind fun y8 => (if (decide (0 < (w4 (y8 - a4)))) = true then (some (.inr (w4 (a4 + (w4 (y8 - a4)))))) else (some (.inl ())))) else (if (decide (a0 = 5)) = true then ((az_ (S := Int) (R := Int) (fun st2 => (if (decide (st2 < (a3.size : Int))) = true then ((aP_ a3 st2).bind fun y12 => ((bt_ y12 a2).bind fun y13 => (if (!y13) = true then (some (.inl (w4 (st2 + 1)))) else (some (.inr st2))))) else (some (.inr st2)))) a4).bind fun y11 => (if ((decide ((w4 (a4 + (w4 (y11 - a4)))) < (a3.size : Int)))) = true then (some (.inr (w4 (a4 + (w4 (y11 - a4)))))) else (some (.inl ())))) else (if (decide (a0 = 6)) = true then (if ((decide ((w4 (a4 + a1)) ≤ (a3.size : Int)))) = true then (some (.inr (w4 (a4 + a1)))) else (some (.inl ()))) else (((if (decide (a0 = 7)) = true then (some (decide (a0 = 7))) else (some (decide (a0 = 8)))) : Option Bool).bind fun y14 => (if y14 = true then ((dJ_ a1 (a3.size : Int) (decide (a0 = 8))).bind fun y15 => (if (decide (a4 = y15)) = true then (some (.inr a4)) else (some (.inl ())))) else (((if (decide (a0 = 9)) = true then (some (decide (a0 = 9))) else (some (decide (a0 = 10)))) : Option Bool).bind fun y16 => (if y16 = true then ((dJ_ a1 (a3.size : Int) (decide (a0 = 10))).bind fun y17 => (if (decide (a4 ≤ y17)) = true then (if (decide (y17 ≤ (a3.size : Int))) = true then (some (.inr y17)) else (some (.inl ()))) else (some (.inl ())))) else (if (decide (a0 = 11)) = true then (some (.inr (a3.size : Int))) else (some (.inl ()))))))))))))) : Option (Unit ⊕ Int)).bind fun y2 => (Sum.elim (fun y2 => (some (.inl ()))) (fun y2 => (some (.inr y2))) y2)) : Option (Unit ⊕ Int)).bind fun y1 => (Sum.elim (fun y1 => (some (-1))) (fun y1 => (some y1)) y1))
theorem c8_ (a0 : Int) (a1 : Int) (a2 : ByteArray) (a3 : ByteArray) (a4 : Int) (r : Int) (h : b0_ a0 a1 a2 a3 a4 = some r) : aL_ a0 a1 a2 a3 a4 = some r := by
 unfold b0_ at h
 refine k_W ok_152 E_i64_inj h (fun σ0 => ?_)
 refine t_R ?_
 refine cm_ (fun b1 => ?_)
 refine t_N ?_
 refine t_RN ?_
 refine t_RU 1 ?_
 refine a2_ fun b2 => ?_
 refine a6_ 0 ?_
 refine t_N ?_
 refine t_RN ?_
 refine d4_ 2 (fun y1 e fr => (Sum.elim (fun y => e = .normal ∧ Sub [] fr.s ∧ Heap σ0 fr.σ []) (fun y => e = .ret ∧ endW Try.prog (Try.f152.results.toList) σ0 (E_i64 y) .ret fr)) y1) (fun y1 e fr h HF => ?_) fun y1 => ?_
 ·obtain ⟨s, σ⟩ := fr
  rcases y1 with y1 | y1
  ·have h := el_l h
   obtain ⟨rfl, hS, hH⟩ := HF
   refine t_bx h hS hH ?_
   refine t_RN ?_
   exact k_eW (rT rN) E_i64_p
  have h := el_r h
  obtain ⟨rfl, HE⟩ := HF
  obtain rfl := si_1 h; exact HE
 refine t_RN ?_
 refine d4_ 0 (fun y2 e fr => (Sum.elim (fun y => e = .normal ∧ Sub [] fr.s ∧ Heap σ0 fr.σ []) (fun y => e = .ret ∧ endW Try.prog (Try.f152.results.toList) σ0 (E_i64 y) .ret fr)) y2) (fun y2 e fr h HF => ?_) fun y2 => ?_
 ·obtain ⟨s, σ⟩ := fr
  rcases y2 with y2 | y2
  ·have h := el_l h
   obtain ⟨rfl, hS, hH⟩ := HF
   refine t_bx h hS hH ?_
   exact t_e fun he hS hH => he ▸ ⟨rfl, (ad_ hS (by kernel_rfl)), hH⟩
  have h := el_r h
  obtain ⟨rfl, HE⟩ := HF
  obtain rfl := si_1 h; exact ⟨rfl, HE⟩
 refine t_if (fun hc1 => ?_) fun hc1 => ?_
 ·refine t_D fun mb => ?_
  refine t_U 2 ?_
  refine lk_ fun y3 hy3 => ?_
  refine ab_ 1 ?_
  refine an_ fun y4 hy4 => ?_
  refine t_N ?_
  refine t_if (fun hc2 => ?_) fun hc2 => ?_
  ·refine t_RU 1 ?_
   refine ab_ 1 ?_
   refine t_N ?_
   exact t_e fun he hS hH => he ▸ ⟨rfl, (eW hS hH (rT rN) E_i64_p)⟩
  exact t_e fun he hS hH => he ▸ ⟨rfl, (ad_ hS (by kernel_rfl)), (Heap.sel hH [] rfl (by kernel_rfl))⟩
 refine t_RN ?_
 refine d4_ 0 (fun y5 e fr => e = .normal ∧ Sub [(0, i4 a0), (3, .str a3), (4, i4 a4), (11, i4 (a3.size : Int)), (12, i4 a1), (13, .ptr b2 0 0 1), (21, i4 a0), (33, .bool y5)] fr.s ∧ Heap σ0 fr.σ [.box b2 [T.fn 176 [] [.ptr b1 0 0 1]], .box b1 [.str a2]]) (fun y5 e fr h HF => ?_) fun y5 => ?_
 ·obtain ⟨s, σ⟩ := fr
  obtain ⟨rfl, hS, hH⟩ := HF
  refine t_bx h hS hH ?_
  refine t_if (fun hc3 => ?_) fun hc3 => ?_
  ·refine t_D fun mb => ?_
   refine t_U 4 ?_
   refine ay_ 39 (fun hc4 => ?_) fun hc4 => ?_
   ·refine ab_ 0 ?_
    refine t_U 2 ?_
    refine dP_ fun y6 hy6 => ?_
    intro h s σ hS hH
    obtain ⟨y7, hy7, h⟩ := bind_some h
    refine jZ_ (xs := [.int .u8 y6]) (cs := [[.str a2]]) [b1] rfl hS rfl rfl rfl (⟨(Heap.lent (hH.at 1 rfl)), trivial⟩) hy7 ?_ rfl; intro s hS
    refine t_bk h hS hH ?_
    refine t_N ?_
    refine t_if (fun hc5 => ?_) fun hc5 => ?_
    ·refine t_RN ?_
     exact t_e fun he hS hH => he ▸ ⟨rfl, (eW hS hH (rT rN) E_i64_p)⟩
    exact t_e fun he hS hH => he ▸ ⟨rfl, (ad_ hS (by kernel_rfl)), (Heap.sel hH [] rfl (by kernel_rfl))⟩
   refine t_N ?_
   refine t_cF ff_ne ?_
   exact t_e fun he hS hH => he ▸ ⟨rfl, (ad_ hS (by kernel_rfl)), (Heap.sel hH [] rfl (by kernel_rfl))⟩
  refine t_RN ?_
  refine t_if (fun hc6 => ?_) fun hc6 => ?_
  ·refine t_RU 2 ?_
   refine ab_ 0 ?_
   refine fP_ ok_179 ?_
   refine t_RN ?_
   refine t_RN ?_
   refine bv_ (fun st1 fr => Sub [(0, .str a3), (1, i4 a4), (2, T.fn 176 [] [.ptr b1 0 0 1]), (7, i4 st1)] fr.s ∧ Heap σ0 fr.σ [.box b1 [.str a2]]) (fun y8 e fr => e = (.exit 0) ∧ Sub [(1, i4 a4), (7, i4 y8)] fr.s ∧ Heap σ0 fr.σ []) (fun hS hH => ⟨(ad_ hS (by kernel_rfl)), (Heap.sel hH [1] rfl (by kernel_rfl))⟩) (fun st1 x fr h HI => ?_) fun y8 e fr h HF => ?_
   ·obtain ⟨s, σ⟩ := fr; obtain ⟨hS, hH⟩ := HI
    refine t_bk h hS hH ?_
    refine t_RU 5 ?_
    refine ay_ 13 (fun hc7 => ?_) fun hc7 => ?_
    ·refine t_U 3 ?_
     refine dP_ fun y9 hy9 => ?_
     intro h s σ hS hH
     obtain ⟨y10, hy10, h⟩ := bind_some h
     refine jZ_ (xs := [.int .u8 y9]) (cs := [[.str a2]]) [b1] rfl hS rfl rfl rfl (⟨(Heap.lent hH), trivial⟩) hy10 ?_ rfl; intro s hS
     refine t_bk h hS hH ?_
     refine t_N ?_
     refine t_if (fun hc8 => ?_) fun hc8 => ?_
     ·refine t_RN ?_
      exact t_e fun he hS hH => he ▸ ⟨(ad_ hS (by kernel_rfl)), hH⟩
     exact t_e fun he hS hH => he ▸ ⟨rfl, (ad_ hS (by kernel_rfl)), (Heap.sel hH [] rfl (by kernel_rfl))⟩
    refine t_N ?_
    refine t_cF ff_ne ?_
    exact t_e fun he hS hH => he ▸ ⟨rfl, (ad_ hS (by kernel_rfl)), (Heap.sel hH [] rfl (by kernel_rfl))⟩
   obtain ⟨s, σ⟩ := fr
   obtain ⟨rfl, hS, hH⟩ := HF
   refine t_bx h hS hH ?_
   refine t_RN ?_
   refine k_eI (rT rN) ?_
   refine t_N ?_
   refine t_RN ?_
   refine t_if (fun hc9 => ?_) fun hc9 => ?_
   ·refine t_RN ?_
    exact t_e fun he hS hH => he ▸ ⟨rfl, (eW hS hH (rT rN) E_i64_p)⟩
   exact t_e fun he hS hH => he ▸ ⟨rfl, (ad_ hS (by kernel_rfl)), hH⟩
  refine t_RN ?_
  refine t_if (fun hc10 => ?_) fun hc10 => ?_
  ·refine t_RU 4 ?_
   refine fP_ ok_179 ?_
   refine t_RN ?_
   refine t_RN ?_
   refine bv_ (fun st2 fr => Sub [(0, .str a3), (1, i4 a4), (2, T.fn 180 [] [.ptr b2 0 0 1]), (7, i4 st2)] fr.s ∧ Heap σ0 fr.σ [.box b2 [T.fn 176 [] [.ptr b1 0 0 1]], .box b1 [.str a2]]) (fun y11 e fr => e = (.exit 0) ∧ Sub [(1, i4 a4), (7, i4 y11)] fr.s ∧ Heap σ0 fr.σ []) (fun hS hH => ⟨(ad_ hS (by kernel_rfl)), hH⟩) (fun st2 x fr h HI => ?_) fun y11 e fr h HF => ?_
   ·obtain ⟨s, σ⟩ := fr; obtain ⟨hS, hH⟩ := HI
    refine t_bk h hS hH ?_
    refine t_RU 5 ?_
    refine ay_ 13 (fun hc11 => ?_) fun hc11 => ?_
    ·refine t_U 3 ?_
     refine dP_ fun y12 hy12 => ?_
     refine fP_ ok_180 ?_
     refine t_RN ?_
     refine t_R ?_
     refine ab_ 0 ?_
     refine t_U 1 ?_
     intro h s σ hS hH
     obtain ⟨y13, hy13, h⟩ := bind_some h
     refine jZ_ (xs := [.int .u8 y12]) (cs := [[.str a2]]) [b1] rfl hS rfl rfl rfl (⟨(Heap.lent (hH.at 1 rfl)), trivial⟩) hy13 ?_ rfl; intro s hS
     refine t_bk h hS hH ?_
     refine t_N ?_
     refine k_eI (rT rN) ?_
     refine t_N ?_
     refine t_if (fun hc12 => ?_) fun hc12 => ?_
     ·refine t_RN ?_
      exact t_e fun he hS hH => he ▸ ⟨(ad_ hS (by kernel_rfl)), hH⟩
     exact t_e fun he hS hH => he ▸ ⟨rfl, (ad_ hS (by kernel_rfl)), (Heap.sel hH [] rfl (by kernel_rfl))⟩
    refine t_N ?_
    refine t_cF ff_ne ?_
    exact t_e fun he hS hH => he ▸ ⟨rfl, (ad_ hS (by kernel_rfl)), (Heap.sel hH [] rfl (by kernel_rfl))⟩
   obtain ⟨s, σ⟩ := fr
   obtain ⟨rfl, hS, hH⟩ := HF
   refine t_bx h hS hH ?_
   refine t_RN ?_
   refine k_eI (rT rN) ?_
   refine t_N ?_
   refine t_RN ?_
   refine t_if (fun hc13 => ?_) fun hc13 => ?_
   ·refine t_RN ?_
    exact t_e fun he hS hH => he ▸ ⟨rfl, (eW hS hH (rT rN) E_i64_p)⟩
   exact t_e fun he hS hH => he ▸ ⟨rfl, (ad_ hS (by kernel_rfl)), hH⟩
  refine t_RN ?_
  refine t_if (fun hc14 => ?_) fun hc14 => ?_
  ·refine t_RN ?_
   refine t_if (fun hc15 => ?_) fun hc15 => ?_
   ·refine t_RN ?_
    exact t_e fun he hS hH => he ▸ ⟨rfl, (eW hS hH (rT rN) E_i64_p)⟩
   exact t_e fun he hS hH => he ▸ ⟨rfl, (ad_ hS (by kernel_rfl)), (Heap.sel hH [] rfl (by kernel_rfl))⟩
  refine t_RN ?_
  refine d4_ 0 (fun y14 e fr => e = .normal ∧ Sub [(0, i4 a0), (4, i4 a4), (11, i4 (a3.size : Int)), (12, i4 a1), (21, i4 a0), (84, .bool y14)] fr.s ∧ Heap σ0 fr.σ []) (fun y14 e fr h HF => ?_) fun y14 => ?_
  ·obtain ⟨s, σ⟩ := fr
   obtain ⟨rfl, hS, hH⟩ := HF
   refine t_bx h hS hH ?_
   refine t_if (fun hc16 => ?_) fun hc16 => ?_
   ·refine t_RU 5 ?_
    refine an_ fun y15 hy15 => ?_
    refine t_N ?_
    refine t_if (fun hc17 => ?_) fun hc17 => ?_
    ·refine t_RN ?_
     exact t_e fun he hS hH => he ▸ ⟨rfl, (eW hS hH (rT rN) E_i64_p)⟩
    exact t_e fun he hS hH => he ▸ ⟨rfl, (ad_ hS (by kernel_rfl)), hH⟩
   refine t_RN ?_
   refine d4_ 0 (fun y16 e fr => e = .normal ∧ Sub [(0, i4 a0), (4, i4 a4), (11, i4 (a3.size : Int)), (12, i4 a1), (21, i4 a0), (95, .bool y16)] fr.s ∧ Heap σ0 fr.σ []) (fun y16 e fr h HF => ?_) fun y16 => ?_
   ·obtain ⟨s, σ⟩ := fr
    obtain ⟨rfl, hS, hH⟩ := HF
    refine t_bx h hS hH ?_
    refine t_if (fun hc18 => ?_) fun hc18 => ?_
    ·refine t_RU 4 ?_
     refine an_ fun y17 hy17 => ?_
     refine t_N ?_
     refine t_RU 4 ?_
     refine ay_ 106 (fun hc19 => ?_) fun hc19 => ?_
     ·refine t_N ?_
      refine t_if (fun hc20 => ?_) fun hc20 => ?_
      ·refine t_RN ?_
       exact t_e fun he hS hH => he ▸ ⟨rfl, (eW hS hH (rT rN) E_i64_p)⟩
      exact t_e fun he hS hH => he ▸ ⟨rfl, (ad_ hS (by kernel_rfl)), hH⟩
     refine t_N ?_
     refine t_cF ff_ne ?_
     exact t_e fun he hS hH => he ▸ ⟨rfl, (ad_ hS (by kernel_rfl)), hH⟩
    refine t_RN ?_
    refine t_if (fun hc21 => ?_) fun hc21 => ?_
    ·refine t_RN ?_
     exact t_e fun he hS hH => he ▸ ⟨rfl, (eW hS hH (rT rN) E_i64_p)⟩
    exact t_e fun he hS hH => he ▸ ⟨rfl, (ad_ hS (by kernel_rfl)), hH⟩
   refine t_if (fun hc22 => ?_) fun hc22 => ?_
   ·exact t_e fun he hS hH => he ▸ ⟨rfl, (ad_ hS (by kernel_rfl)), hH⟩
   refine t_RN ?_
   exact t_e fun he hS hH => he ▸ ⟨rfl, (ad_ hS (by kernel_rfl)), hH⟩
  refine t_if (fun hc23 => ?_) fun hc23 => ?_
  ·exact t_e fun he hS hH => he ▸ ⟨rfl, (ad_ hS (by kernel_rfl)), (Heap.sel hH [] rfl (by kernel_rfl))⟩
  refine t_RN ?_
  exact t_e fun he hS hH => he ▸ ⟨rfl, (ad_ hS (by kernel_rfl)), (Heap.sel hH [] rfl (by kernel_rfl))⟩
 refine t_if (fun hc24 => ?_) fun hc24 => ?_
 ·exact t_e fun he hS hH => he ▸ ⟨rfl, (ad_ hS (by kernel_rfl)), hH⟩
 refine t_RN ?_
 exact t_e fun he hS hH => he ▸ ⟨rfl, (ad_ hS (by kernel_rfl)), hH⟩
noncomputable def bH_ (a0 : (Sl (Sl DCapture))) : Option (Sl DCapture) := ((az_ (S := (Int × Int)) (R := Int) (fun st1 => (if (decide (st1.2 < (a0.l.length : Int))) = true then ((elt a0 st1.2).bind fun y2 => (if (decide ((w4 (st1.1 + (y2.l.length : Int))) < 0)) = true then none else (some (.inl ((w4 (st1.1 + (y2.l.length : Int))), (w4 (st1.2 + 1))))))) else (some (.inr st1.1)))) (0, 0)).bind fun y1 => (((if (decide (y1 < 0)) = true then none else (some ())) : Option Unit).bind fun y3 => (if (decide (0 < (w4 (y1 - (w4 (0 - 0)))))) = true then ((lA_ 48 ((⟨⟨#[]⟩, ⟨#[]⟩, 0, 0⟩ : DCapture) : DCapture) (w4 (y1 - (w4 (0 - 0))))).bind fun y5 => ((if (!decide (y5.l.length = 0)) = true then some () else none).bind fun y6 => ((az_ (S := (Int × (Sl DCapture))) (R := (Sl DCapture)) (fun st2 => (if (decide (st2.1 < (a0.l.length : Int))) = true then ((elt a0 st2.1).bind fun y8 => ((appS 48 st2.2 y8).bind fun y9 => (some (.inl ((w4 (st2.1 + 1)), y9))))) else (some (.inr st2.2)))) (0, (⟨false, []⟩ : Sl DCapture))).bind fun y7 => (if (y7.z || !decide (y7.l.length = 0)) = true then (some y7) else none)))) else ((az_ (S := (Int × (Sl DCapture))) (R := (Sl DCapture)) (fun st3 => (if (decide (st3.1 < (a0.l.length : Int))) = true then ((elt a0 st3.1).bind fun y11 => ((appS 48 st3.2 y11).bind fun y12 => (some (.inl ((w4 (st3.1 + 1)), y12))))) else (some (.inr st3.2)))) (0, (⟨true, []⟩ : Sl DCapture))).bind fun y10 => (some y10)))))
theorem fr_ (a0 : (Sl (Sl DCapture))) (r : (Sl DCapture)) (h : bH_ a0 = some r) : be_ a0 = some r := by
 unfold bH_ at h
 refine k_O ok_153 h (fun σ0 => ?_)
 refine t_RN ?_
 refine t_RN ?_
 refine t_RN ?_
 refine bv_ (fun st1 fr => Sub [(0, a0.t), (3, i4 st1.1), (9, a0.t), (10, i4 (a0.l.length : Int)), (11, i4 st1.2)] fr.s ∧ Heap σ0 fr.σ []) (fun y1 e fr => e = (.exit 0) ∧ Sub [(0, a0.t), (3, i4 y1)] fr.s ∧ Heap σ0 fr.σ []) (fun hS hH => ⟨(ad_ hS (by kernel_rfl)), hH⟩) (fun st1 x fr h HI => ?_) fun y1 e fr h HF => ?_
 ·obtain ⟨s, σ⟩ := fr; obtain ⟨hS, hH⟩ := HI
  refine t_bk h hS hH ?_
  refine t_RN ?_
  refine t_if (fun hc1 => ?_) fun hc1 => ?_
  ·refine t_R ?_
   refine cA_ fun y2 rest1 hy2 => ?_
   refine t_N ?_
   refine t_RN ?_
   refine t_RN ?_
   refine t_if (fun hc2 => ?_) fun hc2 => ?_
   ·exact t_no
   refine t_RN ?_
   exact t_e fun he hS hH => he ▸ ⟨(ad_ hS (by kernel_rfl)), hH⟩
  exact t_e fun he hS hH => he ▸ ⟨rfl, (ad_ hS (by kernel_rfl)), hH⟩
 obtain ⟨s, σ⟩ := fr
 obtain ⟨rfl, hS, hH⟩ := HF
 refine t_bx h hS hH ?_
 refine t_RU 1 ?_
 refine fP_ ok_182 ?_
 refine t_RN ?_
 refine t_RN ?_
 refine d4_ 0 (fun y3 e fr => e = .normal ∧ Sub [(0, (nt DCapture)), (1, i4 y1)] fr.s ∧ Heap σ0 fr.σ []) (fun y3 e fr h HF => ?_) fun y3 => ?_
 ·obtain ⟨s, σ⟩ := fr
  obtain ⟨rfl, hS, hH⟩ := HF
  refine t_bx h hS hH ?_
  refine t_RU 2 ?_
  intro h s σ hS hH
  refine qV_ rfl hS rfl (by kernel_rfl) ?_; intro s hS
  refine t_bk h hS hH ?_
  refine t_N ?_
  refine t_RN ?_
  refine t_if (fun hc3 => ?_) fun hc3 => ?_
  ·refine t_RU 2 ?_
   intro h s σ hS hH
   refine qV_ rfl hS rfl (by kernel_rfl) ?_; intro s hS
   refine qL_ (w := (⟨true, []⟩ : Sl DCapture)) (y := ⟨true, []⟩) (e := 163) (vlo := none) (vhi := (some (T.int .i64 0))) (a := 0) (b := 0) rfl hS rfl rfl rfl rfl rfl (by kernel_rfl) (by kernel_rfl) rfl ?_; intro s hS
   refine t_bk h hS hH ?_
   refine t_U 1 ?_
   intro h s σ hS hH
   obtain ⟨y5, hy5, h⟩ := bind_some h
   refine tp_ (z := true) (e := 163) (by_ := 48) (x0 := ((⟨⟨#[]⟩, ⟨#[]⟩, 0, 0⟩ : DCapture) : DCapture)) (fun σ d => by simp [Enc.cells, DCapture.cells, Iv]) rfl hS hH rfl rfl (by kernel_rfl) (by kernel_rfl) (by kernel_rfl) (by kernel_rfl) (by kernel_rfl) hy5 ?_; intro t1 σ s ht1 hH hS
   refine t_bk h hS hH ?_
   refine t_U 2 ?_
   intro h s σ hS hH
   obtain ⟨y6, hy6, h⟩ := bind_some h
   obtain ⟨hg1, _⟩ := hs_ hy6
   refine pK_ (a := y5) (e := 163) rfl hS hH rfl rfl (by kernel_rfl) (by kernel_rfl) (by kernel_rfl) hg1 ?_; intro t2 s ht2 hH hS
   have hH : Heap σ0 σ [.frt true 4 t2 (Sl.t (⟨false, []⟩ : Sl DCapture))] := hH
   refine t_bk h hS hH ?_
   refine t_N ?_
   refine t_RN ?_
   refine k_eI (rT rN) ?_
   refine t_N ?_
   refine t_RN ?_
   refine bv_ (fun st2 fr => ∃ t4, ar_ t4 ∧ Sub [(6, t4), (25, a0.t), (26, i4 (a0.l.length : Int)), (27, i4 st2.1)] fr.s ∧ Heap σ0 fr.σ [.frt true 4 t4 st2.2.t]) (fun y7 e fr => ∃ t5, ar_ t5 ∧ e = (.exit 2) ∧ Sub [(6, t5)] fr.s ∧ Heap σ0 fr.σ [.frt true 4 t5 y7.t]) (fun hS hH => ⟨t2, ht2, (ad_ hS (by kernel_rfl)), hH⟩) (fun st2 x fr h HI => ?_) fun y7 e fr h HF => ?_
   ·obtain ⟨s, σ⟩ := fr; obtain ⟨t4, ht4, ⟨hS, hH⟩⟩ := HI
    refine t_bk h hS hH ?_
    refine t_RN ?_
    refine t_if (fun hc4 => ?_) fun hc4 => ?_
    ·refine t_R ?_
     refine cA_ fun y8 rest2 hy8 => ?_
     refine t_N ?_
     refine t_RU 2 ?_
     intro h s σ hS hH
     obtain ⟨y9, hy9, h⟩ := bind_some h
     refine sT_ (z := true) (t1 := t4) (a := st2.2) (b := y8) (e := 163) (by_ := 48) (zc := [.str ⟨#[]⟩, .str ⟨#[]⟩, i4 0, i4 0]) rfl hS hH rfl rfl (by kernel_rfl) (by kernel_rfl) (by kernel_rfl) (by kernel_rfl) (by kernel_rfl) (by kernel_rfl) hy9 ?_; intro t6 σ s ht6 hH hS
     refine t_bk h hS hH ?_
     refine t_N ?_
     refine t_RN ?_
     exact t_e fun he hS hH => he ▸ ⟨t6, ht6, (ad_ hS (by kernel_rfl)), hH⟩
    exact t_e fun he hS hH => he ▸ ⟨t4, ht4, rfl, (ad_ hS (by kernel_rfl)), hH⟩
   obtain ⟨s, σ⟩ := fr
   obtain ⟨t5, ht5, ⟨rfl, hS, hH⟩⟩ := HF
   refine t_bx h hS hH ?_
   refine t_RN ?_
   intro h s σ hS hH
   obtain ⟨hg2, h⟩ := hs_ h
   have hH := Heap.ofFrt (a := y7) hH hg2
   have hH : Heap σ0 σ [.own true 4 t5 y7.t] := hH
   refine t_bk h hS hH ?_
   exact k_eO [t5] (rT rN)
  refine t_RN ?_
  refine k_eI (rT rN) ?_
  refine t_N ?_
  refine t_RN ?_
  refine t_h (Heap.addNil · true 4) ?_
  refine bv_ (fun st3 fr => ∃ t8, ar_ t8 ∧ Sub [(6, t8), (25, a0.t), (26, i4 (a0.l.length : Int)), (27, i4 st3.1)] fr.s ∧ Heap σ0 fr.σ [.own true 4 t8 st3.2.t]) (fun y10 e fr => ∃ t9, ar_ t9 ∧ e = (.exit 2) ∧ Sub [(6, t9)] fr.s ∧ Heap σ0 fr.σ [.own true 4 t9 y10.t]) (fun hS hH => ⟨(T.row true 0 []), ⟨rfl, rfl⟩, (ad_ hS (by kernel_rfl)), hH⟩) (fun st3 x fr h HI => ?_) fun y10 e fr h HF => ?_
  ·obtain ⟨s, σ⟩ := fr; obtain ⟨t8, ht8, ⟨hS, hH⟩⟩ := HI
   refine t_bk h hS hH ?_
   refine t_RN ?_
   refine t_if (fun hc5 => ?_) fun hc5 => ?_
   ·refine t_R ?_
    refine cA_ fun y11 rest3 hy11 => ?_
    refine t_N ?_
    refine t_RU 2 ?_
    refine qN_ 0 (fun y12 t10 hy12 ht10 => ?_)
    refine t_N ?_
    refine t_RN ?_
    exact t_e fun he hS hH => he ▸ ⟨t10, ht10, (ad_ hS (by kernel_rfl)), hH⟩
   exact t_e fun he hS hH => he ▸ ⟨t8, ht8, rfl, (ad_ hS (by kernel_rfl)), hH⟩
  obtain ⟨s, σ⟩ := fr
  obtain ⟨t9, ht9, ⟨rfl, hS, hH⟩⟩ := HF
  refine t_bx h hS hH ?_
  refine t_RN ?_
  exact k_eO [t9] (rT rN)
 refine t_if (fun hc6 => ?_) fun hc6 => ?_
 ·exact t_no
 exact t_e fun he hS hH => ⟨rfl, (ad_ hS (by kernel_rfl)), hH⟩
noncomputable def fu_ (a0 : ByteArray) : Option Bool := (if (!decide (a0 = (⟨#[]⟩ : ByteArray))) = true then (if (decide ((a0.size : Int) ≤ 12)) = true then ((dw_ a0 0).bind fun y1 => (some (decide (y1 = (a0.size : Int))))) else (some false)) else (some false))
theorem ky_ (a0 : ByteArray) (r : Bool) (h : fu_ a0 = some r) : fD_ a0 = some r := by
 unfold fu_ at h
 refine k_W ok_155 E_bool_inj h (fun σ0 => ?_)
 refine t_RN ?_
 refine t_RU 3 ?_
 refine ay_ 5 (fun hc1 => ?_) fun hc1 => ?_
 ·refine t_U 5 ?_
  refine ay_ 10 (fun hc2 => ?_) fun hc2 => ?_
  ·refine t_U 1 ?_
   refine an_ fun y1 hy1 => ?_
   refine t_N ?_
   exact k_eW (rT rN) E_bool_p
  refine t_N ?_
  exact k_eW (rT rN) E_bool_p
 refine t_N ?_
 exact k_eW (rT rN) E_bool_p
noncomputable def fs_ (a0 : ByteArray) (a1 : Int) (a2 : Int) : Option Int := ((az_ (S := (Int × Int)) (R := (Unit ⊕ Int)) (fun st1 => (if (decide (st1.2 < (a0.size : Int))) = true then ((aP_ a0 st1.2).bind fun y2 => (((if (decide (y2 = 40)) = true then (some (w4 (st1.1 + 1))) else (some st1.1)) : Option Int).bind fun y3 => ((aP_ a0 st1.2).bind fun y4 => (((if (decide (y4 = 41)) = true then (some (w4 (y3 - 1))) else (some y3)) : Option Int).bind fun y5 => (if (decide (y5 < 0)) = true then (some (.inr (.inr (-1)))) else (if (decide (y5 = 0)) = true then (if (decide (a2 < (w4 (st1.2 + 1)))) = true then (some (.inr (.inr (w4 (st1.2 + 1))))) else (some (.inl (y5, (w4 (st1.2 + 1)))))) else (some (.inl (y5, (w4 (st1.2 + 1))))))))))) else (some (.inr (.inl ()))))) (0, a1)).bind fun y1 => (Sum.elim (fun y1 => (some (-1))) (fun y1 => (some y1)) y1))
theorem kf_ (a0 : ByteArray) (a1 : Int) (a2 : Int) (r : Int) (h : fs_ a0 a1 a2 = some r) : fy_ a0 a1 a2 = some r := by
 unfold fs_ at h
 refine k_W ok_158 E_i64_inj h (fun σ0 => ?_)
 refine t_RN ?_
 refine t_RN ?_
 refine t_RN ?_
 refine bv_ (fun st1 fr => Sub [(0, .str a0), (2, i4 a2), (7, i4 st1.1), (8, i4 st1.2)] fr.s ∧ Heap σ0 fr.σ []) (fun y1 e fr => (Sum.elim (fun y => e = (.exit 0) ∧ Sub [] fr.s ∧ Heap σ0 fr.σ []) (fun y => e = .ret ∧ endW Try.prog (Try.f158.results.toList) σ0 (E_i64 y) .ret fr)) y1) (fun hS hH => ⟨(ad_ hS (by kernel_rfl)), hH⟩) (fun st1 x fr h HI => ?_) fun y1 e fr h HF => ?_
 ·obtain ⟨s, σ⟩ := fr; obtain ⟨hS, hH⟩ := HI
  refine t_bk h hS hH ?_
  refine t_RN ?_
  refine t_if (fun hc1 => ?_) fun hc1 => ?_
  ·refine t_RU 2 ?_
   refine dP_ fun y2 hy2 => ?_
   refine t_N ?_
   refine d4_ 0 (fun y3 e fr => e = .normal ∧ Sub [(0, .str a0), (2, i4 a2), (7, i4 y3), (8, i4 st1.2)] fr.s ∧ Heap σ0 fr.σ []) (fun y3 e fr h HF => ?_) fun y3 => ?_
   ·obtain ⟨s, σ⟩ := fr
    obtain ⟨rfl, hS, hH⟩ := HF
    refine t_bx h hS hH ?_
    refine t_RU 2 ?_
    refine dP_ fun y4 hy4 => ?_
    refine t_N ?_
    refine d4_ 0 (fun y5 e fr => e = .normal ∧ Sub [(0, .str a0), (2, i4 a2), (7, i4 y5), (8, i4 st1.2)] fr.s ∧ Heap σ0 fr.σ []) (fun y5 e fr h HF => ?_) fun y5 => ?_
    ·obtain ⟨s, σ⟩ := fr
     obtain ⟨rfl, hS, hH⟩ := HF
     refine t_bx h hS hH ?_
     refine t_RN ?_
     refine t_if (fun hc2 => ?_) fun hc2 => ?_
     ·refine t_RN ?_
      exact t_e fun he hS hH => he ▸ ⟨rfl, (eW hS hH (rT rN) E_i64_p)⟩
     refine t_RU 3 ?_
     refine ay_ 32 (fun hc3 => ?_) fun hc3 => ?_
     ·refine t_N ?_
      refine t_if (fun hc4 => ?_) fun hc4 => ?_
      ·refine t_RN ?_
       exact t_e fun he hS hH => he ▸ ⟨rfl, (eW hS hH (rT rN) E_i64_p)⟩
      refine t_RN ?_
      exact t_e fun he hS hH => he ▸ ⟨(ad_ hS (by kernel_rfl)), hH⟩
     refine t_N ?_
     refine t_cF ff_ne ?_
     refine t_RN ?_
     exact t_e fun he hS hH => he ▸ ⟨(ad_ hS (by kernel_rfl)), hH⟩
    refine t_if (fun hc5 => ?_) fun hc5 => ?_
    ·refine t_RN ?_
     exact t_e fun he hS hH => he ▸ ⟨rfl, (ad_ hS (by kernel_rfl)), hH⟩
    exact t_e fun he hS hH => he ▸ ⟨rfl, (ad_ hS (by kernel_rfl)), hH⟩
   refine t_if (fun hc6 => ?_) fun hc6 => ?_
   ·refine t_RN ?_
    exact t_e fun he hS hH => he ▸ ⟨rfl, (ad_ hS (by kernel_rfl)), hH⟩
   exact t_e fun he hS hH => he ▸ ⟨rfl, (ad_ hS (by kernel_rfl)), hH⟩
  exact t_e fun he hS hH => he ▸ ⟨rfl, (ad_ hS (by kernel_rfl)), hH⟩
 obtain ⟨s, σ⟩ := fr
 rcases y1 with y1 | y1
 ·have h := el_l h
  obtain ⟨rfl, hS, hH⟩ := HF
  refine t_bx h hS hH ?_
  refine t_RN ?_
  exact k_eW (rT rN) E_i64_p
 have h := el_r h
 obtain ⟨rfl, HE⟩ := HF
 obtain rfl := si_1 h; exact HE
noncomputable def dL_ (a0 : (Sl DNamed)) (a1 : ByteArray) : Option Int := ((az_ (S := Int) (R := (Unit ⊕ Int)) (fun st1 => (if (decide (st1 < (a0.l.length : Int))) = true then ((elt a0 st1).bind fun y2 => (if (decide (y2.Name = a1)) = true then (some (.inr (.inr st1))) else (some (.inl (w4 (st1 + 1)))))) else (some (.inr (.inl ()))))) 0).bind fun y1 => (Sum.elim (fun y1 => (some (-1))) (fun y1 => (some y1)) y1))
theorem gB_ (a0 : (Sl DNamed)) (a1 : ByteArray) (r : Int) (h : dL_ a0 a1 = some r) : eW_ a0 a1 = some r := by
 unfold dL_ at h
 refine k_W ok_161 E_i64_inj h (fun σ0 => ?_)
 refine t_RN ?_
 refine t_RN ?_
 refine bv_ (fun st1 fr => Sub [(0, a0.t), (1, .str a1), (5, i4 st1)] fr.s ∧ Heap σ0 fr.σ []) (fun y1 e fr => (Sum.elim (fun y => e = (.exit 0) ∧ Sub [] fr.s ∧ Heap σ0 fr.σ []) (fun y => e = .ret ∧ endW Try.prog (Try.f161.results.toList) σ0 (E_i64 y) .ret fr)) y1) (fun hS hH => ⟨(ad_ hS (by kernel_rfl)), hH⟩) (fun st1 x fr h HI => ?_) fun y1 e fr h HF => ?_
 ·obtain ⟨s, σ⟩ := fr; obtain ⟨hS, hH⟩ := HI
  refine t_bk h hS hH ?_
  refine t_RN ?_
  refine t_if (fun hc1 => ?_) fun hc1 => ?_
  ·refine t_RU 2 ?_
   refine cA_ fun y2 rest1 hy2 => ?_
   refine t_N ?_
   refine t_if (fun hc2 => ?_) fun hc2 => ?_
   ·refine t_RN ?_
    exact t_e fun he hS hH => he ▸ ⟨rfl, (eW hS hH (rT rN) E_i64_p)⟩
   refine t_RN ?_
   exact t_e fun he hS hH => he ▸ ⟨(ad_ hS (by kernel_rfl)), hH⟩
  exact t_e fun he hS hH => he ▸ ⟨rfl, (ad_ hS (by kernel_rfl)), hH⟩
 obtain ⟨s, σ⟩ := fr
 rcases y1 with y1 | y1
 ·have h := el_l h
  obtain ⟨rfl, hS, hH⟩ := HF
  refine t_bx h hS hH ?_
  refine t_RN ?_
  exact k_eW (rT rN) E_i64_p
 have h := el_r h
 obtain ⟨rfl, HE⟩ := HF
 obtain rfl := si_1 h; exact HE
noncomputable def ed_ (a0 : DPattern) (a1 : ByteArray) (a2 : Int) : Option Int := (((((if (decide (a0.Kind = 1)) = true then (if ((decide ((w4 (a2 + (a0.Text.size : Int))) ≤ (a1.size : Int)))) = true then ((subB a1 a2 (w4 (a2 + (a0.Text.size : Int)))).bind fun y3 => (if (decide (y3 = a0.Text)) = true then (some (.inr (w4 (a2 + (a0.Text.size : Int))))) else (some (.inl ())))) else (some (.inl ()))) else (((if (decide (a0.Kind = 2)) = true then (if (decide (a2 < (a1.size : Int))) = true then ((aP_ a1 a2).bind fun y5 => ((bf_ a0.Text y5).bind fun y6 => (if y6 = true then (some (.inr (w4 (a2 + 1)))) else (some (.inl ()))))) else (some (.inl ()))) else (((if (decide (a0.Kind = 3)) = true then (if (decide (a2 < (a1.size : Int))) = true then ((aP_ a1 a2).bind fun y8 => ((bf_ a0.Text y8).bind fun y9 => (if (!y9) = true then (some (.inr (w4 (a2 + 1)))) else (some (.inl ()))))) else (some (.inl ()))) else (((if (decide (a0.Kind = 4)) = true then ((az_ (S := Int) (R := Int) (fun st1 => (if (decide (st1 < (a1.size : Int))) = true then ((aP_ a1 st1).bind fun y12 => ((bf_ a0.Text y12).bind fun y13 => (if y13 = true then (some (.inl (w4 (st1 + 1)))) else (some (.inr st1))))) else (some (.inr st1)))) a2).bind fun y11 => (if (decide (a2 < y11)) = true then (some (.inr y11)) else (some (.inl ())))) else (if (decide (a0.Kind = 5)) = true then ((az_ (S := Int) (R := (Unit ⊕ Int)) (fun st2 => (if (decide (st2 < (a1.size : Int))) = true then ((aP_ a1 st2).bind fun y15 => ((bf_ a0.Text y15).bind fun y16 => (if y16 = true then (some (.inr (.inr st2))) else (some (.inl (w4 (st2 + 1))))))) else (some (.inr (.inl ()))))) a2).bind fun y14 => (Sum.elim (fun y14 => (some (.inl ()))) (fun y14 => (some (.inr y14))) y14)) else (if (decide (a0.Kind = 6)) = true then (if ((decide ((w4 (a2 + a0.Num)) ≤ (a1.size : Int)))) = true then (some (.inr (w4 (a2 + a0.Num)))) else (some (.inl ()))) else (if (decide (a0.Kind = 7)) = true then (if (decide (a2 = a0.Num)) = true then (some (.inr a2)) else (some (.inl ()))) else (if (decide (a0.Kind = 8)) = true then (if (decide (a2 = (w4 ((a1.size : Int) - a0.Num)))) = true then (some (.inr a2)) else (some (.inl ()))) else (if (decide (a0.Kind = 9)) = true then ((c2_ a0.Num a2 (a1.size : Int)).bind fun y17 => (if y17 = true then (some (.inr a0.Num)) else (some (.inl ())))) else (if (decide (a0.Kind = 10)) = true then ((c2_ (w4 ((a1.size : Int) - a0.Num)) a2 (a1.size : Int)).bind fun y18 => (if y18 = true then (some (.inr (w4 ((a1.size : Int) - a0.Num)))) else (some (.inl ())))) else (if (decide (a0.Kind = 11)) = true then (some (.inr (a1.size : Int))) else (some (.inl ())))))))))) : Option (Unit ⊕ Int)).bind fun y10 => (Sum.elim (fun y10 => (some (.inl ()))) (fun y10 => (some (.inr y10))) y10))) : Option (Unit ⊕ Int)).bind fun y7 => (Sum.elim (fun y7 => (some (.inl ()))) (fun y7 => (some (.inr y7))) y7))) : Option (Unit ⊕ Int)).bind fun y4 => (Sum.elim (fun y4 => (some (.inl ()))) (fun y4 => (some (.inr y4))) y4))) : Option (Unit ⊕ Int)).bind fun y2 => (Sum.elim (fun y2 => (some (.inl ()))) (fun y2 => (some (.inr y2))) y2)) : Option (Unit ⊕ Int)).bind fun y1 => (Sum.elim (fun y1 => (some (-1))) (fun y1 => (some y1)) y1))
theorem jW_ (a0 : DPattern) (a1 : ByteArray) (a2 : Int) (r : Int) (h : ed_ a0 a1 a2 = some r) : hh_ a0 a1 a2 = some r := by
 unfold ed_ at h
 refine k_W ok_162 E_i64_inj h (fun σ0 => ?_)
 refine t_R ?_
 refine cm_ (fun b1 => ?_)
 refine t_N ?_
 refine t_RN ?_
 refine t_RU 1 ?_
 refine ab_ 0 ?_
 refine t_N ?_
 refine d4_ 2 (fun y1 e fr => (Sum.elim (fun y => e = .normal ∧ Sub [] fr.s ∧ Heap σ0 fr.σ []) (fun y => e = .ret ∧ endW Try.prog (Try.f162.results.toList) σ0 (E_i64 y) .ret fr)) y1) (fun y1 e fr h HF => ?_) fun y1 => ?_
 ·obtain ⟨s, σ⟩ := fr
  rcases y1 with y1 | y1
  ·have h := el_l h
   obtain ⟨rfl, hS, hH⟩ := HF
   refine t_bx h hS hH ?_
   refine t_RN ?_
   exact k_eW (rT rN) E_i64_p
  have h := el_r h
  obtain ⟨rfl, HE⟩ := HF
  obtain rfl := si_1 h; exact HE
 refine t_RN ?_
 refine d4_ 0 (fun y2 e fr => (Sum.elim (fun y => e = .normal ∧ Sub [] fr.s ∧ Heap σ0 fr.σ []) (fun y => e = .ret ∧ endW Try.prog (Try.f162.results.toList) σ0 (E_i64 y) .ret fr)) y2) (fun y2 e fr h HF => ?_) fun y2 => ?_
 ·obtain ⟨s, σ⟩ := fr
  rcases y2 with y2 | y2
  ·have h := el_l h
   obtain ⟨rfl, hS, hH⟩ := HF
   refine t_bx h hS hH ?_
   exact t_e fun he hS hH => he ▸ ⟨rfl, (ad_ hS (by kernel_rfl)), hH⟩
  have h := el_r h
  obtain ⟨rfl, HE⟩ := HF
  obtain rfl := si_1 h; exact ⟨rfl, HE⟩
 refine t_if (fun hc1 => ?_) fun hc1 => ?_
 ·refine t_RU 1 ?_
  refine ab_ 0 ?_
  refine t_N ?_
  refine t_D fun mb => ?_
  refine t_U 6 ?_
  refine ay_ 25 (fun hc2 => ?_) fun hc2 => ?_
  ·refine t_U 5 ?_
   refine lk_ fun y3 hy3 => ?_
   refine t_U 1 ?_
   refine ab_ 0 ?_
   refine t_N ?_
   refine t_if (fun hc3 => ?_) fun hc3 => ?_
   ·refine t_RN ?_
    exact t_e fun he hS hH => he ▸ ⟨rfl, (eW hS hH (rT rN) E_i64_p)⟩
   exact t_e fun he hS hH => he ▸ ⟨rfl, (ad_ hS (by kernel_rfl)), (Heap.sel hH [] rfl (by kernel_rfl))⟩
  refine t_N ?_
  refine t_cF ff_ne ?_
  exact t_e fun he hS hH => he ▸ ⟨rfl, (ad_ hS (by kernel_rfl)), (Heap.sel hH [] rfl (by kernel_rfl))⟩
 refine t_RN ?_
 refine d4_ 0 (fun y4 e fr => (Sum.elim (fun y => e = .normal ∧ Sub [] fr.s ∧ Heap σ0 fr.σ []) (fun y => e = .ret ∧ endW Try.prog (Try.f162.results.toList) σ0 (E_i64 y) .ret fr)) y4) (fun y4 e fr h HF => ?_) fun y4 => ?_
 ·obtain ⟨s, σ⟩ := fr
  rcases y4 with y4 | y4
  ·have h := el_l h
   obtain ⟨rfl, hS, hH⟩ := HF
   refine t_bx h hS hH ?_
   exact t_e fun he hS hH => he ▸ ⟨rfl, (ad_ hS (by kernel_rfl)), hH⟩
  have h := el_r h
  obtain ⟨rfl, HE⟩ := HF
  obtain rfl := si_1 h; exact ⟨rfl, HE⟩
 refine t_if (fun hc4 => ?_) fun hc4 => ?_
 ·refine t_D fun mb => ?_
  refine t_U 4 ?_
  refine ay_ 44 (fun hc5 => ?_) fun hc5 => ?_
  ·refine t_U 1 ?_
   refine ab_ 0 ?_
   refine t_U 2 ?_
   refine dP_ fun y5 hy5 => ?_
   refine an_ fun y6 hy6 => ?_
   refine t_N ?_
   refine t_if (fun hc6 => ?_) fun hc6 => ?_
   ·refine t_RN ?_
    exact t_e fun he hS hH => he ▸ ⟨rfl, (eW hS hH (rT rN) E_i64_p)⟩
   exact t_e fun he hS hH => he ▸ ⟨rfl, (ad_ hS (by kernel_rfl)), (Heap.sel hH [] rfl (by kernel_rfl))⟩
  refine t_N ?_
  refine t_cF ff_ne ?_
  exact t_e fun he hS hH => he ▸ ⟨rfl, (ad_ hS (by kernel_rfl)), (Heap.sel hH [] rfl (by kernel_rfl))⟩
 refine t_RN ?_
 refine d4_ 0 (fun y7 e fr => (Sum.elim (fun y => e = .normal ∧ Sub [] fr.s ∧ Heap σ0 fr.σ []) (fun y => e = .ret ∧ endW Try.prog (Try.f162.results.toList) σ0 (E_i64 y) .ret fr)) y7) (fun y7 e fr h HF => ?_) fun y7 => ?_
 ·obtain ⟨s, σ⟩ := fr
  rcases y7 with y7 | y7
  ·have h := el_l h
   obtain ⟨rfl, hS, hH⟩ := HF
   refine t_bx h hS hH ?_
   exact t_e fun he hS hH => he ▸ ⟨rfl, (ad_ hS (by kernel_rfl)), hH⟩
  have h := el_r h
  obtain ⟨rfl, HE⟩ := HF
  obtain rfl := si_1 h; exact ⟨rfl, HE⟩
 refine t_if (fun hc7 => ?_) fun hc7 => ?_
 ·refine t_D fun mb => ?_
  refine t_U 4 ?_
  refine ay_ 59 (fun hc8 => ?_) fun hc8 => ?_
  ·refine t_U 1 ?_
   refine ab_ 0 ?_
   refine t_U 2 ?_
   refine dP_ fun y8 hy8 => ?_
   refine an_ fun y9 hy9 => ?_
   refine t_N ?_
   refine t_if (fun hc9 => ?_) fun hc9 => ?_
   ·refine t_RN ?_
    exact t_e fun he hS hH => he ▸ ⟨rfl, (eW hS hH (rT rN) E_i64_p)⟩
   exact t_e fun he hS hH => he ▸ ⟨rfl, (ad_ hS (by kernel_rfl)), (Heap.sel hH [] rfl (by kernel_rfl))⟩
  refine t_N ?_
  refine t_cF ff_ne ?_
  exact t_e fun he hS hH => he ▸ ⟨rfl, (ad_ hS (by kernel_rfl)), (Heap.sel hH [] rfl (by kernel_rfl))⟩
 refine t_RN ?_
 refine d4_ 0 (fun y10 e fr => (Sum.elim (fun y => e = .normal ∧ Sub [] fr.s ∧ Heap σ0 fr.σ []) (fun y => e = .ret ∧ endW Try.prog (Try.f162.results.toList) σ0 (E_i64 y) .ret fr)) y10) (fun y10 e fr h HF => ?_) fun y10 => ?_
 ·obtain ⟨s, σ⟩ := fr
  rcases y10 with y10 | y10
  ·have h := el_l h
   obtain ⟨rfl, hS, hH⟩ := HF
   refine t_bx h hS hH ?_
   exact t_e fun he hS hH => he ▸ ⟨rfl, (ad_ hS (by kernel_rfl)), hH⟩
  have h := el_r h
  obtain ⟨rfl, HE⟩ := HF
  obtain rfl := si_1 h; exact ⟨rfl, HE⟩
 refine t_if (fun hc10 => ?_) fun hc10 => ?_
 ·refine t_RN ?_
  refine bv_ (fun st1 fr => Sub [(1, .str a1), (2, i4 a2), (3, .ptr b1 0 0 4), (7, i4 (a1.size : Int)), (9, i4 st1)] fr.s ∧ Heap σ0 fr.σ [.box b1 [i4 a0.Kind, i4 a0.Num, .str a0.Text, a0.Kids.t]]) (fun y11 e fr => e = (.exit 1) ∧ Sub [(2, i4 a2), (9, i4 y11)] fr.s ∧ Heap σ0 fr.σ []) (fun hS hH => ⟨(ad_ hS (by kernel_rfl)), hH⟩) (fun st1 x fr h HI => ?_) fun y11 e fr h HF => ?_
  ·obtain ⟨s, σ⟩ := fr; obtain ⟨hS, hH⟩ := HI
   refine t_bk h hS hH ?_
   refine t_D fun mb => ?_
   refine t_U 4 ?_
   refine ay_ 76 (fun hc11 => ?_) fun hc11 => ?_
   ·refine t_U 1 ?_
    refine ab_ 0 ?_
    refine t_U 2 ?_
    refine dP_ fun y12 hy12 => ?_
    refine an_ fun y13 hy13 => ?_
    refine t_N ?_
    refine t_if (fun hc12 => ?_) fun hc12 => ?_
    ·refine t_RN ?_
     exact t_e fun he hS hH => he ▸ ⟨(ad_ hS (by kernel_rfl)), hH⟩
    exact t_e fun he hS hH => he ▸ ⟨rfl, (ad_ hS (by kernel_rfl)), (Heap.sel hH [] rfl (by kernel_rfl))⟩
   refine t_N ?_
   refine t_cF ff_ne ?_
   exact t_e fun he hS hH => he ▸ ⟨rfl, (ad_ hS (by kernel_rfl)), (Heap.sel hH [] rfl (by kernel_rfl))⟩
  obtain ⟨s, σ⟩ := fr
  obtain ⟨rfl, hS, hH⟩ := HF
  refine t_bx h hS hH ?_
  refine t_RN ?_
  refine t_if (fun hc13 => ?_) fun hc13 => ?_
  ·refine t_RN ?_
   exact t_e fun he hS hH => he ▸ ⟨rfl, (eW hS hH (rT rN) E_i64_p)⟩
  exact t_e fun he hS hH => he ▸ ⟨rfl, (ad_ hS (by kernel_rfl)), hH⟩
 refine t_RN ?_
 refine t_if (fun hc14 => ?_) fun hc14 => ?_
 ·refine t_RN ?_
  refine bv_ (fun st2 fr => Sub [(1, .str a1), (3, .ptr b1 0 0 4), (7, i4 (a1.size : Int)), (10, i4 st2)] fr.s ∧ Heap σ0 fr.σ [.box b1 [i4 a0.Kind, i4 a0.Num, .str a0.Text, a0.Kids.t]]) (fun y14 e fr => (Sum.elim (fun y => e = (.exit 3) ∧ Sub [] fr.s ∧ Heap σ0 fr.σ []) (fun y => e = .ret ∧ endW Try.prog (Try.f162.results.toList) σ0 (E_i64 y) .ret fr)) y14) (fun hS hH => ⟨(ad_ hS (by kernel_rfl)), hH⟩) (fun st2 x fr h HI => ?_) fun y14 e fr h HF => ?_
  ·obtain ⟨s, σ⟩ := fr; obtain ⟨hS, hH⟩ := HI
   refine t_bk h hS hH ?_
   refine t_RN ?_
   refine t_if (fun hc15 => ?_) fun hc15 => ?_
   ·refine t_D fun mb => ?_
    refine t_U 1 ?_
    refine ab_ 0 ?_
    refine t_U 2 ?_
    refine dP_ fun y15 hy15 => ?_
    refine an_ fun y16 hy16 => ?_
    refine t_N ?_
    refine t_if (fun hc16 => ?_) fun hc16 => ?_
    ·refine t_RN ?_
     exact t_e fun he hS hH => he ▸ ⟨rfl, (eW hS hH (rT rN) E_i64_p)⟩
    refine t_RN ?_
    exact t_e fun he hS hH => he ▸ ⟨(ad_ hS (by kernel_rfl)), hH⟩
   exact t_e fun he hS hH => he ▸ ⟨rfl, (ad_ hS (by kernel_rfl)), (Heap.sel hH [] rfl (by kernel_rfl))⟩
  obtain ⟨s, σ⟩ := fr
  rcases y14 with y14 | y14
  ·have h := el_l h
   obtain ⟨rfl, hS, hH⟩ := HF
   refine t_bx h hS hH ?_
   exact t_e fun he hS hH => he ▸ ⟨rfl, (ad_ hS (by kernel_rfl)), hH⟩
  have h := el_r h
  obtain ⟨rfl, HE⟩ := HF
  obtain rfl := si_1 h; exact ⟨rfl, HE⟩
 refine t_RN ?_
 refine t_if (fun hc17 => ?_) fun hc17 => ?_
 ·refine t_RU 2 ?_
  refine ab_ 0 ?_
  refine t_N ?_
  refine t_if (fun hc18 => ?_) fun hc18 => ?_
  ·refine t_RU 2 ?_
   refine ab_ 0 ?_
   refine t_N ?_
   exact t_e fun he hS hH => he ▸ ⟨rfl, (eW hS hH (rT rN) E_i64_p)⟩
  exact t_e fun he hS hH => he ▸ ⟨rfl, (ad_ hS (by kernel_rfl)), (Heap.sel hH [] rfl (by kernel_rfl))⟩
 refine t_RN ?_
 refine t_if (fun hc19 => ?_) fun hc19 => ?_
 ·refine t_RU 2 ?_
  refine ab_ 0 ?_
  refine t_N ?_
  refine t_if (fun hc20 => ?_) fun hc20 => ?_
  ·refine t_RN ?_
   exact t_e fun he hS hH => he ▸ ⟨rfl, (eW hS hH (rT rN) E_i64_p)⟩
  exact t_e fun he hS hH => he ▸ ⟨rfl, (ad_ hS (by kernel_rfl)), (Heap.sel hH [] rfl (by kernel_rfl))⟩
 refine t_RN ?_
 refine t_if (fun hc21 => ?_) fun hc21 => ?_
 ·refine t_RU 3 ?_
  refine ab_ 0 ?_
  refine t_N ?_
  refine t_if (fun hc22 => ?_) fun hc22 => ?_
  ·refine t_RN ?_
   exact t_e fun he hS hH => he ▸ ⟨rfl, (eW hS hH (rT rN) E_i64_p)⟩
  exact t_e fun he hS hH => he ▸ ⟨rfl, (ad_ hS (by kernel_rfl)), (Heap.sel hH [] rfl (by kernel_rfl))⟩
 refine t_RN ?_
 refine t_if (fun hc23 => ?_) fun hc23 => ?_
 ·refine t_RU 1 ?_
  refine ab_ 0 ?_
  refine t_U 2 ?_
  refine an_ fun y17 hy17 => ?_
  refine t_N ?_
  refine t_if (fun hc24 => ?_) fun hc24 => ?_
  ·refine t_RU 1 ?_
   refine ab_ 0 ?_
   refine t_N ?_
   exact t_e fun he hS hH => he ▸ ⟨rfl, (eW hS hH (rT rN) E_i64_p)⟩
  exact t_e fun he hS hH => he ▸ ⟨rfl, (ad_ hS (by kernel_rfl)), (Heap.sel hH [] rfl (by kernel_rfl))⟩
 refine t_RN ?_
 refine t_if (fun hc25 => ?_) fun hc25 => ?_
 ·refine t_RU 2 ?_
  refine ab_ 0 ?_
  refine t_U 3 ?_
  refine an_ fun y18 hy18 => ?_
  refine t_N ?_
  refine t_if (fun hc26 => ?_) fun hc26 => ?_
  ·refine t_RU 2 ?_
   refine ab_ 0 ?_
   refine t_N ?_
   exact t_e fun he hS hH => he ▸ ⟨rfl, (eW hS hH (rT rN) E_i64_p)⟩
  exact t_e fun he hS hH => he ▸ ⟨rfl, (ad_ hS (by kernel_rfl)), (Heap.sel hH [] rfl (by kernel_rfl))⟩
 refine t_RN ?_
 refine t_if (fun hc27 => ?_) fun hc27 => ?_
 ·refine t_RN ?_
  exact t_e fun he hS hH => he ▸ ⟨rfl, (eW hS hH (rT rN) E_i64_p)⟩
 exact t_e fun he hS hH => he ▸ ⟨rfl, (ad_ hS (by kernel_rfl)), (Heap.sel hH [] rfl (by kernel_rfl))⟩
noncomputable def fA_ (a0 : Int) : Option Bool := ((b3_ a0 2 5).bind fun y1 => (some y1))
theorem jP_ (a0 : Int) (r : Bool) (h : fA_ a0 = some r) : fB_ a0 = some r := by
 unfold fA_ at h
 refine k_W ok_163 E_bool_inj h (fun σ0 => ?_)
 refine t_RN ?_
 refine t_RU 1 ?_
 refine an_ fun y1 hy1 => ?_
 refine t_N ?_
 exact k_eW (rT rN) E_bool_p
noncomputable def dU_ (a0 : Int) : Option Bool := ((b3_ a0 6 10).bind fun y1 => (some y1))
theorem hY_ (a0 : Int) (r : Bool) (h : dU_ a0 = some r) : d0_ a0 = some r := by
 unfold dU_ at h
 refine k_W ok_164 E_bool_inj h (fun σ0 => ?_)
 refine t_RN ?_
 refine t_RU 1 ?_
 refine an_ fun y1 hy1 => ?_
 refine t_N ?_
 exact k_eW (rT rN) E_bool_p
noncomputable def eY_ (a0 : Int) : Option Bool := ((b3_ a0 21 24).bind fun y1 => (some y1))
theorem i7_ (a0 : Int) (r : Bool) (h : eY_ a0 = some r) : eS_ a0 = some r := by
 unfold eY_ at h
 refine k_W ok_165 E_bool_inj h (fun σ0 => ?_)
 refine t_RN ?_
 refine t_RU 1 ?_
 refine an_ fun y1 hy1 => ?_
 refine t_N ?_
 exact k_eW (rT rN) E_bool_p
noncomputable def cO_ (a0 : Int) : Option Bool := ((b3_ a0 1 24).bind fun y1 => (some y1))
theorem gn_ (a0 : Int) (r : Bool) (h : cO_ a0 = some r) : cM_ a0 = some r := by
 unfold cO_ at h
 refine k_W ok_166 E_bool_inj h (fun σ0 => ?_)
 refine t_RN ?_
 refine t_RU 1 ?_
 refine an_ fun y1 hy1 => ?_
 refine t_N ?_
 exact k_eW (rT rN) E_bool_p
noncomputable def fZ_ (a0 : Int) : Option Bool := (if (decide (65 ≤ a0)) = true then (if (decide (a0 ≤ 90)) = true then (some true) else (if (decide (97 ≤ a0)) = true then (some (decide (a0 ≤ 122))) else (some false))) else (if (decide (97 ≤ a0)) = true then (some (decide (a0 ≤ 122))) else (some false)))
theorem iG_ (a0 : Int) (r : Bool) (h : fZ_ a0 = some r) : dh_ a0 = some r := by
 unfold fZ_ at h
 refine k_W ok_169 E_bool_inj h (fun σ0 => ?_)
 refine t_RN ?_
 refine t_RU 3 ?_
 refine ay_ 5 (fun hc1 => ?_) fun hc1 => ?_
 ·refine t_U 4 ?_
  refine ay_ 9 (fun hc2 => ?_) fun hc2 => ?_
  ·refine t_N ?_
   exact k_eW (rT rN) E_bool_p
  refine t_U 3 ?_
  refine ay_ 12 (fun hc3 => ?_) fun hc3 => ?_
  ·refine t_N ?_
   exact k_eW (rT rN) E_bool_p
  refine t_N ?_
  exact k_eW (rT rN) E_bool_p
 refine t_U 7 ?_
 refine ay_ 12 (fun hc4 => ?_) fun hc4 => ?_
 ·refine t_N ?_
  exact k_eW (rT rN) E_bool_p
 refine t_N ?_
 exact k_eW (rT rN) E_bool_p
noncomputable def dd_ (a0 : (Sl (Iv .u8))) (a1 : T) : Option Bool := (if flat1 a1 = true then ((az_ (S := Int) (R := (Unit ⊕ Bool)) (fun st1 => (if (decide (st1 < (a0.l.length : Int))) = true then ((elt a0 st1).bind fun y2 => ((g5_ Try.prog md ext E_bool a1 [.int .u8 y2.v]).bind fun y3 => (if (!y3) = true then (some (.inr (.inr false))) else (some (.inl (w4 (st1 + 1))))))) else (some (.inr (.inl ()))))) 0).bind fun y1 => (Sum.elim (fun y1 => (some true)) (fun y1 => (some y1)) y1)) else none)
theorem he_ (a0 : (Sl (Iv .u8))) (a1 : T) (r : Bool) (h : dd_ a0 a1 = some r) : eQ_ a0 a1 = some r := by
 unfold dd_ at h
 obtain ⟨hf_a1, h⟩ := hs_ h
 refine k_W ok_170 E_bool_inj h (fun σ0 => ?_) (hf := (all_cons (by kernel_rfl) (all_cons (h9_ hf_a1) all_nil)))
 refine t_RN ?_
 refine t_RN ?_
 refine bv_ (fun st1 fr => Sub [(1, a1), (7, a0.t), (8, i4 (a0.l.length : Int)), (9, i4 st1)] fr.s ∧ Heap σ0 fr.σ []) (fun y1 e fr => (Sum.elim (fun y => e = (.exit 0) ∧ Sub [] fr.s ∧ Heap σ0 fr.σ []) (fun y => e = .ret ∧ endW Try.prog (Try.f170.results.toList) σ0 (E_bool y) .ret fr)) y1) (fun hS hH => ⟨(ad_ hS (by kernel_rfl)), hH⟩) (fun st1 x fr h HI => ?_) fun y1 e fr h HF => ?_
 ·obtain ⟨s, σ⟩ := fr; obtain ⟨hS, hH⟩ := HI
  refine t_bk h hS hH ?_
  refine t_RN ?_
  refine t_if (fun hc1 => ?_) fun hc1 => ?_
  ·refine t_R ?_
   refine cA_ fun y2 rest1 hy2 => ?_
   refine t_N ?_
   refine t_RU 2 ?_
   refine kA_ fun y3 hy3 => ?_
   refine t_N ?_
   refine t_if (fun hc2 => ?_) fun hc2 => ?_
   ·refine t_RN ?_
    exact t_e fun he hS hH => he ▸ ⟨rfl, (eW hS hH (rT rN) E_bool_p)⟩
   refine t_RN ?_
   exact t_e fun he hS hH => he ▸ ⟨(ad_ hS (by kernel_rfl)), hH⟩
  exact t_e fun he hS hH => he ▸ ⟨rfl, (ad_ hS (by kernel_rfl)), hH⟩
 obtain ⟨s, σ⟩ := fr
 rcases y1 with y1 | y1
 ·have h := el_l h
  obtain ⟨rfl, hS, hH⟩ := HF
  refine t_bx h hS hH ?_
  refine t_RN ?_
  exact k_eW (rT rN) E_bool_p
 have h := el_r h
 obtain ⟨rfl, HE⟩ := HF
 obtain rfl := si_1 h; exact HE
noncomputable def dG_ (a0 : Int) : Option Bool := ((dh_ a0).bind fun y1 => (if y1 = true then (some true) else ((eX_ a0).bind fun y2 => (if y2 = true then (some true) else (some (decide (a0 = 95)))))))
theorem hu_ (a0 : Int) (r : Bool) (h : dG_ a0 = some r) : dD_ a0 = some r := by
 unfold dG_ at h
 refine k_W ok_171 E_bool_inj h (fun σ0 => ?_)
 refine t_RN ?_
 refine t_RU 1 ?_
 refine an_ fun y1 hy1 => ?_
 refine t_U 1 ?_
 refine ay_ 5 (fun hc1 => ?_) fun hc1 => ?_
 ·refine t_N ?_
  exact k_eW (rT rN) E_bool_p
 refine t_U 1 ?_
 refine an_ fun y2 hy2 => ?_
 refine t_U 2 ?_
 refine ay_ 9 (fun hc2 => ?_) fun hc2 => ?_
 ·refine t_N ?_
  exact k_eW (rT rN) E_bool_p
 refine t_N ?_
 exact k_eW (rT rN) E_bool_p
noncomputable def eB_ (a0 : Int) (a1 : ByteArray) : Option Bool := ((cW_ a1 a0).bind fun y1 => (some (decide (0 ≤ y1))))
theorem ij_ (a0 : Int) (a1 : ByteArray) (r : Bool) (h : eB_ a0 a1 = some r) : bt_ a0 a1 = some r := by
 unfold eB_ at h
 refine r3_ E_bool_inj rfl rfl ok_176 (fun bs hb => by obtain ⟨bp1, rfl⟩ := bl1 hb; exact rfl) (fun bs hb => by obtain ⟨bp1, rfl⟩ := bl1 hb; exact (all_cons (by kernel_rfl) (all_cons rfl all_nil))) ?_
 intro σ0 bs s hL hS hH
 obtain ⟨bp1, rfl, hL_bp1⟩ := vA_ hL
 clear hL
 have hS := ad_ (L' := [(0, .int .u8 a0), (1, .ptr bp1 0 0 1)]) hS (by kernel_rfl)
 refine t_go h hS hH ?_
 refine t_RN ?_
 refine t_R ?_
 refine rN_ hL_bp1 ?_
 refine t_U 1 ?_
 refine an_ fun y1 hy1 => ?_
 refine t_N ?_
 exact k_eW (rT rN) E_bool_p
noncomputable def c1_ (a0 : ByteArray) (a1 : Int) : Option Int := ((bi_ a0 a1).bind fun y1 => (some y1))
theorem gO_ (a0 : ByteArray) (a1 : Int) (r : Int) (h : c1_ a0 a1 = some r) : cW_ a0 a1 = some r := by
 unfold c1_ at h
 refine k_W ok_177 E_i64_inj h (fun σ0 => ?_)
 refine t_RN ?_
 refine t_RU 2 ?_
 refine an_ fun y1 hy1 => ?_
 refine t_N ?_
 exact k_eW (rT rN) E_i64_p
noncomputable def cZ_ (a0 : ByteArray) (a1 : ByteArray) : Option Bool := ((bj_ a0 a1).bind fun y1 => (some y1))
theorem gM_ (a0 : ByteArray) (a1 : ByteArray) (r : Bool) (h : cZ_ a0 a1 = some r) : cV_ a0 a1 = some r := by
 unfold cZ_ at h
 refine k_W ok_178 E_bool_inj h (fun σ0 => ?_)
 refine t_RN ?_
 refine t_RU 2 ?_
 refine an_ fun y1 hy1 => ?_
 refine t_N ?_
 exact k_eW (rT rN) E_bool_p
noncomputable def eZ_ (a0 : Int) (a1 : Int) (a2 : Bool) : Option Int := (if a2 = true then (some (w4 (a1 - a0))) else (some a0))
theorem ja_ (a0 : Int) (a1 : Int) (a2 : Bool) (r : Int) (h : eZ_ a0 a1 a2 = some r) : dJ_ a0 a1 a2 = some r := by
 unfold eZ_ at h
 refine k_W ok_181 E_i64_inj h (fun σ0 => ?_)
 refine t_RN ?_
 refine t_RN ?_
 refine t_if (fun hc1 => ?_) fun hc1 => ?_
 ·refine t_RN ?_
  exact k_eW (rT rN) E_i64_p
 refine t_RN ?_
 exact k_eW (rT rN) E_i64_p
noncomputable def cI_ (a0 : ByteArray) (a1 : Int) : Option Int := (if (decide ((a0.size : Int) ≤ a1)) = true then (some a1) else ((aP_ a0 a1).bind fun y1 => ((cp_ y1).bind fun y2 => (if (!y2) = true then (some a1) else ((az_ (S := Int) (R := Int) (fun st1 => (if (decide (st1 < (a0.size : Int))) = true then ((aP_ a0 st1).bind fun y4 => ((cp_ y4).bind fun y5 => (if y5 = true then (some (.inl (w4 (st1 + 1)))) else ((aP_ a0 st1).bind fun y6 => ((di_ y6).bind fun y7 => (if y7 = true then (some (.inl (w4 (st1 + 1)))) else ((aP_ a0 st1).bind fun y8 => (if (decide (y8 = 95)) = true then (some (.inl (w4 (st1 + 1)))) else (some (.inr st1)))))))))) else (some (.inr st1)))) a1).bind fun y3 => (some y3))))))
theorem hw_ (a0 : ByteArray) (a1 : Int) (r : Int) (h : cI_ a0 a1 = some r) : dw_ a0 a1 = some r := by
 unfold cI_ at h
 refine k_W ok_183 E_i64_inj h (fun σ0 => ?_)
 refine t_RN ?_
 refine t_RU 5 ?_
 refine ay_ 9 (fun hc1 => ?_) fun hc1 => ?_
 ·refine t_N ?_
  refine t_cT rfl ?_
  refine t_RN ?_
  exact k_eW (rT rN) E_i64_p
 refine t_U 2 ?_
 refine dP_ fun y1 hy1 => ?_
 refine an_ fun y2 hy2 => ?_
 refine t_N ?_
 refine t_if (fun hc2 => ?_) fun hc2 => ?_
 ·refine t_RN ?_
  exact k_eW (rT rN) E_i64_p
 refine bv_ (fun st1 fr => Sub [(0, .str a0), (1, i4 st1)] fr.s ∧ Heap σ0 fr.σ []) (fun y3 e fr => e = (.exit 0) ∧ Sub [(1, i4 y3)] fr.s ∧ Heap σ0 fr.σ []) (fun hS hH => ⟨(ad_ hS (by kernel_rfl)), hH⟩) (fun st1 x fr h HI => ?_) fun y3 e fr h HF => ?_
 ·obtain ⟨s, σ⟩ := fr; obtain ⟨hS, hH⟩ := HI
  refine t_bk h hS hH ?_
  refine t_RU 5 ?_
  refine ay_ 21 (fun hc3 => ?_) fun hc3 => ?_
  ·refine t_U 2 ?_
   refine dP_ fun y4 hy4 => ?_
   refine an_ fun y5 hy5 => ?_
   refine t_U 1 ?_
   refine ay_ 26 (fun hc4 => ?_) fun hc4 => ?_
   ·refine t_N ?_
    refine t_cT rfl ?_
    refine t_RN ?_
    exact t_e fun he hS hH => he ▸ ⟨(ad_ hS (by kernel_rfl)), hH⟩
   refine t_U 2 ?_
   refine dP_ fun y6 hy6 => ?_
   refine an_ fun y7 hy7 => ?_
   refine t_U 2 ?_
   refine ay_ 32 (fun hc5 => ?_) fun hc5 => ?_
   ·refine t_N ?_
    refine t_cT rfl ?_
    refine t_RN ?_
    exact t_e fun he hS hH => he ▸ ⟨(ad_ hS (by kernel_rfl)), hH⟩
   refine t_U 2 ?_
   refine dP_ fun y8 hy8 => ?_
   refine t_N ?_
   refine t_if (fun hc6 => ?_) fun hc6 => ?_
   ·refine t_RN ?_
    exact t_e fun he hS hH => he ▸ ⟨(ad_ hS (by kernel_rfl)), hH⟩
   exact t_e fun he hS hH => he ▸ ⟨rfl, (ad_ hS (by kernel_rfl)), hH⟩
  refine t_N ?_
  refine t_cF ff_ne ?_
  exact t_e fun he hS hH => he ▸ ⟨rfl, (ad_ hS (by kernel_rfl)), hH⟩
 obtain ⟨s, σ⟩ := fr
 obtain ⟨rfl, hS, hH⟩ := HF
 refine t_bx h hS hH ?_
 refine t_RN ?_
 exact k_eW (rT rN) E_i64_p
noncomputable def eq_ (a0 : ByteArray) (a1 : Int) : Option Bool := ((az_ (S := Int) (R := (Unit ⊕ Bool)) (fun st1 => (if (decide (st1 < (a0.size : Int))) = true then ((aP_ a0 st1).bind fun y2 => (if (decide (y2 = a1)) = true then (some (.inr (.inr true))) else (some (.inl (w4 (st1 + 1)))))) else (some (.inr (.inl ()))))) 0).bind fun y1 => (Sum.elim (fun y1 => (some false)) (fun y1 => (some y1)) y1))
theorem i0_ (a0 : ByteArray) (a1 : Int) (r : Bool) (h : eq_ a0 a1 = some r) : bf_ a0 a1 = some r := by
 unfold eq_ at h
 refine k_W ok_185 E_bool_inj h (fun σ0 => ?_)
 refine t_RN ?_
 refine t_RN ?_
 refine bv_ (fun st1 fr => Sub [(0, .str a0), (1, .int .u8 a1), (5, i4 st1)] fr.s ∧ Heap σ0 fr.σ []) (fun y1 e fr => (Sum.elim (fun y => e = (.exit 0) ∧ Sub [] fr.s ∧ Heap σ0 fr.σ []) (fun y => e = .ret ∧ endW Try.prog (Try.f185.results.toList) σ0 (E_bool y) .ret fr)) y1) (fun hS hH => ⟨(ad_ hS (by kernel_rfl)), hH⟩) (fun st1 x fr h HI => ?_) fun y1 e fr h HF => ?_
 ·obtain ⟨s, σ⟩ := fr; obtain ⟨hS, hH⟩ := HI
  refine t_bk h hS hH ?_
  refine t_RN ?_
  refine t_if (fun hc1 => ?_) fun hc1 => ?_
  ·refine t_RU 2 ?_
   refine dP_ fun y2 hy2 => ?_
   refine t_N ?_
   refine t_if (fun hc2 => ?_) fun hc2 => ?_
   ·refine t_RN ?_
    exact t_e fun he hS hH => he ▸ ⟨rfl, (eW hS hH (rT rN) E_bool_p)⟩
   refine t_RN ?_
   exact t_e fun he hS hH => he ▸ ⟨(ad_ hS (by kernel_rfl)), hH⟩
  exact t_e fun he hS hH => he ▸ ⟨rfl, (ad_ hS (by kernel_rfl)), hH⟩
 obtain ⟨s, σ⟩ := fr
 rcases y1 with y1 | y1
 ·have h := el_l h
  obtain ⟨rfl, hS, hH⟩ := HF
  refine t_bx h hS hH ?_
  refine t_RN ?_
  exact k_eW (rT rN) E_bool_p
 have h := el_r h
 obtain ⟨rfl, HE⟩ := HF
 obtain rfl := si_1 h; exact HE
noncomputable def gC_ (a0 : Int) : Option Bool := (if (decide (48 ≤ a0)) = true then (some (decide (a0 ≤ 57))) else (some false))
theorem jc_ (a0 : Int) (r : Bool) (h : gC_ a0 = some r) : eX_ a0 = some r := by
 unfold gC_ at h
 refine k_W ok_189 E_bool_inj h (fun σ0 => ?_)
 refine t_RN ?_
 refine t_RU 3 ?_
 refine ay_ 5 (fun hc1 => ?_) fun hc1 => ?_
 ·refine t_N ?_
  exact k_eW (rT rN) E_bool_p
 refine t_N ?_
 exact k_eW (rT rN) E_bool_p
noncomputable def bk_ (a0 : ByteArray) (a1 : Int) : Option Int := ((bV_ a0 a1).bind fun y1 => (some y1))
theorem dp_ (a0 : ByteArray) (a1 : Int) (r : Int) (h : bk_ a0 a1 = some r) : bi_ a0 a1 = some r := by
 unfold bk_ at h
 refine k_W ok_190 E_i64_inj h (fun σ0 => ?_)
 refine t_RN ?_
 refine t_RU 2 ?_
 refine an_ fun y1 hy1 => ?_
 refine t_N ?_
 exact k_eW (rT rN) E_i64_p
end Go.Am
