/- Functions of the program. -/
import Derived.Test.YtohkcdkmpencnaaDoorAd0
set_option maxRecDepth 100000
set_option maxHeartbeats 4000000
set_option linter.unusedVariables false
set_option linter.unusedSimpArgs false
namespace Go.Am
open Go.Proofs
noncomputable def B_laws_FnExactOutcomeLine (a0 : DOutcome) : Option Bool := ((F_laws_szOutcome a0 1048576).bind fun y1 => (if (decide (y1 < 0)) = true then (some true) else ((F_laws_toOutcome a0).bind fun y2 => ((F_spec_OutcomeLine y2).bind fun y3 => ((F_laws_toOutcome a0).bind fun y4 => ((F_impl_OutcomeLine y4).bind fun y5 => (if (!decide (y5 = y3)) = true then (some false) else ((F_laws_toOutcome a0).bind fun y6 => ((F_laws_eqOutcome y4 y6).bind fun y7 => (if (!y7) = true then (some false) else (some true)))))))))))
theorem u_laws_FnExactOutcomeLine (a0 : DOutcome) (r : Bool) (h : B_laws_FnExactOutcomeLine a0 = some r) : F_laws_FnExactOutcomeLine a0 = some r := by
 unfold B_laws_FnExactOutcomeLine at h
 refine k_W ok_5 E_bool_inj h (fun σ0 => ?_)
 refine t_R ?_
 refine k_box (fun b1 => ?_)
 refine t_N ?_
 refine t_RN ?_
 refine t_R ?_
 refine k_load 0 ?_
 refine t_U 1 ?_
 refine k_call fun y1 hy1 => ?_
 refine t_N ?_
 refine t_RN ?_
 refine t_if (fun hc1 => ?_) fun hc1 => ?_
 ·refine t_RN ?_
  exact k_eW (rT rN) E_bool_p
 refine t_R ?_
 refine k_load 0 ?_
 refine k_callO (fun y2 hs hy2 hl => ?_)
 obtain ⟨t1, t2, t3, t4, t5, t6, t7, t8, rfl⟩ := len8 hl
 refine t_lit ?_
 refine t_one 0 fun ht1 => ?_
 refine t_one 1 fun ht2 => ?_
 refine t_one 2 fun ht3 => ?_
 refine t_one 3 fun ht4 => ?_
 refine t_one 4 fun ht5 => ?_
 refine t_one 5 fun ht6 => ?_
 refine t_one 6 fun ht7 => ?_
 refine t_one 7 fun ht8 => ?_
 refine k_callH (fun y3 hy3 => ?_)
 refine t_N ?_
 refine t_R ?_
 refine k_load 8 ?_
 refine k_callO (fun y4 hs hy4 hl => ?_)
 obtain ⟨t9, t10, t11, t12, t13, t14, t15, t16, rfl⟩ := len8 hl
 refine t_lit ?_
 refine t_one 0 fun ht9 => ?_
 refine t_one 1 fun ht10 => ?_
 refine t_one 2 fun ht11 => ?_
 refine t_one 3 fun ht12 => ?_
 refine t_one 4 fun ht13 => ?_
 refine t_one 5 fun ht14 => ?_
 refine t_one 6 fun ht15 => ?_
 refine t_one 7 fun ht16 => ?_
 refine k_alloc fun b2 => ?_
 refine k_storeA 0 ?_ (h1 := by simp [ht10.1, ht10.2, ht11.1, ht11.2, ht12.1, ht12.2, ht13.1, ht13.2, ht14.1, ht14.2, ht15.1, ht15.2, ht16.1, ht16.2, ht9.1, ht9.2])
 refine t_N ?_
 refine t_R ?_
 refine k_load 0 ?_
 refine t_h (·.up8.up8.up8.up8.up8.up8.up8.up8) ?_
 refine k_callH (fun y5 hy5 => ?_)
 refine t_N ?_
 refine t_RN ?_
 refine t_if (fun hc2 => ?_) fun hc2 => ?_
 ·refine t_RN ?_
  exact k_eW (rT rN) E_bool_p
 refine t_chain [] ext_x fun mb σs hn0 hlt hlto => ?_
 have hlt_b2 : b2 < mb := hlt b2 _ (List.Mem.tail _ (List.Mem.tail _ (List.Mem.tail _ (List.Mem.tail _ (List.Mem.tail _ (List.Mem.tail _ (List.Mem.tail _ (List.Mem.tail _ (List.Mem.head _)))))))))
 refine k_load 8 ?_ (hlt := by exact (Or.inr ⟨hlt_b2, Wc.nil⟩))
 refine k_load 17 ?_ (hlt := by exact (Or.inl (by kernel_rfl)))
 refine k_callO (fun y6 hs hy6 hl => ?_)
 obtain ⟨t17, t18, t19, t20, t21, t22, t23, t24, rfl⟩ := len8 hl
 refine t_lit ?_
 refine t_one 0 fun ht17 => ?_
 refine t_one 1 fun ht18 => ?_
 refine t_one 2 fun ht19 => ?_
 refine t_one 3 fun ht20 => ?_
 refine t_one 4 fun ht21 => ?_
 refine t_one 5 fun ht22 => ?_
 refine t_one 6 fun ht23 => ?_
 refine t_one 7 fun ht24 => ?_
 refine t_h (·.up15.up15.up15.up15.up15.up15.up15.up15) ?_
 refine k_callH (fun y7 hy7 => ?_)
 refine t_N ?_
 refine t_if (fun hc3 => ?_) fun hc3 => ?_
 ·refine t_RN ?_
  exact k_eW (rT rN) E_bool_p
 refine t_RN ?_
 exact k_eW (rT rN) E_bool_p
noncomputable def B_laws_szOutcome (a0 : DOutcome) (a1 : Int) : Option Int := ((F_laws_szMemory a0.Memory a1).bind fun y1 => (if (decide (y1 < 0)) = true then (some (-1)) else (some y1)))
theorem u_laws_szOutcome (a0 : DOutcome) (a1 : Int) (r : Int) (h : B_laws_szOutcome a0 a1 = some r) : F_laws_szOutcome a0 a1 = some r := by
 unfold B_laws_szOutcome at h
 refine k_W ok_17 E_i64_inj h (fun σ0 => ?_)
 refine t_R ?_
 refine k_box (fun b1 => ?_)
 refine t_N ?_
 refine t_RU 1 ?_
 refine k_load 0 ?_
 refine t_U 1 ?_
 refine k_call fun y1 hy1 => ?_
 refine t_N ?_
 refine t_RN ?_
 refine t_if (fun hc1 => ?_) fun hc1 => ?_
 ·refine t_RN ?_
  exact k_eW (rT rN) E_i64_p
 refine t_RN ?_
 exact k_eW (rT rN) E_i64_p
noncomputable def B_spec_OutcomeLine (a0 : DOutcome) : Option ByteArray := (if (decide (a0.Code = 0)) = true then ((F_spec_l16Digits a0.Steps).bind fun y1 => ((catB ⟨#[111, 107, 32]⟩ y1).bind fun y2 => (some y2))) else ((F_spec_l29Error a0.Code).bind fun y3 => ((catB y3 ⟨#[32, 97, 116, 32]⟩).bind fun y4 => ((F_spec_l16Digits (IntKind.i64.wrap (a0.At + 1))).bind fun y5 => ((catB y4 y5).bind fun y6 => ((catB y6 ⟨#[32, 97, 102, 116, 101, 114, 32]⟩).bind fun y7 => ((F_spec_l16Digits a0.Steps).bind fun y8 => ((catB y7 y8).bind fun y9 => (some y9)))))))))
theorem u_spec_OutcomeLine (a0 : DOutcome) (r : ByteArray) (h : B_spec_OutcomeLine a0 = some r) : F_spec_OutcomeLine a0 = some r := by
 unfold B_spec_OutcomeLine at h
 refine k_W ok_18 E_str_inj h (fun σ0 => ?_)
 refine t_R ?_
 refine k_box (fun b1 => ?_)
 refine t_N ?_
 refine t_RU 1 ?_
 refine k_load 0 ?_
 refine t_N ?_
 refine t_if (fun hc1 => ?_) fun hc1 => ?_
 ·refine t_RU 1 ?_
  refine k_load 0 ?_
  refine k_call fun y1 hy1 => ?_
  refine k_cat fun y2 hy2 => ?_
  refine t_N ?_
  exact k_eW (rT rN) E_str_p
 refine t_D fun mb => ?_
 refine t_U 1 ?_
 refine k_load 0 ?_
 refine k_call fun y3 hy3 => ?_
 refine k_cat fun y4 hy4 => ?_
 refine t_U 1 ?_
 refine k_load 0 ?_
 refine t_U 1 ?_
 refine k_call fun y5 hy5 => ?_
 refine k_cat fun y6 hy6 => ?_
 refine k_cat fun y7 hy7 => ?_
 refine t_U 1 ?_
 refine k_load 0 ?_
 refine k_call fun y8 hy8 => ?_
 refine k_cat fun y9 hy9 => ?_
 refine t_N ?_
 exact k_eW (rT rN) E_str_p
noncomputable def B_laws_toOutcome (a0 : DOutcome) : Option DOutcome := ((F_laws_toMemory a0.Memory).bind fun y1 => (some (⟨y1, a0.At, a0.Steps, a0.Code⟩ : DOutcome)))
theorem u_laws_toOutcome (a0 : DOutcome) (r : DOutcome) (h : B_laws_toOutcome a0 = some r) : F_laws_toOutcome a0 = some r := by
 unfold B_laws_toOutcome at h
 refine k_O ok_19 h (fun σ0 => ?_)
 refine t_R ?_
 refine k_box (fun b1 => ?_)
 refine k_alloc fun b2 => ?_
 refine t_N ?_
 refine t_R ?_
 refine k_alloc fun b3 => ?_
 refine t_N ?_
 refine t_RU 1 ?_
 refine k_load 2 ?_
 refine k_callO (fun y1 hs hy1 hl => ?_)
 obtain ⟨t1, t2, t3, t4, t5, t6, t7, t8, rfl⟩ := len8 hl
 refine t_lit ?_
 refine t_one 0 fun ht1 => ?_
 refine t_one 1 fun ht2 => ?_
 refine t_one 2 fun ht3 => ?_
 refine t_one 3 fun ht4 => ?_
 refine t_one 4 fun ht5 => ?_
 refine t_one 5 fun ht6 => ?_
 refine t_one 6 fun ht7 => ?_
 refine t_one 7 fun ht8 => ?_
 refine t_U 1 ?_
 refine k_store 8 ?_ (h1 := by simp [ht1.1, ht1.2, ht2.1, ht2.2, ht3.1, ht3.2, ht4.1, ht4.2, ht5.1, ht5.2, ht6.1, ht6.2, ht7.1, ht7.2, ht8.1, ht8.2])
 refine t_N ?_
 refine t_RU 1 ?_
 refine k_load 10 ?_
 refine t_U 1 ?_
 refine k_store 0 ?_
 refine t_N ?_
 refine t_RU 1 ?_
 refine k_load 10 ?_
 refine t_U 1 ?_
 refine k_store 0 ?_
 refine t_N ?_
 refine t_RU 1 ?_
 refine k_load 10 ?_
 refine t_U 1 ?_
 refine k_store 0 ?_
 refine t_N ?_
 refine t_R ?_
 refine k_load 0 ?_
 refine k_storeA 9 ?_ (h1 := by simp [ht1.1, ht1.2, ht2.1, ht2.2, ht3.1, ht3.2, ht4.1, ht4.2, ht5.1, ht5.2, ht6.1, ht6.2, ht7.1, ht7.2, ht8.1, ht8.2])
 refine t_N ?_
 refine t_h (·.up9.up9.up9.up9.up9.up9.up9.up9) ?_
 exact k_eO [t1, t2, t3, t4, t5, t6, t7, t8] (rC 8 rN)
noncomputable def B_impl_OutcomeLine (a0 : DOutcome) : Option ByteArray := (if (decide (a0.Code = 0)) = true then ((F_impl_decimal a0.Steps).bind fun y1 => ((catB ⟨#[111, 107, 32]⟩ y1).bind fun y2 => (some y2))) else ((F_impl_CodeName a0.Code).bind fun y3 => ((catB ⟨#[101, 114, 114, 111, 114, 32]⟩ y3).bind fun y4 => ((catB y4 ⟨#[32, 97, 116, 32]⟩).bind fun y5 => ((F_impl_decimal (IntKind.i64.wrap (a0.At + 1))).bind fun y6 => ((catB y5 y6).bind fun y7 => ((catB y7 ⟨#[32, 97, 102, 116, 101, 114, 32]⟩).bind fun y8 => ((F_impl_decimal a0.Steps).bind fun y9 => ((catB y8 y9).bind fun y10 => (some y10))))))))))
theorem u_impl_OutcomeLine (a0 : DOutcome) (r : ByteArray) (h : B_impl_OutcomeLine a0 = some r) : F_impl_OutcomeLine a0 = some r := by
 unfold B_impl_OutcomeLine at h
 refine k_W ok_20 E_str_inj h (fun σ0 => ?_)
 refine t_R ?_
 refine k_box (fun b1 => ?_)
 refine t_N ?_
 refine t_RU 1 ?_
 refine k_load 0 ?_
 refine t_N ?_
 refine t_if (fun hc1 => ?_) fun hc1 => ?_
 ·refine t_RU 1 ?_
  refine k_load 0 ?_
  refine k_call fun y1 hy1 => ?_
  refine k_cat fun y2 hy2 => ?_
  refine t_N ?_
  exact k_eW (rT rN) E_str_p
 refine t_D fun mb => ?_
 refine t_U 1 ?_
 refine k_load 0 ?_
 refine k_call fun y3 hy3 => ?_
 refine k_cat fun y4 hy4 => ?_
 refine k_cat fun y5 hy5 => ?_
 refine t_U 1 ?_
 refine k_load 0 ?_
 refine t_U 1 ?_
 refine k_call fun y6 hy6 => ?_
 refine k_cat fun y7 hy7 => ?_
 refine k_cat fun y8 hy8 => ?_
 refine t_U 1 ?_
 refine k_load 0 ?_
 refine k_call fun y9 hy9 => ?_
 refine k_cat fun y10 hy10 => ?_
 refine t_N ?_
 exact k_eW (rT rN) E_str_p
noncomputable def B_laws_eqOutcome (a0 : DOutcome) (a1 : DOutcome) : Option Bool := ((F_laws_eqMemory a0.Memory a1.Memory).bind fun y1 => (if (!y1) = true then (some false) else (if (!decide (a0.At = a1.At)) = true then (some false) else (if (!decide (a0.Steps = a1.Steps)) = true then (some false) else (if (!decide (a0.Code = a1.Code)) = true then (some false) else (some true))))))
theorem u_laws_eqOutcome (a0 : DOutcome) (a1 : DOutcome) (r : Bool) (h : B_laws_eqOutcome a0 a1 = some r) : F_laws_eqOutcome a0 a1 = some r := by
 unfold B_laws_eqOutcome at h
 refine k_W ok_21 E_bool_inj h (fun σ0 => ?_)
 refine t_R ?_
 refine k_box (fun b1 => ?_)
 refine k_box (fun b2 => ?_)
 refine t_N ?_
 refine t_RU 1 ?_
 refine k_load 1 ?_
 refine t_U 1 ?_
 refine k_load 0 ?_
 refine k_call fun y1 hy1 => ?_
 refine t_N ?_
 refine t_if (fun hc1 => ?_) fun hc1 => ?_
 ·refine t_RN ?_
  exact k_eW (rT rN) E_bool_p
 refine t_RU 1 ?_
 refine k_load 1 ?_
 refine t_U 1 ?_
 refine k_load 0 ?_
 refine t_N ?_
 refine t_if (fun hc2 => ?_) fun hc2 => ?_
 ·refine t_RN ?_
  exact k_eW (rT rN) E_bool_p
 refine t_RU 1 ?_
 refine k_load 1 ?_
 refine t_U 1 ?_
 refine k_load 0 ?_
 refine t_N ?_
 refine t_if (fun hc3 => ?_) fun hc3 => ?_
 ·refine t_RN ?_
  exact k_eW (rT rN) E_bool_p
 refine t_RU 1 ?_
 refine k_load 1 ?_
 refine t_U 1 ?_
 refine k_load 0 ?_
 refine t_N ?_
 refine t_if (fun hc4 => ?_) fun hc4 => ?_
 ·refine t_RN ?_
  exact k_eW (rT rN) E_bool_p
 refine t_RN ?_
 exact k_eW (rT rN) E_bool_p
noncomputable def B_impl_decimal (a0 : Int) : Option ByteArray := ((F_strconv_FormatInt a0 10).bind fun y1 => (some y1))
theorem u_impl_decimal (a0 : Int) (r : ByteArray) (h : B_impl_decimal a0 = some r) : F_impl_decimal a0 = some r := by
 unfold B_impl_decimal at h
 refine k_W ok_31 E_str_inj h (fun σ0 => ?_)
 refine t_RN ?_
 refine t_RU 1 ?_
 refine k_call fun y1 hy1 => ?_
 refine t_N ?_
 exact k_eW (rT rN) E_str_p
noncomputable def B_spec_l16Digits (a0 : Int) : Option ByteArray := (if (decide (a0 < 0)) = true then ((F_spec_l16Below a0).bind fun y1 => ((catB ⟨#[45]⟩ y1).bind fun y2 => (some y2))) else ((F_spec_l11Digits a0).bind fun y3 => (some y3)))
theorem u_spec_l16Digits (a0 : Int) (r : ByteArray) (h : B_spec_l16Digits a0 = some r) : F_spec_l16Digits a0 = some r := by
 unfold B_spec_l16Digits at h
 refine k_W ok_38 E_str_inj h (fun σ0 => ?_)
 refine t_RN ?_
 refine t_RN ?_
 refine t_if (fun hc1 => ?_) fun hc1 => ?_
 ·refine t_RU 1 ?_
  refine k_call fun y1 hy1 => ?_
  refine k_cat fun y2 hy2 => ?_
  refine t_N ?_
  exact k_eW (rT rN) E_str_p
 refine t_RU 1 ?_
 refine k_call fun y3 hy3 => ?_
 refine t_N ?_
 exact k_eW (rT rN) E_str_p
noncomputable def B_laws_szMemory (a0 : DMemory) (a1 : Int) : Option Int := ((F_laws_szHeap a0.Heap a1).bind fun y1 => (if (decide (y1 < 0)) = true then (some (-1)) else ((F_laws_szScope a0.Scope y1).bind fun y2 => (if (decide (y2 < 0)) = true then (some (-1)) else ((F_laws_szConsole a0.Console y2).bind fun y3 => (if (decide (y3 < 0)) = true then (some (-1)) else (some y3)))))))
theorem u_laws_szMemory (a0 : DMemory) (a1 : Int) (r : Int) (h : B_laws_szMemory a0 a1 = some r) : F_laws_szMemory a0 a1 = some r := by
 unfold B_laws_szMemory at h
 refine k_W ok_43 E_i64_inj h (fun σ0 => ?_)
 refine t_R ?_
 refine k_box (fun b1 => ?_)
 refine t_N ?_
 refine t_RU 1 ?_
 refine k_load 0 ?_
 refine t_U 1 ?_
 refine k_call fun y1 hy1 => ?_
 refine t_N ?_
 refine t_RN ?_
 refine t_if (fun hc1 => ?_) fun hc1 => ?_
 ·refine t_RN ?_
  exact k_eW (rT rN) E_i64_p
 refine t_RU 1 ?_
 refine k_load 0 ?_
 refine t_U 1 ?_
 refine k_call fun y2 hy2 => ?_
 refine t_N ?_
 refine t_RN ?_
 refine t_if (fun hc2 => ?_) fun hc2 => ?_
 ·refine t_RN ?_
  exact k_eW (rT rN) E_i64_p
 refine t_RU 1 ?_
 refine k_load 0 ?_
 refine t_U 1 ?_
 refine k_call fun y3 hy3 => ?_
 refine t_N ?_
 refine t_RN ?_
 refine t_if (fun hc3 => ?_) fun hc3 => ?_
 ·refine t_RN ?_
  exact k_eW (rT rN) E_i64_p
 refine t_RN ?_
 exact k_eW (rT rN) E_i64_p
noncomputable def B_spec_l29Error (a0 : Int) : Option ByteArray := ((F_spec_CodeName a0).bind fun y1 => ((catB ⟨#[101, 114, 114, 111, 114, 32]⟩ y1).bind fun y2 => (some y2)))
theorem u_spec_l29Error (a0 : Int) (r : ByteArray) (h : B_spec_l29Error a0 = some r) : F_spec_l29Error a0 = some r := by
 unfold B_spec_l29Error at h
 refine k_W ok_44 E_str_inj h (fun σ0 => ?_)
 refine t_RN ?_
 refine t_RU 1 ?_
 refine k_call fun y1 hy1 => ?_
 refine k_cat fun y2 hy2 => ?_
 refine t_N ?_
 exact k_eW (rT rN) E_str_p
noncomputable def B_laws_toMemory (a0 : DMemory) : Option DMemory := ((F_laws_toHeap a0.Heap).bind fun y1 => ((F_laws_toScope a0.Scope).bind fun y2 => ((F_laws_toConsole a0.Console).bind fun y3 => (some (⟨y1, y2, y3⟩ : DMemory)))))
theorem u_laws_toMemory (a0 : DMemory) (r : DMemory) (h : B_laws_toMemory a0 = some r) : F_laws_toMemory a0 = some r := by
 unfold B_laws_toMemory at h
 refine k_O ok_45 h (fun σ0 => ?_)
 refine t_R ?_
 refine k_box (fun b1 => ?_)
 refine k_alloc fun b2 => ?_
 refine t_N ?_
 refine t_R ?_
 refine k_alloc fun b3 => ?_
 refine t_N ?_
 refine t_RU 1 ?_
 refine k_load 2 ?_
 refine k_callO1 (fun y1 t1 hy1 ht1 => ?_)
 refine t_U 1 ?_
 refine k_store 1 ?_ (h1 := by simp [ht1.1, ht1.2])
 refine t_N ?_
 refine t_RU 1 ?_
 refine k_load 3 ?_
 refine k_callO (fun y2 hs hy2 hl => ?_)
 obtain ⟨t2, t3, t4, rfl⟩ := len3 hl
 refine t_lit ?_
 refine t_one 0 fun ht2 => ?_
 refine t_one 1 fun ht3 => ?_
 refine t_one 2 fun ht4 => ?_
 refine t_U 1 ?_
 refine k_store 3 ?_ (h1 := by simp [ht2.1, ht2.2, ht3.1, ht3.2, ht4.1, ht4.2])
 refine t_N ?_
 refine t_RU 1 ?_
 refine k_load 6 ?_
 refine k_callO (fun y3 hs hy3 hl => ?_)
 obtain ⟨t5, t6, t7, t8, rfl⟩ := len4 hl
 refine t_lit ?_
 refine t_one 0 fun ht5 => ?_
 refine t_one 1 fun ht6 => ?_
 refine t_one 2 fun ht7 => ?_
 refine t_one 3 fun ht8 => ?_
 refine t_U 1 ?_
 refine k_store 4 ?_ (h1 := by simp [ht5.1, ht5.2, ht6.1, ht6.2, ht7.1, ht7.2, ht8.1, ht8.2])
 refine t_N ?_
 refine t_R ?_
 refine k_load 0 ?_
 refine k_storeA 9 ?_ (h1 := by simp [ht1.1, ht1.2, ht2.1, ht2.2, ht3.1, ht3.2, ht4.1, ht4.2, ht5.1, ht5.2, ht6.1, ht6.2, ht7.1, ht7.2, ht8.1, ht8.2])
 refine t_N ?_
 refine t_h (·.up5.up5.up5.up5.up8.up8.up8.up9) ?_
 exact k_eO [t1, t2, t3, t4, t5, t6, t7, t8] (rC 8 rN)
noncomputable def B_impl_CodeName (a0 : Int) : Option ByteArray := ((F_impl_isIndex a0 ((⟨false, [⟨#[111, 107]⟩, ⟨#[105, 110, 118, 97, 108, 105, 100]⟩, ⟨#[115, 121, 110, 116, 97, 120]⟩, ⟨#[114, 97, 110, 103, 101]⟩, ⟨#[116, 121, 112, 101]⟩, ⟨#[117, 110, 100, 101, 102, 105, 110, 101, 100]⟩, ⟨#[102, 117, 108, 108]⟩, ⟨#[115, 116, 101, 112, 115]⟩, ⟨#[100, 105, 118, 105, 115, 105, 111, 110]⟩, ⟨#[115, 116, 97, 99, 107]⟩, ⟨#[115, 116, 97, 116, 101]⟩, ⟨#[110, 111, 116, 45, 102, 111, 117, 110, 100]⟩]⟩ : Sl ByteArray).l.length : Int)).bind fun y1 => (if (!y1) = true then (some ⟨#[]⟩) else ((elt (⟨false, [⟨#[111, 107]⟩, ⟨#[105, 110, 118, 97, 108, 105, 100]⟩, ⟨#[115, 121, 110, 116, 97, 120]⟩, ⟨#[114, 97, 110, 103, 101]⟩, ⟨#[116, 121, 112, 101]⟩, ⟨#[117, 110, 100, 101, 102, 105, 110, 101, 100]⟩, ⟨#[102, 117, 108, 108]⟩, ⟨#[115, 116, 101, 112, 115]⟩, ⟨#[100, 105, 118, 105, 115, 105, 111, 110]⟩, ⟨#[115, 116, 97, 99, 107]⟩, ⟨#[115, 116, 97, 116, 101]⟩, ⟨#[110, 111, 116, 45, 102, 111, 117, 110, 100]⟩]⟩ : Sl ByteArray) a0).bind fun y2 => (some y2))))
theorem u_impl_CodeName (a0 : Int) (r : ByteArray) (h : B_impl_CodeName a0 = some r) : F_impl_CodeName a0 = some r := by
 unfold B_impl_CodeName at h
 refine k_W ok_46 E_str_inj h (fun σ0 => ?_)
 refine t_RN ?_
 refine t_R ?_
 refine k_bs (z := true) (⟨false, [⟨#[111, 107]⟩, ⟨#[105, 110, 118, 97, 108, 105, 100]⟩, ⟨#[115, 121, 110, 116, 97, 120]⟩, ⟨#[114, 97, 110, 103, 101]⟩, ⟨#[116, 121, 112, 101]⟩, ⟨#[117, 110, 100, 101, 102, 105, 110, 101, 100]⟩, ⟨#[102, 117, 108, 108]⟩, ⟨#[115, 116, 101, 112, 115]⟩, ⟨#[100, 105, 118, 105, 115, 105, 111, 110]⟩, ⟨#[115, 116, 97, 99, 107]⟩, ⟨#[115, 116, 97, 116, 101]⟩, ⟨#[110, 111, 116, 45, 102, 111, 117, 110, 100]⟩]⟩ : Sl ByteArray) (fun t1 ht1 => ?_)
 refine t_N ?_
 refine t_RU 2 ?_
 refine k_lenH (a := (⟨false, [⟨#[111, 107]⟩, ⟨#[105, 110, 118, 97, 108, 105, 100]⟩, ⟨#[115, 121, 110, 116, 97, 120]⟩, ⟨#[114, 97, 110, 103, 101]⟩, ⟨#[116, 121, 112, 101]⟩, ⟨#[117, 110, 100, 101, 102, 105, 110, 101, 100]⟩, ⟨#[102, 117, 108, 108]⟩, ⟨#[115, 116, 101, 112, 115]⟩, ⟨#[100, 105, 118, 105, 115, 105, 111, 110]⟩, ⟨#[115, 116, 97, 99, 107]⟩, ⟨#[115, 116, 97, 116, 101]⟩, ⟨#[110, 111, 116, 45, 102, 111, 117, 110, 100]⟩]⟩ : Sl ByteArray)) 0 ?_
 refine k_call fun y1 hy1 => ?_
 refine t_N ?_
 refine t_if (fun hc1 => ?_) fun hc1 => ?_
 ·refine t_RN ?_
  exact k_eW (rT rN) E_str_p
 refine t_RU 2 ?_
 refine k_hidx 0 (fun hb1 hb1e y2 hy2 hl_hb1 => ?_)
 refine k_hload 0 0 hl_hb1 hy2 ?_
 refine t_N ?_
 exact k_eW (rT rN) E_str_p
noncomputable def B_laws_eqMemory (a0 : DMemory) (a1 : DMemory) : Option Bool := ((F_laws_eqHeap a0.Heap a1.Heap).bind fun y1 => (if (!y1) = true then (some false) else ((F_laws_eqScope a0.Scope a1.Scope).bind fun y2 => (if (!y2) = true then (some false) else ((F_laws_eqConsole a0.Console a1.Console).bind fun y3 => (if (!y3) = true then (some false) else (some true)))))))
theorem u_laws_eqMemory (a0 : DMemory) (a1 : DMemory) (r : Bool) (h : B_laws_eqMemory a0 a1 = some r) : F_laws_eqMemory a0 a1 = some r := by
 unfold B_laws_eqMemory at h
 refine k_W ok_47 E_bool_inj h (fun σ0 => ?_)
 refine t_R ?_
 refine k_box (fun b1 => ?_)
 refine k_box (fun b2 => ?_)
 refine t_N ?_
 refine t_RU 1 ?_
 refine k_load 1 ?_
 refine t_U 1 ?_
 refine k_load 0 ?_
 refine k_call fun y1 hy1 => ?_
 refine t_N ?_
 refine t_if (fun hc1 => ?_) fun hc1 => ?_
 ·refine t_RN ?_
  exact k_eW (rT rN) E_bool_p
 refine t_RU 1 ?_
 refine k_load 1 ?_
 refine t_U 1 ?_
 refine k_load 0 ?_
 refine k_call fun y2 hy2 => ?_
 refine t_N ?_
 refine t_if (fun hc2 => ?_) fun hc2 => ?_
 ·refine t_RN ?_
  exact k_eW (rT rN) E_bool_p
 refine t_RU 1 ?_
 refine k_load 1 ?_
 refine t_U 1 ?_
 refine k_load 0 ?_
 refine k_call fun y3 hy3 => ?_
 refine t_N ?_
 refine t_if (fun hc3 => ?_) fun hc3 => ?_
 ·refine t_RN ?_
  exact k_eW (rT rN) E_bool_p
 refine t_RN ?_
 exact k_eW (rT rN) E_bool_p
noncomputable def B_spec_l00In (a0 : Int) (a1 : Int) (a2 : Int) : Option Bool := (if (decide (a1 ≤ a0)) = true then (some (decide (a0 ≤ a2))) else (some false))
theorem u_spec_l00In (a0 : Int) (a1 : Int) (a2 : Int) (r : Bool) (h : B_spec_l00In a0 a1 a2 = some r) : F_spec_l00In a0 a1 a2 = some r := by
 unfold B_spec_l00In at h
 refine k_W ok_70 E_bool_inj h (fun σ0 => ?_)
 refine t_RN ?_
 refine t_RU 4 ?_
 refine t_gif 10 (fun hc1 => ?_) fun hc1 => ?_
 ·refine t_N ?_
  exact k_eW (rT rN) E_bool_p
 refine t_N ?_
 exact k_eW (rT rN) E_bool_p
noncomputable def B_spec_l16Below (a0 : Int) : Option ByteArray := ((strS ((⟨false, [⟨(IntKind.u8.wrap (IntKind.i64.wrap (48 - (a0.tmod 10))))⟩]⟩ : Sl (Iv .u8)))).bind fun y1 => (if (decide ((-10) < a0)) = true then (some y1) else ((F_spec_l16Below (IntKind.i64.wrap (a0.tdiv 10))).bind fun y2 => ((catB y2 y1).bind fun y3 => (some y3)))))
theorem u_spec_l16Below (a0 : Int) (r : ByteArray) (h : B_spec_l16Below a0 = some r) : F_spec_l16Below a0 = some r := by
 unfold B_spec_l16Below at h
 refine k_W ok_73 E_str_inj h (fun σ0 => ?_)
 refine t_RN ?_
 refine t_RU 4 ?_
 refine k_bs (z := true) (⟨false, [⟨(IntKind.u8.wrap (IntKind.i64.wrap (48 - (a0.tmod 10))))⟩]⟩ : Sl (Iv .u8)) (fun t1 ht1 => ?_)
 refine k_b2s (a := (⟨false, [⟨(IntKind.u8.wrap (IntKind.i64.wrap (48 - (a0.tmod 10))))⟩]⟩ : Sl (Iv .u8))) 0 (fun y1 hy1 => ?_)
 refine t_N ?_
 refine t_RN ?_
 refine t_if (fun hc1 => ?_) fun hc1 => ?_
 ·refine t_RN ?_
  exact k_eW (rT rN) E_str_p
 refine t_RU 2 ?_
 refine k_call fun y2 hy2 => ?_
 refine t_U 1 ?_
 refine k_cat fun y3 hy3 => ?_
 refine t_N ?_
 exact k_eW (rT rN) E_str_p
noncomputable def B_spec_l11Digits (a0 : Int) : Option ByteArray := (if (decide (a0 < 10)) = true then ((strS ((⟨false, [⟨(IntKind.u8.wrap (IntKind.i64.wrap (48 + a0)))⟩]⟩ : Sl (Iv .u8)))).bind fun y1 => (some y1)) else ((F_spec_l11Digits (IntKind.i64.wrap (a0.tdiv 10))).bind fun y2 => ((strS ((⟨false, [⟨(IntKind.u8.wrap (IntKind.i64.wrap (48 + (a0.tmod 10))))⟩]⟩ : Sl (Iv .u8)))).bind fun y3 => ((catB y2 y3).bind fun y4 => (some y4)))))
theorem u_spec_l11Digits (a0 : Int) (r : ByteArray) (h : B_spec_l11Digits a0 = some r) : F_spec_l11Digits a0 = some r := by
 unfold B_spec_l11Digits at h
 refine k_W ok_74 E_str_inj h (fun σ0 => ?_)
 refine t_RN ?_
 refine t_RN ?_
 refine t_if (fun hc1 => ?_) fun hc1 => ?_
 ·refine t_RU 3 ?_
  refine k_bs (z := true) (⟨false, [⟨(IntKind.u8.wrap (IntKind.i64.wrap (48 + a0)))⟩]⟩ : Sl (Iv .u8)) (fun t1 ht1 => ?_)
  refine k_b2s (a := (⟨false, [⟨(IntKind.u8.wrap (IntKind.i64.wrap (48 + a0)))⟩]⟩ : Sl (Iv .u8))) 0 (fun y1 hy1 => ?_)
  refine t_N ?_
  exact k_eW (rT rN) E_str_p
 refine t_chainV [2] [] ext_x fun mb σs hn0 hlt hlto => ?_
 refine t_U 2 ?_
 refine k_call fun y2 hy2 => ?_
 refine t_U 4 ?_
 refine k_bs (z := true) (⟨false, [⟨(IntKind.u8.wrap (IntKind.i64.wrap (48 + (a0.tmod 10))))⟩]⟩ : Sl (Iv .u8)) (fun t2 ht2 => ?_) (hb := by exact hn0)
 refine k_b2s (a := (⟨false, [⟨(IntKind.u8.wrap (IntKind.i64.wrap (48 + (a0.tmod 10))))⟩]⟩ : Sl (Iv .u8))) 0 (fun y3 hy3 => ?_) (hq := by kernel_rfl)
 refine k_cat fun y4 hy4 => ?_
 refine t_N ?_
 exact k_eW (rT rN) E_str_p
noncomputable def B_laws_szHeap (a0 : DHeap) (a1 : Int) : Option Int := ((F_laws_szObjectS a0.Objects a1).bind fun y1 => (if (decide (y1 < 0)) = true then (some (-1)) else (some y1)))
theorem u_laws_szHeap (a0 : DHeap) (a1 : Int) (r : Int) (h : B_laws_szHeap a0 a1 = some r) : F_laws_szHeap a0 a1 = some r := by
 unfold B_laws_szHeap at h
 refine k_W ok_78 E_i64_inj h (fun σ0 => ?_)
 refine t_R ?_
 refine k_box (fun b1 => ?_)
 refine t_N ?_
 refine t_RU 1 ?_
 refine k_load 0 ?_
 refine t_U 1 ?_
 refine k_call fun y1 hy1 => ?_
 refine t_N ?_
 refine t_RN ?_
 refine t_if (fun hc1 => ?_) fun hc1 => ?_
 ·refine t_RN ?_
  exact k_eW (rT rN) E_i64_p
 refine t_RN ?_
 exact k_eW (rT rN) E_i64_p
noncomputable def B_laws_szScope (a0 : DScope) (a1 : Int) : Option Int := ((F_laws_szBindingS a0.Vars a1).bind fun y1 => (if (decide (y1 < 0)) = true then (some (-1)) else ((F_laws_szFunctionS a0.Functions y1).bind fun y2 => (if (decide (y2 < 0)) = true then (some (-1)) else ((F_laws_szRecordTypeS a0.Types y2).bind fun y3 => (if (decide (y3 < 0)) = true then (some (-1)) else (some y3)))))))
theorem u_laws_szScope (a0 : DScope) (a1 : Int) (r : Int) (h : B_laws_szScope a0 a1 = some r) : F_laws_szScope a0 a1 = some r := by
 unfold B_laws_szScope at h
 refine k_W ok_79 E_i64_inj h (fun σ0 => ?_)
 refine t_R ?_
 refine k_box (fun b1 => ?_)
 refine t_N ?_
 refine t_RU 1 ?_
 refine k_load 0 ?_
 refine t_U 1 ?_
 refine k_call fun y1 hy1 => ?_
 refine t_N ?_
 refine t_RN ?_
 refine t_if (fun hc1 => ?_) fun hc1 => ?_
 ·refine t_RN ?_
  exact k_eW (rT rN) E_i64_p
 refine t_RU 1 ?_
 refine k_load 0 ?_
 refine t_U 1 ?_
 refine k_call fun y2 hy2 => ?_
 refine t_N ?_
 refine t_RN ?_
 refine t_if (fun hc2 => ?_) fun hc2 => ?_
 ·refine t_RN ?_
  exact k_eW (rT rN) E_i64_p
 refine t_RU 1 ?_
 refine k_load 0 ?_
 refine t_U 1 ?_
 refine k_call fun y3 hy3 => ?_
 refine t_N ?_
 refine t_RN ?_
 refine t_if (fun hc3 => ?_) fun hc3 => ?_
 ·refine t_RN ?_
  exact k_eW (rT rN) E_i64_p
 refine t_RN ?_
 exact k_eW (rT rN) E_i64_p
noncomputable def B_laws_szConsole (a0 : DConsole) (a1 : Int) : Option Int := ((F_laws_szStringS a0.Input a1).bind fun y1 => (if (decide (y1 < 0)) = true then (some (-1)) else ((F_laws_szStringS a0.Output y1).bind fun y2 => (if (decide (y2 < 0)) = true then (some (-1)) else ((F_laws_szFileS a0.Files y2).bind fun y3 => (if (decide (y3 < 0)) = true then (some (-1)) else ((F_laws_szStringS a0.Trace y3).bind fun y4 => (if (decide (y4 < 0)) = true then (some (-1)) else (some y4)))))))))
theorem u_laws_szConsole (a0 : DConsole) (a1 : Int) (r : Int) (h : B_laws_szConsole a0 a1 = some r) : F_laws_szConsole a0 a1 = some r := by
 unfold B_laws_szConsole at h
 refine k_W ok_80 E_i64_inj h (fun σ0 => ?_)
 refine t_R ?_
 refine k_box (fun b1 => ?_)
 refine t_N ?_
 refine t_RU 1 ?_
 refine k_load 0 ?_
 refine t_U 1 ?_
 refine k_call fun y1 hy1 => ?_
 refine t_N ?_
 refine t_RN ?_
 refine t_if (fun hc1 => ?_) fun hc1 => ?_
 ·refine t_RN ?_
  exact k_eW (rT rN) E_i64_p
 refine t_RU 1 ?_
 refine k_load 0 ?_
 refine t_U 1 ?_
 refine k_call fun y2 hy2 => ?_
 refine t_N ?_
 refine t_RN ?_
 refine t_if (fun hc2 => ?_) fun hc2 => ?_
 ·refine t_RN ?_
  exact k_eW (rT rN) E_i64_p
 refine t_RU 1 ?_
 refine k_load 0 ?_
 refine t_U 1 ?_
 refine k_call fun y3 hy3 => ?_
 refine t_N ?_
 refine t_RN ?_
 refine t_if (fun hc3 => ?_) fun hc3 => ?_
 ·refine t_RN ?_
  exact k_eW (rT rN) E_i64_p
 refine t_RU 1 ?_
 refine k_load 0 ?_
 refine t_U 1 ?_
 refine k_call fun y4 hy4 => ?_
 refine t_N ?_
 refine t_RN ?_
 refine t_if (fun hc4 => ?_) fun hc4 => ?_
 ·refine t_RN ?_
  exact k_eW (rT rN) E_i64_p
 refine t_RN ?_
 exact k_eW (rT rN) E_i64_p
noncomputable def B_spec_CodeName (a0 : Int) : Option ByteArray := ((F_spec_l00In a0 0 (IntKind.i64.wrap (((⟨false, [⟨#[111, 107]⟩, ⟨#[105, 110, 118, 97, 108, 105, 100]⟩, ⟨#[115, 121, 110, 116, 97, 120]⟩, ⟨#[114, 97, 110, 103, 101]⟩, ⟨#[116, 121, 112, 101]⟩, ⟨#[117, 110, 100, 101, 102, 105, 110, 101, 100]⟩, ⟨#[102, 117, 108, 108]⟩, ⟨#[115, 116, 101, 112, 115]⟩, ⟨#[100, 105, 118, 105, 115, 105, 111, 110]⟩, ⟨#[115, 116, 97, 99, 107]⟩, ⟨#[115, 116, 97, 116, 101]⟩, ⟨#[110, 111, 116, 45, 102, 111, 117, 110, 100]⟩]⟩ : Sl ByteArray).l.length : Int) - 1))).bind fun y1 => (if (!y1) = true then (some ⟨#[]⟩) else ((elt (⟨false, [⟨#[111, 107]⟩, ⟨#[105, 110, 118, 97, 108, 105, 100]⟩, ⟨#[115, 121, 110, 116, 97, 120]⟩, ⟨#[114, 97, 110, 103, 101]⟩, ⟨#[116, 121, 112, 101]⟩, ⟨#[117, 110, 100, 101, 102, 105, 110, 101, 100]⟩, ⟨#[102, 117, 108, 108]⟩, ⟨#[115, 116, 101, 112, 115]⟩, ⟨#[100, 105, 118, 105, 115, 105, 111, 110]⟩, ⟨#[115, 116, 97, 99, 107]⟩, ⟨#[115, 116, 97, 116, 101]⟩, ⟨#[110, 111, 116, 45, 102, 111, 117, 110, 100]⟩]⟩ : Sl ByteArray) a0).bind fun y2 => (some y2))))
theorem u_spec_CodeName (a0 : Int) (r : ByteArray) (h : B_spec_CodeName a0 = some r) : F_spec_CodeName a0 = some r := by
 unfold B_spec_CodeName at h
 refine k_W ok_81 E_str_inj h (fun σ0 => ?_)
 refine t_RN ?_
 refine t_R ?_
 refine k_bs (z := true) (⟨false, [⟨#[111, 107]⟩, ⟨#[105, 110, 118, 97, 108, 105, 100]⟩, ⟨#[115, 121, 110, 116, 97, 120]⟩, ⟨#[114, 97, 110, 103, 101]⟩, ⟨#[116, 121, 112, 101]⟩, ⟨#[117, 110, 100, 101, 102, 105, 110, 101, 100]⟩, ⟨#[102, 117, 108, 108]⟩, ⟨#[115, 116, 101, 112, 115]⟩, ⟨#[100, 105, 118, 105, 115, 105, 111, 110]⟩, ⟨#[115, 116, 97, 99, 107]⟩, ⟨#[115, 116, 97, 116, 101]⟩, ⟨#[110, 111, 116, 45, 102, 111, 117, 110, 100]⟩]⟩ : Sl ByteArray) (fun t1 ht1 => ?_)
 refine t_N ?_
 refine t_RU 2 ?_
 refine k_lenH (a := (⟨false, [⟨#[111, 107]⟩, ⟨#[105, 110, 118, 97, 108, 105, 100]⟩, ⟨#[115, 121, 110, 116, 97, 120]⟩, ⟨#[114, 97, 110, 103, 101]⟩, ⟨#[116, 121, 112, 101]⟩, ⟨#[117, 110, 100, 101, 102, 105, 110, 101, 100]⟩, ⟨#[102, 117, 108, 108]⟩, ⟨#[115, 116, 101, 112, 115]⟩, ⟨#[100, 105, 118, 105, 115, 105, 111, 110]⟩, ⟨#[115, 116, 97, 99, 107]⟩, ⟨#[115, 116, 97, 116, 101]⟩, ⟨#[110, 111, 116, 45, 102, 111, 117, 110, 100]⟩]⟩ : Sl ByteArray)) 0 ?_
 refine t_U 1 ?_
 refine k_call fun y1 hy1 => ?_
 refine t_N ?_
 refine t_if (fun hc1 => ?_) fun hc1 => ?_
 ·refine t_RN ?_
  exact k_eW (rT rN) E_str_p
 refine t_RU 2 ?_
 refine k_hidx 0 (fun hb1 hb1e y2 hy2 hl_hb1 => ?_)
 refine k_hload 0 0 hl_hb1 hy2 ?_
 refine t_N ?_
 exact k_eW (rT rN) E_str_p
noncomputable def B_laws_toHeap (a0 : DHeap) : Option DHeap := ((F_laws_toObjectS a0.Objects).bind fun y1 => (some (⟨a0.Next, y1⟩ : DHeap)))
theorem u_laws_toHeap (a0 : DHeap) (r : DHeap) (h : B_laws_toHeap a0 = some r) : F_laws_toHeap a0 = some r := by
 unfold B_laws_toHeap at h
 refine k_O ok_82 h (fun σ0 => ?_)
 refine t_R ?_
 refine k_box (fun b1 => ?_)
 refine k_alloc fun b2 => ?_
 refine t_N ?_
 refine t_R ?_
 refine k_alloc fun b3 => ?_
 refine t_N ?_
 refine t_RU 1 ?_
 refine k_load 2 ?_
 refine t_U 1 ?_
 refine k_store 0 ?_
 refine t_N ?_
 refine t_RU 1 ?_
 refine k_load 2 ?_
 refine k_callO1 (fun y1 t1 hy1 ht1 => ?_)
 refine t_U 1 ?_
 refine k_storeT 1 ht1 ?_
 refine t_N ?_
 refine t_R ?_
 refine k_load 0 ?_
 refine k_storeA 2 ?_ (h1 := by simp [ht1.1, ht1.2])
 refine t_N ?_
 refine t_h Heap.up2 ?_
 exact k_eO [t1] (rC 1 rN)
noncomputable def B_laws_toScope (a0 : DScope) : Option DScope := ((F_laws_toBindingS a0.Vars).bind fun y1 => ((F_laws_toFunctionS a0.Functions).bind fun y2 => ((F_laws_toRecordTypeS a0.Types).bind fun y3 => (some (⟨y1, y2, y3⟩ : DScope)))))
theorem u_laws_toScope (a0 : DScope) (r : DScope) (h : B_laws_toScope a0 = some r) : F_laws_toScope a0 = some r := by
 unfold B_laws_toScope at h
 refine k_O ok_83 h (fun σ0 => ?_)
 refine t_R ?_
 refine k_box (fun b1 => ?_)
 refine k_alloc fun b2 => ?_
 refine t_N ?_
 refine t_R ?_
 refine k_alloc fun b3 => ?_
 refine t_N ?_
 refine t_RU 1 ?_
 refine k_load 2 ?_
 refine k_callO1 (fun y1 t1 hy1 ht1 => ?_)
 refine t_U 1 ?_
 refine k_storeT 1 ht1 ?_
 refine t_N ?_
 refine t_RU 1 ?_
 refine k_load 3 ?_
 refine k_callO1 (fun y2 t2 hy2 ht2 => ?_)
 refine t_U 1 ?_
 refine k_storeT 1 ht2 ?_
 refine t_N ?_
 refine t_RU 1 ?_
 refine k_load 4 ?_
 refine k_callO1 (fun y3 t3 hy3 ht3 => ?_)
 refine t_U 1 ?_
 refine k_storeT 1 ht3 ?_
 refine t_N ?_
 refine t_R ?_
 refine k_load 0 ?_
 refine k_storeA 4 ?_ (h1 := by simp [ht1.1, ht1.2, ht2.1, ht2.2, ht3.1, ht3.2])
 refine t_N ?_
 refine t_h (·.up2.up3.up4) ?_
 exact k_eO [t1, t2, t3] (rC 3 rN)
noncomputable def B_laws_toConsole (a0 : DConsole) : Option DConsole := ((F_laws_toStringS a0.Input).bind fun y1 => ((F_laws_toStringS a0.Output).bind fun y2 => ((F_laws_toFileS a0.Files).bind fun y3 => ((F_laws_toStringS a0.Trace).bind fun y4 => (some (⟨y1, a0.At, y2, y3, y4⟩ : DConsole))))))
theorem u_laws_toConsole (a0 : DConsole) (r : DConsole) (h : B_laws_toConsole a0 = some r) : F_laws_toConsole a0 = some r := by
 unfold B_laws_toConsole at h
 refine k_O ok_84 h (fun σ0 => ?_)
 refine t_R ?_
 refine k_box (fun b1 => ?_)
 refine k_alloc fun b2 => ?_
 refine t_N ?_
 refine t_R ?_
 refine k_alloc fun b3 => ?_
 refine t_N ?_
 refine t_RU 1 ?_
 refine k_load 2 ?_
 refine k_callO1 (fun y1 t1 hy1 ht1 => ?_)
 refine t_U 1 ?_
 refine k_storeT 1 ht1 ?_
 refine t_N ?_
 refine t_RU 1 ?_
 refine k_load 3 ?_
 refine t_U 1 ?_
 refine k_store 0 ?_
 refine t_N ?_
 refine t_RU 1 ?_
 refine k_load 3 ?_
 refine k_callO1 (fun y2 t2 hy2 ht2 => ?_)
 refine t_U 1 ?_
 refine k_storeT 1 ht2 ?_
 refine t_N ?_
 refine t_RU 1 ?_
 refine k_load 4 ?_
 refine k_callO1 (fun y3 t3 hy3 ht3 => ?_)
 refine t_U 1 ?_
 refine k_storeT 1 ht3 ?_
 refine t_N ?_
 refine t_RU 1 ?_
 refine k_load 5 ?_
 refine k_callO1 (fun y4 t4 hy4 ht4 => ?_)
 refine t_U 1 ?_
 refine k_storeT 1 ht4 ?_
 refine t_N ?_
 refine t_R ?_
 refine k_load 0 ?_
 refine k_storeA 5 ?_ (h1 := by simp [ht1.1, ht1.2, ht2.1, ht2.2, ht3.1, ht3.2, ht4.1, ht4.2])
 refine t_N ?_
 refine t_h (·.up2.up3.up4.up5) ?_
 exact k_eO [t1, t2, t3, t4] (rC 4 rN)
noncomputable def B_impl_isIndex (a0 : Int) (a1 : Int) : Option Bool := (if (decide (0 ≤ a0)) = true then (some (decide (a0 < a1))) else (some false))
theorem u_impl_isIndex (a0 : Int) (a1 : Int) (r : Bool) (h : B_impl_isIndex a0 a1 = some r) : F_impl_isIndex a0 a1 = some r := by
 unfold B_impl_isIndex at h
 refine k_W ok_85 E_bool_inj h (fun σ0 => ?_)
 refine t_RN ?_
 refine t_RU 3 ?_
 refine t_gif 7 (fun hc1 => ?_) fun hc1 => ?_
 ·refine t_N ?_
  exact k_eW (rT rN) E_bool_p
 refine t_N ?_
 exact k_eW (rT rN) E_bool_p
noncomputable def B_laws_eqHeap (a0 : DHeap) (a1 : DHeap) : Option Bool := (if (!decide (a0.Next = a1.Next)) = true then (some false) else ((F_laws_eqObjectS a0.Objects a1.Objects).bind fun y1 => (if (!y1) = true then (some false) else (some true))))
theorem u_laws_eqHeap (a0 : DHeap) (a1 : DHeap) (r : Bool) (h : B_laws_eqHeap a0 a1 = some r) : F_laws_eqHeap a0 a1 = some r := by
 unfold B_laws_eqHeap at h
 refine k_W ok_86 E_bool_inj h (fun σ0 => ?_)
 refine t_R ?_
 refine k_box (fun b1 => ?_)
 refine k_box (fun b2 => ?_)
 refine t_N ?_
 refine t_RU 1 ?_
 refine k_load 1 ?_
 refine t_U 1 ?_
 refine k_load 0 ?_
 refine t_N ?_
 refine t_if (fun hc1 => ?_) fun hc1 => ?_
 ·refine t_RN ?_
  exact k_eW (rT rN) E_bool_p
 refine t_RU 1 ?_
 refine k_load 1 ?_
 refine t_U 1 ?_
 refine k_load 0 ?_
 refine k_call fun y1 hy1 => ?_
 refine t_N ?_
 refine t_if (fun hc2 => ?_) fun hc2 => ?_
 ·refine t_RN ?_
  exact k_eW (rT rN) E_bool_p
 refine t_RN ?_
 exact k_eW (rT rN) E_bool_p
noncomputable def B_laws_eqScope (a0 : DScope) (a1 : DScope) : Option Bool := ((F_laws_eqBindingS a0.Vars a1.Vars).bind fun y1 => (if (!y1) = true then (some false) else ((F_laws_eqFunctionS a0.Functions a1.Functions).bind fun y2 => (if (!y2) = true then (some false) else ((F_laws_eqRecordTypeS a0.Types a1.Types).bind fun y3 => (if (!y3) = true then (some false) else (some true)))))))
theorem u_laws_eqScope (a0 : DScope) (a1 : DScope) (r : Bool) (h : B_laws_eqScope a0 a1 = some r) : F_laws_eqScope a0 a1 = some r := by
 unfold B_laws_eqScope at h
 refine k_W ok_87 E_bool_inj h (fun σ0 => ?_)
 refine t_R ?_
 refine k_box (fun b1 => ?_)
 refine k_box (fun b2 => ?_)
 refine t_N ?_
 refine t_RU 1 ?_
 refine k_load 1 ?_
 refine t_U 1 ?_
 refine k_load 0 ?_
 refine k_call fun y1 hy1 => ?_
 refine t_N ?_
 refine t_if (fun hc1 => ?_) fun hc1 => ?_
 ·refine t_RN ?_
  exact k_eW (rT rN) E_bool_p
 refine t_RU 1 ?_
 refine k_load 1 ?_
 refine t_U 1 ?_
 refine k_load 0 ?_
 refine k_call fun y2 hy2 => ?_
 refine t_N ?_
 refine t_if (fun hc2 => ?_) fun hc2 => ?_
 ·refine t_RN ?_
  exact k_eW (rT rN) E_bool_p
 refine t_RU 1 ?_
 refine k_load 1 ?_
 refine t_U 1 ?_
 refine k_load 0 ?_
 refine k_call fun y3 hy3 => ?_
 refine t_N ?_
 refine t_if (fun hc3 => ?_) fun hc3 => ?_
 ·refine t_RN ?_
  exact k_eW (rT rN) E_bool_p
 refine t_RN ?_
 exact k_eW (rT rN) E_bool_p
noncomputable def B_laws_eqConsole (a0 : DConsole) (a1 : DConsole) : Option Bool := ((F_laws_eqStringS a0.Input a1.Input).bind fun y1 => (if (!y1) = true then (some false) else (if (!decide (a0.At = a1.At)) = true then (some false) else ((F_laws_eqStringS a0.Output a1.Output).bind fun y2 => (if (!y2) = true then (some false) else ((F_laws_eqFileS a0.Files a1.Files).bind fun y3 => (if (!y3) = true then (some false) else ((F_laws_eqStringS a0.Trace a1.Trace).bind fun y4 => (if (!y4) = true then (some false) else (some true))))))))))
theorem u_laws_eqConsole (a0 : DConsole) (a1 : DConsole) (r : Bool) (h : B_laws_eqConsole a0 a1 = some r) : F_laws_eqConsole a0 a1 = some r := by
 unfold B_laws_eqConsole at h
 refine k_W ok_88 E_bool_inj h (fun σ0 => ?_)
 refine t_R ?_
 refine k_box (fun b1 => ?_)
 refine k_box (fun b2 => ?_)
 refine t_N ?_
 refine t_RU 1 ?_
 refine k_load 1 ?_
 refine t_U 1 ?_
 refine k_load 0 ?_
 refine k_call fun y1 hy1 => ?_
 refine t_N ?_
 refine t_if (fun hc1 => ?_) fun hc1 => ?_
 ·refine t_RN ?_
  exact k_eW (rT rN) E_bool_p
 refine t_RU 1 ?_
 refine k_load 1 ?_
 refine t_U 1 ?_
 refine k_load 0 ?_
 refine t_N ?_
 refine t_if (fun hc2 => ?_) fun hc2 => ?_
 ·refine t_RN ?_
  exact k_eW (rT rN) E_bool_p
 refine t_RU 1 ?_
 refine k_load 1 ?_
 refine t_U 1 ?_
 refine k_load 0 ?_
 refine k_call fun y2 hy2 => ?_
 refine t_N ?_
 refine t_if (fun hc3 => ?_) fun hc3 => ?_
 ·refine t_RN ?_
  exact k_eW (rT rN) E_bool_p
 refine t_RU 1 ?_
 refine k_load 1 ?_
 refine t_U 1 ?_
 refine k_load 0 ?_
 refine k_call fun y3 hy3 => ?_
 refine t_N ?_
 refine t_if (fun hc4 => ?_) fun hc4 => ?_
 ·refine t_RN ?_
  exact k_eW (rT rN) E_bool_p
 refine t_RU 1 ?_
 refine k_load 1 ?_
 refine t_U 1 ?_
 refine k_load 0 ?_
 refine k_call fun y4 hy4 => ?_
 refine t_N ?_
 refine t_if (fun hc5 => ?_) fun hc5 => ?_
 ·refine t_RN ?_
  exact k_eW (rT rN) E_bool_p
 refine t_RN ?_
 exact k_eW (rT rN) E_bool_p
noncomputable def B_laws_szObjectS (a0 : (Sl DObject)) (a1 : Int) : Option Int := (if (decide ((IntKind.i64.wrap (a1 - (a0.l.length : Int))) < 0)) = true then (some (-1)) else ((loopO (S := (Int × Int)) (R := (Int ⊕ Int)) (fun st1 => (if (decide (st1.2 < (a0.l.length : Int))) = true then ((elt a0 st1.2).bind fun y2 => ((F_laws_szObject y2 st1.1).bind fun y3 => (if (decide (y3 < 0)) = true then (some (.inr (.inr (-1)))) else (some (.inl (y3, (IntKind.i64.wrap (st1.2 + 1)))))))) else (some (.inr (.inl st1.1))))) ((IntKind.i64.wrap (a1 - (a0.l.length : Int))), 0)).bind fun y1 => (Sum.elim (fun y1 => (some y1)) (fun y1 => (some y1)) y1)))
theorem u_laws_szObjectS (a0 : (Sl DObject)) (a1 : Int) (r : Int) (h : B_laws_szObjectS a0 a1 = some r) : F_laws_szObjectS a0 a1 = some r := by
 unfold B_laws_szObjectS at h
 refine k_W ok_95 E_i64_inj h (fun σ0 => ?_)
 refine t_RN ?_
 refine t_RN ?_
 refine t_RN ?_
 refine t_if (fun hc1 => ?_) fun hc1 => ?_
 ·refine t_RN ?_
  exact k_eW (rT rN) E_i64_p
 refine t_RN ?_
 refine t_loop (fun st1 fr => Sub [(0, a0.t), (1, i4 st1.1), (5, i4 st1.2)] fr.s ∧ Heap σ0 fr.σ []) (fun y1 e fr => (Sum.elim (fun y => e = (.exit 0) ∧ Sub [(1, i4 y)] fr.s ∧ Heap σ0 fr.σ []) (fun y => e = .ret ∧ endW Tryd.prog (Tryd.f95.results.toList) σ0 (E_i64 y) .ret fr)) y1) (fun hS hH => And.intro (sub_to hS (by kernel_rfl)) hH) (fun st1 x fr h HI => ?_) fun y1 e fr h HF => ?_
 ·obtain ⟨s, σ⟩ := fr; obtain ⟨hS, hH⟩ := HI
  refine t_bk h hS hH ?_
  refine t_RN ?_
  refine t_if (fun hc2 => ?_) fun hc2 => ?_
  ·refine t_RU 2 ?_
   refine k_elt fun y2 rest1 hy2 => ?_
   refine t_U 2 ?_
   refine k_call fun y3 hy3 => ?_
   refine t_N ?_
   refine t_RN ?_
   refine t_if (fun hc3 => ?_) fun hc3 => ?_
   ·refine t_RN ?_
    exact t_e fun he hS hH => he ▸ And.intro rfl (eW hS hH (rT rN) E_i64_p)
   refine t_RN ?_
   exact t_e fun he hS hH => he ▸ And.intro (sub_to hS (by kernel_rfl)) hH
  exact t_e fun he hS hH => he ▸ And.intro rfl (And.intro (sub_to hS (by kernel_rfl)) hH)
 obtain ⟨s, σ⟩ := fr
 rcases y1 with y1 | y1
 ·have h := el_l h
  obtain ⟨rfl, hS, hH⟩ := HF
  refine t_bx h hS hH ?_
  refine t_RN ?_
  exact k_eW (rT rN) E_i64_p
 have h := el_r h
 obtain ⟨rfl, HE⟩ := HF
 injection h with h; subst h; exact HE
noncomputable def B_laws_szBindingS (a0 : (Sl DBinding)) (a1 : Int) : Option Int := (if (decide ((IntKind.i64.wrap (a1 - (a0.l.length : Int))) < 0)) = true then (some (-1)) else ((loopO (S := (Int × Int)) (R := (Int ⊕ Int)) (fun st1 => (if (decide (st1.2 < (a0.l.length : Int))) = true then ((elt a0 st1.2).bind fun y2 => ((F_laws_szBinding y2 st1.1).bind fun y3 => (if (decide (y3 < 0)) = true then (some (.inr (.inr (-1)))) else (some (.inl (y3, (IntKind.i64.wrap (st1.2 + 1)))))))) else (some (.inr (.inl st1.1))))) ((IntKind.i64.wrap (a1 - (a0.l.length : Int))), 0)).bind fun y1 => (Sum.elim (fun y1 => (some y1)) (fun y1 => (some y1)) y1)))
theorem u_laws_szBindingS (a0 : (Sl DBinding)) (a1 : Int) (r : Int) (h : B_laws_szBindingS a0 a1 = some r) : F_laws_szBindingS a0 a1 = some r := by
 unfold B_laws_szBindingS at h
 refine k_W ok_96 E_i64_inj h (fun σ0 => ?_)
 refine t_RN ?_
 refine t_RN ?_
 refine t_RN ?_
 refine t_if (fun hc1 => ?_) fun hc1 => ?_
 ·refine t_RN ?_
  exact k_eW (rT rN) E_i64_p
 refine t_RN ?_
 refine t_loop (fun st1 fr => Sub [(0, a0.t), (1, i4 st1.1), (5, i4 st1.2)] fr.s ∧ Heap σ0 fr.σ []) (fun y1 e fr => (Sum.elim (fun y => e = (.exit 0) ∧ Sub [(1, i4 y)] fr.s ∧ Heap σ0 fr.σ []) (fun y => e = .ret ∧ endW Tryd.prog (Tryd.f96.results.toList) σ0 (E_i64 y) .ret fr)) y1) (fun hS hH => And.intro (sub_to hS (by kernel_rfl)) hH) (fun st1 x fr h HI => ?_) fun y1 e fr h HF => ?_
 ·obtain ⟨s, σ⟩ := fr; obtain ⟨hS, hH⟩ := HI
  refine t_bk h hS hH ?_
  refine t_RN ?_
  refine t_if (fun hc2 => ?_) fun hc2 => ?_
  ·refine t_RU 2 ?_
   refine k_elt fun y2 rest1 hy2 => ?_
   refine t_U 2 ?_
   refine k_call fun y3 hy3 => ?_
   refine t_N ?_
   refine t_RN ?_
   refine t_if (fun hc3 => ?_) fun hc3 => ?_
   ·refine t_RN ?_
    exact t_e fun he hS hH => he ▸ And.intro rfl (eW hS hH (rT rN) E_i64_p)
   refine t_RN ?_
   exact t_e fun he hS hH => he ▸ And.intro (sub_to hS (by kernel_rfl)) hH
  exact t_e fun he hS hH => he ▸ And.intro rfl (And.intro (sub_to hS (by kernel_rfl)) hH)
 obtain ⟨s, σ⟩ := fr
 rcases y1 with y1 | y1
 ·have h := el_l h
  obtain ⟨rfl, hS, hH⟩ := HF
  refine t_bx h hS hH ?_
  refine t_RN ?_
  exact k_eW (rT rN) E_i64_p
 have h := el_r h
 obtain ⟨rfl, HE⟩ := HF
 injection h with h; subst h; exact HE
noncomputable def B_laws_szFunctionS (a0 : (Sl DFunction)) (a1 : Int) : Option Int := (if (decide ((IntKind.i64.wrap (a1 - (a0.l.length : Int))) < 0)) = true then (some (-1)) else ((loopO (S := (Int × Int)) (R := (Int ⊕ Int)) (fun st1 => (if (decide (st1.2 < (a0.l.length : Int))) = true then ((elt a0 st1.2).bind fun y2 => ((F_laws_szFunction y2 st1.1).bind fun y3 => (if (decide (y3 < 0)) = true then (some (.inr (.inr (-1)))) else (some (.inl (y3, (IntKind.i64.wrap (st1.2 + 1)))))))) else (some (.inr (.inl st1.1))))) ((IntKind.i64.wrap (a1 - (a0.l.length : Int))), 0)).bind fun y1 => (Sum.elim (fun y1 => (some y1)) (fun y1 => (some y1)) y1)))
theorem u_laws_szFunctionS (a0 : (Sl DFunction)) (a1 : Int) (r : Int) (h : B_laws_szFunctionS a0 a1 = some r) : F_laws_szFunctionS a0 a1 = some r := by
 unfold B_laws_szFunctionS at h
 refine k_W ok_97 E_i64_inj h (fun σ0 => ?_)
 refine t_RN ?_
 refine t_RN ?_
 refine t_RN ?_
 refine t_if (fun hc1 => ?_) fun hc1 => ?_
 ·refine t_RN ?_
  exact k_eW (rT rN) E_i64_p
 refine t_RN ?_
 refine t_loop (fun st1 fr => Sub [(0, a0.t), (1, i4 st1.1), (5, i4 st1.2)] fr.s ∧ Heap σ0 fr.σ []) (fun y1 e fr => (Sum.elim (fun y => e = (.exit 0) ∧ Sub [(1, i4 y)] fr.s ∧ Heap σ0 fr.σ []) (fun y => e = .ret ∧ endW Tryd.prog (Tryd.f97.results.toList) σ0 (E_i64 y) .ret fr)) y1) (fun hS hH => And.intro (sub_to hS (by kernel_rfl)) hH) (fun st1 x fr h HI => ?_) fun y1 e fr h HF => ?_
 ·obtain ⟨s, σ⟩ := fr; obtain ⟨hS, hH⟩ := HI
  refine t_bk h hS hH ?_
  refine t_RN ?_
  refine t_if (fun hc2 => ?_) fun hc2 => ?_
  ·refine t_RU 2 ?_
   refine k_elt fun y2 rest1 hy2 => ?_
   refine t_U 2 ?_
   refine k_call fun y3 hy3 => ?_
   refine t_N ?_
   refine t_RN ?_
   refine t_if (fun hc3 => ?_) fun hc3 => ?_
   ·refine t_RN ?_
    exact t_e fun he hS hH => he ▸ And.intro rfl (eW hS hH (rT rN) E_i64_p)
   refine t_RN ?_
   exact t_e fun he hS hH => he ▸ And.intro (sub_to hS (by kernel_rfl)) hH
  exact t_e fun he hS hH => he ▸ And.intro rfl (And.intro (sub_to hS (by kernel_rfl)) hH)
 obtain ⟨s, σ⟩ := fr
 rcases y1 with y1 | y1
 ·have h := el_l h
  obtain ⟨rfl, hS, hH⟩ := HF
  refine t_bx h hS hH ?_
  refine t_RN ?_
  exact k_eW (rT rN) E_i64_p
 have h := el_r h
 obtain ⟨rfl, HE⟩ := HF
 injection h with h; subst h; exact HE
noncomputable def B_laws_szRecordTypeS (a0 : (Sl DRecordType)) (a1 : Int) : Option Int := (if (decide ((IntKind.i64.wrap (a1 - (a0.l.length : Int))) < 0)) = true then (some (-1)) else ((loopO (S := (Int × Int)) (R := (Int ⊕ Int)) (fun st1 => (if (decide (st1.2 < (a0.l.length : Int))) = true then ((elt a0 st1.2).bind fun y2 => ((F_laws_szRecordType y2 st1.1).bind fun y3 => (if (decide (y3 < 0)) = true then (some (.inr (.inr (-1)))) else (some (.inl (y3, (IntKind.i64.wrap (st1.2 + 1)))))))) else (some (.inr (.inl st1.1))))) ((IntKind.i64.wrap (a1 - (a0.l.length : Int))), 0)).bind fun y1 => (Sum.elim (fun y1 => (some y1)) (fun y1 => (some y1)) y1)))
theorem u_laws_szRecordTypeS (a0 : (Sl DRecordType)) (a1 : Int) (r : Int) (h : B_laws_szRecordTypeS a0 a1 = some r) : F_laws_szRecordTypeS a0 a1 = some r := by
 unfold B_laws_szRecordTypeS at h
 refine k_W ok_98 E_i64_inj h (fun σ0 => ?_)
 refine t_RN ?_
 refine t_RN ?_
 refine t_RN ?_
 refine t_if (fun hc1 => ?_) fun hc1 => ?_
 ·refine t_RN ?_
  exact k_eW (rT rN) E_i64_p
 refine t_RN ?_
 refine t_loop (fun st1 fr => Sub [(0, a0.t), (1, i4 st1.1), (5, i4 st1.2)] fr.s ∧ Heap σ0 fr.σ []) (fun y1 e fr => (Sum.elim (fun y => e = (.exit 0) ∧ Sub [(1, i4 y)] fr.s ∧ Heap σ0 fr.σ []) (fun y => e = .ret ∧ endW Tryd.prog (Tryd.f98.results.toList) σ0 (E_i64 y) .ret fr)) y1) (fun hS hH => And.intro (sub_to hS (by kernel_rfl)) hH) (fun st1 x fr h HI => ?_) fun y1 e fr h HF => ?_
 ·obtain ⟨s, σ⟩ := fr; obtain ⟨hS, hH⟩ := HI
  refine t_bk h hS hH ?_
  refine t_RN ?_
  refine t_if (fun hc2 => ?_) fun hc2 => ?_
  ·refine t_RU 2 ?_
   refine k_elt fun y2 rest1 hy2 => ?_
   refine t_U 2 ?_
   refine k_call fun y3 hy3 => ?_
   refine t_N ?_
   refine t_RN ?_
   refine t_if (fun hc3 => ?_) fun hc3 => ?_
   ·refine t_RN ?_
    exact t_e fun he hS hH => he ▸ And.intro rfl (eW hS hH (rT rN) E_i64_p)
   refine t_RN ?_
   exact t_e fun he hS hH => he ▸ And.intro (sub_to hS (by kernel_rfl)) hH
  exact t_e fun he hS hH => he ▸ And.intro rfl (And.intro (sub_to hS (by kernel_rfl)) hH)
 obtain ⟨s, σ⟩ := fr
 rcases y1 with y1 | y1
 ·have h := el_l h
  obtain ⟨rfl, hS, hH⟩ := HF
  refine t_bx h hS hH ?_
  refine t_RN ?_
  exact k_eW (rT rN) E_i64_p
 have h := el_r h
 obtain ⟨rfl, HE⟩ := HF
 injection h with h; subst h; exact HE
noncomputable def B_laws_szStringS (a0 : (Sl ByteArray)) (a1 : Int) : Option Int := (if (decide ((IntKind.i64.wrap (a1 - (a0.l.length : Int))) < 0)) = true then (some (-1)) else ((loopO (S := (Int × Int)) (R := (Int ⊕ Int)) (fun st1 => (if (decide (st1.2 < (a0.l.length : Int))) = true then ((elt a0 st1.2).bind fun y2 => (if (decide ((IntKind.i64.wrap (st1.1 - (y2.size : Int))) < 0)) = true then (some (.inr (.inr (-1)))) else (some (.inl ((IntKind.i64.wrap (st1.1 - (y2.size : Int))), (IntKind.i64.wrap (st1.2 + 1))))))) else (some (.inr (.inl st1.1))))) ((IntKind.i64.wrap (a1 - (a0.l.length : Int))), 0)).bind fun y1 => (Sum.elim (fun y1 => (some y1)) (fun y1 => (some y1)) y1)))
theorem u_laws_szStringS (a0 : (Sl ByteArray)) (a1 : Int) (r : Int) (h : B_laws_szStringS a0 a1 = some r) : F_laws_szStringS a0 a1 = some r := by
 unfold B_laws_szStringS at h
 refine k_W ok_99 E_i64_inj h (fun σ0 => ?_)
 refine t_RN ?_
 refine t_RN ?_
 refine t_RN ?_
 refine t_if (fun hc1 => ?_) fun hc1 => ?_
 ·refine t_RN ?_
  exact k_eW (rT rN) E_i64_p
 refine t_RN ?_
 refine t_loop (fun st1 fr => Sub [(0, a0.t), (1, i4 st1.1), (5, i4 st1.2)] fr.s ∧ Heap σ0 fr.σ []) (fun y1 e fr => (Sum.elim (fun y => e = (.exit 0) ∧ Sub [(1, i4 y)] fr.s ∧ Heap σ0 fr.σ []) (fun y => e = .ret ∧ endW Tryd.prog (Tryd.f99.results.toList) σ0 (E_i64 y) .ret fr)) y1) (fun hS hH => And.intro (sub_to hS (by kernel_rfl)) hH) (fun st1 x fr h HI => ?_) fun y1 e fr h HF => ?_
 ·obtain ⟨s, σ⟩ := fr; obtain ⟨hS, hH⟩ := HI
  refine t_bk h hS hH ?_
  refine t_RN ?_
  refine t_if (fun hc2 => ?_) fun hc2 => ?_
  ·refine t_RU 3 ?_
   refine k_elt fun y2 rest1 hy2 => ?_
   refine t_N ?_
   refine t_RN ?_
   refine t_if (fun hc3 => ?_) fun hc3 => ?_
   ·refine t_RN ?_
    exact t_e fun he hS hH => he ▸ And.intro rfl (eW hS hH (rT rN) E_i64_p)
   refine t_RN ?_
   exact t_e fun he hS hH => he ▸ And.intro (sub_to hS (by kernel_rfl)) hH
  exact t_e fun he hS hH => he ▸ And.intro rfl (And.intro (sub_to hS (by kernel_rfl)) hH)
 obtain ⟨s, σ⟩ := fr
 rcases y1 with y1 | y1
 ·have h := el_l h
  obtain ⟨rfl, hS, hH⟩ := HF
  refine t_bx h hS hH ?_
  refine t_RN ?_
  exact k_eW (rT rN) E_i64_p
 have h := el_r h
 obtain ⟨rfl, HE⟩ := HF
 injection h with h; subst h; exact HE
noncomputable def B_laws_szFileS (a0 : (Sl DFile)) (a1 : Int) : Option Int := (if (decide ((IntKind.i64.wrap (a1 - (a0.l.length : Int))) < 0)) = true then (some (-1)) else ((loopO (S := (Int × Int)) (R := (Int ⊕ Int)) (fun st1 => (if (decide (st1.2 < (a0.l.length : Int))) = true then ((elt a0 st1.2).bind fun y2 => ((F_laws_szFile y2 st1.1).bind fun y3 => (if (decide (y3 < 0)) = true then (some (.inr (.inr (-1)))) else (some (.inl (y3, (IntKind.i64.wrap (st1.2 + 1)))))))) else (some (.inr (.inl st1.1))))) ((IntKind.i64.wrap (a1 - (a0.l.length : Int))), 0)).bind fun y1 => (Sum.elim (fun y1 => (some y1)) (fun y1 => (some y1)) y1)))
theorem u_laws_szFileS (a0 : (Sl DFile)) (a1 : Int) (r : Int) (h : B_laws_szFileS a0 a1 = some r) : F_laws_szFileS a0 a1 = some r := by
 unfold B_laws_szFileS at h
 refine k_W ok_100 E_i64_inj h (fun σ0 => ?_)
 refine t_RN ?_
 refine t_RN ?_
 refine t_RN ?_
 refine t_if (fun hc1 => ?_) fun hc1 => ?_
 ·refine t_RN ?_
  exact k_eW (rT rN) E_i64_p
 refine t_RN ?_
 refine t_loop (fun st1 fr => Sub [(0, a0.t), (1, i4 st1.1), (5, i4 st1.2)] fr.s ∧ Heap σ0 fr.σ []) (fun y1 e fr => (Sum.elim (fun y => e = (.exit 0) ∧ Sub [(1, i4 y)] fr.s ∧ Heap σ0 fr.σ []) (fun y => e = .ret ∧ endW Tryd.prog (Tryd.f100.results.toList) σ0 (E_i64 y) .ret fr)) y1) (fun hS hH => And.intro (sub_to hS (by kernel_rfl)) hH) (fun st1 x fr h HI => ?_) fun y1 e fr h HF => ?_
 ·obtain ⟨s, σ⟩ := fr; obtain ⟨hS, hH⟩ := HI
  refine t_bk h hS hH ?_
  refine t_RN ?_
  refine t_if (fun hc2 => ?_) fun hc2 => ?_
  ·refine t_RU 2 ?_
   refine k_elt fun y2 rest1 hy2 => ?_
   refine t_U 2 ?_
   refine k_call fun y3 hy3 => ?_
   refine t_N ?_
   refine t_RN ?_
   refine t_if (fun hc3 => ?_) fun hc3 => ?_
   ·refine t_RN ?_
    exact t_e fun he hS hH => he ▸ And.intro rfl (eW hS hH (rT rN) E_i64_p)
   refine t_RN ?_
   exact t_e fun he hS hH => he ▸ And.intro (sub_to hS (by kernel_rfl)) hH
  exact t_e fun he hS hH => he ▸ And.intro rfl (And.intro (sub_to hS (by kernel_rfl)) hH)
 obtain ⟨s, σ⟩ := fr
 rcases y1 with y1 | y1
 ·have h := el_l h
  obtain ⟨rfl, hS, hH⟩ := HF
  refine t_bx h hS hH ?_
  refine t_RN ?_
  exact k_eW (rT rN) E_i64_p
 have h := el_r h
 obtain ⟨rfl, HE⟩ := HF
 injection h with h; subst h; exact HE
noncomputable def B_laws_toObjectS (a0 : (Sl DObject)) : Option (Sl DObject) := ((mkS 128 ((⟨0, 0, ⟨#[]⟩, 0, ⟨true, []⟩, ⟨true, []⟩, (⟨0, 0, ⟨#[]⟩, 0⟩ : DValue)⟩ : DObject) : DObject) (a0.l.length : Int) (a0.l.length : Int)).bind fun y1 => ((loopO (S := (Int × (Sl DObject))) (R := (Sl DObject)) (fun st1 => (if (decide (st1.1 < (a0.l.length : Int))) = true then ((elt a0 st1.1).bind fun y3 => ((F_laws_toObject y3).bind fun y4 => ((elt st1.2 st1.1).bind fun y5 => (some (.inl ((IntKind.i64.wrap (st1.1 + 1)), (setS st1.2 st1.1 (y4 : DObject)))))))) else (some (.inr st1.2)))) (0, y1)).bind fun y2 => (some y2)))
theorem u_laws_toObjectS (a0 : (Sl DObject)) (r : (Sl DObject)) (h : B_laws_toObjectS a0 = some r) : F_laws_toObjectS a0 = some r := by
 unfold B_laws_toObjectS at h
 refine k_O ok_101 h (fun σ0 => ?_)
 refine t_RN ?_
 refine t_RU 2 ?_
 intro h s σ hS hH
 obtain ⟨y1, hy1, h⟩ := bind_some h
 refine q_make (z := true) (e := 188) (by_ := 128) (x0 := ((⟨0, 0, ⟨#[]⟩, 0, ⟨true, []⟩, ⟨true, []⟩, (⟨0, 0, ⟨#[]⟩, 0⟩ : DValue)⟩ : DObject) : DObject)) (fun σ d => by simp [Enc.cells, DObject.cells, Iv]) rfl hS hH rfl rfl (by kernel_rfl) (by kernel_rfl) (by kernel_rfl) (by kernel_rfl) rfl hy1 ?_; intro t1 σ s ht1 hH hS
 refine t_bk h hS hH ?_
 refine t_N ?_
 refine t_RN ?_
 refine t_loop (fun st1 fr => Sub [(0, a0.t), (3, t1), (4, i4 st1.1)] fr.s ∧ Heap σ0 fr.σ [.own true 10 t1 st1.2.t]) (fun y2 e fr => e = (.exit 0) ∧ Sub [(3, t1)] fr.s ∧ Heap σ0 fr.σ [.own true 10 t1 y2.t]) (fun hS hH => And.intro (sub_to hS (by kernel_rfl)) hH) (fun st1 x fr h HI => ?_) fun y2 e fr h HF => ?_
 ·obtain ⟨s, σ⟩ := fr; obtain ⟨hS, hH⟩ := HI
  refine t_bk h hS hH ?_
  refine t_RN ?_
  refine t_if (fun hc1 => ?_) fun hc1 => ?_
  ·refine t_RU 4 ?_
   refine k_elt fun y3 rest1 hy3 => ?_
   refine t_U 1 ?_
   refine k_callO (fun y4 hs hy4 hl => ?_)
   obtain ⟨t2, t3, rfl⟩ := len2 hl
   refine t_lit ?_
   refine t_one 0 fun ht2 => ?_
   refine t_one 1 fun ht3 => ?_
   refine k_hidx 2 (fun hb1 hb1e y5 hy5 hl_hb1 => ?_)
   refine t_h Heap.up2 ?_
   intro h s σ hS hH
   refine q_hstore (ents := [.own true 4 t2 y4.Keys.t, .own true 4 t3 y4.Vals.t]) (a := st1.2) (j := st1.1) (y := y5) (y' := (y4 : DObject)) (off := 0) (c := [i4 y5.Id, i4 y5.Kind, .str y5.Name, i4 y5.Low, y5.Keys.t, y5.Vals.t, i4 y5.Default.Kind, i4 y5.Default.Num, .str y5.Default.Text, i4 y5.Default.Ref]) (us := [i4 y4.Id, i4 y4.Kind, .str y4.Name, i4 y4.Low, t2, t3, i4 y4.Default.Kind, i4 y4.Default.Num, .str y4.Default.Text, i4 y4.Default.Ref]) (vs := [i4 y4.Id, i4 y4.Kind, .str y4.Name, i4 y4.Low, y4.Keys.t, y4.Vals.t, i4 y4.Default.Kind, i4 y4.Default.Num, .str y4.Default.Text, i4 y4.Default.Ref]) (v := .agg [i4 y4.Id, i4 y4.Kind, .str y4.Name, i4 y4.Low, t2, t3, i4 y4.Default.Kind, i4 y4.Default.Num, .str y4.Default.Text, i4 y4.Default.Ref]) rfl hS hH hl_hb1 rfl rfl rfl (by simp [ht2.1, ht2.2, ht3.1, ht3.2]) (by kernel_rfl) rfl hy5 rfl (HLi (HLi (HLs (HLi (HL.own rfl (HL.own rfl (HLi (HLi (HLs (HLi HL.nil)))))))))) rfl (by kernel_rfl) ?_; intro σ s hH hS
   refine t_bk h hS hH ?_
   refine t_N ?_
   refine t_RN ?_
   exact t_e fun he hS hH => he ▸ And.intro (sub_to hS (by kernel_rfl)) hH
  exact t_e fun he hS hH => he ▸ And.intro rfl (And.intro (sub_to hS (by kernel_rfl)) hH)
 obtain ⟨s, σ⟩ := fr
 obtain ⟨rfl, hS, hH⟩ := HF
 refine t_bx h hS hH ?_
 refine t_RN ?_
 exact k_eO [t1] (rT rN)
noncomputable def B_laws_toBindingS (a0 : (Sl DBinding)) : Option (Sl DBinding) := ((mkS 56 ((⟨⟨#[]⟩, (⟨0, 0, ⟨#[]⟩, 0⟩ : DValue)⟩ : DBinding) : DBinding) (a0.l.length : Int) (a0.l.length : Int)).bind fun y1 => ((loopO (S := (Int × (Sl DBinding))) (R := (Sl DBinding)) (fun st1 => (if (decide (st1.1 < (a0.l.length : Int))) = true then ((elt a0 st1.1).bind fun y3 => ((F_laws_toBinding y3).bind fun y4 => ((elt st1.2 st1.1).bind fun y5 => (some (.inl ((IntKind.i64.wrap (st1.1 + 1)), (setS st1.2 st1.1 (y4 : DBinding)))))))) else (some (.inr st1.2)))) (0, y1)).bind fun y2 => (some y2)))
theorem u_laws_toBindingS (a0 : (Sl DBinding)) (r : (Sl DBinding)) (h : B_laws_toBindingS a0 = some r) : F_laws_toBindingS a0 = some r := by
 unfold B_laws_toBindingS at h
 refine k_O ok_102 h (fun σ0 => ?_)
 refine t_RN ?_
 refine t_RU 2 ?_
 intro h s σ hS hH
 obtain ⟨y1, hy1, h⟩ := bind_some h
 refine q_make (z := true) (e := 191) (by_ := 56) (x0 := ((⟨⟨#[]⟩, (⟨0, 0, ⟨#[]⟩, 0⟩ : DValue)⟩ : DBinding) : DBinding)) (fun σ d => by simp [Enc.cells, DBinding.cells, Iv]) rfl hS hH rfl rfl (by kernel_rfl) (by kernel_rfl) (by kernel_rfl) (by kernel_rfl) rfl hy1 ?_; intro t1 σ s ht1 hH hS
 refine t_bk h hS hH ?_
 refine t_N ?_
 refine t_RN ?_
 refine t_loop (fun st1 fr => Sub [(0, a0.t), (3, t1), (4, i4 st1.1)] fr.s ∧ Heap σ0 fr.σ [.own true 5 t1 st1.2.t]) (fun y2 e fr => e = (.exit 0) ∧ Sub [(3, t1)] fr.s ∧ Heap σ0 fr.σ [.own true 5 t1 y2.t]) (fun hS hH => And.intro (sub_to hS (by kernel_rfl)) hH) (fun st1 x fr h HI => ?_) fun y2 e fr h HF => ?_
 ·obtain ⟨s, σ⟩ := fr; obtain ⟨hS, hH⟩ := HI
  refine t_bk h hS hH ?_
  refine t_RN ?_
  refine t_if (fun hc1 => ?_) fun hc1 => ?_
  ·refine t_RU 4 ?_
   refine k_elt fun y3 rest1 hy3 => ?_
   refine t_U 1 ?_
   refine k_call fun y4 hy4 => ?_
   refine k_hidx 0 (fun hb1 hb1e y5 hy5 hl_hb1 => ?_)
   intro h s σ hS hH
   refine q_hstore (ents := []) (a := st1.2) (j := st1.1) (y := y5) (y' := (y4 : DBinding)) (off := 0) (c := [.str y5.Name, i4 y5.Value.Kind, i4 y5.Value.Num, .str y5.Value.Text, i4 y5.Value.Ref]) (us := [.str y4.Name, i4 y4.Value.Kind, i4 y4.Value.Num, .str y4.Value.Text, i4 y4.Value.Ref]) (vs := [.str y4.Name, i4 y4.Value.Kind, i4 y4.Value.Num, .str y4.Value.Text, i4 y4.Value.Ref]) (v := .agg (DBinding.cells y4)) rfl hS hH hl_hb1 rfl rfl rfl (by kernel_rfl) (by kernel_rfl) rfl hy5 rfl (HLs (HLi (HLi (HLs (HLi HL.nil))))) rfl (by kernel_rfl) ?_; intro σ s hH hS
   refine t_bk h hS hH ?_
   refine t_N ?_
   refine t_RN ?_
   exact t_e fun he hS hH => he ▸ And.intro (sub_to hS (by kernel_rfl)) hH
  exact t_e fun he hS hH => he ▸ And.intro rfl (And.intro (sub_to hS (by kernel_rfl)) hH)
 obtain ⟨s, σ⟩ := fr
 obtain ⟨rfl, hS, hH⟩ := HF
 refine t_bx h hS hH ?_
 refine t_RN ?_
 exact k_eO [t1] (rT rN)
noncomputable def B_laws_toFunctionS (a0 : (Sl DFunction)) : Option (Sl DFunction) := ((mkS 80 ((⟨⟨#[]⟩, ⟨true, []⟩, ⟨true, []⟩, ⟨#[]⟩⟩ : DFunction) : DFunction) (a0.l.length : Int) (a0.l.length : Int)).bind fun y1 => ((loopO (S := (Int × (Sl DFunction))) (R := (Sl DFunction)) (fun st1 => (if (decide (st1.1 < (a0.l.length : Int))) = true then ((elt a0 st1.1).bind fun y3 => ((F_laws_toFunction y3).bind fun y4 => ((elt st1.2 st1.1).bind fun y5 => (some (.inl ((IntKind.i64.wrap (st1.1 + 1)), (setS st1.2 st1.1 (y4 : DFunction)))))))) else (some (.inr st1.2)))) (0, y1)).bind fun y2 => (some y2)))
theorem u_laws_toFunctionS (a0 : (Sl DFunction)) (r : (Sl DFunction)) (h : B_laws_toFunctionS a0 = some r) : F_laws_toFunctionS a0 = some r := by
 unfold B_laws_toFunctionS at h
 refine k_O ok_103 h (fun σ0 => ?_)
 refine t_RN ?_
 refine t_RU 2 ?_
 intro h s σ hS hH
 obtain ⟨y1, hy1, h⟩ := bind_some h
 refine q_make (z := true) (e := 193) (by_ := 80) (x0 := ((⟨⟨#[]⟩, ⟨true, []⟩, ⟨true, []⟩, ⟨#[]⟩⟩ : DFunction) : DFunction)) (fun σ d => by simp [Enc.cells, DFunction.cells, Iv]) rfl hS hH rfl rfl (by kernel_rfl) (by kernel_rfl) (by kernel_rfl) (by kernel_rfl) rfl hy1 ?_; intro t1 σ s ht1 hH hS
 refine t_bk h hS hH ?_
 refine t_N ?_
 refine t_RN ?_
 refine t_loop (fun st1 fr => Sub [(0, a0.t), (3, t1), (4, i4 st1.1)] fr.s ∧ Heap σ0 fr.σ [.own true 4 t1 st1.2.t]) (fun y2 e fr => e = (.exit 0) ∧ Sub [(3, t1)] fr.s ∧ Heap σ0 fr.σ [.own true 4 t1 y2.t]) (fun hS hH => And.intro (sub_to hS (by kernel_rfl)) hH) (fun st1 x fr h HI => ?_) fun y2 e fr h HF => ?_
 ·obtain ⟨s, σ⟩ := fr; obtain ⟨hS, hH⟩ := HI
  refine t_bk h hS hH ?_
  refine t_RN ?_
  refine t_if (fun hc1 => ?_) fun hc1 => ?_
  ·refine t_RU 4 ?_
   refine k_elt fun y3 rest1 hy3 => ?_
   refine t_U 1 ?_
   refine k_callO (fun y4 hs hy4 hl => ?_)
   obtain ⟨t2, t3, rfl⟩ := len2 hl
   refine t_lit ?_
   refine t_one 0 fun ht2 => ?_
   refine t_one 1 fun ht3 => ?_
   refine k_hidx 2 (fun hb1 hb1e y5 hy5 hl_hb1 => ?_)
   refine t_h Heap.up2 ?_
   intro h s σ hS hH
   refine q_hstore (ents := [.own true 1 t2 y4.Params.t, .own true 1 t3 y4.Locals.t]) (a := st1.2) (j := st1.1) (y := y5) (y' := (y4 : DFunction)) (off := 0) (c := [.str y5.Name, y5.Params.t, y5.Locals.t, .str y5.Label]) (us := [.str y4.Name, t2, t3, .str y4.Label]) (vs := [.str y4.Name, y4.Params.t, y4.Locals.t, .str y4.Label]) (v := .agg [.str y4.Name, t2, t3, .str y4.Label]) rfl hS hH hl_hb1 rfl rfl rfl (by simp [ht2.1, ht2.2, ht3.1, ht3.2]) (by kernel_rfl) rfl hy5 rfl (HLs (HL.own rfl (HL.own rfl (HLs HL.nil)))) rfl (by kernel_rfl) ?_; intro σ s hH hS
   refine t_bk h hS hH ?_
   refine t_N ?_
   refine t_RN ?_
   exact t_e fun he hS hH => he ▸ And.intro (sub_to hS (by kernel_rfl)) hH
  exact t_e fun he hS hH => he ▸ And.intro rfl (And.intro (sub_to hS (by kernel_rfl)) hH)
 obtain ⟨s, σ⟩ := fr
 obtain ⟨rfl, hS, hH⟩ := HF
 refine t_bx h hS hH ?_
 refine t_RN ?_
 exact k_eO [t1] (rT rN)
noncomputable def B_laws_toRecordTypeS (a0 : (Sl DRecordType)) : Option (Sl DRecordType) := ((mkS 40 ((⟨⟨#[]⟩, ⟨true, []⟩⟩ : DRecordType) : DRecordType) (a0.l.length : Int) (a0.l.length : Int)).bind fun y1 => ((loopO (S := (Int × (Sl DRecordType))) (R := (Sl DRecordType)) (fun st1 => (if (decide (st1.1 < (a0.l.length : Int))) = true then ((elt a0 st1.1).bind fun y3 => ((F_laws_toRecordType y3).bind fun y4 => ((elt st1.2 st1.1).bind fun y5 => (some (.inl ((IntKind.i64.wrap (st1.1 + 1)), (setS st1.2 st1.1 (y4 : DRecordType)))))))) else (some (.inr st1.2)))) (0, y1)).bind fun y2 => (some y2)))
theorem u_laws_toRecordTypeS (a0 : (Sl DRecordType)) (r : (Sl DRecordType)) (h : B_laws_toRecordTypeS a0 = some r) : F_laws_toRecordTypeS a0 = some r := by
 unfold B_laws_toRecordTypeS at h
 refine k_O ok_104 h (fun σ0 => ?_)
 refine t_RN ?_
 refine t_RU 2 ?_
 intro h s σ hS hH
 obtain ⟨y1, hy1, h⟩ := bind_some h
 refine q_make (z := true) (e := 195) (by_ := 40) (x0 := ((⟨⟨#[]⟩, ⟨true, []⟩⟩ : DRecordType) : DRecordType)) (fun σ d => by simp [Enc.cells, DRecordType.cells, Iv]) rfl hS hH rfl rfl (by kernel_rfl) (by kernel_rfl) (by kernel_rfl) (by kernel_rfl) rfl hy1 ?_; intro t1 σ s ht1 hH hS
 refine t_bk h hS hH ?_
 refine t_N ?_
 refine t_RN ?_
 refine t_loop (fun st1 fr => Sub [(0, a0.t), (3, t1), (4, i4 st1.1)] fr.s ∧ Heap σ0 fr.σ [.own true 2 t1 st1.2.t]) (fun y2 e fr => e = (.exit 0) ∧ Sub [(3, t1)] fr.s ∧ Heap σ0 fr.σ [.own true 2 t1 y2.t]) (fun hS hH => And.intro (sub_to hS (by kernel_rfl)) hH) (fun st1 x fr h HI => ?_) fun y2 e fr h HF => ?_
 ·obtain ⟨s, σ⟩ := fr; obtain ⟨hS, hH⟩ := HI
  refine t_bk h hS hH ?_
  refine t_RN ?_
  refine t_if (fun hc1 => ?_) fun hc1 => ?_
  ·refine t_RU 4 ?_
   refine k_elt fun y3 rest1 hy3 => ?_
   refine t_U 1 ?_
   refine k_callO1 (fun y4 t2 hy4 ht2 => ?_)
   refine k_hidx 1 (fun hb1 hb1e y5 hy5 hl_hb1 => ?_)
   refine t_h Heap.up1 ?_
   intro h s σ hS hH
   refine q_hstore (ents := [.own true 1 t2 y4.Fields.t]) (a := st1.2) (j := st1.1) (y := y5) (y' := (y4 : DRecordType)) (off := 0) (c := [.str y5.Name, y5.Fields.t]) (us := [.str y4.Name, t2]) (vs := [.str y4.Name, y4.Fields.t]) (v := .agg [.str y4.Name, t2]) rfl hS hH hl_hb1 rfl rfl rfl (by simp [ht2.1, ht2.2]) (by kernel_rfl) rfl hy5 rfl (HLs (HL.own rfl HL.nil)) rfl (by kernel_rfl) ?_; intro σ s hH hS
   refine t_bk h hS hH ?_
   refine t_N ?_
   refine t_RN ?_
   exact t_e fun he hS hH => he ▸ And.intro (sub_to hS (by kernel_rfl)) hH
  exact t_e fun he hS hH => he ▸ And.intro rfl (And.intro (sub_to hS (by kernel_rfl)) hH)
 obtain ⟨s, σ⟩ := fr
 obtain ⟨rfl, hS, hH⟩ := HF
 refine t_bx h hS hH ?_
 refine t_RN ?_
 exact k_eO [t1] (rT rN)
noncomputable def B_laws_toStringS (a0 : (Sl ByteArray)) : Option (Sl ByteArray) := ((mkS 16 (⟨#[]⟩ : ByteArray) (a0.l.length : Int) (a0.l.length : Int)).bind fun y1 => ((loopO (S := (Int × (Sl ByteArray))) (R := (Sl ByteArray)) (fun st1 => (if (decide (st1.1 < (a0.l.length : Int))) = true then ((elt a0 st1.1).bind fun y3 => ((elt st1.2 st1.1).bind fun y4 => (some (.inl ((IntKind.i64.wrap (st1.1 + 1)), (setS st1.2 st1.1 (y3 : ByteArray))))))) else (some (.inr st1.2)))) (0, y1)).bind fun y2 => (some y2)))
theorem u_laws_toStringS (a0 : (Sl ByteArray)) (r : (Sl ByteArray)) (h : B_laws_toStringS a0 = some r) : F_laws_toStringS a0 = some r := by
 unfold B_laws_toStringS at h
 refine k_O ok_105 h (fun σ0 => ?_)
 refine t_RN ?_
 refine t_RU 2 ?_
 intro h s σ hS hH
 obtain ⟨y1, hy1, h⟩ := bind_some h
 refine q_make (z := true) (e := 9) (by_ := 16) (x0 := (⟨#[]⟩ : ByteArray)) (fun σ d => by simp [Enc.cells, hold_str, Iv]) rfl hS hH rfl rfl (by kernel_rfl) (by kernel_rfl) (by kernel_rfl) (by kernel_rfl) rfl hy1 ?_; intro t1 σ s ht1 hH hS
 refine t_bk h hS hH ?_
 refine t_N ?_
 refine t_RN ?_
 refine t_loop (fun st1 fr => Sub [(0, a0.t), (3, t1), (4, i4 st1.1)] fr.s ∧ Heap σ0 fr.σ [.own true 1 t1 st1.2.t]) (fun y2 e fr => e = (.exit 0) ∧ Sub [(3, t1)] fr.s ∧ Heap σ0 fr.σ [.own true 1 t1 y2.t]) (fun hS hH => And.intro (sub_to hS (by kernel_rfl)) hH) (fun st1 x fr h HI => ?_) fun y2 e fr h HF => ?_
 ·obtain ⟨s, σ⟩ := fr; obtain ⟨hS, hH⟩ := HI
  refine t_bk h hS hH ?_
  refine t_RN ?_
  refine t_if (fun hc1 => ?_) fun hc1 => ?_
  ·refine t_RU 4 ?_
   refine k_elt fun y3 rest1 hy3 => ?_
   refine t_U 1 ?_
   refine k_hidx 0 (fun hb1 hb1e y4 hy4 hl_hb1 => ?_)
   intro h s σ hS hH
   refine q_hstore (ents := []) (a := st1.2) (j := st1.1) (y := y4) (y' := (y3 : ByteArray)) (off := 0) (c := [.str y4]) (us := [.str y3]) (vs := [.str y3]) (v := .str y3) rfl hS hH hl_hb1 rfl rfl rfl (by kernel_rfl) (by kernel_rfl) rfl hy4 rfl (HLs HL.nil) rfl (by kernel_rfl) ?_; intro σ s hH hS
   refine t_bk h hS hH ?_
   refine t_N ?_
   refine t_RN ?_
   exact t_e fun he hS hH => he ▸ And.intro (sub_to hS (by kernel_rfl)) hH
  exact t_e fun he hS hH => he ▸ And.intro rfl (And.intro (sub_to hS (by kernel_rfl)) hH)
 obtain ⟨s, σ⟩ := fr
 obtain ⟨rfl, hS, hH⟩ := HF
 refine t_bx h hS hH ?_
 refine t_RN ?_
 exact k_eO [t1] (rT rN)
noncomputable def B_laws_toFileS (a0 : (Sl DFile)) : Option (Sl DFile) := ((mkS 56 ((⟨⟨#[]⟩, ⟨true, []⟩, 0, 0⟩ : DFile) : DFile) (a0.l.length : Int) (a0.l.length : Int)).bind fun y1 => ((loopO (S := (Int × (Sl DFile))) (R := (Sl DFile)) (fun st1 => (if (decide (st1.1 < (a0.l.length : Int))) = true then ((elt a0 st1.1).bind fun y3 => ((F_laws_toFile y3).bind fun y4 => ((elt st1.2 st1.1).bind fun y5 => (some (.inl ((IntKind.i64.wrap (st1.1 + 1)), (setS st1.2 st1.1 (y4 : DFile)))))))) else (some (.inr st1.2)))) (0, y1)).bind fun y2 => (some y2)))
theorem u_laws_toFileS (a0 : (Sl DFile)) (r : (Sl DFile)) (h : B_laws_toFileS a0 = some r) : F_laws_toFileS a0 = some r := by
 unfold B_laws_toFileS at h
 refine k_O ok_106 h (fun σ0 => ?_)
 refine t_RN ?_
 refine t_RU 2 ?_
 intro h s σ hS hH
 obtain ⟨y1, hy1, h⟩ := bind_some h
 refine q_make (z := true) (e := 113) (by_ := 56) (x0 := ((⟨⟨#[]⟩, ⟨true, []⟩, 0, 0⟩ : DFile) : DFile)) (fun σ d => by simp [Enc.cells, DFile.cells, Iv]) rfl hS hH rfl rfl (by kernel_rfl) (by kernel_rfl) (by kernel_rfl) (by kernel_rfl) rfl hy1 ?_; intro t1 σ s ht1 hH hS
 refine t_bk h hS hH ?_
 refine t_N ?_
 refine t_RN ?_
 refine t_loop (fun st1 fr => Sub [(0, a0.t), (3, t1), (4, i4 st1.1)] fr.s ∧ Heap σ0 fr.σ [.own true 4 t1 st1.2.t]) (fun y2 e fr => e = (.exit 0) ∧ Sub [(3, t1)] fr.s ∧ Heap σ0 fr.σ [.own true 4 t1 y2.t]) (fun hS hH => And.intro (sub_to hS (by kernel_rfl)) hH) (fun st1 x fr h HI => ?_) fun y2 e fr h HF => ?_
 ·obtain ⟨s, σ⟩ := fr; obtain ⟨hS, hH⟩ := HI
  refine t_bk h hS hH ?_
  refine t_RN ?_
  refine t_if (fun hc1 => ?_) fun hc1 => ?_
  ·refine t_RU 4 ?_
   refine k_elt fun y3 rest1 hy3 => ?_
   refine t_U 1 ?_
   refine k_callO1 (fun y4 t2 hy4 ht2 => ?_)
   refine k_hidx 1 (fun hb1 hb1e y5 hy5 hl_hb1 => ?_)
   refine t_h Heap.up1 ?_
   intro h s σ hS hH
   refine q_hstore (ents := [.own true 1 t2 y4.Lines.t]) (a := st1.2) (j := st1.1) (y := y5) (y' := (y4 : DFile)) (off := 0) (c := [.str y5.Name, y5.Lines.t, i4 y5.Mode, i4 y5.At]) (us := [.str y4.Name, t2, i4 y4.Mode, i4 y4.At]) (vs := [.str y4.Name, y4.Lines.t, i4 y4.Mode, i4 y4.At]) (v := .agg [.str y4.Name, t2, i4 y4.Mode, i4 y4.At]) rfl hS hH hl_hb1 rfl rfl rfl (by simp [ht2.1, ht2.2]) (by kernel_rfl) rfl hy5 rfl (HLs (HL.own rfl (HLi (HLi HL.nil)))) rfl (by kernel_rfl) ?_; intro σ s hH hS
   refine t_bk h hS hH ?_
   refine t_N ?_
   refine t_RN ?_
   exact t_e fun he hS hH => he ▸ And.intro (sub_to hS (by kernel_rfl)) hH
  exact t_e fun he hS hH => he ▸ And.intro rfl (And.intro (sub_to hS (by kernel_rfl)) hH)
 obtain ⟨s, σ⟩ := fr
 obtain ⟨rfl, hS, hH⟩ := HF
 refine t_bx h hS hH ?_
 refine t_RN ?_
 exact k_eO [t1] (rT rN)
noncomputable def B_laws_eqObjectS (a0 : (Sl DObject)) (a1 : (Sl DObject)) : Option Bool := (if ((!decide ((a0.l.length : Int) = (a1.l.length : Int)))) = true then (some false) else ((loopO (S := Int) (R := (Unit ⊕ Bool)) (fun st1 => (if (decide (st1 < (a0.l.length : Int))) = true then ((elt a0 st1).bind fun y2 => ((elt a1 st1).bind fun y3 => ((F_laws_eqObject y2 y3).bind fun y4 => (if (!y4) = true then (some (.inr (.inr false))) else (some (.inl (IntKind.i64.wrap (st1 + 1)))))))) else (some (.inr (.inl ()))))) 0).bind fun y1 => (Sum.elim (fun y1 => (some true)) (fun y1 => (some y1)) y1)))
theorem u_laws_eqObjectS (a0 : (Sl DObject)) (a1 : (Sl DObject)) (r : Bool) (h : B_laws_eqObjectS a0 a1 = some r) : F_laws_eqObjectS a0 a1 = some r := by
 unfold B_laws_eqObjectS at h
 refine k_W ok_107 E_bool_inj h (fun σ0 => ?_)
 refine t_RN ?_
 refine t_RN ?_
 refine t_if (fun hc1 => ?_) fun hc1 => ?_
 ·refine t_RN ?_
  exact k_eW (rT rN) E_bool_p
 refine t_RN ?_
 refine t_loop (fun st1 fr => Sub [(0, a0.t), (1, a1.t), (5, i4 st1)] fr.s ∧ Heap σ0 fr.σ []) (fun y1 e fr => (Sum.elim (fun y => e = (.exit 0) ∧ Sub [] fr.s ∧ Heap σ0 fr.σ []) (fun y => e = .ret ∧ endW Tryd.prog (Tryd.f107.results.toList) σ0 (E_bool y) .ret fr)) y1) (fun hS hH => And.intro (sub_to hS (by kernel_rfl)) hH) (fun st1 x fr h HI => ?_) fun y1 e fr h HF => ?_
 ·obtain ⟨s, σ⟩ := fr; obtain ⟨hS, hH⟩ := HI
  refine t_bk h hS hH ?_
  refine t_RN ?_
  refine t_if (fun hc2 => ?_) fun hc2 => ?_
  ·refine t_D fun mb => ?_
   refine t_U 2 ?_
   refine k_elt fun y2 rest1 hy2 => ?_
   refine t_U 3 ?_
   refine k_elt fun y3 rest2 hy3 => ?_
   refine t_U 1 ?_
   refine k_call fun y4 hy4 => ?_
   refine t_N ?_
   refine t_if (fun hc3 => ?_) fun hc3 => ?_
   ·refine t_RN ?_
    exact t_e fun he hS hH => he ▸ And.intro rfl (eW hS hH (rT rN) E_bool_p)
   refine t_RN ?_
   exact t_e fun he hS hH => he ▸ And.intro (sub_to hS (by kernel_rfl)) hH
  exact t_e fun he hS hH => he ▸ And.intro rfl (And.intro (sub_to hS (by kernel_rfl)) hH)
 obtain ⟨s, σ⟩ := fr
 rcases y1 with y1 | y1
 ·have h := el_l h
  obtain ⟨rfl, hS, hH⟩ := HF
  refine t_bx h hS hH ?_
  refine t_RN ?_
  exact k_eW (rT rN) E_bool_p
 have h := el_r h
 obtain ⟨rfl, HE⟩ := HF
 injection h with h; subst h; exact HE
noncomputable def B_laws_eqBindingS (a0 : (Sl DBinding)) (a1 : (Sl DBinding)) : Option Bool := (if ((!decide ((a0.l.length : Int) = (a1.l.length : Int)))) = true then (some false) else ((loopO (S := Int) (R := (Unit ⊕ Bool)) (fun st1 => (if (decide (st1 < (a0.l.length : Int))) = true then ((elt a0 st1).bind fun y2 => ((elt a1 st1).bind fun y3 => ((F_laws_eqBinding y2 y3).bind fun y4 => (if (!y4) = true then (some (.inr (.inr false))) else (some (.inl (IntKind.i64.wrap (st1 + 1)))))))) else (some (.inr (.inl ()))))) 0).bind fun y1 => (Sum.elim (fun y1 => (some true)) (fun y1 => (some y1)) y1)))
theorem u_laws_eqBindingS (a0 : (Sl DBinding)) (a1 : (Sl DBinding)) (r : Bool) (h : B_laws_eqBindingS a0 a1 = some r) : F_laws_eqBindingS a0 a1 = some r := by
 unfold B_laws_eqBindingS at h
 refine k_W ok_108 E_bool_inj h (fun σ0 => ?_)
 refine t_RN ?_
 refine t_RN ?_
 refine t_if (fun hc1 => ?_) fun hc1 => ?_
 ·refine t_RN ?_
  exact k_eW (rT rN) E_bool_p
 refine t_RN ?_
 refine t_loop (fun st1 fr => Sub [(0, a0.t), (1, a1.t), (5, i4 st1)] fr.s ∧ Heap σ0 fr.σ []) (fun y1 e fr => (Sum.elim (fun y => e = (.exit 0) ∧ Sub [] fr.s ∧ Heap σ0 fr.σ []) (fun y => e = .ret ∧ endW Tryd.prog (Tryd.f108.results.toList) σ0 (E_bool y) .ret fr)) y1) (fun hS hH => And.intro (sub_to hS (by kernel_rfl)) hH) (fun st1 x fr h HI => ?_) fun y1 e fr h HF => ?_
 ·obtain ⟨s, σ⟩ := fr; obtain ⟨hS, hH⟩ := HI
  refine t_bk h hS hH ?_
  refine t_RN ?_
  refine t_if (fun hc2 => ?_) fun hc2 => ?_
  ·refine t_D fun mb => ?_
   refine t_U 2 ?_
   refine k_elt fun y2 rest1 hy2 => ?_
   refine t_U 3 ?_
   refine k_elt fun y3 rest2 hy3 => ?_
   refine t_U 1 ?_
   refine k_call fun y4 hy4 => ?_
   refine t_N ?_
   refine t_if (fun hc3 => ?_) fun hc3 => ?_
   ·refine t_RN ?_
    exact t_e fun he hS hH => he ▸ And.intro rfl (eW hS hH (rT rN) E_bool_p)
   refine t_RN ?_
   exact t_e fun he hS hH => he ▸ And.intro (sub_to hS (by kernel_rfl)) hH
  exact t_e fun he hS hH => he ▸ And.intro rfl (And.intro (sub_to hS (by kernel_rfl)) hH)
 obtain ⟨s, σ⟩ := fr
 rcases y1 with y1 | y1
 ·have h := el_l h
  obtain ⟨rfl, hS, hH⟩ := HF
  refine t_bx h hS hH ?_
  refine t_RN ?_
  exact k_eW (rT rN) E_bool_p
 have h := el_r h
 obtain ⟨rfl, HE⟩ := HF
 injection h with h; subst h; exact HE
noncomputable def B_laws_eqFunctionS (a0 : (Sl DFunction)) (a1 : (Sl DFunction)) : Option Bool := (if ((!decide ((a0.l.length : Int) = (a1.l.length : Int)))) = true then (some false) else ((loopO (S := Int) (R := (Unit ⊕ Bool)) (fun st1 => (if (decide (st1 < (a0.l.length : Int))) = true then ((elt a0 st1).bind fun y2 => ((elt a1 st1).bind fun y3 => ((F_laws_eqFunction y2 y3).bind fun y4 => (if (!y4) = true then (some (.inr (.inr false))) else (some (.inl (IntKind.i64.wrap (st1 + 1)))))))) else (some (.inr (.inl ()))))) 0).bind fun y1 => (Sum.elim (fun y1 => (some true)) (fun y1 => (some y1)) y1)))
theorem u_laws_eqFunctionS (a0 : (Sl DFunction)) (a1 : (Sl DFunction)) (r : Bool) (h : B_laws_eqFunctionS a0 a1 = some r) : F_laws_eqFunctionS a0 a1 = some r := by
 unfold B_laws_eqFunctionS at h
 refine k_W ok_109 E_bool_inj h (fun σ0 => ?_)
 refine t_RN ?_
 refine t_RN ?_
 refine t_if (fun hc1 => ?_) fun hc1 => ?_
 ·refine t_RN ?_
  exact k_eW (rT rN) E_bool_p
 refine t_RN ?_
 refine t_loop (fun st1 fr => Sub [(0, a0.t), (1, a1.t), (5, i4 st1)] fr.s ∧ Heap σ0 fr.σ []) (fun y1 e fr => (Sum.elim (fun y => e = (.exit 0) ∧ Sub [] fr.s ∧ Heap σ0 fr.σ []) (fun y => e = .ret ∧ endW Tryd.prog (Tryd.f109.results.toList) σ0 (E_bool y) .ret fr)) y1) (fun hS hH => And.intro (sub_to hS (by kernel_rfl)) hH) (fun st1 x fr h HI => ?_) fun y1 e fr h HF => ?_
 ·obtain ⟨s, σ⟩ := fr; obtain ⟨hS, hH⟩ := HI
  refine t_bk h hS hH ?_
  refine t_RN ?_
  refine t_if (fun hc2 => ?_) fun hc2 => ?_
  ·refine t_D fun mb => ?_
   refine t_U 2 ?_
   refine k_elt fun y2 rest1 hy2 => ?_
   refine t_U 3 ?_
   refine k_elt fun y3 rest2 hy3 => ?_
   refine t_U 1 ?_
   refine k_call fun y4 hy4 => ?_
   refine t_N ?_
   refine t_if (fun hc3 => ?_) fun hc3 => ?_
   ·refine t_RN ?_
    exact t_e fun he hS hH => he ▸ And.intro rfl (eW hS hH (rT rN) E_bool_p)
   refine t_RN ?_
   exact t_e fun he hS hH => he ▸ And.intro (sub_to hS (by kernel_rfl)) hH
  exact t_e fun he hS hH => he ▸ And.intro rfl (And.intro (sub_to hS (by kernel_rfl)) hH)
 obtain ⟨s, σ⟩ := fr
 rcases y1 with y1 | y1
 ·have h := el_l h
  obtain ⟨rfl, hS, hH⟩ := HF
  refine t_bx h hS hH ?_
  refine t_RN ?_
  exact k_eW (rT rN) E_bool_p
 have h := el_r h
 obtain ⟨rfl, HE⟩ := HF
 injection h with h; subst h; exact HE
noncomputable def B_laws_eqRecordTypeS (a0 : (Sl DRecordType)) (a1 : (Sl DRecordType)) : Option Bool := (if ((!decide ((a0.l.length : Int) = (a1.l.length : Int)))) = true then (some false) else ((loopO (S := Int) (R := (Unit ⊕ Bool)) (fun st1 => (if (decide (st1 < (a0.l.length : Int))) = true then ((elt a0 st1).bind fun y2 => ((elt a1 st1).bind fun y3 => ((F_laws_eqRecordType y2 y3).bind fun y4 => (if (!y4) = true then (some (.inr (.inr false))) else (some (.inl (IntKind.i64.wrap (st1 + 1)))))))) else (some (.inr (.inl ()))))) 0).bind fun y1 => (Sum.elim (fun y1 => (some true)) (fun y1 => (some y1)) y1)))
theorem u_laws_eqRecordTypeS (a0 : (Sl DRecordType)) (a1 : (Sl DRecordType)) (r : Bool) (h : B_laws_eqRecordTypeS a0 a1 = some r) : F_laws_eqRecordTypeS a0 a1 = some r := by
 unfold B_laws_eqRecordTypeS at h
 refine k_W ok_110 E_bool_inj h (fun σ0 => ?_)
 refine t_RN ?_
 refine t_RN ?_
 refine t_if (fun hc1 => ?_) fun hc1 => ?_
 ·refine t_RN ?_
  exact k_eW (rT rN) E_bool_p
 refine t_RN ?_
 refine t_loop (fun st1 fr => Sub [(0, a0.t), (1, a1.t), (5, i4 st1)] fr.s ∧ Heap σ0 fr.σ []) (fun y1 e fr => (Sum.elim (fun y => e = (.exit 0) ∧ Sub [] fr.s ∧ Heap σ0 fr.σ []) (fun y => e = .ret ∧ endW Tryd.prog (Tryd.f110.results.toList) σ0 (E_bool y) .ret fr)) y1) (fun hS hH => And.intro (sub_to hS (by kernel_rfl)) hH) (fun st1 x fr h HI => ?_) fun y1 e fr h HF => ?_
 ·obtain ⟨s, σ⟩ := fr; obtain ⟨hS, hH⟩ := HI
  refine t_bk h hS hH ?_
  refine t_RN ?_
  refine t_if (fun hc2 => ?_) fun hc2 => ?_
  ·refine t_D fun mb => ?_
   refine t_U 2 ?_
   refine k_elt fun y2 rest1 hy2 => ?_
   refine t_U 3 ?_
   refine k_elt fun y3 rest2 hy3 => ?_
   refine t_U 1 ?_
   refine k_call fun y4 hy4 => ?_
   refine t_N ?_
   refine t_if (fun hc3 => ?_) fun hc3 => ?_
   ·refine t_RN ?_
    exact t_e fun he hS hH => he ▸ And.intro rfl (eW hS hH (rT rN) E_bool_p)
   refine t_RN ?_
   exact t_e fun he hS hH => he ▸ And.intro (sub_to hS (by kernel_rfl)) hH
  exact t_e fun he hS hH => he ▸ And.intro rfl (And.intro (sub_to hS (by kernel_rfl)) hH)
 obtain ⟨s, σ⟩ := fr
 rcases y1 with y1 | y1
 ·have h := el_l h
  obtain ⟨rfl, hS, hH⟩ := HF
  refine t_bx h hS hH ?_
  refine t_RN ?_
  exact k_eW (rT rN) E_bool_p
 have h := el_r h
 obtain ⟨rfl, HE⟩ := HF
 injection h with h; subst h; exact HE
end Go.Am
