/- Functions of the program. -/
import Derived.Test.YtohkcdkmpencnaaDoorAd0
set_option maxRecDepth 100000
set_option maxHeartbeats 4000000
set_option linter.unusedVariables false
set_option linter.unusedSimpArgs false
namespace Go.Am
open Go.Proofs
noncomputable def B_impl_ValidValue (a0 : DValue) : Option Bool := (if (decide (a0.Kind = 1)) = true then (if ((decide (a0.Kind = 1) && (decide (a0.Num = 0) && (decide (a0.Text = a0.Text) && (decide (a0.Ref = 0) && true))))) = true then (some (decide ((a0.Text.size : Int) ≤ 200))) else (some false)) else (if (decide (a0.Kind = 2)) = true then (if ((decide (a0.Kind = 2) && (decide (a0.Num = a0.Num) && (decide (a0.Text = (⟨#[]⟩ : ByteArray)) && (decide (a0.Ref = 0) && true))))) = true then ((F_impl_within a0.Num (-1000000000000) 1000000000000).bind fun y1 => (some y1)) else (some false)) else (if (decide (a0.Kind = 3)) = true then (if ((decide (a0.Kind = 3) && (decide (a0.Num = 0) && (decide (a0.Text = a0.Text) && (decide (a0.Ref = 0) && true))))) = true then (if (decide (1 ≤ (a0.Text.size : Int))) = true then (some (decide ((a0.Text.size : Int) ≤ 1200))) else (some false)) else (some false)) else (((if (decide (a0.Kind = 4)) = true then (some (decide (a0.Kind = 4))) else (if (decide (a0.Kind = 5)) = true then (some (decide (a0.Kind = 5))) else (some (decide (a0.Kind = 6))))) : Option Bool).bind fun y2 => (if y2 = true then (if ((decide (a0.Kind = a0.Kind) && (decide (a0.Num = 0) && (decide (a0.Text = (⟨#[]⟩ : ByteArray)) && (decide (a0.Ref = a0.Ref) && true))))) = true then ((F_impl_isObjectId a0.Ref).bind fun y3 => (some y3)) else (some false)) else (((if (decide (a0.Kind = 7)) = true then (some (decide (a0.Kind = 7))) else (some (decide (a0.Kind = 8)))) : Option Bool).bind fun y4 => (if y4 = true then (if ((decide (a0.Kind = a0.Kind) && (decide (a0.Num = 0) && (decide (a0.Text = a0.Text) && (decide (a0.Ref = 0) && true))))) = true then ((F_impl_IsName a0.Text).bind fun y5 => (some y5)) else (some false)) else (some false))))))))
theorem u_impl_ValidValue (a0 : DValue) (r : Bool) (h : B_impl_ValidValue a0 = some r) : F_impl_ValidValue a0 = some r := by
 unfold B_impl_ValidValue at h
 refine k_W ok_30 E_bool_inj h (fun σ0 => ?_)
 refine t_R ?_
 refine k_box (fun b1 => ?_)
 refine t_N ?_
 refine t_RU 1 ?_
 refine k_load 0 ?_
 refine t_N ?_
 refine t_RN ?_
 refine t_if (fun hc1 => ?_) fun hc1 => ?_
 ·refine t_R ?_
  refine k_load 0 ?_
  refine t_U 1 ?_
  refine k_load 0 ?_
  refine t_U 1 ?_
  intro h s σ hS hH
  refine q_eqS (xs := [i4 a0.Kind, i4 a0.Num, .str a0.Text, i4 a0.Ref]) (ys := [i4 1, i4 0, .str a0.Text, i4 0]) (v := (decide (a0.Kind = 1) && (decide (a0.Num = 0) && (decide (a0.Text = a0.Text) && (decide (a0.Ref = 0) && true))))) rfl hS rfl rfl (by kernel_rfl) (by kernel_rfl) ?_; intro s hS
  refine t_bk h hS hH ?_
  refine t_U 1 ?_
  refine t_gif 12 (fun hc2 => ?_) fun hc2 => ?_
  ·refine t_U 1 ?_
   refine k_load 0 ?_
   refine t_N ?_
   exact k_eW (rT rN) E_bool_p
  refine t_N ?_
  exact k_eW (rT rN) E_bool_p
 refine t_RN ?_
 refine t_if (fun hc3 => ?_) fun hc3 => ?_
 ·refine t_R ?_
  refine k_load 0 ?_
  refine t_U 1 ?_
  refine k_load 0 ?_
  refine t_U 1 ?_
  intro h s σ hS hH
  refine q_eqS (xs := [i4 a0.Kind, i4 a0.Num, .str a0.Text, i4 a0.Ref]) (ys := [i4 2, i4 a0.Num, .str ⟨#[]⟩, i4 0]) (v := (decide (a0.Kind = 2) && (decide (a0.Num = a0.Num) && (decide (a0.Text = (⟨#[]⟩ : ByteArray)) && (decide (a0.Ref = 0) && true))))) rfl hS rfl rfl (by kernel_rfl) (by kernel_rfl) ?_; intro s hS
  refine t_bk h hS hH ?_
  refine t_U 1 ?_
  refine t_gif 25 (fun hc4 => ?_) fun hc4 => ?_
  ·refine t_U 1 ?_
   refine k_load 0 ?_
   refine k_call fun y1 hy1 => ?_
   refine t_N ?_
   exact k_eW (rT rN) E_bool_p
  refine t_N ?_
  exact k_eW (rT rN) E_bool_p
 refine t_RN ?_
 refine t_if (fun hc5 => ?_) fun hc5 => ?_
 ·refine t_R ?_
  refine k_load 0 ?_
  refine t_U 1 ?_
  refine k_load 0 ?_
  refine t_U 1 ?_
  intro h s σ hS hH
  refine q_eqS (xs := [i4 a0.Kind, i4 a0.Num, .str a0.Text, i4 a0.Ref]) (ys := [i4 3, i4 0, .str a0.Text, i4 0]) (v := (decide (a0.Kind = 3) && (decide (a0.Num = 0) && (decide (a0.Text = a0.Text) && (decide (a0.Ref = 0) && true))))) rfl hS rfl rfl (by kernel_rfl) (by kernel_rfl) ?_; intro s hS
  refine t_bk h hS hH ?_
  refine t_U 1 ?_
  refine t_gif 37 (fun hc6 => ?_) fun hc6 => ?_
  ·refine t_U 1 ?_
   refine k_load 0 ?_
   refine t_U 4 ?_
   refine t_gif 43 (fun hc7 => ?_) fun hc7 => ?_
   ·refine t_U 1 ?_
    refine k_load 0 ?_
    refine t_N ?_
    exact k_eW (rT rN) E_bool_p
   refine t_N ?_
   exact k_eW (rT rN) E_bool_p
  refine t_N ?_
  exact k_eW (rT rN) E_bool_p
 refine t_RN ?_
 refine t_cut 0 (fun y2 e fr => e = .normal ∧ Sub [(1, .ptr b1 0 0 4), (4, i4 a0.Kind), (49, .bool y2)] fr.s ∧ Heap σ0 fr.σ [.box b1 (DValue.cells a0)]) (fun y2 e fr h HF => ?_) fun y2 => ?_
 ·obtain ⟨s, σ⟩ := fr
  obtain ⟨rfl, hS, hH⟩ := HF
  refine t_bx h hS hH ?_
  refine t_if (fun hc8 => ?_) fun hc8 => ?_
  ·refine t_R ?_
   refine k_load 0 ?_
   refine t_U 1 ?_
   refine k_load 0 ?_
   refine t_U 1 ?_
   refine k_load 0 ?_
   refine t_U 1 ?_
   intro h s σ hS hH
   refine q_eqS (xs := [i4 a0.Kind, i4 a0.Num, .str a0.Text, i4 a0.Ref]) (ys := [i4 a0.Kind, i4 0, .str ⟨#[]⟩, i4 a0.Ref]) (v := (decide (a0.Kind = a0.Kind) && (decide (a0.Num = 0) && (decide (a0.Text = (⟨#[]⟩ : ByteArray)) && (decide (a0.Ref = a0.Ref) && true))))) rfl hS rfl rfl (by kernel_rfl) (by kernel_rfl) ?_; intro s hS
   refine t_bk h hS hH ?_
   refine t_U 1 ?_
   refine t_gif 60 (fun hc9 => ?_) fun hc9 => ?_
   ·refine t_U 1 ?_
    refine k_load 0 ?_
    refine k_call fun y3 hy3 => ?_
    refine t_N ?_
    exact k_eW (rT rN) E_bool_p
   refine t_N ?_
   exact k_eW (rT rN) E_bool_p
  refine t_RN ?_
  refine t_cut 0 (fun y4 e fr => e = .normal ∧ Sub [(1, .ptr b1 0 0 4), (65, .bool y4)] fr.s ∧ Heap σ0 fr.σ [.box b1 (DValue.cells a0)]) (fun y4 e fr h HF => ?_) fun y4 => ?_
  ·obtain ⟨s, σ⟩ := fr
   obtain ⟨rfl, hS, hH⟩ := HF
   refine t_bx h hS hH ?_
   refine t_if (fun hc10 => ?_) fun hc10 => ?_
   ·refine t_R ?_
    refine k_load 0 ?_
    refine t_U 1 ?_
    refine k_load 0 ?_
    refine t_U 1 ?_
    refine k_load 0 ?_
    refine t_U 1 ?_
    intro h s σ hS hH
    refine q_eqS (xs := [i4 a0.Kind, i4 a0.Num, .str a0.Text, i4 a0.Ref]) (ys := [i4 a0.Kind, i4 0, .str a0.Text, i4 0]) (v := (decide (a0.Kind = a0.Kind) && (decide (a0.Num = 0) && (decide (a0.Text = a0.Text) && (decide (a0.Ref = 0) && true))))) rfl hS rfl rfl (by kernel_rfl) (by kernel_rfl) ?_; intro s hS
    refine t_bk h hS hH ?_
    refine t_U 1 ?_
    refine t_gif 75 (fun hc11 => ?_) fun hc11 => ?_
    ·refine t_U 1 ?_
     refine k_load 0 ?_
     refine k_call fun y5 hy5 => ?_
     refine t_N ?_
     exact k_eW (rT rN) E_bool_p
    refine t_N ?_
    exact k_eW (rT rN) E_bool_p
   refine t_RN ?_
   exact k_eW (rT rN) E_bool_p
  refine t_if (fun hc12 => ?_) fun hc12 => ?_
  ·exact t_e fun he hS hH => by subst he; exact And.intro rfl (And.intro (sub_to hS (by kernel_rfl)) hH)
  refine t_RN ?_
  exact t_e fun he hS hH => by subst he; exact And.intro rfl (And.intro (sub_to hS (by kernel_rfl)) hH)
 refine t_if (fun hc13 => ?_) fun hc13 => ?_
 ·exact t_e fun he hS hH => by subst he; exact And.intro rfl (And.intro (sub_to hS (by kernel_rfl)) hH)
 refine t_RN ?_
 refine t_if (fun hc14 => ?_) fun hc14 => ?_
 ·exact t_e fun he hS hH => by subst he; exact And.intro rfl (And.intro (sub_to hS (by kernel_rfl)) hH)
 refine t_RN ?_
 exact t_e fun he hS hH => by subst he; exact And.intro rfl (And.intro (sub_to hS (by kernel_rfl)) hH)
noncomputable def B_impl_decimal (a0 : Int) : Option ByteArray := ((F_strconv_FormatInt a0 10).bind fun y1 => (some y1))
theorem u_impl_decimal (a0 : Int) (r : ByteArray) (h : B_impl_decimal a0 = some r) : F_impl_decimal a0 = some r := by
 unfold B_impl_decimal at h
 refine k_W ok_31 E_str_inj h (fun σ0 => ?_)
 refine t_RN ?_
 refine t_RU 1 ?_
 refine k_call fun y1 hy1 => ?_
 refine t_N ?_
 exact k_eW (rT rN) E_str_p
noncomputable def B_impl_Value_text (a0 : DValue) : Option ByteArray := (if (decide (a0.Kind = 1)) = true then ((F_impl_QuoteText a0.Text).bind fun y1 => (some y1)) else (if (decide (a0.Kind = 2)) = true then ((F_impl_decimal a0.Num).bind fun y2 => (some y2)) else (if (decide (a0.Kind = 3)) = true then ((catB ⟨#[60]⟩ a0.Text).bind fun y3 => ((catB y3 ⟨#[62]⟩).bind fun y4 => (some y4))) else (if (decide (a0.Kind = 7)) = true then ((catB ⟨#[46]⟩ a0.Text).bind fun y5 => (some y5)) else (if (decide (a0.Kind = 8)) = true then ((catB ⟨#[42]⟩ a0.Text).bind fun y6 => (some y6)) else ((F_impl_typeName a0.Kind).bind fun y7 => ((catB y7 ⟨#[35]⟩).bind fun y8 => ((F_impl_decimal a0.Ref).bind fun y9 => ((catB y8 y9).bind fun y10 => (some y10))))))))))
theorem u_impl_Value_text (a0 : DValue) (r : ByteArray) (h : B_impl_Value_text a0 = some r) : F_impl_Value_text a0 = some r := by
 unfold B_impl_Value_text at h
 refine k_W ok_32 E_str_inj h (fun σ0 => ?_)
 refine t_R ?_
 refine k_box (fun b1 => ?_)
 refine t_N ?_
 refine t_RU 1 ?_
 refine k_load 0 ?_
 refine t_N ?_
 refine t_RN ?_
 refine t_if (fun hc1 => ?_) fun hc1 => ?_
 ·refine t_RU 1 ?_
  refine k_load 0 ?_
  refine k_call fun y1 hy1 => ?_
  refine t_N ?_
  exact k_eW (rT rN) E_str_p
 refine t_RN ?_
 refine t_if (fun hc2 => ?_) fun hc2 => ?_
 ·refine t_RU 1 ?_
  refine k_load 0 ?_
  refine k_call fun y2 hy2 => ?_
  refine t_N ?_
  exact k_eW (rT rN) E_str_p
 refine t_RN ?_
 refine t_if (fun hc3 => ?_) fun hc3 => ?_
 ·refine t_RU 1 ?_
  refine k_load 0 ?_
  refine k_cat fun y3 hy3 => ?_
  refine k_cat fun y4 hy4 => ?_
  refine t_N ?_
  exact k_eW (rT rN) E_str_p
 refine t_RN ?_
 refine t_if (fun hc4 => ?_) fun hc4 => ?_
 ·refine t_RU 1 ?_
  refine k_load 0 ?_
  refine k_cat fun y5 hy5 => ?_
  refine t_N ?_
  exact k_eW (rT rN) E_str_p
 refine t_RN ?_
 refine t_if (fun hc5 => ?_) fun hc5 => ?_
 ·refine t_RU 1 ?_
  refine k_load 0 ?_
  refine k_cat fun y6 hy6 => ?_
  refine t_N ?_
  exact k_eW (rT rN) E_str_p
 refine t_D fun mb => ?_
 refine t_U 1 ?_
 refine k_load 0 ?_
 refine k_call fun y7 hy7 => ?_
 refine k_cat fun y8 hy8 => ?_
 refine t_U 1 ?_
 refine k_load 0 ?_
 refine k_call fun y9 hy9 => ?_
 refine k_cat fun y10 hy10 => ?_
 refine t_N ?_
 exact k_eW (rT rN) E_str_p
noncomputable def B_impl_ValidConsole (a0 : DConsole) : Option Bool := (if (decide (100 < (a0.Input.l.length : Int))) = true then (some false) else (if (decide (100 < (a0.Output.l.length : Int))) = true then (some false) else (if (decide (6 < (a0.Files.l.length : Int))) = true then (some false) else (if (decide (200 < (a0.Trace.l.length : Int))) = true then (some false) else ((((F_impl_areAll_string a0.Input (T.fn 63 [] [])).bind fun y5 => (if y5 = true then ((F_impl_areAll_string a0.Output (T.fn 63 [] [])).bind fun y6 => (if y6 = true then ((F_impl_areAll_string a0.Trace (T.fn 61 [] [])).bind fun y7 => (some y7)) else (some false))) else (some false))) : Option Bool).bind fun y1 => (if y1 = true then ((F_impl_within a0.At 0 (a0.Input.l.length : Int)).bind fun y2 => (if y2 = true then ((F_impl_areAll_File a0.Files (T.fn 65 [] [])).bind fun y3 => (if y3 = true then ((F_impl_isSorted_File a0.Files (T.fn 67 [] [])).bind fun y4 => (some y4)) else (some false))) else (some false))) else (some false)))))))
theorem u_impl_ValidConsole (a0 : DConsole) (r : Bool) (h : B_impl_ValidConsole a0 = some r) : F_impl_ValidConsole a0 = some r := by
 unfold B_impl_ValidConsole at h
 refine k_W ok_33 E_bool_inj h (fun σ0 => ?_)
 refine t_R ?_
 refine k_box (fun b1 => ?_)
 refine t_N ?_
 refine t_RN ?_
 refine t_RU 1 ?_
 refine k_load 0 ?_
 refine t_U 3 ?_
 refine t_gif 9 (fun hc1 => ?_) fun hc1 => ?_
 ·refine t_N ?_
  refine t_cT rfl ?_
  refine t_RN ?_
  exact k_eW (rT rN) E_bool_p
 refine t_U 1 ?_
 refine k_load 0 ?_
 refine t_U 4 ?_
 refine t_gif 15 (fun hc2 => ?_) fun hc2 => ?_
 ·refine t_N ?_
  refine t_cT rfl ?_
  refine t_RN ?_
  exact k_eW (rT rN) E_bool_p
 refine t_U 1 ?_
 refine k_load 0 ?_
 refine t_U 4 ?_
 refine t_gif 21 (fun hc3 => ?_) fun hc3 => ?_
 ·refine t_N ?_
  refine t_cT rfl ?_
  refine t_RN ?_
  exact k_eW (rT rN) E_bool_p
 refine t_U 1 ?_
 refine k_load 0 ?_
 refine t_N ?_
 refine t_if (fun hc4 => ?_) fun hc4 => ?_
 ·refine t_RN ?_
  exact k_eW (rT rN) E_bool_p
 refine t_cut 0 (fun y1 e fr => e = .normal ∧ Sub [(1, .ptr b1 0 0 5), (4, .bool y1)] fr.s ∧ Heap σ0 fr.σ [.box b1 (DConsole.cells a0)]) (fun y1 e fr h HF => ?_) fun y1 => ?_
 ·obtain ⟨s, σ⟩ := fr
  obtain ⟨rfl, hS, hH⟩ := HF
  refine t_bx h hS hH ?_
  refine t_RU 2 ?_
  refine t_gif 42 (fun hc5 => ?_) fun hc5 => ?_
  ·refine t_U 1 ?_
   refine k_load 0 ?_
   refine t_U 1 ?_
   refine k_load 0 ?_
   refine t_U 1 ?_
   refine k_call fun y2 hy2 => ?_
   refine t_U 2 ?_
   refine t_gif 50 (fun hc6 => ?_) fun hc6 => ?_
   ·refine t_U 1 ?_
    refine k_load 0 ?_
    refine k_call fun y3 hy3 => ?_
    refine t_U 2 ?_
    refine t_gif 55 (fun hc7 => ?_) fun hc7 => ?_
    ·refine t_U 1 ?_
     refine k_load 0 ?_
     refine k_call fun y4 hy4 => ?_
     refine t_N ?_
     exact k_eW (rT rN) E_bool_p
    refine t_N ?_
    exact k_eW (rT rN) E_bool_p
   refine t_N ?_
   exact k_eW (rT rN) E_bool_p
  refine t_N ?_
  exact k_eW (rT rN) E_bool_p
 refine t_RU 1 ?_
 refine k_load 0 ?_
 refine k_call fun y5 hy5 => ?_
 refine t_U 1 ?_
 refine t_gif 30 (fun hc8 => ?_) fun hc8 => ?_
 ·refine t_U 1 ?_
  refine k_load 0 ?_
  refine k_call fun y6 hy6 => ?_
  refine t_U 2 ?_
  refine t_gif 35 (fun hc9 => ?_) fun hc9 => ?_
  ·refine t_U 1 ?_
   refine k_load 0 ?_
   refine t_U 1 ?_
   refine k_call fun y7 hy7 => ?_
   refine t_N ?_
   exact t_e fun he hS hH => he ▸ And.intro rfl (And.intro (sub_to hS (by kernel_rfl)) hH)
  refine t_N ?_
  exact t_e fun he hS hH => he ▸ And.intro rfl (And.intro (sub_to hS (by kernel_rfl)) hH)
 refine t_N ?_
 exact t_e fun he hS hH => he ▸ And.intro rfl (And.intro (sub_to hS (by kernel_rfl)) hH)
noncomputable def B_impl_Console_copied (a0 : DConsole) : Option DConsole := ((F_slices_Clone_string a0.Input).bind fun y1 => ((F_slices_Clone_string a0.Output).bind fun y2 => ((F_slices_Clone_string a0.Trace).bind fun y3 => ((loopO (S := (Int × (Sl DFile))) (R := (Sl DFile)) (fun st1 => (if (decide (st1.1 < (a0.Files.l.length : Int))) = true then ((elt a0.Files st1.1).bind fun y5 => ((F_slices_Clone_string y5.Lines).bind fun y6 => ((appS 56 st1.2 (⟨false, [(⟨y5.Name, y6, y5.Mode, y5.At⟩ : DFile)]⟩ : Sl DFile)).bind fun y7 => (some (.inl ((IntKind.i64.wrap (st1.1 + 1)), y7)))))) else (some (.inr st1.2)))) (0, (⟨true, []⟩ : Sl DFile))).bind fun y4 => (some (⟨y1, a0.At, y2, y4, y3⟩ : DConsole))))))
theorem u_impl_Console_copied (a0 : DConsole) (r : DConsole) (h : B_impl_Console_copied a0 = some r) : F_impl_Console_copied a0 = some r := by
 unfold B_impl_Console_copied at h
 refine k_O ok_34 h (fun σ0 => ?_)
 refine t_R ?_
 refine k_box (fun b1 => ?_)
 refine k_alloc fun b2 => ?_
 refine t_N ?_
 refine t_chain [(13, RN)] ext_x fun mb σs hn0 hlt hlto => ?_
 have hlt_b1 : b1 < mb := hlt b1 _ (List.Mem.tail _ (List.Mem.head _))
 refine t_U 1 ?_
 refine k_load 1 ?_ (hlt := by exact (Or.inl (by kernel_rfl)))
 refine k_callO1 (fun y1 t1 hy1 ht1 => ?_)
 refine t_U 1 ?_
 refine k_load 2 ?_ (hlt := by exact (Or.inr ⟨hlt_b1, (Wc.cons (.inl (by kernel_rfl)) Wc.nil)⟩))
 refine t_U 1 ?_
 refine k_load 2 ?_ (hlt := by exact (Or.inr ⟨hlt_b1, (Wc.cons (.inl (by kernel_rfl)) Wc.nil)⟩))
 refine k_callO1 (fun y2 t2 hy2 ht2 => ?_)
 refine t_U 1 ?_
 refine k_load 3 ?_ (hlt := by exact (Or.inr ⟨hlt_b1, (Wc.cons (.inl (by kernel_rfl)) Wc.nil)⟩))
 refine k_callO1 (fun y3 t3 hy3 ht3 => ?_)
 intro h s σ hS hH
 refine q_build (qs := [(0, t1), (1, i4 a0.At), (2, t2), (4, t3)]) (z := [(nt ByteArray), i4 0, (nt ByteArray), (nt DFile), (nt ByteArray)]) (r := [t1, i4 a0.At, t2, (nt DFile), t3]) [[t1], [i4 a0.At], [t2], [t3]] rfl hS rfl (by kernel_rfl) (by kernel_rfl) (And.intro (by simp [ht1.1, ht1.2]) (And.intro (by simp [ht1.1, ht1.2]) (And.intro rfl (And.intro (by kernel_rfl) (And.intro (by simp [ht2.1, ht2.2]) (And.intro (by simp [ht2.1, ht2.2]) (And.intro (by simp [ht3.1, ht3.2]) (And.intro (by simp [ht3.1, ht3.2]) trivial)))))))) (by kernel_rfl) ?_; intro s hS
 refine t_bk h hS hH ?_
 refine k_allocC (by exact hn0) fun b3 hwr_b3 => ?_
 refine k_storeA 0 ?_ (h1 := by simp [ht1.1, ht1.2, ht2.1, ht2.2, ht3.1, ht3.2]) (hwr := by exact fun _ => Or.inl hwr_b3)
 refine t_N ?_
 refine t_RU 1 ?_
 refine k_load 5 ?_
 refine t_N ?_
 refine t_h (Heap.addNil · true 4) ?_
 refine t_loop (fun st1 fr => ∃ t5, IsOne t5 ∧ Sub [(2, .ptr b2 0 0 5), (3, .ptr b3 0 0 5), (19, a0.Files.t), (20, i4 (a0.Files.l.length : Int)), (21, i4 st1.1)] fr.s ∧ Heap σ0 fr.σ [.box b3 [t1, i4 a0.At, t2, t5, t3], .box b2 [(nt ByteArray), i4 0, (nt ByteArray), (nt DFile), (nt ByteArray)], .own true 1 t1 y1.t, .own true 1 t2 y2.t, .own true 4 t5 st1.2.t, .own true 1 t3 y3.t]) (fun y4 e fr => ∃ t6, IsOne t6 ∧ e = (.exit 0) ∧ Sub [(2, .ptr b2 0 0 5), (3, .ptr b3 0 0 5)] fr.s ∧ Heap σ0 fr.σ [.box b3 [t1, i4 a0.At, t2, t6, t3], .box b2 [(nt ByteArray), i4 0, (nt ByteArray), (nt DFile), (nt ByteArray)], .own true 1 t1 y1.t, .own true 1 t2 y2.t, .own true 4 t6 y4.t, .own true 1 t3 y3.t]) (fun hS hH => Exists.intro (T.row true 0 []) (And.intro ⟨rfl, rfl⟩ (And.intro (sub_to hS (by kernel_rfl)) (Heap.sel hH [1, 5, 4, 3, 0, 2] rfl (by kernel_rfl))))) (fun st1 x fr h HI => ?_) fun y4 e fr h HF => ?_
 ·obtain ⟨s, σ⟩ := fr; obtain ⟨t5, ht5, ⟨hS, hH⟩⟩ := HI
  refine t_bk h hS hH ?_
  refine t_RN ?_
  refine t_if (fun hc1 => ?_) fun hc1 => ?_
  ·refine t_R ?_
   refine k_elt fun y5 rest1 hy5 => ?_
   refine t_U 1 ?_
   refine k_alloc fun b4 => ?_
   refine k_storeA 0 ?_
   refine t_N ?_
   refine t_RU 1 ?_
   refine k_load 0 ?_
   refine k_callO1 (fun y6 t7 hy6 ht7 => ?_)
   refine t_U 1 ?_
   refine k_storeT 1 ht7 ?_
   refine t_N ?_
   refine t_RU 1 ?_
   refine k_load 2 ?_
   refine k_load 0 ?_
   refine t_h Heap.up1 ?_
   refine k_bs (z := true) (⟨false, [(⟨y5.Name, y6, y5.Mode, y5.At⟩ : DFile)]⟩ : Sl DFile) (fun t8 ht8 => ?_) (h1 := by simp [ht7.1, ht7.2])
   refine k_app 6 0 (fun y7 t9 hy7 ht9 => ?_)
   refine t_U 1 ?_
   refine k_storeT 2 ht9 ?_
   refine t_N ?_
   refine t_RN ?_
   exact t_e fun he hS hH => he ▸ Exists.intro t9 (And.intro ht9 (And.intro (sub_to hS (by kernel_rfl)) (Heap.sel hH [0, 3, 4, 5, 1, 6] rfl (by kernel_rfl))))
  exact t_e fun he hS hH => he ▸ Exists.intro t5 (And.intro ht5 (And.intro rfl (And.intro (sub_to hS (by kernel_rfl)) hH)))
 obtain ⟨s, σ⟩ := fr
 obtain ⟨t6, ht6, ⟨rfl, hS, hH⟩⟩ := HF
 refine t_bx h hS hH ?_
 refine t_R ?_
 refine k_load 0 ?_
 refine k_storeA 1 ?_ (h1 := by simp [ht1.1, ht1.2, ht2.1, ht2.2, ht3.1, ht3.2, ht6.1, ht6.2])
 refine t_N ?_
 refine t_h (·.up5.up5.up5.up5) ?_
 exact k_eO [t1, t2, t6, t3] (rC 4 rN)
noncomputable def B_spec_l21Ok (a0 : DConsole) : Option Bool := ((F_spec_l21Lines a0.Input 100 200).bind fun y1 => (if (!y1) = true then (some false) else ((F_spec_l00In a0.At 0 (a0.Input.l.length : Int)).bind fun y2 => (if (!y2) = true then (some false) else ((F_spec_l21Lines a0.Output 100 200).bind fun y3 => (if (!y3) = true then (some false) else (if (decide (6 < (a0.Files.l.length : Int))) = true then (some false) else ((F_spec_l21Lines a0.Trace 200 1300).bind fun y4 => (if (!y4) = true then (some false) else ((loopO (S := Int) (R := (Unit ⊕ Bool)) (fun st1 => (if (decide (st1 < (a0.Files.l.length : Int))) = true then ((elt a0.Files st1).bind fun y6 => ((F_spec_l21File y6).bind fun y7 => (if (!y7) = true then (some (.inr (.inr false))) else (if (decide (0 < st1)) = true then ((elt a0.Files (IntKind.i64.wrap (st1 - 1))).bind fun y8 => ((elt a0.Files st1).bind fun y9 => (if (!Op.bytesLess y8.Name.toList y9.Name.toList) = true then (some (.inr (.inr false))) else (some (.inl (IntKind.i64.wrap (st1 + 1))))))) else (some (.inl (IntKind.i64.wrap (st1 + 1)))))))) else (some (.inr (.inl ()))))) 0).bind fun y5 => (Sum.elim (fun y5 => (some true)) (fun y5 => (some y5)) y5)))))))))))
theorem u_spec_l21Ok (a0 : DConsole) (r : Bool) (h : B_spec_l21Ok a0 = some r) : F_spec_l21Ok a0 = some r := by
 unfold B_spec_l21Ok at h
 refine semL_of E_bool_inj rfl rfl ok_36 (fun bs hb => by obtain ⟨bp0, rfl⟩ := bl1 hb; exact rfl) (fun bs hb => by obtain ⟨bp0, rfl⟩ := bl1 hb; exact (all_cons rfl all_nil)) ?_
 intro σ0 bs s hL hS hH
 obtain ⟨bp0, rfl, hL_bp0⟩ := lent1 hL
 clear hL
 have hS := sub_to (L' := [(0, .ptr bp0 0 0 5)]) hS (by kernel_rfl)
 refine t_go h hS hH ?_
 refine t_RN ?_
 refine t_D fun mb => ?_
 refine t_U 3 ?_
 refine k_loadL hL_bp0 ?_
 refine k_call fun y1 hy1 => ?_
 refine t_U 2 ?_
 refine t_gif 10 (fun hc1 => ?_) fun hc1 => ?_
 ·refine t_N ?_
  refine t_cT rfl ?_
  refine t_RN ?_
  exact k_eW (rT rN) E_bool_p
 refine t_U 3 ?_
 refine k_loadL hL_bp0 ?_
 refine t_U 3 ?_
 refine k_loadL hL_bp0 ?_
 refine t_U 1 ?_
 refine k_call fun y2 hy2 => ?_
 refine t_U 3 ?_
 refine t_gif 23 (fun hc2 => ?_) fun hc2 => ?_
 ·refine t_N ?_
  refine t_cT rfl ?_
  refine t_RN ?_
  exact k_eW (rT rN) E_bool_p
 refine t_U 3 ?_
 refine k_loadL hL_bp0 ?_
 refine k_call fun y3 hy3 => ?_
 refine t_U 3 ?_
 refine t_gif 31 (fun hc3 => ?_) fun hc3 => ?_
 ·refine t_N ?_
  refine t_cT rfl ?_
  refine t_RN ?_
  exact k_eW (rT rN) E_bool_p
 refine t_U 3 ?_
 refine k_loadL hL_bp0 ?_
 refine t_U 4 ?_
 refine t_gif 39 (fun hc4 => ?_) fun hc4 => ?_
 ·refine t_N ?_
  refine t_cT rfl ?_
  refine t_RN ?_
  exact k_eW (rT rN) E_bool_p
 refine t_U 3 ?_
 refine k_loadL hL_bp0 ?_
 refine k_call fun y4 hy4 => ?_
 refine t_N ?_
 refine t_if (fun hc5 => ?_) fun hc5 => ?_
 ·refine t_RN ?_
  exact k_eW (rT rN) E_bool_p
 refine t_RN ?_
 refine t_loop (fun st1 fr => Sub [(0, .ptr bp0 0 0 5), (3, i4 st1)] fr.s ∧ Heap σ0 fr.σ []) (fun y5 e fr => (Sum.elim (fun y => e = (.exit 0) ∧ Sub [] fr.s ∧ Heap σ0 fr.σ []) (fun y => e = .ret ∧ endW Tryd.prog (Tryd.f36.results.toList) σ0 (E_bool y) .ret fr)) y5) (fun hS hH => And.intro (sub_to hS (by kernel_rfl)) hH) (fun st1 x fr h HI => ?_) fun y5 e fr h HF => ?_
 ·obtain ⟨s, σ⟩ := fr; obtain ⟨hS, hH⟩ := HI
  refine t_bk h hS hH ?_
  refine t_RU 4 ?_
  refine k_loadL hL_bp0 ?_
  refine t_N ?_
  refine t_if (fun hc6 => ?_) fun hc6 => ?_
  ·refine t_D fun mb => ?_
   refine t_U 3 ?_
   refine k_loadL hL_bp0 ?_
   refine t_U 1 ?_
   refine k_elt fun y6 rest1 hy6 => ?_
   refine t_U 1 ?_
   refine k_call fun y7 hy7 => ?_
   refine t_U 2 ?_
   refine t_gif 65 (fun hc7 => ?_) fun hc7 => ?_
   ·refine t_N ?_
    refine t_cT rfl ?_
    refine t_RN ?_
    exact t_e fun he hS hH => he ▸ And.intro rfl (eW hS hH (rT rN) E_bool_p)
   refine t_U 3 ?_
   refine t_gif 68 (fun hc8 => ?_) fun hc8 => ?_
   ·refine t_U 3 ?_
    refine k_loadL hL_bp0 ?_
    refine t_U 2 ?_
    refine k_elt fun y8 rest2 hy8 => ?_
    refine t_U 5 ?_
    refine k_loadL hL_bp0 ?_
    refine t_U 1 ?_
    refine k_elt fun y9 rest3 hy9 => ?_
    refine t_N ?_
    refine t_if (fun hc9 => ?_) fun hc9 => ?_
    ·refine t_RN ?_
     exact t_e fun he hS hH => he ▸ And.intro rfl (eW hS hH (rT rN) E_bool_p)
    refine t_RN ?_
    exact t_e fun he hS hH => he ▸ And.intro (sub_to hS (by kernel_rfl)) hH
   refine t_N ?_
   refine t_cF ff_ne ?_
   refine t_RN ?_
   exact t_e fun he hS hH => he ▸ And.intro (sub_to hS (by kernel_rfl)) hH
  exact t_e fun he hS hH => he ▸ And.intro rfl (And.intro (sub_to hS (by kernel_rfl)) hH)
 obtain ⟨s, σ⟩ := fr
 rcases y5 with y5 | y5
 ·have h := el_l h
  obtain ⟨rfl, hS, hH⟩ := HF
  refine t_bx h hS hH ?_
  refine t_RN ?_
  exact k_eW (rT rN) E_bool_p
 have h := el_r h
 obtain ⟨rfl, HE⟩ := HF
 injection h with h; subst h; exact HE
noncomputable def B_spec_l21Names  : Option (Sl ByteArray) := (some ⟨false, [⟨#[68, 65, 84, 65]⟩, ⟨#[73, 78]⟩, ⟨#[76, 79, 71]⟩, ⟨#[79, 85, 84, 49]⟩, ⟨#[84]⟩, ⟨#[90, 57]⟩, ⟨#[97, 95, 98]⟩]⟩)
theorem u_spec_l21Names  (r : (Sl ByteArray)) (h : B_spec_l21Names  = some r) : F_spec_l21Names  = some r := by
 unfold B_spec_l21Names at h
 refine k_O ok_52 h (fun σ0 => ?_)
 refine t_RN ?_
 refine t_R ?_
 refine k_bs (z := true) (⟨false, [⟨#[68, 65, 84, 65]⟩, ⟨#[73, 78]⟩, ⟨#[76, 79, 71]⟩, ⟨#[79, 85, 84, 49]⟩, ⟨#[84]⟩, ⟨#[90, 57]⟩, ⟨#[97, 95, 98]⟩]⟩ : Sl ByteArray) (fun t1 ht1 => ?_)
 refine t_N ?_
 exact k_eO [t1] (rT rN)
noncomputable def B_impl_isLetter (a0 : Int) : Option Bool := (if (decide (65 ≤ a0)) = true then (if (decide (a0 ≤ 90)) = true then (some true) else (if (decide (97 ≤ a0)) = true then (some (decide (a0 ≤ 122))) else (some false))) else (if (decide (97 ≤ a0)) = true then (some (decide (a0 ≤ 122))) else (some false)))
theorem u_impl_isLetter (a0 : Int) (r : Bool) (h : B_impl_isLetter a0 = some r) : F_impl_isLetter a0 = some r := by
 unfold B_impl_isLetter at h
 refine k_W ok_54 E_bool_inj h (fun σ0 => ?_)
 refine t_RN ?_
 refine t_RU 3 ?_
 refine t_gif 5 (fun hc1 => ?_) fun hc1 => ?_
 ·refine t_U 4 ?_
  refine t_gif 9 (fun hc2 => ?_) fun hc2 => ?_
  ·refine t_N ?_
   exact k_eW (rT rN) E_bool_p
  refine t_U 3 ?_
  refine t_gif 12 (fun hc3 => ?_) fun hc3 => ?_
  ·refine t_N ?_
   exact k_eW (rT rN) E_bool_p
  refine t_N ?_
  exact k_eW (rT rN) E_bool_p
 refine t_U 7 ?_
 refine t_gif 12 (fun hc4 => ?_) fun hc4 => ?_
 ·refine t_N ?_
  exact k_eW (rT rN) E_bool_p
 refine t_N ?_
 exact k_eW (rT rN) E_bool_p
noncomputable def B_impl_areAll_byte (a0 : (Sl (Iv .u8))) (a1 : T) : Option Bool := (if flat1 a1 = true then ((loopO (S := Int) (R := (Unit ⊕ Bool)) (fun st1 => (if (decide (st1 < (a0.l.length : Int))) = true then ((elt a0 st1).bind fun y2 => ((callV Tryd.prog md ext E_bool a1 [.int .u8 y2.v]).bind fun y3 => (if (!y3) = true then (some (.inr (.inr false))) else (some (.inl (IntKind.i64.wrap (st1 + 1))))))) else (some (.inr (.inl ()))))) 0).bind fun y1 => (Sum.elim (fun y1 => (some true)) (fun y1 => (some y1)) y1)) else none)
theorem u_impl_areAll_byte (a0 : (Sl (Iv .u8))) (a1 : T) (r : Bool) (h : B_impl_areAll_byte a0 a1 = some r) : F_impl_areAll_byte a0 a1 = some r := by
 unfold B_impl_areAll_byte at h
 obtain ⟨hf_a1, h⟩ := if_some h
 refine k_W ok_55 E_bool_inj h (fun σ0 => ?_) (hf := (all_cons (by kernel_rfl) (all_cons (flat3_of hf_a1) all_nil)))
 refine t_RN ?_
 refine t_RN ?_
 refine t_loop (fun st1 fr => Sub [(1, a1), (7, a0.t), (8, i4 (a0.l.length : Int)), (9, i4 st1)] fr.s ∧ Heap σ0 fr.σ []) (fun y1 e fr => (Sum.elim (fun y => e = (.exit 0) ∧ Sub [] fr.s ∧ Heap σ0 fr.σ []) (fun y => e = .ret ∧ endW Tryd.prog (Tryd.f55.results.toList) σ0 (E_bool y) .ret fr)) y1) (fun hS hH => And.intro (sub_to hS (by kernel_rfl)) hH) (fun st1 x fr h HI => ?_) fun y1 e fr h HF => ?_
 ·obtain ⟨s, σ⟩ := fr; obtain ⟨hS, hH⟩ := HI
  refine t_bk h hS hH ?_
  refine t_RN ?_
  refine t_if (fun hc1 => ?_) fun hc1 => ?_
  ·refine t_R ?_
   refine k_elt fun y2 rest1 hy2 => ?_
   refine t_N ?_
   refine t_RU 2 ?_
   refine k_callP fun y3 hy3 => ?_
   refine t_N ?_
   refine t_if (fun hc2 => ?_) fun hc2 => ?_
   ·refine t_RN ?_
    exact t_e fun he hS hH => he ▸ And.intro rfl (eW hS hH (rT rN) E_bool_p)
   refine t_RN ?_
   exact t_e fun he hS hH => he ▸ And.intro (sub_to hS (by kernel_rfl)) hH
  exact t_e fun he hS hH => he ▸ And.intro rfl (And.intro (sub_to hS (by kernel_rfl)) hH)
 obtain ⟨s, σ⟩ := fr
 rcases y1 with y1 | y1
 ·have h := el_l h
  obtain ⟨rfl, hS, hH⟩ := HF
  refine t_bx h hS hH ?_
  refine t_RN ?_
  exact k_eW (rT rN) E_bool_p
 have h := el_r h
 obtain ⟨rfl, HE⟩ := HF
 injection h with h; subst h; exact HE
noncomputable def B_impl_isNameByte (a0 : Int) : Option Bool := ((F_impl_isLetter a0).bind fun y1 => (if y1 = true then (some true) else ((F_impl_isDigit a0).bind fun y2 => (if y2 = true then (some true) else (some (decide (a0 = 95)))))))
theorem u_impl_isNameByte (a0 : Int) (r : Bool) (h : B_impl_isNameByte a0 = some r) : F_impl_isNameByte a0 = some r := by
 unfold B_impl_isNameByte at h
 refine k_W ok_56 E_bool_inj h (fun σ0 => ?_)
 refine t_RN ?_
 refine t_RU 1 ?_
 refine k_call fun y1 hy1 => ?_
 refine t_U 1 ?_
 refine t_gif 5 (fun hc1 => ?_) fun hc1 => ?_
 ·refine t_N ?_
  exact k_eW (rT rN) E_bool_p
 refine t_U 1 ?_
 refine k_call fun y2 hy2 => ?_
 refine t_U 2 ?_
 refine t_gif 9 (fun hc2 => ?_) fun hc2 => ?_
 ·refine t_N ?_
  exact k_eW (rT rN) E_bool_p
 refine t_N ?_
 exact k_eW (rT rN) E_bool_p
noncomputable def B_impl_isObjectId (a0 : Int) : Option Bool := ((F_impl_within a0 1 1000000).bind fun y1 => (some y1))
theorem u_impl_isObjectId (a0 : Int) (r : Bool) (h : B_impl_isObjectId a0 = some r) : F_impl_isObjectId a0 = some r := by
 unfold B_impl_isObjectId at h
 refine k_W ok_57 E_bool_inj h (fun σ0 => ?_)
 refine t_RN ?_
 refine t_RU 1 ?_
 refine k_call fun y1 hy1 => ?_
 refine t_N ?_
 exact k_eW (rT rN) E_bool_p
noncomputable def B_impl_QuoteText (a0 : ByteArray) : Option ByteArray := ((F_strings_ReplaceAll a0 ⟨#[34]⟩ ⟨#[34, 34]⟩).bind fun y1 => ((catB ⟨#[34]⟩ y1).bind fun y2 => ((catB y2 ⟨#[34]⟩).bind fun y3 => (some y3))))
theorem u_impl_QuoteText (a0 : ByteArray) (r : ByteArray) (h : B_impl_QuoteText a0 = some r) : F_impl_QuoteText a0 = some r := by
 unfold B_impl_QuoteText at h
 refine k_W ok_59 E_str_inj h (fun σ0 => ?_)
 refine t_RN ?_
 refine t_RU 1 ?_
 refine k_call fun y1 hy1 => ?_
 refine k_cat fun y2 hy2 => ?_
 refine k_cat fun y3 hy3 => ?_
 refine t_N ?_
 exact k_eW (rT rN) E_str_p
noncomputable def B_impl_ValidConsole_1 (a0 : ByteArray) : Option Bool := (some (decide ((a0.size : Int) ≤ 1300)))
theorem u_impl_ValidConsole_1 (a0 : ByteArray) (r : Bool) (h : B_impl_ValidConsole_1 a0 = some r) : F_impl_ValidConsole_1 a0 = some r := by
 unfold B_impl_ValidConsole_1 at h
 refine k_W ok_61 E_bool_inj h (fun σ0 => ?_)
 refine t_RN ?_
 refine t_RN ?_
 exact k_eW (rT rN) E_bool_p
noncomputable def B_impl_areAll_string (a0 : (Sl ByteArray)) (a1 : T) : Option Bool := (if flat1 a1 = true then ((loopO (S := Int) (R := (Unit ⊕ Bool)) (fun st1 => (if (decide (st1 < (a0.l.length : Int))) = true then ((elt a0 st1).bind fun y2 => ((callV Tryd.prog md ext E_bool a1 [.str y2]).bind fun y3 => (if (!y3) = true then (some (.inr (.inr false))) else (some (.inl (IntKind.i64.wrap (st1 + 1))))))) else (some (.inr (.inl ()))))) 0).bind fun y1 => (Sum.elim (fun y1 => (some true)) (fun y1 => (some y1)) y1)) else none)
theorem u_impl_areAll_string (a0 : (Sl ByteArray)) (a1 : T) (r : Bool) (h : B_impl_areAll_string a0 a1 = some r) : F_impl_areAll_string a0 a1 = some r := by
 unfold B_impl_areAll_string at h
 obtain ⟨hf_a1, h⟩ := if_some h
 refine k_W ok_62 E_bool_inj h (fun σ0 => ?_) (hf := (all_cons (by kernel_rfl) (all_cons (flat3_of hf_a1) all_nil)))
 refine t_RN ?_
 refine t_RN ?_
 refine t_loop (fun st1 fr => Sub [(1, a1), (7, a0.t), (8, i4 (a0.l.length : Int)), (9, i4 st1)] fr.s ∧ Heap σ0 fr.σ []) (fun y1 e fr => (Sum.elim (fun y => e = (.exit 0) ∧ Sub [] fr.s ∧ Heap σ0 fr.σ []) (fun y => e = .ret ∧ endW Tryd.prog (Tryd.f62.results.toList) σ0 (E_bool y) .ret fr)) y1) (fun hS hH => And.intro (sub_to hS (by kernel_rfl)) hH) (fun st1 x fr h HI => ?_) fun y1 e fr h HF => ?_
 ·obtain ⟨s, σ⟩ := fr; obtain ⟨hS, hH⟩ := HI
  refine t_bk h hS hH ?_
  refine t_RN ?_
  refine t_if (fun hc1 => ?_) fun hc1 => ?_
  ·refine t_R ?_
   refine k_elt fun y2 rest1 hy2 => ?_
   refine t_N ?_
   refine t_RU 2 ?_
   refine k_callP fun y3 hy3 => ?_
   refine t_N ?_
   refine t_if (fun hc2 => ?_) fun hc2 => ?_
   ·refine t_RN ?_
    exact t_e fun he hS hH => he ▸ And.intro rfl (eW hS hH (rT rN) E_bool_p)
   refine t_RN ?_
   exact t_e fun he hS hH => he ▸ And.intro (sub_to hS (by kernel_rfl)) hH
  exact t_e fun he hS hH => he ▸ And.intro rfl (And.intro (sub_to hS (by kernel_rfl)) hH)
 obtain ⟨s, σ⟩ := fr
 rcases y1 with y1 | y1
 ·have h := el_l h
  obtain ⟨rfl, hS, hH⟩ := HF
  refine t_bx h hS hH ?_
  refine t_RN ?_
  exact k_eW (rT rN) E_bool_p
 have h := el_r h
 obtain ⟨rfl, HE⟩ := HF
 injection h with h; subst h; exact HE
noncomputable def B_impl_isShort (a0 : ByteArray) : Option Bool := (some (decide ((a0.size : Int) ≤ 200)))
theorem u_impl_isShort (a0 : ByteArray) (r : Bool) (h : B_impl_isShort a0 = some r) : F_impl_isShort a0 = some r := by
 unfold B_impl_isShort at h
 refine k_W ok_63 E_bool_inj h (fun σ0 => ?_)
 refine t_RN ?_
 refine t_RN ?_
 exact k_eW (rT rN) E_bool_p
noncomputable def B_impl_areAll_File (a0 : (Sl DFile)) (a1 : T) : Option Bool := (if flat1 a1 = true then ((loopO (S := Int) (R := (Unit ⊕ Bool)) (fun st1 => (if (decide (st1 < (a0.l.length : Int))) = true then ((elt a0 st1).bind fun y2 => ((callV Tryd.prog md ext E_bool a1 [.agg (DFile.cells y2)]).bind fun y3 => (if (!y3) = true then (some (.inr (.inr false))) else (some (.inl (IntKind.i64.wrap (st1 + 1))))))) else (some (.inr (.inl ()))))) 0).bind fun y1 => (Sum.elim (fun y1 => (some true)) (fun y1 => (some y1)) y1)) else none)
theorem u_impl_areAll_File (a0 : (Sl DFile)) (a1 : T) (r : Bool) (h : B_impl_areAll_File a0 a1 = some r) : F_impl_areAll_File a0 a1 = some r := by
 unfold B_impl_areAll_File at h
 obtain ⟨hf_a1, h⟩ := if_some h
 refine k_W ok_64 E_bool_inj h (fun σ0 => ?_) (hf := (all_cons (by kernel_rfl) (all_cons (flat3_of hf_a1) all_nil)))
 refine t_RN ?_
 refine t_RN ?_
 refine t_loop (fun st1 fr => Sub [(1, a1), (7, a0.t), (8, i4 (a0.l.length : Int)), (9, i4 st1)] fr.s ∧ Heap σ0 fr.σ []) (fun y1 e fr => (Sum.elim (fun y => e = (.exit 0) ∧ Sub [] fr.s ∧ Heap σ0 fr.σ []) (fun y => e = .ret ∧ endW Tryd.prog (Tryd.f64.results.toList) σ0 (E_bool y) .ret fr)) y1) (fun hS hH => And.intro (sub_to hS (by kernel_rfl)) hH) (fun st1 x fr h HI => ?_) fun y1 e fr h HF => ?_
 ·obtain ⟨s, σ⟩ := fr; obtain ⟨hS, hH⟩ := HI
  refine t_bk h hS hH ?_
  refine t_RN ?_
  refine t_if (fun hc1 => ?_) fun hc1 => ?_
  ·refine t_R ?_
   refine k_elt fun y2 rest1 hy2 => ?_
   refine t_U 1 ?_
   refine k_alloc fun b1 => ?_
   refine k_storeA 0 ?_
   refine t_N ?_
   refine t_RU 1 ?_
   refine k_load 0 ?_
   refine k_callP fun y3 hy3 => ?_
   refine t_N ?_
   refine t_if (fun hc2 => ?_) fun hc2 => ?_
   ·refine t_RN ?_
    exact t_e fun he hS hH => he ▸ And.intro rfl (eW hS hH (rT rN) E_bool_p)
   refine t_RN ?_
   exact t_e fun he hS hH => he ▸ And.intro (sub_to hS (by kernel_rfl)) (Heap.sel hH [] rfl (by kernel_rfl))
  exact t_e fun he hS hH => he ▸ And.intro rfl (And.intro (sub_to hS (by kernel_rfl)) hH)
 obtain ⟨s, σ⟩ := fr
 rcases y1 with y1 | y1
 ·have h := el_l h
  obtain ⟨rfl, hS, hH⟩ := HF
  refine t_bx h hS hH ?_
  refine t_RN ?_
  exact k_eW (rT rN) E_bool_p
 have h := el_r h
 obtain ⟨rfl, HE⟩ := HF
 injection h with h; subst h; exact HE
noncomputable def B_impl_File_isValid (a0 : DFile) : Option Bool := (((if (decide ((a0.Lines.l.length : Int) ≤ 40)) = true then ((F_impl_areAll_string a0.Lines (T.fn 63 [] [])).bind fun y6 => (some y6)) else (some false)) : Option Bool).bind fun y1 => ((((F_impl_within a0.At 0 (a0.Lines.l.length : Int)).bind fun y5 => (if y5 = true then (if (decide (a0.At = 0)) = true then (some true) else (some (decide (a0.Mode = 1)))) else (some false))) : Option Bool).bind fun y2 => ((F_impl_IsName a0.Name).bind fun y3 => (if y3 = true then (if y1 = true then (if y2 = true then (if (decide (a0.Mode = 0)) = true then (some true) else ((F_impl_isMode a0.Mode).bind fun y4 => (some y4))) else (some false)) else (some false)) else (some false)))))
theorem u_impl_File_isValid (a0 : DFile) (r : Bool) (h : B_impl_File_isValid a0 = some r) : F_impl_File_isValid a0 = some r := by
 unfold B_impl_File_isValid at h
 refine k_W ok_65 E_bool_inj h (fun σ0 => ?_)
 refine t_R ?_
 refine k_box (fun b1 => ?_)
 refine t_N ?_
 refine t_cut 0 (fun y1 e fr => e = .normal ∧ Sub [(1, .ptr b1 0 0 4), (3, .bool y1)] fr.s ∧ Heap σ0 fr.σ [.box b1 (DFile.cells a0)]) (fun y1 e fr h HF => ?_) fun y1 => ?_
 ·obtain ⟨s, σ⟩ := fr
  obtain ⟨rfl, hS, hH⟩ := HF
  refine t_bx h hS hH ?_
  refine t_cut 0 (fun y2 e fr => e = .normal ∧ Sub [(1, .ptr b1 0 0 4), (3, .bool y1), (4, .bool y2)] fr.s ∧ Heap σ0 fr.σ [.box b1 (DFile.cells a0)]) (fun y2 e fr h HF => ?_) fun y2 => ?_
  ·obtain ⟨s, σ⟩ := fr
   obtain ⟨rfl, hS, hH⟩ := HF
   refine t_bx h hS hH ?_
   refine t_RU 1 ?_
   refine k_load 0 ?_
   refine k_call fun y3 hy3 => ?_
   refine t_U 1 ?_
   refine t_gif 33 (fun hc1 => ?_) fun hc1 => ?_
   ·refine t_U 3 ?_
    refine t_gif 36 (fun hc2 => ?_) fun hc2 => ?_
    ·refine t_U 3 ?_
     refine t_gif 39 (fun hc3 => ?_) fun hc3 => ?_
     ·refine t_U 1 ?_
      refine k_load 0 ?_
      refine t_U 2 ?_
      refine t_gif 43 (fun hc4 => ?_) fun hc4 => ?_
      ·refine t_N ?_
       exact k_eW (rT rN) E_bool_p
      refine t_U 1 ?_
      refine k_load 0 ?_
      refine k_call fun y4 hy4 => ?_
      refine t_N ?_
      exact k_eW (rT rN) E_bool_p
     refine t_N ?_
     exact k_eW (rT rN) E_bool_p
    refine t_N ?_
    exact k_eW (rT rN) E_bool_p
   refine t_N ?_
   exact k_eW (rT rN) E_bool_p
  refine t_RU 1 ?_
  refine k_load 0 ?_
  refine t_U 1 ?_
  refine k_load 0 ?_
  refine t_U 1 ?_
  refine k_call fun y5 hy5 => ?_
  refine t_U 1 ?_
  refine t_gif 20 (fun hc5 => ?_) fun hc5 => ?_
  ·refine t_U 1 ?_
   refine k_load 0 ?_
   refine t_U 2 ?_
   refine t_gif 24 (fun hc6 => ?_) fun hc6 => ?_
   ·refine t_N ?_
    exact t_e fun he hS hH => he ▸ And.intro rfl (And.intro (sub_to hS (by kernel_rfl)) hH)
   refine t_U 1 ?_
   refine k_load 0 ?_
   refine t_N ?_
   exact t_e fun he hS hH => by subst he; exact And.intro rfl (And.intro (sub_to hS (by kernel_rfl)) hH)
  refine t_N ?_
  exact t_e fun he hS hH => he ▸ And.intro rfl (And.intro (sub_to hS (by kernel_rfl)) hH)
 refine t_RU 1 ?_
 refine k_load 0 ?_
 refine t_U 3 ?_
 refine t_gif 9 (fun hc7 => ?_) fun hc7 => ?_
 ·refine t_U 1 ?_
  refine k_load 0 ?_
  refine k_call fun y6 hy6 => ?_
  refine t_N ?_
  exact t_e fun he hS hH => he ▸ And.intro rfl (And.intro (sub_to hS (by kernel_rfl)) hH)
 refine t_N ?_
 exact t_e fun he hS hH => he ▸ And.intro rfl (And.intro (sub_to hS (by kernel_rfl)) hH)
noncomputable def B_impl_isSorted_File (a0 : (Sl DFile)) (a1 : T) : Option Bool := (if flat1 a1 = true then ((loopO (S := Int) (R := (Unit ⊕ Bool)) (fun st1 => (if (decide (st1 < (a0.l.length : Int))) = true then ((elt a0 (IntKind.i64.wrap (st1 - 1))).bind fun y2 => ((callV Tryd.prog md ext E_str a1 [.agg (DFile.cells y2)]).bind fun y3 => ((elt a0 st1).bind fun y4 => ((callV Tryd.prog md ext E_str a1 [.agg (DFile.cells y4)]).bind fun y5 => (if (!Op.bytesLess y3.toList y5.toList) = true then (some (.inr (.inr false))) else (some (.inl (IntKind.i64.wrap (st1 + 1))))))))) else (some (.inr (.inl ()))))) 1).bind fun y1 => (Sum.elim (fun y1 => (some true)) (fun y1 => (some y1)) y1)) else none)
theorem u_impl_isSorted_File (a0 : (Sl DFile)) (a1 : T) (r : Bool) (h : B_impl_isSorted_File a0 a1 = some r) : F_impl_isSorted_File a0 a1 = some r := by
 unfold B_impl_isSorted_File at h
 obtain ⟨hf_a1, h⟩ := if_some h
 refine k_W ok_66 E_bool_inj h (fun σ0 => ?_) (hf := (all_cons (by kernel_rfl) (all_cons (flat3_of hf_a1) all_nil)))
 refine t_RN ?_
 refine t_RN ?_
 refine t_loop (fun st1 fr => Sub [(0, a0.t), (1, a1), (5, i4 st1)] fr.s ∧ Heap σ0 fr.σ []) (fun y1 e fr => (Sum.elim (fun y => e = (.exit 0) ∧ Sub [] fr.s ∧ Heap σ0 fr.σ []) (fun y => e = .ret ∧ endW Tryd.prog (Tryd.f66.results.toList) σ0 (E_bool y) .ret fr)) y1) (fun hS hH => And.intro (sub_to hS (by kernel_rfl)) hH) (fun st1 x fr h HI => ?_) fun y1 e fr h HF => ?_
 ·obtain ⟨s, σ⟩ := fr; obtain ⟨hS, hH⟩ := HI
  refine t_bk h hS hH ?_
  refine t_RN ?_
  refine t_if (fun hc1 => ?_) fun hc1 => ?_
  ·refine t_D fun mb => ?_
   refine t_U 4 ?_
   refine k_elt fun y2 rest1 hy2 => ?_
   refine t_U 1 ?_
   refine k_callP fun y3 hy3 => ?_
   refine t_U 3 ?_
   refine k_elt fun y4 rest2 hy4 => ?_
   refine t_U 1 ?_
   refine k_callP fun y5 hy5 => ?_
   refine t_N ?_
   refine t_if (fun hc2 => ?_) fun hc2 => ?_
   ·refine t_RN ?_
    exact t_e fun he hS hH => he ▸ And.intro rfl (eW hS hH (rT rN) E_bool_p)
   refine t_RN ?_
   exact t_e fun he hS hH => he ▸ And.intro (sub_to hS (by kernel_rfl)) hH
  exact t_e fun he hS hH => he ▸ And.intro rfl (And.intro (sub_to hS (by kernel_rfl)) hH)
 obtain ⟨s, σ⟩ := fr
 rcases y1 with y1 | y1
 ·have h := el_l h
  obtain ⟨rfl, hS, hH⟩ := HF
  refine t_bx h hS hH ?_
  refine t_RN ?_
  exact k_eW (rT rN) E_bool_p
 have h := el_r h
 obtain ⟨rfl, HE⟩ := HF
 injection h with h; subst h; exact HE
noncomputable def B_impl_nameOfFile (a0 : DFile) : Option ByteArray := (some a0.Name)
theorem u_impl_nameOfFile (a0 : DFile) (r : ByteArray) (h : B_impl_nameOfFile a0 = some r) : F_impl_nameOfFile a0 = some r := by
 unfold B_impl_nameOfFile at h
 refine k_W ok_67 E_str_inj h (fun σ0 => ?_)
 refine t_R ?_
 refine k_box (fun b1 => ?_)
 refine t_N ?_
 refine t_RU 1 ?_
 refine k_load 0 ?_
 refine t_N ?_
 exact k_eW (rT rN) E_str_p
noncomputable def B_slices_Clone_string (a0 : (Sl ByteArray)) : Option (Sl ByteArray) := (if a0.z = true then (some ⟨true, []⟩) else ((appS 16 (⟨false, []⟩ : Sl ByteArray) a0).bind fun y1 => (some y1)))
theorem u_slices_Clone_string (a0 : (Sl ByteArray)) (r : (Sl ByteArray)) (h : B_slices_Clone_string a0 = some r) : F_slices_Clone_string a0 = some r := by
 unfold B_slices_Clone_string at h
 refine k_O ok_68 h (fun σ0 => ?_)
 refine t_RN ?_
 refine t_RN ?_
 refine t_if (fun hc1 => ?_) fun hc1 => ?_
 ·refine t_RN ?_
  refine t_h (Heap.addNil · true 1) ?_
  exact k_eO [(T.row true 0 [])] (rT rN)
 refine t_R ?_
 refine k_bs0 (α := ByteArray) (fun t1 ht1 => ?_)
 refine t_U 1 ?_
 refine k_appR 0 (fun y1 t2 hy1 ht2 => ?_)
 refine t_N ?_
 exact k_eO [t2] (rT rN)
noncomputable def B_spec_l21Lines (a0 : (Sl ByteArray)) (a1 : Int) (a2 : Int) : Option Bool := (if (decide (a1 < (a0.l.length : Int))) = true then (some false) else ((loopO (S := Int) (R := (Unit ⊕ Bool)) (fun st1 => (if (decide (st1 < (a0.l.length : Int))) = true then ((elt a0 st1).bind fun y2 => (if (decide (a2 < (y2.size : Int))) = true then (some (.inr (.inr false))) else (some (.inl (IntKind.i64.wrap (st1 + 1)))))) else (some (.inr (.inl ()))))) 0).bind fun y1 => (Sum.elim (fun y1 => (some true)) (fun y1 => (some y1)) y1)))
theorem u_spec_l21Lines (a0 : (Sl ByteArray)) (a1 : Int) (a2 : Int) (r : Bool) (h : B_spec_l21Lines a0 a1 a2 = some r) : F_spec_l21Lines a0 a1 a2 = some r := by
 unfold B_spec_l21Lines at h
 refine k_W ok_69 E_bool_inj h (fun σ0 => ?_)
 refine t_RN ?_
 refine t_RN ?_
 refine t_if (fun hc1 => ?_) fun hc1 => ?_
 ·refine t_RN ?_
  exact k_eW (rT rN) E_bool_p
 refine t_RN ?_
 refine t_loop (fun st1 fr => Sub [(0, a0.t), (2, i4 a2), (7, i4 st1)] fr.s ∧ Heap σ0 fr.σ []) (fun y1 e fr => (Sum.elim (fun y => e = (.exit 0) ∧ Sub [] fr.s ∧ Heap σ0 fr.σ []) (fun y => e = .ret ∧ endW Tryd.prog (Tryd.f69.results.toList) σ0 (E_bool y) .ret fr)) y1) (fun hS hH => And.intro (sub_to hS (by kernel_rfl)) hH) (fun st1 x fr h HI => ?_) fun y1 e fr h HF => ?_
 ·obtain ⟨s, σ⟩ := fr; obtain ⟨hS, hH⟩ := HI
  refine t_bk h hS hH ?_
  refine t_RN ?_
  refine t_if (fun hc2 => ?_) fun hc2 => ?_
  ·refine t_RU 2 ?_
   refine k_elt fun y2 rest1 hy2 => ?_
   refine t_N ?_
   refine t_if (fun hc3 => ?_) fun hc3 => ?_
   ·refine t_RN ?_
    exact t_e fun he hS hH => he ▸ And.intro rfl (eW hS hH (rT rN) E_bool_p)
   refine t_RN ?_
   exact t_e fun he hS hH => he ▸ And.intro (sub_to hS (by kernel_rfl)) hH
  exact t_e fun he hS hH => he ▸ And.intro rfl (And.intro (sub_to hS (by kernel_rfl)) hH)
 obtain ⟨s, σ⟩ := fr
 rcases y1 with y1 | y1
 ·have h := el_l h
  obtain ⟨rfl, hS, hH⟩ := HF
  refine t_bx h hS hH ?_
  refine t_RN ?_
  exact k_eW (rT rN) E_bool_p
 have h := el_r h
 obtain ⟨rfl, HE⟩ := HF
 injection h with h; subst h; exact HE
noncomputable def B_spec_l00In (a0 : Int) (a1 : Int) (a2 : Int) : Option Bool := (if (decide (a1 ≤ a0)) = true then (some (decide (a0 ≤ a2))) else (some false))
theorem u_spec_l00In (a0 : Int) (a1 : Int) (a2 : Int) (r : Bool) (h : B_spec_l00In a0 a1 a2 = some r) : F_spec_l00In a0 a1 a2 = some r := by
 unfold B_spec_l00In at h
 refine k_W ok_70 E_bool_inj h (fun σ0 => ?_)
 refine t_RN ?_
 refine t_RU 4 ?_
 refine t_gif 10 (fun hc1 => ?_) fun hc1 => ?_
 ·refine t_N ?_
  exact k_eW (rT rN) E_bool_p
 refine t_N ?_
 exact k_eW (rT rN) E_bool_p
noncomputable def B_spec_l21File (a0 : DFile) : Option Bool := ((F_spec_IsName a0.Name).bind fun y1 => (if (!y1) = true then (some false) else ((F_spec_l21Lines a0.Lines 40 200).bind fun y2 => (if (!y2) = true then (some false) else ((F_spec_l00In a0.Mode 0 3).bind fun y3 => (if (!y3) = true then (some false) else ((F_spec_l00In a0.At 0 (a0.Lines.l.length : Int)).bind fun y4 => (if y4 = true then (if (decide (a0.Mode = 1)) = true then (some true) else (some (decide (a0.At = 0)))) else (some false)))))))))
theorem u_spec_l21File (a0 : DFile) (r : Bool) (h : B_spec_l21File a0 = some r) : F_spec_l21File a0 = some r := by
 unfold B_spec_l21File at h
 refine k_W ok_71 E_bool_inj h (fun σ0 => ?_)
 refine t_R ?_
 refine k_box (fun b1 => ?_)
 refine t_N ?_
 refine t_RU 1 ?_
 refine k_load 0 ?_
 refine k_call fun y1 hy1 => ?_
 refine t_U 2 ?_
 refine t_gif 7 (fun hc1 => ?_) fun hc1 => ?_
 ·refine t_N ?_
  refine t_cT rfl ?_
  refine t_RN ?_
  exact k_eW (rT rN) E_bool_p
 refine t_U 1 ?_
 refine k_load 0 ?_
 refine k_call fun y2 hy2 => ?_
 refine t_U 3 ?_
 refine t_gif 13 (fun hc2 => ?_) fun hc2 => ?_
 ·refine t_N ?_
  refine t_cT rfl ?_
  refine t_RN ?_
  exact k_eW (rT rN) E_bool_p
 refine t_U 1 ?_
 refine k_load 0 ?_
 refine k_call fun y3 hy3 => ?_
 refine t_N ?_
 refine t_if (fun hc3 => ?_) fun hc3 => ?_
 ·refine t_RN ?_
  exact k_eW (rT rN) E_bool_p
 refine t_RU 1 ?_
 refine k_load 0 ?_
 refine t_U 1 ?_
 refine k_load 0 ?_
 refine t_U 1 ?_
 refine k_call fun y4 hy4 => ?_
 refine t_U 1 ?_
 refine t_gif 25 (fun hc4 => ?_) fun hc4 => ?_
 ·refine t_U 1 ?_
  refine k_load 0 ?_
  refine t_U 2 ?_
  refine t_gif 29 (fun hc5 => ?_) fun hc5 => ?_
  ·refine t_N ?_
   exact k_eW (rT rN) E_bool_p
  refine t_U 1 ?_
  refine k_load 0 ?_
  refine t_N ?_
  exact k_eW (rT rN) E_bool_p
 refine t_N ?_
 exact k_eW (rT rN) E_bool_p
noncomputable def B_impl_isDigit (a0 : Int) : Option Bool := (if (decide (48 ≤ a0)) = true then (some (decide (a0 ≤ 57))) else (some false))
theorem u_impl_isDigit (a0 : Int) (r : Bool) (h : B_impl_isDigit a0 = some r) : F_impl_isDigit a0 = some r := by
 unfold B_impl_isDigit at h
 refine k_W ok_90 E_bool_inj h (fun σ0 => ?_)
 refine t_RN ?_
 refine t_RU 3 ?_
 refine t_gif 5 (fun hc1 => ?_) fun hc1 => ?_
 ·refine t_N ?_
  exact k_eW (rT rN) E_bool_p
 refine t_N ?_
 exact k_eW (rT rN) E_bool_p
noncomputable def B_impl_isMode (a0 : Int) : Option Bool := ((F_impl_within a0 1 3).bind fun y1 => (some y1))
theorem u_impl_isMode (a0 : Int) (r : Bool) (h : B_impl_isMode a0 = some r) : F_impl_isMode a0 = some r := by
 unfold B_impl_isMode at h
 refine k_W ok_93 E_bool_inj h (fun σ0 => ?_)
 refine t_RN ?_
 refine t_RU 1 ?_
 refine k_call fun y1 hy1 => ?_
 refine t_N ?_
 exact k_eW (rT rN) E_bool_p
noncomputable def B_spec_IsName (a0 : ByteArray) : Option Bool := (if (!decide (a0 = (⟨#[]⟩ : ByteArray))) = true then (if (decide ((a0.size : Int) ≤ 12)) = true then ((F_spec_l02NameEnd a0 0).bind fun y1 => (some (decide (y1 = (a0.size : Int))))) else (some false)) else (some false))
theorem u_spec_IsName (a0 : ByteArray) (r : Bool) (h : B_spec_IsName a0 = some r) : F_spec_IsName a0 = some r := by
 unfold B_spec_IsName at h
 refine k_W ok_94 E_bool_inj h (fun σ0 => ?_)
 refine t_RN ?_
 refine t_RU 3 ?_
 refine t_gif 5 (fun hc1 => ?_) fun hc1 => ?_
 ·refine t_U 5 ?_
  refine t_gif 10 (fun hc2 => ?_) fun hc2 => ?_
  ·refine t_U 1 ?_
   refine k_call fun y1 hy1 => ?_
   refine t_N ?_
   exact k_eW (rT rN) E_bool_p
  refine t_N ?_
  exact k_eW (rT rN) E_bool_p
 refine t_N ?_
 exact k_eW (rT rN) E_bool_p
noncomputable def B_spec_l02NameEnd (a0 : ByteArray) (a1 : Int) : Option Int := (if (decide ((a0.size : Int) ≤ a1)) = true then (some a1) else ((byteAt a0 a1).bind fun y1 => ((F_spec_l02Letter y1).bind fun y2 => (if (!y2) = true then (some a1) else ((loopO (S := Int) (R := Int) (fun st1 => (if (decide (st1 < (a0.size : Int))) = true then ((byteAt a0 st1).bind fun y4 => ((F_spec_l02Letter y4).bind fun y5 => (if y5 = true then (some (.inl (IntKind.i64.wrap (st1 + 1)))) else ((byteAt a0 st1).bind fun y6 => ((F_spec_l02Digit y6).bind fun y7 => (if y7 = true then (some (.inl (IntKind.i64.wrap (st1 + 1)))) else ((byteAt a0 st1).bind fun y8 => (if (decide (y8 = 95)) = true then (some (.inl (IntKind.i64.wrap (st1 + 1)))) else (some (.inr st1)))))))))) else (some (.inr st1)))) a1).bind fun y3 => (some y3))))))
theorem u_spec_l02NameEnd (a0 : ByteArray) (a1 : Int) (r : Int) (h : B_spec_l02NameEnd a0 a1 = some r) : F_spec_l02NameEnd a0 a1 = some r := by
 unfold B_spec_l02NameEnd at h
 refine k_W ok_119 E_i64_inj h (fun σ0 => ?_)
 refine t_RN ?_
 refine t_RU 5 ?_
 refine t_gif 9 (fun hc1 => ?_) fun hc1 => ?_
 ·refine t_N ?_
  refine t_cT rfl ?_
  refine t_RN ?_
  exact k_eW (rT rN) E_i64_p
 refine t_U 2 ?_
 refine k_byte fun y1 hy1 => ?_
 refine k_call fun y2 hy2 => ?_
 refine t_N ?_
 refine t_if (fun hc2 => ?_) fun hc2 => ?_
 ·refine t_RN ?_
  exact k_eW (rT rN) E_i64_p
 refine t_loop (fun st1 fr => Sub [(0, .str a0), (1, i4 st1)] fr.s ∧ Heap σ0 fr.σ []) (fun y3 e fr => e = (.exit 0) ∧ Sub [(1, i4 y3)] fr.s ∧ Heap σ0 fr.σ []) (fun hS hH => And.intro (sub_to hS (by kernel_rfl)) hH) (fun st1 x fr h HI => ?_) fun y3 e fr h HF => ?_
 ·obtain ⟨s, σ⟩ := fr; obtain ⟨hS, hH⟩ := HI
  refine t_bk h hS hH ?_
  refine t_RU 5 ?_
  refine t_gif 21 (fun hc3 => ?_) fun hc3 => ?_
  ·refine t_U 2 ?_
   refine k_byte fun y4 hy4 => ?_
   refine k_call fun y5 hy5 => ?_
   refine t_U 1 ?_
   refine t_gif 26 (fun hc4 => ?_) fun hc4 => ?_
   ·refine t_N ?_
    refine t_cT rfl ?_
    refine t_RN ?_
    exact t_e fun he hS hH => he ▸ And.intro (sub_to hS (by kernel_rfl)) hH
   refine t_U 2 ?_
   refine k_byte fun y6 hy6 => ?_
   refine k_call fun y7 hy7 => ?_
   refine t_U 2 ?_
   refine t_gif 32 (fun hc5 => ?_) fun hc5 => ?_
   ·refine t_N ?_
    refine t_cT rfl ?_
    refine t_RN ?_
    exact t_e fun he hS hH => he ▸ And.intro (sub_to hS (by kernel_rfl)) hH
   refine t_U 2 ?_
   refine k_byte fun y8 hy8 => ?_
   refine t_N ?_
   refine t_if (fun hc6 => ?_) fun hc6 => ?_
   ·refine t_RN ?_
    exact t_e fun he hS hH => he ▸ And.intro (sub_to hS (by kernel_rfl)) hH
   exact t_e fun he hS hH => he ▸ And.intro rfl (And.intro (sub_to hS (by kernel_rfl)) hH)
  refine t_N ?_
  refine t_cF ff_ne ?_
  exact t_e fun he hS hH => he ▸ And.intro rfl (And.intro (sub_to hS (by kernel_rfl)) hH)
 obtain ⟨s, σ⟩ := fr
 obtain ⟨rfl, hS, hH⟩ := HF
 refine t_bx h hS hH ?_
 refine t_RN ?_
 exact k_eW (rT rN) E_i64_p
noncomputable def B_spec_l02Letter (a0 : Int) : Option Bool := (if (decide (65 ≤ a0)) = true then (if (decide (a0 ≤ 90)) = true then (some true) else (if (decide (97 ≤ a0)) = true then (some (decide (a0 ≤ 122))) else (some false))) else (if (decide (97 ≤ a0)) = true then (some (decide (a0 ≤ 122))) else (some false)))
theorem u_spec_l02Letter (a0 : Int) (r : Bool) (h : B_spec_l02Letter a0 = some r) : F_spec_l02Letter a0 = some r := by
 unfold B_spec_l02Letter at h
 refine k_W ok_146 E_bool_inj h (fun σ0 => ?_)
 refine t_RN ?_
 refine t_RU 3 ?_
 refine t_gif 5 (fun hc1 => ?_) fun hc1 => ?_
 ·refine t_U 4 ?_
  refine t_gif 9 (fun hc2 => ?_) fun hc2 => ?_
  ·refine t_N ?_
   exact k_eW (rT rN) E_bool_p
  refine t_U 3 ?_
  refine t_gif 12 (fun hc3 => ?_) fun hc3 => ?_
  ·refine t_N ?_
   exact k_eW (rT rN) E_bool_p
  refine t_N ?_
  exact k_eW (rT rN) E_bool_p
 refine t_U 7 ?_
 refine t_gif 12 (fun hc4 => ?_) fun hc4 => ?_
 ·refine t_N ?_
  exact k_eW (rT rN) E_bool_p
 refine t_N ?_
 exact k_eW (rT rN) E_bool_p
noncomputable def B_spec_l02Digit (a0 : Int) : Option Bool := (if (decide (48 ≤ a0)) = true then (some (decide (a0 ≤ 57))) else (some false))
theorem u_spec_l02Digit (a0 : Int) (r : Bool) (h : B_spec_l02Digit a0 = some r) : F_spec_l02Digit a0 = some r := by
 unfold B_spec_l02Digit at h
 refine k_W ok_147 E_bool_inj h (fun σ0 => ?_)
 refine t_RN ?_
 refine t_RU 3 ?_
 refine t_gif 5 (fun hc1 => ?_) fun hc1 => ?_
 ·refine t_N ?_
  exact k_eW (rT rN) E_bool_p
 refine t_N ?_
 exact k_eW (rT rN) E_bool_p
end Go.Am
