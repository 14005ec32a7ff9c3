/- Functions of the program. -/
import Derived.Test.YtohkcdkmpencnaaGreatDoorAd0
set_option maxRecDepth 100000
set_option maxHeartbeats 4000000
set_option linter.unusedVariables false
set_option linter.unusedSimpArgs false
namespace Go.Am
open Go.Proofs
noncomputable def B_laws_markStringS (a0 : (Sl ByteArray)) (a1 : Int) : Option (Int × (Sl ByteArray)) := ((loopO (S := (Int × Int × (Sl ByteArray))) (R := (Int × (Sl ByteArray))) (fun st1 => (if (decide (st1.2.1 < (st1.2.2.l.length : Int))) = true then ((F_laws_markText st1.1).bind fun y2 => ((elt st1.2.2 st1.2.1).bind fun y3 => (some (.inl ((IntKind.i64.wrap (st1.1 + 1)), (IntKind.i64.wrap (st1.2.1 + 1)), (setS st1.2.2 st1.2.1 (y2 : ByteArray))))))) else (some (.inr (st1.1, st1.2.2))))) (a1, 0, a0)).bind fun y1 => (some (y1.1, y1.2)))
theorem u_laws_markStringS (a0 : (Sl ByteArray)) (a1 : Int) (r : (Int × (Sl ByteArray))) (h : B_laws_markStringS a0 a1 = some r) (wp0_1 : Nat) (p0_1 : T) : RawS Tryz.prog md ext 26 [p0_1, i4 a1] 0 (fun hs => E_i64 r.1) [.own true wp0_1 p0_1 a0.t] (fun hs => [.own true wp0_1 p0_1 r.2.t]) := by
 unfold B_laws_markStringS at h
 refine rawS_of rfl rfl ok_26 rfl ?_
 intro σ0 σ F σk s hS hH
 have hp0_1 : IsOne p0_1 := Heap.one hH
 have hS := sub_to (L' := [(0, p0_1), (1, i4 a1)]) hS (by kernel_rfl)
 refine t_go h hS hH ?_
 refine t_RN ?_
 refine t_RN ?_
 refine t_loop (fun st1 fr => Sub [(0, p0_1), (1, i4 st1.1), (5, i4 st1.2.1)] fr.s ∧ Heap σ0 fr.σ [.own true wp0_1 p0_1 st1.2.2.t, .keep F σk]) (fun y1 e fr => e = (.exit 0) ∧ Sub [(1, i4 y1.1)] fr.s ∧ Heap σ0 fr.σ [.own true wp0_1 p0_1 y1.2.t, .keep F σk]) (fun hS hH => And.intro (sub_to hS (by kernel_rfl)) hH) (fun st1 x fr h HI => ?_) fun y1 e fr h HF => ?_
 ·obtain ⟨s, σ⟩ := fr; obtain ⟨hS, hH⟩ := HI
  refine t_bk h hS hH ?_
  refine t_RU 2 ?_
  refine k_lenH (a := st1.2.2) 0 ?_
  refine t_N ?_
  refine t_if (fun hc1 => ?_) fun hc1 => ?_
  ·refine t_RU 3 ?_
   refine k_call fun y2 hy2 => ?_
   refine k_hidx 0 (fun hb1 hb1e y3 hy3 hl_hb1 => ?_)
   intro h s σ hS hH
   refine q_hstore (ents := []) (a := st1.2.2) (j := st1.2.1) (y := y3) (y' := (y2 : ByteArray)) (off := 0) (c := [.str y3]) (us := [.str y2]) (vs := [.str y2]) (v := .str y2) rfl hS hH hl_hb1 rfl rfl rfl (by kernel_rfl) (by kernel_rfl) rfl hy3 rfl (HLs HL.nil) rfl (by kernel_rfl) ?_; intro σ s hH hS
   refine t_bk h hS hH ?_
   refine t_N ?_
   refine t_RN ?_
   refine t_RN ?_
   exact t_e fun he hS hH => he ▸ And.intro (sub_to hS (by kernel_rfl)) hH
  exact t_e fun he hS hH => he ▸ And.intro rfl (And.intro (sub_to hS (by kernel_rfl)) hH)
 obtain ⟨s, σ⟩ := fr
 obtain ⟨rfl, hS, hH⟩ := HF
 refine t_bx h hS hH ?_
 refine t_RN ?_
 intro h s σ hS hH
 injection h with h; subst h
 exact end_M [] (r_tmp (v := i4 y1.1) hS rfl r_nil) rfl rfl hH
noncomputable def B_laws_markFileS (a0 : (Sl DFile)) (a1 : Int) : Option (Int × (Sl DFile)) := ((loopO (S := (Int × Int × (Sl DFile))) (R := (Int × (Sl DFile))) (fun st1 => (if (decide (st1.2.1 < (st1.2.2.l.length : Int))) = true then ((F_laws_markText st1.1).bind fun y2 => ((elt st1.2.2 st1.2.1).bind fun y3 => ((elt (setS st1.2.2 st1.2.1 ((⟨y2, y3.Lines, y3.Mode, y3.At⟩ : DFile) : DFile)) st1.2.1).bind fun y4 => ((B_laws_markStringS y4.Lines (IntKind.i64.wrap (st1.1 + 1))).bind fun y5 => ((elt ((setS (setS st1.2.2 st1.2.1 ((⟨y2, y3.Lines, y3.Mode, y3.At⟩ : DFile) : DFile)) st1.2.1 ((⟨y4.Name, y5.2, y4.Mode, y4.At⟩ : DFile) : DFile))) st1.2.1).bind fun y6 => ((elt ((setS ((setS (setS st1.2.2 st1.2.1 ((⟨y2, y3.Lines, y3.Mode, y3.At⟩ : DFile) : DFile)) st1.2.1 ((⟨y4.Name, y5.2, y4.Mode, y4.At⟩ : DFile) : DFile))) st1.2.1 ((⟨y6.Name, y6.Lines, y5.1, y6.At⟩ : DFile) : DFile))) st1.2.1).bind fun y7 => (some (.inl ((IntKind.i64.wrap ((IntKind.i64.wrap (y5.1 + 1)) + 1)), (IntKind.i64.wrap (st1.2.1 + 1)), (setS ((setS ((setS (setS st1.2.2 st1.2.1 ((⟨y2, y3.Lines, y3.Mode, y3.At⟩ : DFile) : DFile)) st1.2.1 ((⟨y4.Name, y5.2, y4.Mode, y4.At⟩ : DFile) : DFile))) st1.2.1 ((⟨y6.Name, y6.Lines, y5.1, y6.At⟩ : DFile) : DFile))) st1.2.1 ((⟨y7.Name, y7.Lines, y7.Mode, (IntKind.i64.wrap (y5.1 + 1))⟩ : DFile) : DFile))))))))))) else (some (.inr (st1.1, st1.2.2))))) (a1, 0, a0)).bind fun y1 => (some (y1.1, y1.2)))
theorem u_laws_markFileS (a0 : (Sl DFile)) (a1 : Int) (r : (Int × (Sl DFile))) (h : B_laws_markFileS a0 a1 = some r) (wp0_1 : Nat) (p0_1 : T) : RawS Tryz.prog md ext 27 [p0_1, i4 a1] 0 (fun hs => E_i64 r.1) [.own true wp0_1 p0_1 a0.t] (fun hs => [.own true wp0_1 p0_1 r.2.t]) := by
 unfold B_laws_markFileS at h
 refine rawS_of rfl rfl ok_27 rfl ?_
 intro σ0 σ F σk s hS hH
 have hp0_1 : IsOne p0_1 := Heap.one hH
 have hS := sub_to (L' := [(0, p0_1), (1, i4 a1)]) hS (by kernel_rfl)
 refine t_go h hS hH ?_
 refine t_RN ?_
 refine t_RN ?_
 refine t_loop (fun st1 fr => Sub [(0, p0_1), (1, i4 st1.1), (5, i4 st1.2.1)] fr.s ∧ Heap σ0 fr.σ [.own true wp0_1 p0_1 st1.2.2.t, .keep F σk]) (fun y1 e fr => e = (.exit 0) ∧ Sub [(1, i4 y1.1)] fr.s ∧ Heap σ0 fr.σ [.own true wp0_1 p0_1 y1.2.t, .keep F σk]) (fun hS hH => And.intro (sub_to hS (by kernel_rfl)) hH) (fun st1 x fr h HI => ?_) fun y1 e fr h HF => ?_
 ·obtain ⟨s, σ⟩ := fr; obtain ⟨hS, hH⟩ := HI
  refine t_bk h hS hH ?_
  refine t_RU 2 ?_
  refine k_lenH (a := st1.2.2) 0 ?_
  refine t_N ?_
  refine t_if (fun hc1 => ?_) fun hc1 => ?_
  ·refine t_RU 3 ?_
   refine k_call fun y2 hy2 => ?_
   refine k_hidx 0 (fun hb1 hb1e y3 hy3 hl_hb1 => ?_)
   refine t_U 1 ?_
   intro h s σ hS hH
   refine q_hstore (ents := []) (a := st1.2.2) (j := st1.2.1) (y := y3) (y' := ((⟨y2, y3.Lines, y3.Mode, y3.At⟩ : DFile) : DFile)) (off := 0) (c := [.str y3.Name, y3.Lines.t, i4 y3.Mode, i4 y3.At]) (us := [.str y2]) (vs := [.str y2]) (v := .str y2) rfl hS hH hl_hb1 rfl rfl rfl (by kernel_rfl) (by kernel_rfl) rfl hy3 rfl (HLs HL.nil) rfl (by kernel_rfl) ?_; intro σ s hH hS
   refine t_bk h hS hH ?_
   refine t_N ?_
   refine t_RN ?_
   refine t_RU 2 ?_
   refine k_hidx 0 (fun hb2 hb2e y4 hy4 hl_hb2 => ?_)
   refine t_U 1 ?_
   intro h s σ hS hH
   refine q_hlens (a := (setS st1.2.2 st1.2.1 ((⟨y2, y3.Lines, y3.Mode, y3.At⟩ : DFile) : DFile))) (j := st1.2.1) (y := y4) (off := 1) (c := [.str y4.Name, y4.Lines.t, i4 y4.Mode, i4 y4.At]) (q := (y4.Lines : Sl ByteArray)) (fun _ _ _ _ _ => trivial) rfl hS hH hl_hb2 rfl hy4 rfl (by kernel_rfl) rfl rfl ?_; intro F1 σk1 t1 s ht1 hH hcl1 hcl1s hcl1p hcl1k hcl1f hS
   refine t_bk h hS hH ?_
   refine t_U 1 ?_
   refine k_callR (fun y5 hs hy5 hl => ?_) (hr := by exact fun y5 hy5 => u_laws_markStringS _ _ y5 hy5 0 t1)
   obtain rfl := len0 hl
   refine t_lit ?_
   refine t_U 1 ?_
   intro h s σ hS hH
   have hH := hcl1 _ _ _ ((⟨y4.Name, y5.2, y4.Mode, y4.At⟩ : DFile) : DFile) rfl hH
   have hH : Heap σ0 σ [.own true wp0_1 p0_1 (setS (setS st1.2.2 st1.2.1 ((⟨y2, y3.Lines, y3.Mode, y3.At⟩ : DFile) : DFile)) st1.2.1 ((⟨y4.Name, y5.2, y4.Mode, y4.At⟩ : DFile) : DFile)).t, .keep F σk] := hH
   refine t_bk h hS hH ?_
   refine t_N ?_
   refine t_RU 3 ?_
   refine k_hidx 0 (fun hb3 hb3e y6 hy6 hl_hb3 => ?_)
   refine t_U 1 ?_
   intro h s σ hS hH
   refine q_hstore (ents := []) (a := (setS (setS st1.2.2 st1.2.1 ((⟨y2, y3.Lines, y3.Mode, y3.At⟩ : DFile) : DFile)) st1.2.1 ((⟨y4.Name, y5.2, y4.Mode, y4.At⟩ : DFile) : DFile))) (j := st1.2.1) (y := y6) (y' := ((⟨y6.Name, y6.Lines, y5.1, y6.At⟩ : DFile) : DFile)) (off := 2) (c := [.str y6.Name, y6.Lines.t, i4 y6.Mode, i4 y6.At]) (us := [i4 y5.1]) (vs := [i4 y5.1]) (v := i4 y5.1) rfl hS hH hl_hb3 rfl rfl rfl (by kernel_rfl) (by kernel_rfl) rfl hy6 rfl (HLi HL.nil) rfl (by kernel_rfl) ?_; intro σ s hH hS
   refine t_bk h hS hH ?_
   refine t_N ?_
   refine t_RN ?_
   refine t_RU 3 ?_
   refine k_hidx 0 (fun hb4 hb4e y7 hy7 hl_hb4 => ?_)
   refine t_U 1 ?_
   intro h s σ hS hH
   refine q_hstore (ents := []) (a := (setS ((setS (setS st1.2.2 st1.2.1 ((⟨y2, y3.Lines, y3.Mode, y3.At⟩ : DFile) : DFile)) st1.2.1 ((⟨y4.Name, y5.2, y4.Mode, y4.At⟩ : DFile) : DFile))) st1.2.1 ((⟨y6.Name, y6.Lines, y5.1, y6.At⟩ : DFile) : DFile))) (j := st1.2.1) (y := y7) (y' := ((⟨y7.Name, y7.Lines, y7.Mode, (IntKind.i64.wrap (y5.1 + 1))⟩ : DFile) : DFile)) (off := 3) (c := [.str y7.Name, y7.Lines.t, i4 y7.Mode, i4 y7.At]) (us := [i4 (IntKind.i64.wrap (y5.1 + 1))]) (vs := [i4 (IntKind.i64.wrap (y5.1 + 1))]) (v := i4 (IntKind.i64.wrap (y5.1 + 1))) rfl hS hH hl_hb4 rfl rfl rfl (by kernel_rfl) (by kernel_rfl) rfl hy7 rfl (HLi HL.nil) rfl (by kernel_rfl) ?_; intro σ s hH hS
   refine t_bk h hS hH ?_
   refine t_N ?_
   refine t_RN ?_
   refine t_RN ?_
   exact t_e fun he hS hH => he ▸ And.intro (sub_to hS (by kernel_rfl)) hH
  exact t_e fun he hS hH => he ▸ And.intro rfl (And.intro (sub_to hS (by kernel_rfl)) hH)
 obtain ⟨s, σ⟩ := fr
 obtain ⟨rfl, hS, hH⟩ := HF
 refine t_bx h hS hH ?_
 refine t_RN ?_
 intro h s σ hS hH
 injection h with h; subst h
 exact end_M [] (r_tmp (v := i4 y1.1) hS rfl r_nil) rfl rfl hH
noncomputable def B_laws_markConsole (a0 : DConsole) (a1 : Int) : Option (Int × DConsole) := ((B_laws_markStringS a0.Input a1).bind fun y1 => ((B_laws_markStringS a0.Output y1.1).bind fun y2 => ((B_laws_markFileS a0.Files y2.1).bind fun y3 => ((B_laws_markStringS a0.Trace y3.1).bind fun y4 => (some (y4.1, (⟨y1.2, a0.At, y2.2, y3.2, y4.2⟩ : DConsole)))))))
theorem u_laws_markConsole (a0 : DConsole) (a1 : Int) (r : (Int × DConsole)) (h : B_laws_markConsole a0 a1 = some r) (wp0_1 : Nat) (p0_1 : T) (wp0_2 : Nat) (p0_2 : T) (wp0_3 : Nat) (p0_3 : T) (wp0_4 : Nat) (p0_4 : T) : RawS Tryz.prog md ext 11 [.agg [p0_1, i4 a0.At, p0_2, p0_3, p0_4], i4 a1] 0 (fun hs => E_i64 r.1) [.own true wp0_1 p0_1 a0.Input.t, .own true wp0_2 p0_2 a0.Output.t, .own true wp0_3 p0_3 a0.Files.t, .own true wp0_4 p0_4 a0.Trace.t] (fun hs => [.own true wp0_1 p0_1 r.2.Input.t, .own true wp0_2 p0_2 r.2.Output.t, .own true wp0_3 p0_3 r.2.Files.t, .own true wp0_4 p0_4 r.2.Trace.t]) := by
 unfold B_laws_markConsole at h
 refine rawS_of rfl rfl ok_11 rfl ?_
 intro σ0 σ F σk s hS hH
 have hp0_1 : IsOne p0_1 := Heap.one hH
 have hp0_2 : IsOne p0_2 := Heap.one (hH.at 1 rfl)
 have hp0_3 : IsOne p0_3 := Heap.one (hH.at 2 rfl)
 have hp0_4 : IsOne p0_4 := Heap.one (hH.at 3 rfl)
 have hS := sub_to (L' := [(0, .agg [p0_1, i4 a0.At, p0_2, p0_3, p0_4]), (1, i4 a1)]) hS (by kernel_rfl)
 refine t_go h hS hH ?_
 refine t_R ?_
 refine k_box (fun b1 => ?_) (h1 := by simp [hp0_1.1, hp0_1.2, hp0_2.1, hp0_2.2, hp0_3.1, hp0_3.2, hp0_4.1, hp0_4.2])
 refine t_N ?_
 refine t_RU 1 ?_
 refine k_load 0 ?_
 refine t_U 1 ?_
 refine t_h Heap.up1 ?_
 refine k_callR (fun y1 hs hy1 hl => ?_) (hr := by exact fun y1 hy1 => u_laws_markStringS _ _ y1 hy1 wp0_1 p0_1)
 obtain rfl := len0 hl
 refine t_lit ?_
 refine t_N ?_
 refine t_RU 1 ?_
 refine k_load 1 ?_
 refine t_U 1 ?_
 refine t_h Heap.up2 ?_
 refine k_callR (fun y2 hs hy2 hl => ?_) (hr := by exact fun y2 hy2 => u_laws_markStringS _ _ y2 hy2 wp0_2 p0_2)
 obtain rfl := len0 hl
 refine t_lit ?_
 refine t_N ?_
 refine t_RU 1 ?_
 refine k_load 2 ?_
 refine t_U 1 ?_
 refine t_h Heap.up3 ?_
 refine k_callR (fun y3 hs hy3 hl => ?_) (hr := by exact fun y3 hy3 => u_laws_markFileS _ _ y3 hy3 wp0_3 p0_3)
 obtain rfl := len0 hl
 refine t_lit ?_
 refine t_N ?_
 refine t_RU 1 ?_
 refine k_load 3 ?_
 refine t_U 1 ?_
 refine t_h Heap.up4 ?_
 refine k_callR (fun y4 hs hy4 hl => ?_) (hr := by exact fun y4 hy4 => u_laws_markStringS _ _ y4 hy4 wp0_4 p0_4)
 obtain rfl := len0 hl
 refine t_lit ?_
 refine t_N ?_
 refine t_RN ?_
 intro h s σ hS hH
 injection h with h; subst h
 exact end_M [] (r_tmp (v := i4 y4.1) hS rfl r_nil) rfl rfl (Heap.sel hH [3, 2, 1, 0, 5] rfl (by kernel_rfl))
noncomputable def B_laws_FnExactAddTrace (a0 : DConsole) (a1 : Int) (a2 : Int) (a3 : ByteArray) (a4 : DValue) : Option Bool := (if (decide (1048576 < (a3.size : Int))) = true then (some true) else ((F_laws_szConsole a0 1048576).bind fun y1 => (if (decide (y1 < 0)) = true then (some true) else ((F_laws_szValue a4 y1).bind fun y2 => (if (decide (y2 < 0)) = true then (some true) else ((F_laws_toConsole a0).bind fun y3 => ((F_laws_toValue a4).bind fun y4 => ((F_spec_AddTrace y3 a1 a2 a3 y4).bind fun y5 => ((F_laws_toConsole a0).bind fun y6 => ((F_laws_toValue a4).bind fun y7 => ((F_impl_AddTrace y6 a1 a2 a3 y7).bind fun y8 => ((F_laws_eqConsole y8.1 y5.1).bind fun y9 => (if (!y9) = true then (some false) else (if (!decide (y8.2 = y5.2)) = true then (some false) else ((F_laws_toConsole a0).bind fun y10 => ((F_laws_eqConsole y6 y10).bind fun y11 => (if (!y11) = true then (some false) else ((B_laws_markConsole y6 1).bind fun y12 => (if (decide (y12.1 < 0)) = true then (some false) else ((F_laws_eqConsole y8.1 y5.1).bind fun y13 => (if (!y13) = true then (some false) else ((B_laws_markConsole y8.1 1).bind fun y14 => ((F_laws_heldConsole (⟨y14.2.Input, y8.1.At, y14.2.Output, y14.2.Files, y14.2.Trace⟩ : DConsole) 1).bind fun y15 => (if (decide (y15 < 0)) = true then (some false) else (if (!decide (y15 = y14.1)) = true then (some false) else ((F_laws_toConsole a0).bind fun y16 => ((F_laws_toValue a4).bind fun y17 => ((F_impl_AddTrace y16 a1 a2 a3 y17).bind fun y18 => ((F_laws_eqConsole y18.1 y5.1).bind fun y19 => (if (!y19) = true then (some false) else (if (!decide (y18.2 = y5.2)) = true then (some false) else ((F_laws_heldConsole (⟨y14.2.Input, y8.1.At, y14.2.Output, y14.2.Files, y14.2.Trace⟩ : DConsole) 1).bind fun y20 => (if (decide (y20 < 0)) = true then (some false) else (if (!decide (y20 = y14.1)) = true then (some false) else (some true)))))))))))))))))))))))))))))))))))
theorem u_laws_FnExactAddTrace (a0 : DConsole) (a1 : Int) (a2 : Int) (a3 : ByteArray) (a4 : DValue) (r : Bool) (h : B_laws_FnExactAddTrace a0 a1 a2 a3 a4 = some r) : F_laws_FnExactAddTrace a0 a1 a2 a3 a4 = some r := by
 unfold B_laws_FnExactAddTrace at h
 refine k_W ok_3 E_bool_inj h (fun σ0 => ?_)
 refine t_R ?_
 refine k_box (fun b1 => ?_)
 refine k_box (fun b2 => ?_)
 refine t_N ?_
 refine t_RN ?_
 refine t_if (fun hc1 => ?_) fun hc1 => ?_
 ·refine t_RN ?_
  exact k_eW (rT rN) E_bool_p
 refine t_RN ?_
 refine t_R ?_
 refine k_load 1 ?_
 refine t_U 1 ?_
 refine k_call fun y1 hy1 => ?_
 refine t_N ?_
 refine t_RN ?_
 refine t_if (fun hc2 => ?_) fun hc2 => ?_
 ·refine t_RN ?_
  exact k_eW (rT rN) E_bool_p
 refine t_R ?_
 refine k_load 0 ?_
 refine t_U 1 ?_
 refine k_call fun y2 hy2 => ?_
 refine t_N ?_
 refine t_RN ?_
 refine t_if (fun hc3 => ?_) fun hc3 => ?_
 ·refine t_RN ?_
  exact k_eW (rT rN) E_bool_p
 refine t_chain [(12, RN)] ext_x fun mb σs hn0 hlt hlto => ?_
 have hlt_b2 : b2 < mb := hlt b2 _ (List.Mem.head _)
 refine k_load 1 ?_ (hlt := by exact (Or.inl (by kernel_rfl)))
 refine k_callO (fun y3 hs hy3 hl => ?_)
 obtain ⟨t1, t2, t3, t4, rfl⟩ := len4 hl
 refine t_lit ?_
 refine t_one 0 fun ht1 => ?_
 refine t_one 1 fun ht2 => ?_
 refine t_one 2 fun ht3 => ?_
 refine t_one 3 fun ht4 => ?_
 refine t_U 3 ?_
 refine k_load 4 ?_ (hlt := by exact (Or.inr ⟨hlt_b2, (Wc.cons (.inl (by kernel_rfl)) Wc.nil)⟩))
 refine k_call fun y4 hy4 => ?_
 refine k_callO (fun y5 hs hy5 hl => ?_)
 obtain ⟨t5, t6, t7, t8, rfl⟩ := len4 hl
 refine t_lit ?_
 refine t_one 0 fun ht5 => ?_
 refine t_one 1 fun ht6 => ?_
 refine t_one 2 fun ht7 => ?_
 refine t_one 3 fun ht8 => ?_
 refine t_U 3 ?_
 refine k_allocC (by exact hn0) fun b3 hwr_b3 => ?_
 refine k_storeA 0 ?_ (h1 := by simp [ht5.1, ht5.2, ht6.1, ht6.2, ht7.1, ht7.2, ht8.1, ht8.2]) (hwr := by exact fun _ => Or.inl hwr_b3)
 refine t_N ?_
 refine t_R ?_
 refine k_load 10 ?_
 refine k_callO (fun y6 hs hy6 hl => ?_)
 obtain ⟨t9, t10, t11, t12, rfl⟩ := len4 hl
 refine t_lit ?_
 refine t_one 0 fun ht9 => ?_
 refine t_one 1 fun ht10 => ?_
 refine t_one 2 fun ht11 => ?_
 refine t_one 3 fun ht12 => ?_
 refine k_alloc fun b4 => ?_
 refine k_storeA 0 ?_ (h1 := by simp [ht10.1, ht10.2, ht11.1, ht11.2, ht12.1, ht12.2, ht9.1, ht9.2])
 refine t_N ?_
 refine t_chain [(11, RN)] ext_x fun mb σs hn0 hlt hlto => ?_
 have hlt_b4 : b4 < mb := hlt b4 _ (List.Mem.head _)
 refine k_load 0 ?_ (hlt := by exact (Or.inr ⟨hlt_b4, (Wc.cons (.inl (by kernel_rfl)) Wc.nil)⟩))
 refine t_U 3 ?_
 refine k_load 14 ?_ (hlt := by exact (Or.inl (by kernel_rfl)))
 refine k_call fun y7 hy7 => ?_
 refine t_h (·.up4.up4.up4.up4) ?_
 refine k_callO (fun y8 hs hy8 hl => ?_)
 obtain ⟨t13, t14, t15, t16, rfl⟩ := len4 hl
 refine t_lit ?_
 refine t_one 0 fun ht13 => ?_
 refine t_one 1 fun ht14 => ?_
 refine t_one 2 fun ht15 => ?_
 refine t_one 3 fun ht16 => ?_
 refine t_U 3 ?_
 refine k_allocC (by exact hn0) fun b5 hwr_b5 => ?_
 refine k_storeA 0 ?_ (h1 := by simp [ht13.1, ht13.2, ht14.1, ht14.2, ht15.1, ht15.2, ht16.1, ht16.2]) (hwr := by exact fun _ => Or.inl hwr_b5)
 refine t_N ?_
 refine t_R ?_
 refine k_load 0 ?_
 refine k_load 10 ?_
 refine t_h (·.up14.up14.up14.up14.up8.up8.up8.up8) ?_
 refine k_callH (fun y9 hy9 => ?_)
 refine t_U 2 ?_
 refine t_gif 62 (fun hc4 => ?_) fun hc4 => ?_
 ·refine t_N ?_
  refine t_cT rfl ?_
  refine t_RN ?_
  exact k_eW (rT rN) E_bool_p
 refine t_N ?_
 refine t_if (fun hc5 => ?_) fun hc5 => ?_
 ·refine t_RN ?_
  exact k_eW (rT rN) E_bool_p
 refine t_chain [] ext_x fun mb σs hn0 hlt hlto => ?_
 have hlt_b4 : b4 < mb := hlt b4 _ (List.Mem.tail _ (List.Mem.tail _ (List.Mem.tail _ (List.Mem.tail _ (List.Mem.tail _ (List.Mem.tail _ (List.Mem.tail _ (List.Mem.tail _ (List.Mem.tail _ (List.Mem.tail _ (List.Mem.tail _ (List.Mem.tail _ (List.Mem.tail _ (List.Mem.head _))))))))))))))
 refine k_load 13 ?_ (hlt := by exact (Or.inr ⟨hlt_b4, Wc.nil⟩))
 refine k_load 20 ?_ (hlt := by exact (Or.inl (by kernel_rfl)))
 refine k_callO (fun y10 hs hy10 hl => ?_)
 obtain ⟨t17, t18, t19, t20, rfl⟩ := len4 hl
 refine t_lit ?_
 refine t_one 0 fun ht17 => ?_
 refine t_one 1 fun ht18 => ?_
 refine t_one 2 fun ht19 => ?_
 refine t_one 3 fun ht20 => ?_
 refine t_h (·.up16.up16.up16.up16) ?_
 refine k_callH (fun y11 hy11 => ?_)
 refine t_N ?_
 refine t_if (fun hc6 => ?_) fun hc6 => ?_
 ·refine t_RN ?_
  exact k_eW (rT rN) E_bool_p
 refine t_RN ?_
 refine t_R ?_
 refine k_load 17 ?_
 refine t_U 1 ?_
 refine k_callR (fun y12 hs hy12 hl => ?_) (hr := by exact fun y12 hy12 => u_laws_markConsole _ _ y12 hy12 1 t9 1 t10 4 t11 1 t12)
 obtain rfl := len0 hl
 refine t_lit ?_
 refine t_N ?_
 refine t_RU 3 ?_
 refine t_gif 77 (fun hc7 => ?_) fun hc7 => ?_
 ·refine t_N ?_
  refine t_cT rfl ?_
  refine t_RN ?_
  exact k_eW (rT rN) E_bool_p
 refine k_load 16 ?_
 refine k_load 18 ?_
 refine t_h (·.up15.up15.up15.up15.up15.up15.up15.up15) ?_
 refine k_callH (fun y13 hy13 => ?_)
 refine t_U 3 ?_
 refine t_gif 83 (fun hc8 => ?_) fun hc8 => ?_
 ·refine t_N ?_
  refine t_cT rfl ?_
  refine t_RN ?_
  exact k_eW (rT rN) E_bool_p
 refine t_N ?_
 refine t_cF hc5 ?_
 refine t_RN ?_
 refine t_R ?_
 refine k_load 16 ?_
 refine t_U 1 ?_
 refine k_callR (fun y14 hs hy14 hl => ?_) (hr := by exact fun y14 hy14 => u_laws_markConsole _ _ y14 hy14 1 t13 1 t14 4 t15 1 t16)
 obtain rfl := len0 hl
 refine t_lit ?_
 refine t_N ?_
 refine t_RN ?_
 refine t_R ?_
 refine k_load 16 ?_
 refine t_U 1 ?_
 refine k_callH (fun y15 hy15 => ?_)
 refine t_N ?_
 refine t_RN ?_
 refine t_if (fun hc9 => ?_) fun hc9 => ?_
 ·refine t_RN ?_
  exact k_eW (rT rN) E_bool_p
 refine t_RN ?_
 refine t_if (fun hc10 => ?_) fun hc10 => ?_
 ·refine t_RN ?_
  exact k_eW (rT rN) E_bool_p
 refine t_chain [(12, RN)] ext_x fun mb σs hn0 hlt hlto => ?_
 have hlt_b2 : b2 < mb := hlt b2 _ (List.Mem.tail _ (List.Mem.tail _ (List.Mem.tail _ (List.Mem.tail _ (List.Mem.tail _ (List.Mem.tail _ (List.Mem.tail _ (List.Mem.tail _ (List.Mem.tail _ (List.Mem.tail _ (List.Mem.tail _ (List.Mem.tail _ (List.Mem.tail _ (List.Mem.tail _ (List.Mem.tail _ (List.Mem.tail _ (List.Mem.tail _ (List.Mem.tail _ (List.Mem.tail _ (List.Mem.tail _ (List.Mem.tail _ (List.Mem.tail _ (List.Mem.tail _ (List.Mem.head _))))))))))))))))))))))))
 refine k_load 24 ?_ (hlt := by exact (Or.inl (by kernel_rfl)))
 refine k_callO (fun y16 hs hy16 hl => ?_)
 obtain ⟨t21, t22, t23, t24, rfl⟩ := len4 hl
 refine t_lit ?_
 refine t_one 0 fun ht21 => ?_
 refine t_one 1 fun ht22 => ?_
 refine t_one 2 fun ht23 => ?_
 refine t_one 3 fun ht24 => ?_
 refine t_U 3 ?_
 refine k_load 27 ?_ (hlt := by exact (Or.inr ⟨hlt_b2, (Wc.cons (.inl (by kernel_rfl)) Wc.nil)⟩))
 refine k_call fun y17 hy17 => ?_
 refine k_callO (fun y18 hs hy18 hl => ?_)
 obtain ⟨t25, t26, t27, t28, rfl⟩ := len4 hl
 refine t_lit ?_
 refine t_one 0 fun ht25 => ?_
 refine t_one 1 fun ht26 => ?_
 refine t_one 2 fun ht27 => ?_
 refine t_one 3 fun ht28 => ?_
 refine t_U 3 ?_
 refine k_allocC (by exact hn0) fun b6 hwr_b6 => ?_
 refine k_storeA 0 ?_ (h1 := by simp [ht25.1, ht25.2, ht26.1, ht26.2, ht27.1, ht27.2, ht28.1, ht28.2]) (hwr := by exact fun _ => Or.inl hwr_b6)
 refine t_N ?_
 refine t_R ?_
 refine k_load 0 ?_
 refine k_load 27 ?_
 refine t_h (·.up16.up16.up16.up16.up8.up8.up8.up8) ?_
 refine k_callH (fun y19 hy19 => ?_)
 refine t_U 2 ?_
 refine t_gif 114 (fun hc11 => ?_) fun hc11 => ?_
 ·refine t_N ?_
  refine t_cT rfl ?_
  refine t_RN ?_
  exact k_eW (rT rN) E_bool_p
 refine t_N ?_
 refine t_if (fun hc12 => ?_) fun hc12 => ?_
 ·refine t_RN ?_
  exact k_eW (rT rN) E_bool_p
 refine t_RN ?_
 refine t_R ?_
 refine k_load 25 ?_
 refine t_U 1 ?_
 refine t_h (·.up16.up16.up16.up16) ?_
 refine k_callH (fun y20 hy20 => ?_)
 refine t_N ?_
 refine t_RN ?_
 refine t_if (fun hc13 => ?_) fun hc13 => ?_
 ·refine t_RN ?_
  exact k_eW (rT rN) E_bool_p
 refine t_RN ?_
 refine t_if (fun hc14 => ?_) fun hc14 => ?_
 ·refine t_RN ?_
  exact k_eW (rT rN) E_bool_p
 refine t_RN ?_
 exact k_eW (rT rN) E_bool_p
noncomputable def B_laws_szConsole (a0 : DConsole) (a1 : Int) : Option Int := ((F_laws_szStringS a0.Input a1).bind fun y1 => (if (decide (y1 < 0)) = true then (some (-1)) else ((F_laws_szStringS a0.Output y1).bind fun y2 => (if (decide (y2 < 0)) = true then (some (-1)) else ((F_laws_szFileS a0.Files y2).bind fun y3 => (if (decide (y3 < 0)) = true then (some (-1)) else ((F_laws_szStringS a0.Trace y3).bind fun y4 => (if (decide (y4 < 0)) = true then (some (-1)) else (some y4)))))))))
theorem u_laws_szConsole (a0 : DConsole) (a1 : Int) (r : Int) (h : B_laws_szConsole a0 a1 = some r) : F_laws_szConsole a0 a1 = some r := by
 unfold B_laws_szConsole at h
 refine k_W ok_4 E_i64_inj h (fun σ0 => ?_)
 refine t_R ?_
 refine k_box (fun b1 => ?_)
 refine t_N ?_
 refine t_RU 1 ?_
 refine k_load 0 ?_
 refine t_U 1 ?_
 refine k_call fun y1 hy1 => ?_
 refine t_N ?_
 refine t_RN ?_
 refine t_if (fun hc1 => ?_) fun hc1 => ?_
 ·refine t_RN ?_
  exact k_eW (rT rN) E_i64_p
 refine t_RU 1 ?_
 refine k_load 0 ?_
 refine t_U 1 ?_
 refine k_call fun y2 hy2 => ?_
 refine t_N ?_
 refine t_RN ?_
 refine t_if (fun hc2 => ?_) fun hc2 => ?_
 ·refine t_RN ?_
  exact k_eW (rT rN) E_i64_p
 refine t_RU 1 ?_
 refine k_load 0 ?_
 refine t_U 1 ?_
 refine k_call fun y3 hy3 => ?_
 refine t_N ?_
 refine t_RN ?_
 refine t_if (fun hc3 => ?_) fun hc3 => ?_
 ·refine t_RN ?_
  exact k_eW (rT rN) E_i64_p
 refine t_RU 1 ?_
 refine k_load 0 ?_
 refine t_U 1 ?_
 refine k_call fun y4 hy4 => ?_
 refine t_N ?_
 refine t_RN ?_
 refine t_if (fun hc4 => ?_) fun hc4 => ?_
 ·refine t_RN ?_
  exact k_eW (rT rN) E_i64_p
 refine t_RN ?_
 exact k_eW (rT rN) E_i64_p
noncomputable def B_laws_szValue (a0 : DValue) (a1 : Int) : Option Int := (if (decide ((IntKind.i64.wrap (a1 - (a0.Text.size : Int))) < 0)) = true then (some (-1)) else (some (IntKind.i64.wrap (a1 - (a0.Text.size : Int)))))
theorem u_laws_szValue (a0 : DValue) (a1 : Int) (r : Int) (h : B_laws_szValue a0 a1 = some r) : F_laws_szValue a0 a1 = some r := by
 unfold B_laws_szValue at h
 refine k_W ok_5 E_i64_inj h (fun σ0 => ?_)
 refine t_R ?_
 refine k_box (fun b1 => ?_)
 refine t_N ?_
 refine t_RU 2 ?_
 refine k_load 0 ?_
 refine t_N ?_
 refine t_RN ?_
 refine t_if (fun hc1 => ?_) fun hc1 => ?_
 ·refine t_RN ?_
  exact k_eW (rT rN) E_i64_p
 refine t_RN ?_
 exact k_eW (rT rN) E_i64_p
noncomputable def B_spec_AddTrace (a0 : DConsole) (a1 : Int) (a2 : Int) (a3 : ByteArray) (a4 : DValue) : Option (DConsole × Int) := ((F_spec_TraceText a1 a2 a3 a4).bind fun y1 => ((F_spec_l21Ok a0).bind fun y2 => (if (!y2) = true then (some ((⟨⟨true, []⟩, 0, ⟨true, []⟩, ⟨true, []⟩, ⟨true, []⟩⟩ : DConsole), 1)) else (if (decide (y1 = (⟨#[]⟩ : ByteArray))) = true then (some ((⟨⟨true, []⟩, 0, ⟨true, []⟩, ⟨true, []⟩, ⟨true, []⟩⟩ : DConsole), 1)) else (if (decide (200 ≤ (a0.Trace.l.length : Int))) = true then (some ((⟨⟨true, []⟩, 0, ⟨true, []⟩, ⟨true, []⟩, ⟨true, []⟩⟩ : DConsole), 6)) else ((F_spec_l21Own a0).bind fun y3 => ((appS 16 y3.Trace (⟨false, [y1]⟩ : Sl ByteArray)).bind fun y4 => (some ((⟨y3.Input, y3.At, y3.Output, y3.Files, y4⟩ : DConsole), 0)))))))))
theorem u_spec_AddTrace (a0 : DConsole) (a1 : Int) (a2 : Int) (a3 : ByteArray) (a4 : DValue) (r : (DConsole × Int)) (h : B_spec_AddTrace a0 a1 a2 a3 a4 = some r) : F_spec_AddTrace a0 a1 a2 a3 a4 = some r := by
 unfold B_spec_AddTrace at h
 refine k_O ok_6 h (fun σ0 => ?_)
 refine t_R ?_
 refine k_box (fun b1 => ?_)
 refine k_box (fun b2 => ?_)
 refine k_alloc fun b3 => ?_
 refine t_N ?_
 refine t_RU 3 ?_
 refine k_load 1 ?_
 refine k_call fun y1 hy1 => ?_
 refine t_N ?_
 refine t_R ?_
 refine k_callL (lB 2 lN) fun y2 hy2 => ?_
 refine t_U 2 ?_
 refine t_gif 21 (fun hc1 => ?_) fun hc1 => ?_
 ·refine t_N ?_
  refine t_cT rfl ?_
  refine t_RU 1 ?_
  refine k_storeA 0 ?_
  refine t_N ?_
  refine t_h (Heap.addNil · true 1) ?_
  refine t_h (Heap.addNil · true 1) ?_
  refine t_h (Heap.addNil · true 4) ?_
  refine t_h (Heap.addNil · true 1) ?_
  refine t_h (·.up1.up2.up3) ?_
  exact k_eO [(T.row true 0 []), (T.row true 0 []), (T.row true 0 []), (T.row true 0 [])] (rC 4 (rT rN))
 refine t_N ?_
 refine t_if (fun hc2 => ?_) fun hc2 => ?_
 ·refine t_RU 1 ?_
  refine k_storeA 0 ?_
  refine t_N ?_
  refine t_h (Heap.addNil · true 1) ?_
  refine t_h (Heap.addNil · true 1) ?_
  refine t_h (Heap.addNil · true 4) ?_
  refine t_h (Heap.addNil · true 1) ?_
  refine t_h (·.up1.up2.up3) ?_
  exact k_eO [(T.row true 0 []), (T.row true 0 []), (T.row true 0 []), (T.row true 0 [])] (rC 4 (rT rN))
 refine t_RU 1 ?_
 refine k_load 2 ?_
 refine t_N ?_
 refine t_if (fun hc3 => ?_) fun hc3 => ?_
 ·refine t_RU 1 ?_
  refine k_storeA 0 ?_
  refine t_N ?_
  refine t_h (Heap.addNil · true 1) ?_
  refine t_h (Heap.addNil · true 1) ?_
  refine t_h (Heap.addNil · true 4) ?_
  refine t_h (Heap.addNil · true 1) ?_
  refine t_h (·.up1.up2.up3) ?_
  exact k_eO [(T.row true 0 []), (T.row true 0 []), (T.row true 0 []), (T.row true 0 [])] (rC 4 (rT rN))
 refine t_R ?_
 refine k_callLO (lB 2 lN) fun y3 hs hy3 hl => ?_
 obtain ⟨t1, t2, t3, t4, rfl⟩ := len4 hl
 refine t_lit ?_
 refine t_one 0 fun ht1 => ?_
 refine t_one 1 fun ht2 => ?_
 refine t_one 2 fun ht3 => ?_
 refine t_one 3 fun ht4 => ?_
 refine k_alloc fun b4 => ?_
 refine k_storeA 0 ?_ (h1 := by simp [ht1.1, ht1.2, ht2.1, ht2.2, ht3.1, ht3.2, ht4.1, ht4.2])
 refine t_N ?_
 refine t_RU 1 ?_
 refine k_load 0 ?_
 refine t_U 1 ?_
 refine k_bs (z := true) (⟨false, [y1]⟩ : Sl ByteArray) (fun t5 ht5 => ?_)
 refine k_app 5 0 (fun y4 t6 hy4 ht6 => ?_)
 refine t_U 1 ?_
 refine k_storeT 1 ht6 ?_
 refine t_N ?_
 refine t_R ?_
 refine k_load 0 ?_
 refine k_storeA 5 ?_ (h1 := by simp [ht1.1, ht1.2, ht2.1, ht2.2, ht3.1, ht3.2, ht6.1, ht6.2])
 refine t_N ?_
 refine t_h (·.up2.up5.up5.up5) ?_
 exact k_eO [t1, t2, t3, t6] (rC 4 (rT rN))
noncomputable def B_laws_toConsole (a0 : DConsole) : Option DConsole := ((F_laws_toStringS a0.Input).bind fun y1 => ((F_laws_toStringS a0.Output).bind fun y2 => ((F_laws_toFileS a0.Files).bind fun y3 => ((F_laws_toStringS a0.Trace).bind fun y4 => (some (⟨y1, a0.At, y2, y3, y4⟩ : DConsole))))))
theorem u_laws_toConsole (a0 : DConsole) (r : DConsole) (h : B_laws_toConsole a0 = some r) : F_laws_toConsole a0 = some r := by
 unfold B_laws_toConsole at h
 refine k_O ok_7 h (fun σ0 => ?_)
 refine t_R ?_
 refine k_box (fun b1 => ?_)
 refine k_alloc fun b2 => ?_
 refine t_N ?_
 refine t_R ?_
 refine k_alloc fun b3 => ?_
 refine t_N ?_
 refine t_RU 1 ?_
 refine k_load 2 ?_
 refine k_callO1 (fun y1 t1 hy1 ht1 => ?_)
 refine t_U 1 ?_
 refine k_storeT 1 ht1 ?_
 refine t_N ?_
 refine t_RU 1 ?_
 refine k_load 3 ?_
 refine t_U 1 ?_
 refine k_store 0 ?_
 refine t_N ?_
 refine t_RU 1 ?_
 refine k_load 3 ?_
 refine k_callO1 (fun y2 t2 hy2 ht2 => ?_)
 refine t_U 1 ?_
 refine k_storeT 1 ht2 ?_
 refine t_N ?_
 refine t_RU 1 ?_
 refine k_load 4 ?_
 refine k_callO1 (fun y3 t3 hy3 ht3 => ?_)
 refine t_U 1 ?_
 refine k_storeT 1 ht3 ?_
 refine t_N ?_
 refine t_RU 1 ?_
 refine k_load 5 ?_
 refine k_callO1 (fun y4 t4 hy4 ht4 => ?_)
 refine t_U 1 ?_
 refine k_storeT 1 ht4 ?_
 refine t_N ?_
 refine t_R ?_
 refine k_load 0 ?_
 refine k_storeA 5 ?_ (h1 := by simp [ht1.1, ht1.2, ht2.1, ht2.2, ht3.1, ht3.2, ht4.1, ht4.2])
 refine t_N ?_
 refine t_h (·.up2.up3.up4.up5) ?_
 exact k_eO [t1, t2, t3, t4] (rC 4 rN)
noncomputable def B_laws_toValue (a0 : DValue) : Option DValue := (some a0)
theorem u_laws_toValue (a0 : DValue) (r : DValue) (h : B_laws_toValue a0 = some r) : F_laws_toValue a0 = some r := by
 unfold B_laws_toValue at h
 refine k_W ok_8 E_DValue_inj h (fun σ0 => ?_)
 refine t_R ?_
 refine k_box (fun b1 => ?_)
 refine k_alloc fun b2 => ?_
 refine t_N ?_
 refine t_R ?_
 refine k_alloc fun b3 => ?_
 refine t_N ?_
 refine t_RU 1 ?_
 refine k_load 2 ?_
 refine t_U 1 ?_
 refine k_store 0 ?_
 refine t_N ?_
 refine t_RU 1 ?_
 refine k_load 2 ?_
 refine t_U 1 ?_
 refine k_store 0 ?_
 refine t_N ?_
 refine t_RU 1 ?_
 refine k_load 2 ?_
 refine t_U 1 ?_
 refine k_store 0 ?_
 refine t_N ?_
 refine t_RU 1 ?_
 refine k_load 2 ?_
 refine t_U 1 ?_
 refine k_store 0 ?_
 refine t_N ?_
 refine t_R ?_
 refine k_load 0 ?_
 refine k_storeA 1 ?_
 refine t_N ?_
 exact k_eW (rC 0 rN) E_DValue_p
noncomputable def B_impl_AddTrace (a0 : DConsole) (a1 : Int) (a2 : Int) (a3 : ByteArray) (a4 : DValue) : Option (DConsole × Int) := ((F_impl_TraceText a1 a2 a3 a4).bind fun y1 => ((F_impl_ValidConsole a0).bind fun y2 => (if (!y2) = true then (some ((⟨⟨true, []⟩, 0, ⟨true, []⟩, ⟨true, []⟩, ⟨true, []⟩⟩ : DConsole), 1)) else (if (decide (y1 = (⟨#[]⟩ : ByteArray))) = true then (some ((⟨⟨true, []⟩, 0, ⟨true, []⟩, ⟨true, []⟩, ⟨true, []⟩⟩ : DConsole), 1)) else ((F_impl_Console_copied a0).bind fun y3 => (((if (decide ((y3.Trace.l.length : Int) = 200)) = true then (some (6, y3.Trace)) else ((appS 16 y3.Trace (⟨false, [y1]⟩ : Sl ByteArray)).bind fun y5 => (some (0, y5)))) : Option (Int × (Sl ByteArray))).bind fun y4 => (if (!decide (y4.1 = 0)) = true then (some ((⟨⟨true, []⟩, 0, ⟨true, []⟩, ⟨true, []⟩, ⟨true, []⟩⟩ : DConsole), y4.1)) else (some ((⟨y3.Input, y3.At, y3.Output, y3.Files, y4.2⟩ : DConsole), 0)))))))))
theorem u_impl_AddTrace (a0 : DConsole) (a1 : Int) (a2 : Int) (a3 : ByteArray) (a4 : DValue) (r : (DConsole × Int)) (h : B_impl_AddTrace a0 a1 a2 a3 a4 = some r) : F_impl_AddTrace a0 a1 a2 a3 a4 = some r := by
 unfold B_impl_AddTrace at h
 refine k_O ok_9 h (fun σ0 => ?_)
 refine t_R ?_
 refine k_box (fun b1 => ?_)
 refine k_box (fun b2 => ?_)
 refine k_alloc fun b3 => ?_
 refine t_N ?_
 refine t_RU 3 ?_
 refine k_load 1 ?_
 refine k_call fun y1 hy1 => ?_
 refine t_N ?_
 refine t_R ?_
 refine k_load 2 ?_
 refine k_call fun y2 hy2 => ?_
 refine t_U 2 ?_
 refine t_gif 23 (fun hc1 => ?_) fun hc1 => ?_
 ·refine t_N ?_
  refine t_cT rfl ?_
  refine t_RU 1 ?_
  refine k_storeA 0 ?_
  refine t_N ?_
  refine t_h (Heap.addNil · true 1) ?_
  refine t_h (Heap.addNil · true 1) ?_
  refine t_h (Heap.addNil · true 4) ?_
  refine t_h (Heap.addNil · true 1) ?_
  refine t_h (·.up1.up2.up3) ?_
  exact k_eO [(T.row true 0 []), (T.row true 0 []), (T.row true 0 []), (T.row true 0 [])] (rC 4 (rT rN))
 refine t_N ?_
 refine t_if (fun hc2 => ?_) fun hc2 => ?_
 ·refine t_RU 1 ?_
  refine k_storeA 0 ?_
  refine t_N ?_
  refine t_h (Heap.addNil · true 1) ?_
  refine t_h (Heap.addNil · true 1) ?_
  refine t_h (Heap.addNil · true 4) ?_
  refine t_h (Heap.addNil · true 1) ?_
  refine t_h (·.up1.up2.up3) ?_
  exact k_eO [(T.row true 0 []), (T.row true 0 []), (T.row true 0 []), (T.row true 0 [])] (rC 4 (rT rN))
 refine t_R ?_
 refine k_load 2 ?_
 refine k_callO (fun y3 hs hy3 hl => ?_)
 obtain ⟨t1, t2, t3, t4, rfl⟩ := len4 hl
 refine t_lit ?_
 refine t_one 0 fun ht1 => ?_
 refine t_one 1 fun ht2 => ?_
 refine t_one 2 fun ht3 => ?_
 refine t_one 3 fun ht4 => ?_
 refine k_alloc fun b4 => ?_
 refine k_storeA 0 ?_ (h1 := by simp [ht1.1, ht1.2, ht2.1, ht2.2, ht3.1, ht3.2, ht4.1, ht4.2])
 refine t_N ?_
 refine t_RU 1 ?_
 refine k_inlC (fun y4 s σ => ∃ t5, IsOne t5 ∧ Sub [(10, .ptr b3 0 0 5), (13, .ptr b4 0 0 5), (31, i4 y4.1)] s ∧ Heap σ0 σ [.box b4 [t1, i4 y3.At, t2, t3, t5], .box b3 [(nt ByteArray), i4 0, (nt ByteArray), (nt DFile), (nt ByteArray)], .own true 1 t1 y3.Input.t, .own true 1 t2 y3.Output.t, .own true 4 t3 y3.Files.t, .own true 1 t5 y4.2.t]) ok_23 (fun y4 => ?_) fun y4 s σ HF h => ?_
 ·refine t_RN ?_
  refine t_RU 3 ?_
  refine k_load 0 ?_
  refine k_lenH (a := y3.Trace) 4 ?_
  refine t_N ?_
  refine t_if (fun hc3 => ?_) fun hc3 => ?_
  ·refine t_RN ?_
   exact k_eIC (rT rN) fun he hS hH => he ▸ Exists.intro t4 (And.intro ht4 (And.intro (sub_to hS (by kernel_rfl)) (Heap.sel hH [0, 5, 1, 2, 3, 4] rfl (by kernel_rfl))))
  refine t_RU 4 ?_
  refine k_load 0 ?_
  refine t_U 1 ?_
  refine k_bs (z := true) (⟨false, [y1]⟩ : Sl ByteArray) (fun t6 ht6 => ?_)
  refine k_app 5 0 (fun y5 t7 hy5 ht7 => ?_)
  refine t_U 2 ?_
  refine k_storeT 1 ht7 ?_
  refine t_N ?_
  refine t_RN ?_
  exact k_eIC (rT rN) fun he hS hH => he ▸ Exists.intro t7 (And.intro ht7 (And.intro (sub_to hS (by kernel_rfl)) (Heap.sel hH [0, 5, 2, 3, 4, 1] rfl (by kernel_rfl))))
 obtain ⟨t5, ht5, ⟨hS, hH⟩⟩ := HF
 refine t_bk h hS hH ?_
 refine t_N ?_
 refine t_RN ?_
 refine t_if (fun hc4 => ?_) fun hc4 => ?_
 ·refine t_RU 2 ?_
  refine k_storeA 1 ?_
  refine t_N ?_
  refine t_h (Heap.addNil · true 1) ?_
  refine t_h (Heap.addNil · true 1) ?_
  refine t_h (Heap.addNil · true 4) ?_
  refine t_h (Heap.addNil · true 1) ?_
  refine t_h (·.up1.up2.up3) ?_
  exact k_eO [(T.row true 0 []), (T.row true 0 []), (T.row true 0 []), (T.row true 0 [])] (rC 4 (rT rN))
 refine t_R ?_
 refine k_load 0 ?_
 refine k_storeA 1 ?_ (h1 := by simp [ht1.1, ht1.2, ht2.1, ht2.2, ht3.1, ht3.2, ht5.1, ht5.2])
 refine t_N ?_
 refine t_h (·.up5.up5.up5.up5) ?_
 exact k_eO [t1, t2, t3, t5] (rC 4 (rT rN))
noncomputable def B_laws_eqConsole (a0 : DConsole) (a1 : DConsole) : Option Bool := ((F_laws_eqStringS a0.Input a1.Input).bind fun y1 => (if (!y1) = true then (some false) else (if (!decide (a0.At = a1.At)) = true then (some false) else ((F_laws_eqStringS a0.Output a1.Output).bind fun y2 => (if (!y2) = true then (some false) else ((F_laws_eqFileS a0.Files a1.Files).bind fun y3 => (if (!y3) = true then (some false) else ((F_laws_eqStringS a0.Trace a1.Trace).bind fun y4 => (if (!y4) = true then (some false) else (some true))))))))))
theorem u_laws_eqConsole (a0 : DConsole) (a1 : DConsole) (r : Bool) (h : B_laws_eqConsole a0 a1 = some r) : F_laws_eqConsole a0 a1 = some r := by
 unfold B_laws_eqConsole at h
 refine k_W ok_10 E_bool_inj h (fun σ0 => ?_)
 refine t_R ?_
 refine k_box (fun b1 => ?_)
 refine k_box (fun b2 => ?_)
 refine t_N ?_
 refine t_RU 1 ?_
 refine k_load 1 ?_
 refine t_U 1 ?_
 refine k_load 0 ?_
 refine k_call fun y1 hy1 => ?_
 refine t_N ?_
 refine t_if (fun hc1 => ?_) fun hc1 => ?_
 ·refine t_RN ?_
  exact k_eW (rT rN) E_bool_p
 refine t_RU 1 ?_
 refine k_load 1 ?_
 refine t_U 1 ?_
 refine k_load 0 ?_
 refine t_N ?_
 refine t_if (fun hc2 => ?_) fun hc2 => ?_
 ·refine t_RN ?_
  exact k_eW (rT rN) E_bool_p
 refine t_RU 1 ?_
 refine k_load 1 ?_
 refine t_U 1 ?_
 refine k_load 0 ?_
 refine k_call fun y2 hy2 => ?_
 refine t_N ?_
 refine t_if (fun hc3 => ?_) fun hc3 => ?_
 ·refine t_RN ?_
  exact k_eW (rT rN) E_bool_p
 refine t_RU 1 ?_
 refine k_load 1 ?_
 refine t_U 1 ?_
 refine k_load 0 ?_
 refine k_call fun y3 hy3 => ?_
 refine t_N ?_
 refine t_if (fun hc4 => ?_) fun hc4 => ?_
 ·refine t_RN ?_
  exact k_eW (rT rN) E_bool_p
 refine t_RU 1 ?_
 refine k_load 1 ?_
 refine t_U 1 ?_
 refine k_load 0 ?_
 refine k_call fun y4 hy4 => ?_
 refine t_N ?_
 refine t_if (fun hc5 => ?_) fun hc5 => ?_
 ·refine t_RN ?_
  exact k_eW (rT rN) E_bool_p
 refine t_RN ?_
 exact k_eW (rT rN) E_bool_p
noncomputable def B_laws_heldConsole (a0 : DConsole) (a1 : Int) : Option Int := ((F_laws_heldStringS a0.Input a1).bind fun y1 => (if (decide (y1 < 0)) = true then (some (-1)) else ((F_laws_heldStringS a0.Output y1).bind fun y2 => (if (decide (y2 < 0)) = true then (some (-1)) else ((F_laws_heldFileS a0.Files y2).bind fun y3 => (if (decide (y3 < 0)) = true then (some (-1)) else ((F_laws_heldStringS a0.Trace y3).bind fun y4 => (if (decide (y4 < 0)) = true then (some (-1)) else (some y4)))))))))
theorem u_laws_heldConsole (a0 : DConsole) (a1 : Int) (r : Int) (h : B_laws_heldConsole a0 a1 = some r) : F_laws_heldConsole a0 a1 = some r := by
 unfold B_laws_heldConsole at h
 refine k_W ok_12 E_i64_inj h (fun σ0 => ?_)
 refine t_R ?_
 refine k_box (fun b1 => ?_)
 refine t_N ?_
 refine t_RU 1 ?_
 refine k_load 0 ?_
 refine t_U 1 ?_
 refine k_call fun y1 hy1 => ?_
 refine t_N ?_
 refine t_RN ?_
 refine t_if (fun hc1 => ?_) fun hc1 => ?_
 ·refine t_RN ?_
  exact k_eW (rT rN) E_i64_p
 refine t_RU 1 ?_
 refine k_load 0 ?_
 refine t_U 1 ?_
 refine k_call fun y2 hy2 => ?_
 refine t_N ?_
 refine t_RN ?_
 refine t_if (fun hc2 => ?_) fun hc2 => ?_
 ·refine t_RN ?_
  exact k_eW (rT rN) E_i64_p
 refine t_RU 1 ?_
 refine k_load 0 ?_
 refine t_U 1 ?_
 refine k_call fun y3 hy3 => ?_
 refine t_N ?_
 refine t_RN ?_
 refine t_if (fun hc3 => ?_) fun hc3 => ?_
 ·refine t_RN ?_
  exact k_eW (rT rN) E_i64_p
 refine t_RU 1 ?_
 refine k_load 0 ?_
 refine t_U 1 ?_
 refine k_call fun y4 hy4 => ?_
 refine t_N ?_
 refine t_RN ?_
 refine t_if (fun hc4 => ?_) fun hc4 => ?_
 ·refine t_RN ?_
  exact k_eW (rT rN) E_i64_p
 refine t_RN ?_
 exact k_eW (rT rN) E_i64_p
noncomputable def B_laws_szStringS (a0 : (Sl ByteArray)) (a1 : Int) : Option Int := (if (decide ((IntKind.i64.wrap (a1 - (a0.l.length : Int))) < 0)) = true then (some (-1)) else ((loopO (S := (Int × Int)) (R := (Int ⊕ Int)) (fun st1 => (if (decide (st1.2 < (a0.l.length : Int))) = true then ((elt a0 st1.2).bind fun y2 => (if (decide ((IntKind.i64.wrap (st1.1 - (y2.size : Int))) < 0)) = true then (some (.inr (.inr (-1)))) else (some (.inl ((IntKind.i64.wrap (st1.1 - (y2.size : Int))), (IntKind.i64.wrap (st1.2 + 1))))))) else (some (.inr (.inl st1.1))))) ((IntKind.i64.wrap (a1 - (a0.l.length : Int))), 0)).bind fun y1 => (Sum.elim (fun y1 => (some y1)) (fun y1 => (some y1)) y1)))
theorem u_laws_szStringS (a0 : (Sl ByteArray)) (a1 : Int) (r : Int) (h : B_laws_szStringS a0 a1 = some r) : F_laws_szStringS a0 a1 = some r := by
 unfold B_laws_szStringS at h
 refine k_W ok_13 E_i64_inj h (fun σ0 => ?_)
 refine t_RN ?_
 refine t_RN ?_
 refine t_RN ?_
 refine t_if (fun hc1 => ?_) fun hc1 => ?_
 ·refine t_RN ?_
  exact k_eW (rT rN) E_i64_p
 refine t_RN ?_
 refine t_loop (fun st1 fr => Sub [(0, a0.t), (1, i4 st1.1), (5, i4 st1.2)] fr.s ∧ Heap σ0 fr.σ []) (fun y1 e fr => (Sum.elim (fun y => e = (.exit 0) ∧ Sub [(1, i4 y)] fr.s ∧ Heap σ0 fr.σ []) (fun y => e = .ret ∧ endW Tryz.prog (Tryz.f13.results.toList) σ0 (E_i64 y) .ret fr)) y1) (fun hS hH => And.intro (sub_to hS (by kernel_rfl)) hH) (fun st1 x fr h HI => ?_) fun y1 e fr h HF => ?_
 ·obtain ⟨s, σ⟩ := fr; obtain ⟨hS, hH⟩ := HI
  refine t_bk h hS hH ?_
  refine t_RN ?_
  refine t_if (fun hc2 => ?_) fun hc2 => ?_
  ·refine t_RU 3 ?_
   refine k_elt fun y2 rest1 hy2 => ?_
   refine t_N ?_
   refine t_RN ?_
   refine t_if (fun hc3 => ?_) fun hc3 => ?_
   ·refine t_RN ?_
    exact t_e fun he hS hH => he ▸ And.intro rfl (eW hS hH (rT rN) E_i64_p)
   refine t_RN ?_
   exact t_e fun he hS hH => he ▸ And.intro (sub_to hS (by kernel_rfl)) hH
  exact t_e fun he hS hH => he ▸ And.intro rfl (And.intro (sub_to hS (by kernel_rfl)) hH)
 obtain ⟨s, σ⟩ := fr
 rcases y1 with y1 | y1
 ·have h := el_l h
  obtain ⟨rfl, hS, hH⟩ := HF
  refine t_bx h hS hH ?_
  refine t_RN ?_
  exact k_eW (rT rN) E_i64_p
 have h := el_r h
 obtain ⟨rfl, HE⟩ := HF
 injection h with h; subst h; exact HE
noncomputable def B_laws_szFileS (a0 : (Sl DFile)) (a1 : Int) : Option Int := (if (decide ((IntKind.i64.wrap (a1 - (a0.l.length : Int))) < 0)) = true then (some (-1)) else ((loopO (S := (Int × Int)) (R := (Int ⊕ Int)) (fun st1 => (if (decide (st1.2 < (a0.l.length : Int))) = true then ((elt a0 st1.2).bind fun y2 => ((F_laws_szFile y2 st1.1).bind fun y3 => (if (decide (y3 < 0)) = true then (some (.inr (.inr (-1)))) else (some (.inl (y3, (IntKind.i64.wrap (st1.2 + 1)))))))) else (some (.inr (.inl st1.1))))) ((IntKind.i64.wrap (a1 - (a0.l.length : Int))), 0)).bind fun y1 => (Sum.elim (fun y1 => (some y1)) (fun y1 => (some y1)) y1)))
theorem u_laws_szFileS (a0 : (Sl DFile)) (a1 : Int) (r : Int) (h : B_laws_szFileS a0 a1 = some r) : F_laws_szFileS a0 a1 = some r := by
 unfold B_laws_szFileS at h
 refine k_W ok_14 E_i64_inj h (fun σ0 => ?_)
 refine t_RN ?_
 refine t_RN ?_
 refine t_RN ?_
 refine t_if (fun hc1 => ?_) fun hc1 => ?_
 ·refine t_RN ?_
  exact k_eW (rT rN) E_i64_p
 refine t_RN ?_
 refine t_loop (fun st1 fr => Sub [(0, a0.t), (1, i4 st1.1), (5, i4 st1.2)] fr.s ∧ Heap σ0 fr.σ []) (fun y1 e fr => (Sum.elim (fun y => e = (.exit 0) ∧ Sub [(1, i4 y)] fr.s ∧ Heap σ0 fr.σ []) (fun y => e = .ret ∧ endW Tryz.prog (Tryz.f14.results.toList) σ0 (E_i64 y) .ret fr)) y1) (fun hS hH => And.intro (sub_to hS (by kernel_rfl)) hH) (fun st1 x fr h HI => ?_) fun y1 e fr h HF => ?_
 ·obtain ⟨s, σ⟩ := fr; obtain ⟨hS, hH⟩ := HI
  refine t_bk h hS hH ?_
  refine t_RN ?_
  refine t_if (fun hc2 => ?_) fun hc2 => ?_
  ·refine t_RU 2 ?_
   refine k_elt fun y2 rest1 hy2 => ?_
   refine t_U 2 ?_
   refine k_call fun y3 hy3 => ?_
   refine t_N ?_
   refine t_RN ?_
   refine t_if (fun hc3 => ?_) fun hc3 => ?_
   ·refine t_RN ?_
    exact t_e fun he hS hH => he ▸ And.intro rfl (eW hS hH (rT rN) E_i64_p)
   refine t_RN ?_
   exact t_e fun he hS hH => he ▸ And.intro (sub_to hS (by kernel_rfl)) hH
  exact t_e fun he hS hH => he ▸ And.intro rfl (And.intro (sub_to hS (by kernel_rfl)) hH)
 obtain ⟨s, σ⟩ := fr
 rcases y1 with y1 | y1
 ·have h := el_l h
  obtain ⟨rfl, hS, hH⟩ := HF
  refine t_bx h hS hH ?_
  refine t_RN ?_
  exact k_eW (rT rN) E_i64_p
 have h := el_r h
 obtain ⟨rfl, HE⟩ := HF
 injection h with h; subst h; exact HE
noncomputable def B_spec_TraceText (a0 : Int) (a1 : Int) (a2 : ByteArray) (a3 : DValue) : Option ByteArray := ((F_spec_l00In a0 1 5).bind fun y1 => (if (!y1) = true then (some ⟨#[]⟩) else ((F_spec_l00In a1 1 1000).bind fun y2 => (if (!y2) = true then (some ⟨#[]⟩) else ((F_spec_IsName a2).bind fun y3 => (if (!y3) = true then (some ⟨#[]⟩) else ((F_spec_ValidValue a3).bind fun y4 => (if (!y4) = true then (some ⟨#[]⟩) else ((F_spec_l06Digits a1).bind fun y5 => ((catB y5 ⟨#[58, 32]⟩).bind fun y6 => (if (decide (a0 = 1)) = true then ((catB y6 a2).bind fun y7 => ((catB y7 ⟨#[32, 61, 32]⟩).bind fun y8 => ((F_spec_ValueText a3).bind fun y9 => ((catB y8 y9).bind fun y10 => (some y10))))) else (if (decide (a0 = 2)) = true then ((catB y6 ⟨#[99, 97, 108, 108, 32]⟩).bind fun y11 => ((catB y11 a2).bind fun y12 => (some y12))) else (if (decide (a0 = 3)) = true then ((catB y6 ⟨#[114, 101, 116, 117, 114, 110, 32]⟩).bind fun y13 => ((catB y13 a2).bind fun y14 => ((catB y14 ⟨#[32, 61, 32]⟩).bind fun y15 => ((F_spec_ValueText a3).bind fun y16 => ((catB y15 y16).bind fun y17 => (some y17)))))) else (if (decide (a0 = 4)) = true then ((catB y6 ⟨#[102, 97, 105, 108, 32]⟩).bind fun y18 => ((catB y18 a2).bind fun y19 => (some y19))) else ((catB y6 ⟨#[103, 111, 116, 111, 32]⟩).bind fun y20 => ((catB y20 a2).bind fun y21 => (some y21)))))))))))))))))
theorem u_spec_TraceText (a0 : Int) (a1 : Int) (a2 : ByteArray) (a3 : DValue) (r : ByteArray) (h : B_spec_TraceText a0 a1 a2 a3 = some r) : F_spec_TraceText a0 a1 a2 a3 = some r := by
 unfold B_spec_TraceText at h
 refine k_W ok_15 E_str_inj h (fun σ0 => ?_)
 refine t_R ?_
 refine k_box (fun b1 => ?_)
 refine t_N ?_
 refine t_RU 1 ?_
 refine k_call fun y1 hy1 => ?_
 refine t_U 2 ?_
 refine t_gif 13 (fun hc1 => ?_) fun hc1 => ?_
 ·refine t_N ?_
  refine t_cT rfl ?_
  refine t_RN ?_
  exact k_eW (rT rN) E_str_p
 refine t_U 1 ?_
 refine k_call fun y2 hy2 => ?_
 refine t_U 3 ?_
 refine t_gif 18 (fun hc2 => ?_) fun hc2 => ?_
 ·refine t_N ?_
  refine t_cT rfl ?_
  refine t_RN ?_
  exact k_eW (rT rN) E_str_p
 refine t_U 1 ?_
 refine k_call fun y3 hy3 => ?_
 refine t_U 3 ?_
 refine t_gif 23 (fun hc3 => ?_) fun hc3 => ?_
 ·refine t_N ?_
  refine t_cT rfl ?_
  refine t_RN ?_
  exact k_eW (rT rN) E_str_p
 refine k_load 0 ?_
 refine k_call fun y4 hy4 => ?_
 refine t_N ?_
 refine t_if (fun hc4 => ?_) fun hc4 => ?_
 ·refine t_RN ?_
  exact k_eW (rT rN) E_str_p
 refine t_RU 1 ?_
 refine k_call fun y5 hy5 => ?_
 refine k_cat fun y6 hy6 => ?_
 refine t_N ?_
 refine t_RN ?_
 refine t_RN ?_
 refine t_if (fun hc5 => ?_) fun hc5 => ?_
 ·refine t_RU 2 ?_
  refine k_cat fun y7 hy7 => ?_
  refine k_cat fun y8 hy8 => ?_
  refine k_load 0 ?_
  refine k_call fun y9 hy9 => ?_
  refine k_cat fun y10 hy10 => ?_
  refine t_N ?_
  exact k_eW (rT rN) E_str_p
 refine t_RN ?_
 refine t_if (fun hc6 => ?_) fun hc6 => ?_
 ·refine t_RU 1 ?_
  refine k_cat fun y11 hy11 => ?_
  refine t_U 1 ?_
  refine k_cat fun y12 hy12 => ?_
  refine t_N ?_
  exact k_eW (rT rN) E_str_p
 refine t_RN ?_
 refine t_if (fun hc7 => ?_) fun hc7 => ?_
 ·refine t_RU 1 ?_
  refine k_cat fun y13 hy13 => ?_
  refine t_U 1 ?_
  refine k_cat fun y14 hy14 => ?_
  refine k_cat fun y15 hy15 => ?_
  refine k_load 0 ?_
  refine k_call fun y16 hy16 => ?_
  refine k_cat fun y17 hy17 => ?_
  refine t_N ?_
  exact k_eW (rT rN) E_str_p
 refine t_RN ?_
 refine t_if (fun hc8 => ?_) fun hc8 => ?_
 ·refine t_RU 1 ?_
  refine k_cat fun y18 hy18 => ?_
  refine t_U 1 ?_
  refine k_cat fun y19 hy19 => ?_
  refine t_N ?_
  exact k_eW (rT rN) E_str_p
 refine t_RU 1 ?_
 refine k_cat fun y20 hy20 => ?_
 refine t_U 1 ?_
 refine k_cat fun y21 hy21 => ?_
 refine t_N ?_
 exact k_eW (rT rN) E_str_p
noncomputable def B_spec_l21Ok (a0 : DConsole) : Option Bool := ((F_spec_l21Lines a0.Input 100 200).bind fun y1 => (if (!y1) = true then (some false) else ((F_spec_l00In a0.At 0 (a0.Input.l.length : Int)).bind fun y2 => (if (!y2) = true then (some false) else ((F_spec_l21Lines a0.Output 100 200).bind fun y3 => (if (!y3) = true then (some false) else (if (decide (6 < (a0.Files.l.length : Int))) = true then (some false) else ((F_spec_l21Lines a0.Trace 200 1300).bind fun y4 => (if (!y4) = true then (some false) else ((loopO (S := Int) (R := (Unit ⊕ Bool)) (fun st1 => (if (decide (st1 < (a0.Files.l.length : Int))) = true then ((elt a0.Files st1).bind fun y6 => ((F_spec_l21File y6).bind fun y7 => (if (!y7) = true then (some (.inr (.inr false))) else (if (decide (0 < st1)) = true then ((elt a0.Files (IntKind.i64.wrap (st1 - 1))).bind fun y8 => ((elt a0.Files st1).bind fun y9 => (if (!Op.bytesLess y8.Name.toList y9.Name.toList) = true then (some (.inr (.inr false))) else (some (.inl (IntKind.i64.wrap (st1 + 1))))))) else (some (.inl (IntKind.i64.wrap (st1 + 1)))))))) else (some (.inr (.inl ()))))) 0).bind fun y5 => (Sum.elim (fun y5 => (some true)) (fun y5 => (some y5)) y5)))))))))))
theorem u_spec_l21Ok (a0 : DConsole) (r : Bool) (h : B_spec_l21Ok a0 = some r) : F_spec_l21Ok a0 = some r := by
 unfold B_spec_l21Ok at h
 refine semL_of E_bool_inj rfl rfl ok_16 (fun bs hb => by obtain ⟨bp0, rfl⟩ := bl1 hb; exact rfl) (fun bs hb => by obtain ⟨bp0, rfl⟩ := bl1 hb; exact (all_cons rfl all_nil)) ?_
 intro σ0 bs s hL hS hH
 obtain ⟨bp0, rfl, hL_bp0⟩ := lent1 hL
 clear hL
 have hS := sub_to (L' := [(0, .ptr bp0 0 0 5)]) hS (by kernel_rfl)
 refine t_go h hS hH ?_
 refine t_RN ?_
 refine t_D fun mb => ?_
 refine t_U 3 ?_
 refine k_loadL hL_bp0 ?_
 refine k_call fun y1 hy1 => ?_
 refine t_U 2 ?_
 refine t_gif 10 (fun hc1 => ?_) fun hc1 => ?_
 ·refine t_N ?_
  refine t_cT rfl ?_
  refine t_RN ?_
  exact k_eW (rT rN) E_bool_p
 refine t_U 3 ?_
 refine k_loadL hL_bp0 ?_
 refine t_U 3 ?_
 refine k_loadL hL_bp0 ?_
 refine t_U 1 ?_
 refine k_call fun y2 hy2 => ?_
 refine t_U 3 ?_
 refine t_gif 23 (fun hc2 => ?_) fun hc2 => ?_
 ·refine t_N ?_
  refine t_cT rfl ?_
  refine t_RN ?_
  exact k_eW (rT rN) E_bool_p
 refine t_U 3 ?_
 refine k_loadL hL_bp0 ?_
 refine k_call fun y3 hy3 => ?_
 refine t_U 3 ?_
 refine t_gif 31 (fun hc3 => ?_) fun hc3 => ?_
 ·refine t_N ?_
  refine t_cT rfl ?_
  refine t_RN ?_
  exact k_eW (rT rN) E_bool_p
 refine t_U 3 ?_
 refine k_loadL hL_bp0 ?_
 refine t_U 4 ?_
 refine t_gif 39 (fun hc4 => ?_) fun hc4 => ?_
 ·refine t_N ?_
  refine t_cT rfl ?_
  refine t_RN ?_
  exact k_eW (rT rN) E_bool_p
 refine t_U 3 ?_
 refine k_loadL hL_bp0 ?_
 refine k_call fun y4 hy4 => ?_
 refine t_N ?_
 refine t_if (fun hc5 => ?_) fun hc5 => ?_
 ·refine t_RN ?_
  exact k_eW (rT rN) E_bool_p
 refine t_RN ?_
 refine t_loop (fun st1 fr => Sub [(0, .ptr bp0 0 0 5), (3, i4 st1)] fr.s ∧ Heap σ0 fr.σ []) (fun y5 e fr => (Sum.elim (fun y => e = (.exit 0) ∧ Sub [] fr.s ∧ Heap σ0 fr.σ []) (fun y => e = .ret ∧ endW Tryz.prog (Tryz.f16.results.toList) σ0 (E_bool y) .ret fr)) y5) (fun hS hH => And.intro (sub_to hS (by kernel_rfl)) hH) (fun st1 x fr h HI => ?_) fun y5 e fr h HF => ?_
 ·obtain ⟨s, σ⟩ := fr; obtain ⟨hS, hH⟩ := HI
  refine t_bk h hS hH ?_
  refine t_RU 4 ?_
  refine k_loadL hL_bp0 ?_
  refine t_N ?_
  refine t_if (fun hc6 => ?_) fun hc6 => ?_
  ·refine t_D fun mb => ?_
   refine t_U 3 ?_
   refine k_loadL hL_bp0 ?_
   refine t_U 1 ?_
   refine k_elt fun y6 rest1 hy6 => ?_
   refine t_U 1 ?_
   refine k_call fun y7 hy7 => ?_
   refine t_U 2 ?_
   refine t_gif 65 (fun hc7 => ?_) fun hc7 => ?_
   ·refine t_N ?_
    refine t_cT rfl ?_
    refine t_RN ?_
    exact t_e fun he hS hH => he ▸ And.intro rfl (eW hS hH (rT rN) E_bool_p)
   refine t_U 3 ?_
   refine t_gif 68 (fun hc8 => ?_) fun hc8 => ?_
   ·refine t_U 3 ?_
    refine k_loadL hL_bp0 ?_
    refine t_U 2 ?_
    refine k_elt fun y8 rest2 hy8 => ?_
    refine t_U 5 ?_
    refine k_loadL hL_bp0 ?_
    refine t_U 1 ?_
    refine k_elt fun y9 rest3 hy9 => ?_
    refine t_N ?_
    refine t_if (fun hc9 => ?_) fun hc9 => ?_
    ·refine t_RN ?_
     exact t_e fun he hS hH => he ▸ And.intro rfl (eW hS hH (rT rN) E_bool_p)
    refine t_RN ?_
    exact t_e fun he hS hH => he ▸ And.intro (sub_to hS (by kernel_rfl)) hH
   refine t_N ?_
   refine t_cF ff_ne ?_
   refine t_RN ?_
   exact t_e fun he hS hH => he ▸ And.intro (sub_to hS (by kernel_rfl)) hH
  exact t_e fun he hS hH => he ▸ And.intro rfl (And.intro (sub_to hS (by kernel_rfl)) hH)
 obtain ⟨s, σ⟩ := fr
 rcases y5 with y5 | y5
 ·have h := el_l h
  obtain ⟨rfl, hS, hH⟩ := HF
  refine t_bx h hS hH ?_
  refine t_RN ?_
  exact k_eW (rT rN) E_bool_p
 have h := el_r h
 obtain ⟨rfl, HE⟩ := HF
 injection h with h; subst h; exact HE
noncomputable def B_spec_l21Own (a0 : DConsole) : Option DConsole := ((F_spec_l21Texts a0.Input).bind fun y1 => ((F_spec_l21Texts a0.Output).bind fun y2 => ((F_spec_l21Texts a0.Trace).bind fun y3 => ((loopO (S := (Int × (Sl DFile))) (R := (Sl DFile)) (fun st1 => (if (decide (st1.1 < (a0.Files.l.length : Int))) = true then ((elt a0.Files st1.1).bind fun y5 => ((F_spec_l21Texts y5.Lines).bind fun y6 => ((appS 56 st1.2 (⟨false, [(⟨y5.Name, y6, y5.Mode, y5.At⟩ : DFile)]⟩ : Sl DFile)).bind fun y7 => (some (.inl ((IntKind.i64.wrap (st1.1 + 1)), y7)))))) else (some (.inr st1.2)))) (0, (⟨true, []⟩ : Sl DFile))).bind fun y4 => (some (⟨y1, a0.At, y2, y4, y3⟩ : DConsole))))))
theorem u_spec_l21Own (a0 : DConsole) (r : DConsole) (h : B_spec_l21Own a0 = some r) : F_spec_l21Own a0 = some r := by
 unfold B_spec_l21Own at h
 refine semLO_of rfl rfl ok_17 (fun bs hb => by obtain ⟨bp0, rfl⟩ := bl1 hb; exact rfl) (fun bs hb => by obtain ⟨bp0, rfl⟩ := bl1 hb; exact (all_cons rfl all_nil)) ?_
 intro σ0 bs s hL hS hH
 obtain ⟨bp0, rfl, hL_bp0⟩ := lent1 hL
 clear hL
 have hS := sub_to (L' := [(0, .ptr bp0 0 0 5)]) hS (by kernel_rfl)
 refine t_go h hS hH ?_
 refine t_R ?_
 refine k_alloc fun b1 => ?_
 refine t_N ?_
 refine t_chain [(21, RN)] ext_x fun mb σs hn0 hlt hlto => ?_
 have hlt_bp0 : bp0 < mb := Nat.lt_of_lt_of_le hL_bp0.1 hn0
 refine t_U 3 ?_
 refine k_loadL hL_bp0 ?_ (hlt := by exact (Or.inl (by kernel_rfl)))
 refine k_callO1 (fun y1 t1 hy1 ht1 => ?_)
 refine t_U 3 ?_
 refine k_loadL hL_bp0 ?_ (hlt := by exact (Or.inr ⟨hlt_bp0, (Wc.cons (.inl (by kernel_rfl)) Wc.nil)⟩))
 refine t_U 3 ?_
 refine k_loadL hL_bp0 ?_ (hlt := by exact (Or.inr ⟨hlt_bp0, (Wc.cons (.inl (by kernel_rfl)) Wc.nil)⟩))
 refine k_callO1 (fun y2 t2 hy2 ht2 => ?_)
 refine t_U 3 ?_
 refine k_loadL hL_bp0 ?_ (hlt := by exact (Or.inr ⟨hlt_bp0, (Wc.cons (.inl (by kernel_rfl)) Wc.nil)⟩))
 refine k_callO1 (fun y3 t3 hy3 ht3 => ?_)
 intro h s σ hS hH
 refine q_build (qs := [(0, t1), (1, i4 a0.At), (2, t2), (4, t3)]) (z := [(nt ByteArray), i4 0, (nt ByteArray), (nt DFile), (nt ByteArray)]) (r := [t1, i4 a0.At, t2, (nt DFile), t3]) [[t1], [i4 a0.At], [t2], [t3]] rfl hS rfl (by kernel_rfl) (by kernel_rfl) (And.intro (by simp [ht1.1, ht1.2]) (And.intro (by simp [ht1.1, ht1.2]) (And.intro rfl (And.intro (by kernel_rfl) (And.intro (by simp [ht2.1, ht2.2]) (And.intro (by simp [ht2.1, ht2.2]) (And.intro (by simp [ht3.1, ht3.2]) (And.intro (by simp [ht3.1, ht3.2]) trivial)))))))) (by kernel_rfl) ?_; intro s hS
 refine t_bk h hS hH ?_
 refine k_allocC (by exact hn0) fun b2 hwr_b2 => ?_
 refine k_storeA 0 ?_ (h1 := by simp [ht1.1, ht1.2, ht2.1, ht2.2, ht3.1, ht3.2]) (hwr := by exact fun _ => Or.inl hwr_b2)
 refine t_N ?_
 refine t_RN ?_
 refine t_h (Heap.addNil · true 4) ?_
 refine t_loop (fun st1 fr => ∃ t5, IsOne t5 ∧ Sub [(0, .ptr bp0 0 0 5), (2, .ptr b1 0 0 5), (3, .ptr b2 0 0 5), (4, i4 st1.1)] fr.s ∧ Heap σ0 fr.σ [.box b2 [t1, i4 a0.At, t2, t5, t3], .box b1 [(nt ByteArray), i4 0, (nt ByteArray), (nt DFile), (nt ByteArray)], .own true 1 t1 y1.t, .own true 1 t2 y2.t, .own true 4 t5 st1.2.t, .own true 1 t3 y3.t]) (fun y4 e fr => ∃ t6, IsOne t6 ∧ e = (.exit 0) ∧ Sub [(2, .ptr b1 0 0 5), (3, .ptr b2 0 0 5)] fr.s ∧ Heap σ0 fr.σ [.box b2 [t1, i4 a0.At, t2, t6, t3], .box b1 [(nt ByteArray), i4 0, (nt ByteArray), (nt DFile), (nt ByteArray)], .own true 1 t1 y1.t, .own true 1 t2 y2.t, .own true 4 t6 y4.t, .own true 1 t3 y3.t]) (fun hS hH => Exists.intro (T.row true 0 []) (And.intro ⟨rfl, rfl⟩ (And.intro (sub_to hS (by kernel_rfl)) (Heap.sel hH [1, 5, 4, 3, 0, 2] rfl (by kernel_rfl))))) (fun st1 x fr h HI => ?_) fun y4 e fr h HF => ?_
 ·obtain ⟨s, σ⟩ := fr; obtain ⟨t5, ht5, ⟨hS, hH⟩⟩ := HI
  refine t_bk h hS hH ?_
  refine t_RU 4 ?_
  refine k_loadL hL_bp0 ?_
  refine t_N ?_
  refine t_if (fun hc1 => ?_) fun hc1 => ?_
  ·refine t_RU 3 ?_
   refine k_loadL hL_bp0 ?_
   refine t_U 1 ?_
   refine k_elt fun y5 rest1 hy5 => ?_
   refine t_U 1 ?_
   refine k_alloc fun b3 => ?_
   refine k_storeA 0 ?_
   refine t_N ?_
   refine t_RU 1 ?_
   refine k_load 0 ?_
   refine k_callO1 (fun y6 t7 hy6 ht7 => ?_)
   refine t_U 1 ?_
   refine k_storeT 1 ht7 ?_
   refine t_N ?_
   refine t_RU 1 ?_
   refine k_load 2 ?_
   refine k_load 0 ?_
   refine t_h Heap.up1 ?_
   refine k_bs (z := true) (⟨false, [(⟨y5.Name, y6, y5.Mode, y5.At⟩ : DFile)]⟩ : Sl DFile) (fun t8 ht8 => ?_) (h1 := by simp [ht7.1, ht7.2])
   refine k_app 6 0 (fun y7 t9 hy7 ht9 => ?_)
   refine t_U 1 ?_
   refine k_storeT 2 ht9 ?_
   refine t_N ?_
   refine t_RN ?_
   exact t_e fun he hS hH => he ▸ Exists.intro t9 (And.intro ht9 (And.intro (sub_to hS (by kernel_rfl)) (Heap.sel hH [0, 3, 4, 5, 1, 6] rfl (by kernel_rfl))))
  exact t_e fun he hS hH => he ▸ Exists.intro t5 (And.intro ht5 (And.intro rfl (And.intro (sub_to hS (by kernel_rfl)) hH)))
 obtain ⟨s, σ⟩ := fr
 obtain ⟨t6, ht6, ⟨rfl, hS, hH⟩⟩ := HF
 refine t_bx h hS hH ?_
 refine t_R ?_
 refine k_load 0 ?_
 refine k_storeA 1 ?_ (h1 := by simp [ht1.1, ht1.2, ht2.1, ht2.2, ht3.1, ht3.2, ht6.1, ht6.2])
 refine t_N ?_
 refine t_h (·.up5.up5.up5.up5) ?_
 exact k_eO [t1, t2, t6, t3] (rC 4 rN)
noncomputable def B_laws_toStringS (a0 : (Sl ByteArray)) : Option (Sl ByteArray) := ((mkS 16 (⟨#[]⟩ : ByteArray) (a0.l.length : Int) (a0.l.length : Int)).bind fun y1 => ((loopO (S := (Int × (Sl ByteArray))) (R := (Sl ByteArray)) (fun st1 => (if (decide (st1.1 < (a0.l.length : Int))) = true then ((elt a0 st1.1).bind fun y3 => ((elt st1.2 st1.1).bind fun y4 => (some (.inl ((IntKind.i64.wrap (st1.1 + 1)), (setS st1.2 st1.1 (y3 : ByteArray))))))) else (some (.inr st1.2)))) (0, y1)).bind fun y2 => (some y2)))
theorem u_laws_toStringS (a0 : (Sl ByteArray)) (r : (Sl ByteArray)) (h : B_laws_toStringS a0 = some r) : F_laws_toStringS a0 = some r := by
 unfold B_laws_toStringS at h
 refine k_O ok_18 h (fun σ0 => ?_)
 refine t_RN ?_
 refine t_RU 2 ?_
 intro h s σ hS hH
 obtain ⟨y1, hy1, h⟩ := bind_some h
 refine q_make (z := true) (e := 9) (by_ := 16) (x0 := (⟨#[]⟩ : ByteArray)) (fun σ d => by simp [Enc.cells, hold_str, Iv]) rfl hS hH rfl rfl (by kernel_rfl) (by kernel_rfl) (by kernel_rfl) (by kernel_rfl) rfl hy1 ?_; intro t1 σ s ht1 hH hS
 refine t_bk h hS hH ?_
 refine t_N ?_
 refine t_RN ?_
 refine t_loop (fun st1 fr => Sub [(0, a0.t), (3, t1), (4, i4 st1.1)] fr.s ∧ Heap σ0 fr.σ [.own true 1 t1 st1.2.t]) (fun y2 e fr => e = (.exit 0) ∧ Sub [(3, t1)] fr.s ∧ Heap σ0 fr.σ [.own true 1 t1 y2.t]) (fun hS hH => And.intro (sub_to hS (by kernel_rfl)) hH) (fun st1 x fr h HI => ?_) fun y2 e fr h HF => ?_
 ·obtain ⟨s, σ⟩ := fr; obtain ⟨hS, hH⟩ := HI
  refine t_bk h hS hH ?_
  refine t_RN ?_
  refine t_if (fun hc1 => ?_) fun hc1 => ?_
  ·refine t_RU 4 ?_
   refine k_elt fun y3 rest1 hy3 => ?_
   refine t_U 1 ?_
   refine k_hidx 0 (fun hb1 hb1e y4 hy4 hl_hb1 => ?_)
   intro h s σ hS hH
   refine q_hstore (ents := []) (a := st1.2) (j := st1.1) (y := y4) (y' := (y3 : ByteArray)) (off := 0) (c := [.str y4]) (us := [.str y3]) (vs := [.str y3]) (v := .str y3) rfl hS hH hl_hb1 rfl rfl rfl (by kernel_rfl) (by kernel_rfl) rfl hy4 rfl (HLs HL.nil) rfl (by kernel_rfl) ?_; intro σ s hH hS
   refine t_bk h hS hH ?_
   refine t_N ?_
   refine t_RN ?_
   exact t_e fun he hS hH => he ▸ And.intro (sub_to hS (by kernel_rfl)) hH
  exact t_e fun he hS hH => he ▸ And.intro rfl (And.intro (sub_to hS (by kernel_rfl)) hH)
 obtain ⟨s, σ⟩ := fr
 obtain ⟨rfl, hS, hH⟩ := HF
 refine t_bx h hS hH ?_
 refine t_RN ?_
 exact k_eO [t1] (rT rN)
noncomputable def B_laws_toFileS (a0 : (Sl DFile)) : Option (Sl DFile) := ((mkS 56 ((⟨⟨#[]⟩, ⟨true, []⟩, 0, 0⟩ : DFile) : DFile) (a0.l.length : Int) (a0.l.length : Int)).bind fun y1 => ((loopO (S := (Int × (Sl DFile))) (R := (Sl DFile)) (fun st1 => (if (decide (st1.1 < (a0.l.length : Int))) = true then ((elt a0 st1.1).bind fun y3 => ((F_laws_toFile y3).bind fun y4 => ((elt st1.2 st1.1).bind fun y5 => (some (.inl ((IntKind.i64.wrap (st1.1 + 1)), (setS st1.2 st1.1 (y4 : DFile)))))))) else (some (.inr st1.2)))) (0, y1)).bind fun y2 => (some y2)))
theorem u_laws_toFileS (a0 : (Sl DFile)) (r : (Sl DFile)) (h : B_laws_toFileS a0 = some r) : F_laws_toFileS a0 = some r := by
 unfold B_laws_toFileS at h
 refine k_O ok_19 h (fun σ0 => ?_)
 refine t_RN ?_
 refine t_RU 2 ?_
 intro h s σ hS hH
 obtain ⟨y1, hy1, h⟩ := bind_some h
 refine q_make (z := true) (e := 65) (by_ := 56) (x0 := ((⟨⟨#[]⟩, ⟨true, []⟩, 0, 0⟩ : DFile) : DFile)) (fun σ d => by simp [Enc.cells, DFile.cells, Iv]) rfl hS hH rfl rfl (by kernel_rfl) (by kernel_rfl) (by kernel_rfl) (by kernel_rfl) rfl hy1 ?_; intro t1 σ s ht1 hH hS
 refine t_bk h hS hH ?_
 refine t_N ?_
 refine t_RN ?_
 refine t_loop (fun st1 fr => Sub [(0, a0.t), (3, t1), (4, i4 st1.1)] fr.s ∧ Heap σ0 fr.σ [.own true 4 t1 st1.2.t]) (fun y2 e fr => e = (.exit 0) ∧ Sub [(3, t1)] fr.s ∧ Heap σ0 fr.σ [.own true 4 t1 y2.t]) (fun hS hH => And.intro (sub_to hS (by kernel_rfl)) hH) (fun st1 x fr h HI => ?_) fun y2 e fr h HF => ?_
 ·obtain ⟨s, σ⟩ := fr; obtain ⟨hS, hH⟩ := HI
  refine t_bk h hS hH ?_
  refine t_RN ?_
  refine t_if (fun hc1 => ?_) fun hc1 => ?_
  ·refine t_RU 4 ?_
   refine k_elt fun y3 rest1 hy3 => ?_
   refine t_U 1 ?_
   refine k_callO1 (fun y4 t2 hy4 ht2 => ?_)
   refine k_hidx 1 (fun hb1 hb1e y5 hy5 hl_hb1 => ?_)
   refine t_h Heap.up1 ?_
   intro h s σ hS hH
   refine q_hstore (ents := [.own true 1 t2 y4.Lines.t]) (a := st1.2) (j := st1.1) (y := y5) (y' := (y4 : DFile)) (off := 0) (c := [.str y5.Name, y5.Lines.t, i4 y5.Mode, i4 y5.At]) (us := [.str y4.Name, t2, i4 y4.Mode, i4 y4.At]) (vs := [.str y4.Name, y4.Lines.t, i4 y4.Mode, i4 y4.At]) (v := .agg [.str y4.Name, t2, i4 y4.Mode, i4 y4.At]) rfl hS hH hl_hb1 rfl rfl rfl (by simp [ht2.1, ht2.2]) (by kernel_rfl) rfl hy5 rfl (HLs (HL.own rfl (HLi (HLi HL.nil)))) rfl (by kernel_rfl) ?_; intro σ s hH hS
   refine t_bk h hS hH ?_
   refine t_N ?_
   refine t_RN ?_
   exact t_e fun he hS hH => he ▸ And.intro (sub_to hS (by kernel_rfl)) hH
  exact t_e fun he hS hH => he ▸ And.intro rfl (And.intro (sub_to hS (by kernel_rfl)) hH)
 obtain ⟨s, σ⟩ := fr
 obtain ⟨rfl, hS, hH⟩ := HF
 refine t_bx h hS hH ?_
 refine t_RN ?_
 exact k_eO [t1] (rT rN)
noncomputable def B_impl_TraceText (a0 : Int) (a1 : Int) (a2 : ByteArray) (a3 : DValue) : Option ByteArray := ((F_impl_within a1 1 1000).bind fun y1 => (if (!y1) = true then (some ⟨#[]⟩) else ((F_impl_IsName a2).bind fun y2 => (if (!y2) = true then (some ⟨#[]⟩) else ((F_impl_ValidValue a3).bind fun y3 => (if (!y3) = true then (some ⟨#[]⟩) else ((F_impl_decimal a1).bind fun y4 => ((catB y4 ⟨#[58, 32]⟩).bind fun y5 => (if (decide (a0 = 1)) = true then ((catB y5 a2).bind fun y6 => ((catB y6 ⟨#[32, 61, 32]⟩).bind fun y7 => ((F_impl_Value_text a3).bind fun y8 => ((catB y7 y8).bind fun y9 => (some y9))))) else (if (decide (a0 = 2)) = true then ((catB y5 ⟨#[99, 97, 108, 108, 32]⟩).bind fun y10 => ((catB y10 a2).bind fun y11 => (some y11))) else (if (decide (a0 = 3)) = true then ((catB y5 ⟨#[114, 101, 116, 117, 114, 110, 32]⟩).bind fun y12 => ((catB y12 a2).bind fun y13 => ((catB y13 ⟨#[32, 61, 32]⟩).bind fun y14 => ((F_impl_Value_text a3).bind fun y15 => ((catB y14 y15).bind fun y16 => (some y16)))))) else (if (decide (a0 = 4)) = true then ((catB y5 ⟨#[102, 97, 105, 108, 32]⟩).bind fun y17 => ((catB y17 a2).bind fun y18 => (some y18))) else (if (decide (a0 = 5)) = true then ((catB y5 ⟨#[103, 111, 116, 111, 32]⟩).bind fun y19 => ((catB y19 a2).bind fun y20 => (some y20))) else (some ⟨#[]⟩))))))))))))))
theorem u_impl_TraceText (a0 : Int) (a1 : Int) (a2 : ByteArray) (a3 : DValue) (r : ByteArray) (h : B_impl_TraceText a0 a1 a2 a3 = some r) : F_impl_TraceText a0 a1 a2 a3 = some r := by
 unfold B_impl_TraceText at h
 refine k_W ok_20 E_str_inj h (fun σ0 => ?_)
 refine t_R ?_
 refine k_box (fun b1 => ?_)
 refine t_N ?_
 refine t_RU 1 ?_
 refine k_call fun y1 hy1 => ?_
 refine t_U 2 ?_
 refine t_gif 13 (fun hc1 => ?_) fun hc1 => ?_
 ·refine t_N ?_
  refine t_cT rfl ?_
  refine t_RN ?_
  exact k_eW (rT rN) E_str_p
 refine t_U 1 ?_
 refine k_call fun y2 hy2 => ?_
 refine t_U 3 ?_
 refine t_gif 18 (fun hc2 => ?_) fun hc2 => ?_
 ·refine t_N ?_
  refine t_cT rfl ?_
  refine t_RN ?_
  exact k_eW (rT rN) E_str_p
 refine k_load 0 ?_
 refine k_call fun y3 hy3 => ?_
 refine t_N ?_
 refine t_if (fun hc3 => ?_) fun hc3 => ?_
 ·refine t_RN ?_
  exact k_eW (rT rN) E_str_p
 refine t_RU 1 ?_
 refine k_call fun y4 hy4 => ?_
 refine k_cat fun y5 hy5 => ?_
 refine t_N ?_
 refine t_RN ?_
 refine t_RN ?_
 refine t_if (fun hc4 => ?_) fun hc4 => ?_
 ·refine t_RU 2 ?_
  refine k_cat fun y6 hy6 => ?_
  refine k_cat fun y7 hy7 => ?_
  refine k_load 0 ?_
  refine k_call fun y8 hy8 => ?_
  refine k_cat fun y9 hy9 => ?_
  refine t_N ?_
  exact k_eW (rT rN) E_str_p
 refine t_RN ?_
 refine t_if (fun hc5 => ?_) fun hc5 => ?_
 ·refine t_RU 1 ?_
  refine k_cat fun y10 hy10 => ?_
  refine t_U 1 ?_
  refine k_cat fun y11 hy11 => ?_
  refine t_N ?_
  exact k_eW (rT rN) E_str_p
 refine t_RN ?_
 refine t_if (fun hc6 => ?_) fun hc6 => ?_
 ·refine t_RU 1 ?_
  refine k_cat fun y12 hy12 => ?_
  refine t_U 1 ?_
  refine k_cat fun y13 hy13 => ?_
  refine k_cat fun y14 hy14 => ?_
  refine k_load 0 ?_
  refine k_call fun y15 hy15 => ?_
  refine k_cat fun y16 hy16 => ?_
  refine t_N ?_
  exact k_eW (rT rN) E_str_p
 refine t_RN ?_
 refine t_if (fun hc7 => ?_) fun hc7 => ?_
 ·refine t_RU 1 ?_
  refine k_cat fun y17 hy17 => ?_
  refine t_U 1 ?_
  refine k_cat fun y18 hy18 => ?_
  refine t_N ?_
  exact k_eW (rT rN) E_str_p
 refine t_RN ?_
 refine t_if (fun hc8 => ?_) fun hc8 => ?_
 ·refine t_RU 1 ?_
  refine k_cat fun y19 hy19 => ?_
  refine t_U 1 ?_
  refine k_cat fun y20 hy20 => ?_
  refine t_N ?_
  exact k_eW (rT rN) E_str_p
 refine t_RN ?_
 exact k_eW (rT rN) E_str_p
noncomputable def B_impl_ValidConsole (a0 : DConsole) : Option Bool := (if (decide (100 < (a0.Input.l.length : Int))) = true then (some false) else (if (decide (100 < (a0.Output.l.length : Int))) = true then (some false) else (if (decide (6 < (a0.Files.l.length : Int))) = true then (some false) else (if (decide (200 < (a0.Trace.l.length : Int))) = true then (some false) else ((((F_impl_areAll_string a0.Input (T.fn 47 [] [])).bind fun y5 => (if y5 = true then ((F_impl_areAll_string a0.Output (T.fn 47 [] [])).bind fun y6 => (if y6 = true then ((F_impl_areAll_string a0.Trace (T.fn 45 [] [])).bind fun y7 => (some y7)) else (some false))) else (some false))) : Option Bool).bind fun y1 => (if y1 = true then ((F_impl_within a0.At 0 (a0.Input.l.length : Int)).bind fun y2 => (if y2 = true then ((F_impl_areAll_File a0.Files (T.fn 49 [] [])).bind fun y3 => (if y3 = true then ((F_impl_isSorted_File a0.Files (T.fn 51 [] [])).bind fun y4 => (some y4)) else (some false))) else (some false))) else (some false)))))))
theorem u_impl_ValidConsole (a0 : DConsole) (r : Bool) (h : B_impl_ValidConsole a0 = some r) : F_impl_ValidConsole a0 = some r := by
 unfold B_impl_ValidConsole at h
 refine k_W ok_21 E_bool_inj h (fun σ0 => ?_)
 refine t_R ?_
 refine k_box (fun b1 => ?_)
 refine t_N ?_
 refine t_RN ?_
 refine t_RU 1 ?_
 refine k_load 0 ?_
 refine t_U 3 ?_
 refine t_gif 9 (fun hc1 => ?_) fun hc1 => ?_
 ·refine t_N ?_
  refine t_cT rfl ?_
  refine t_RN ?_
  exact k_eW (rT rN) E_bool_p
 refine t_U 1 ?_
 refine k_load 0 ?_
 refine t_U 4 ?_
 refine t_gif 15 (fun hc2 => ?_) fun hc2 => ?_
 ·refine t_N ?_
  refine t_cT rfl ?_
  refine t_RN ?_
  exact k_eW (rT rN) E_bool_p
 refine t_U 1 ?_
 refine k_load 0 ?_
 refine t_U 4 ?_
 refine t_gif 21 (fun hc3 => ?_) fun hc3 => ?_
 ·refine t_N ?_
  refine t_cT rfl ?_
  refine t_RN ?_
  exact k_eW (rT rN) E_bool_p
 refine t_U 1 ?_
 refine k_load 0 ?_
 refine t_N ?_
 refine t_if (fun hc4 => ?_) fun hc4 => ?_
 ·refine t_RN ?_
  exact k_eW (rT rN) E_bool_p
 refine t_cut 0 (fun y1 e fr => e = .normal ∧ Sub [(1, .ptr b1 0 0 5), (4, .bool y1)] fr.s ∧ Heap σ0 fr.σ [.box b1 (DConsole.cells a0)]) (fun y1 e fr h HF => ?_) fun y1 => ?_
 ·obtain ⟨s, σ⟩ := fr
  obtain ⟨rfl, hS, hH⟩ := HF
  refine t_bx h hS hH ?_
  refine t_RU 2 ?_
  refine t_gif 42 (fun hc5 => ?_) fun hc5 => ?_
  ·refine t_U 1 ?_
   refine k_load 0 ?_
   refine t_U 1 ?_
   refine k_load 0 ?_
   refine t_U 1 ?_
   refine k_call fun y2 hy2 => ?_
   refine t_U 2 ?_
   refine t_gif 50 (fun hc6 => ?_) fun hc6 => ?_
   ·refine t_U 1 ?_
    refine k_load 0 ?_
    refine k_call fun y3 hy3 => ?_
    refine t_U 2 ?_
    refine t_gif 55 (fun hc7 => ?_) fun hc7 => ?_
    ·refine t_U 1 ?_
     refine k_load 0 ?_
     refine k_call fun y4 hy4 => ?_
     refine t_N ?_
     exact k_eW (rT rN) E_bool_p
    refine t_N ?_
    exact k_eW (rT rN) E_bool_p
   refine t_N ?_
   exact k_eW (rT rN) E_bool_p
  refine t_N ?_
  exact k_eW (rT rN) E_bool_p
 refine t_RU 1 ?_
 refine k_load 0 ?_
 refine k_call fun y5 hy5 => ?_
 refine t_U 1 ?_
 refine t_gif 30 (fun hc8 => ?_) fun hc8 => ?_
 ·refine t_U 1 ?_
  refine k_load 0 ?_
  refine k_call fun y6 hy6 => ?_
  refine t_U 2 ?_
  refine t_gif 35 (fun hc9 => ?_) fun hc9 => ?_
  ·refine t_U 1 ?_
   refine k_load 0 ?_
   refine t_U 1 ?_
   refine k_call fun y7 hy7 => ?_
   refine t_N ?_
   exact t_e fun he hS hH => he ▸ And.intro rfl (And.intro (sub_to hS (by kernel_rfl)) hH)
  refine t_N ?_
  exact t_e fun he hS hH => he ▸ And.intro rfl (And.intro (sub_to hS (by kernel_rfl)) hH)
 refine t_N ?_
 exact t_e fun he hS hH => he ▸ And.intro rfl (And.intro (sub_to hS (by kernel_rfl)) hH)
noncomputable def B_impl_Console_copied (a0 : DConsole) : Option DConsole := ((F_slices_Clone_string a0.Input).bind fun y1 => ((F_slices_Clone_string a0.Output).bind fun y2 => ((F_slices_Clone_string a0.Trace).bind fun y3 => ((loopO (S := (Int × (Sl DFile))) (R := (Sl DFile)) (fun st1 => (if (decide (st1.1 < (a0.Files.l.length : Int))) = true then ((elt a0.Files st1.1).bind fun y5 => ((F_slices_Clone_string y5.Lines).bind fun y6 => ((appS 56 st1.2 (⟨false, [(⟨y5.Name, y6, y5.Mode, y5.At⟩ : DFile)]⟩ : Sl DFile)).bind fun y7 => (some (.inl ((IntKind.i64.wrap (st1.1 + 1)), y7)))))) else (some (.inr st1.2)))) (0, (⟨true, []⟩ : Sl DFile))).bind fun y4 => (some (⟨y1, a0.At, y2, y4, y3⟩ : DConsole))))))
theorem u_impl_Console_copied (a0 : DConsole) (r : DConsole) (h : B_impl_Console_copied a0 = some r) : F_impl_Console_copied a0 = some r := by
 unfold B_impl_Console_copied at h
 refine k_O ok_22 h (fun σ0 => ?_)
 refine t_R ?_
 refine k_box (fun b1 => ?_)
 refine k_alloc fun b2 => ?_
 refine t_N ?_
 refine t_chain [(13, RN)] ext_x fun mb σs hn0 hlt hlto => ?_
 have hlt_b1 : b1 < mb := hlt b1 _ (List.Mem.tail _ (List.Mem.head _))
 refine t_U 1 ?_
 refine k_load 1 ?_ (hlt := by exact (Or.inl (by kernel_rfl)))
 refine k_callO1 (fun y1 t1 hy1 ht1 => ?_)
 refine t_U 1 ?_
 refine k_load 2 ?_ (hlt := by exact (Or.inr ⟨hlt_b1, (Wc.cons (.inl (by kernel_rfl)) Wc.nil)⟩))
 refine t_U 1 ?_
 refine k_load 2 ?_ (hlt := by exact (Or.inr ⟨hlt_b1, (Wc.cons (.inl (by kernel_rfl)) Wc.nil)⟩))
 refine k_callO1 (fun y2 t2 hy2 ht2 => ?_)
 refine t_U 1 ?_
 refine k_load 3 ?_ (hlt := by exact (Or.inr ⟨hlt_b1, (Wc.cons (.inl (by kernel_rfl)) Wc.nil)⟩))
 refine k_callO1 (fun y3 t3 hy3 ht3 => ?_)
 intro h s σ hS hH
 refine q_build (qs := [(0, t1), (1, i4 a0.At), (2, t2), (4, t3)]) (z := [(nt ByteArray), i4 0, (nt ByteArray), (nt DFile), (nt ByteArray)]) (r := [t1, i4 a0.At, t2, (nt DFile), t3]) [[t1], [i4 a0.At], [t2], [t3]] rfl hS rfl (by kernel_rfl) (by kernel_rfl) (And.intro (by simp [ht1.1, ht1.2]) (And.intro (by simp [ht1.1, ht1.2]) (And.intro rfl (And.intro (by kernel_rfl) (And.intro (by simp [ht2.1, ht2.2]) (And.intro (by simp [ht2.1, ht2.2]) (And.intro (by simp [ht3.1, ht3.2]) (And.intro (by simp [ht3.1, ht3.2]) trivial)))))))) (by kernel_rfl) ?_; intro s hS
 refine t_bk h hS hH ?_
 refine k_allocC (by exact hn0) fun b3 hwr_b3 => ?_
 refine k_storeA 0 ?_ (h1 := by simp [ht1.1, ht1.2, ht2.1, ht2.2, ht3.1, ht3.2]) (hwr := by exact fun _ => Or.inl hwr_b3)
 refine t_N ?_
 refine t_RU 1 ?_
 refine k_load 5 ?_
 refine t_N ?_
 refine t_h (Heap.addNil · true 4) ?_
 refine t_loop (fun st1 fr => ∃ t5, IsOne t5 ∧ Sub [(2, .ptr b2 0 0 5), (3, .ptr b3 0 0 5), (19, a0.Files.t), (20, i4 (a0.Files.l.length : Int)), (21, i4 st1.1)] fr.s ∧ Heap σ0 fr.σ [.box b3 [t1, i4 a0.At, t2, t5, t3], .box b2 [(nt ByteArray), i4 0, (nt ByteArray), (nt DFile), (nt ByteArray)], .own true 1 t1 y1.t, .own true 1 t2 y2.t, .own true 4 t5 st1.2.t, .own true 1 t3 y3.t]) (fun y4 e fr => ∃ t6, IsOne t6 ∧ e = (.exit 0) ∧ Sub [(2, .ptr b2 0 0 5), (3, .ptr b3 0 0 5)] fr.s ∧ Heap σ0 fr.σ [.box b3 [t1, i4 a0.At, t2, t6, t3], .box b2 [(nt ByteArray), i4 0, (nt ByteArray), (nt DFile), (nt ByteArray)], .own true 1 t1 y1.t, .own true 1 t2 y2.t, .own true 4 t6 y4.t, .own true 1 t3 y3.t]) (fun hS hH => Exists.intro (T.row true 0 []) (And.intro ⟨rfl, rfl⟩ (And.intro (sub_to hS (by kernel_rfl)) (Heap.sel hH [1, 5, 4, 3, 0, 2] rfl (by kernel_rfl))))) (fun st1 x fr h HI => ?_) fun y4 e fr h HF => ?_
 ·obtain ⟨s, σ⟩ := fr; obtain ⟨t5, ht5, ⟨hS, hH⟩⟩ := HI
  refine t_bk h hS hH ?_
  refine t_RN ?_
  refine t_if (fun hc1 => ?_) fun hc1 => ?_
  ·refine t_R ?_
   refine k_elt fun y5 rest1 hy5 => ?_
   refine t_U 1 ?_
   refine k_alloc fun b4 => ?_
   refine k_storeA 0 ?_
   refine t_N ?_
   refine t_RU 1 ?_
   refine k_load 0 ?_
   refine k_callO1 (fun y6 t7 hy6 ht7 => ?_)
   refine t_U 1 ?_
   refine k_storeT 1 ht7 ?_
   refine t_N ?_
   refine t_RU 1 ?_
   refine k_load 2 ?_
   refine k_load 0 ?_
   refine t_h Heap.up1 ?_
   refine k_bs (z := true) (⟨false, [(⟨y5.Name, y6, y5.Mode, y5.At⟩ : DFile)]⟩ : Sl DFile) (fun t8 ht8 => ?_) (h1 := by simp [ht7.1, ht7.2])
   refine k_app 6 0 (fun y7 t9 hy7 ht9 => ?_)
   refine t_U 1 ?_
   refine k_storeT 2 ht9 ?_
   refine t_N ?_
   refine t_RN ?_
   exact t_e fun he hS hH => he ▸ Exists.intro t9 (And.intro ht9 (And.intro (sub_to hS (by kernel_rfl)) (Heap.sel hH [0, 3, 4, 5, 1, 6] rfl (by kernel_rfl))))
  exact t_e fun he hS hH => he ▸ Exists.intro t5 (And.intro ht5 (And.intro rfl (And.intro (sub_to hS (by kernel_rfl)) hH)))
 obtain ⟨s, σ⟩ := fr
 obtain ⟨t6, ht6, ⟨rfl, hS, hH⟩⟩ := HF
 refine t_bx h hS hH ?_
 refine t_R ?_
 refine k_load 0 ?_
 refine k_storeA 1 ?_ (h1 := by simp [ht1.1, ht1.2, ht2.1, ht2.2, ht3.1, ht3.2, ht6.1, ht6.2])
 refine t_N ?_
 refine t_h (·.up5.up5.up5.up5) ?_
 exact k_eO [t1, t2, t6, t3] (rC 4 rN)
noncomputable def B_laws_eqStringS (a0 : (Sl ByteArray)) (a1 : (Sl ByteArray)) : Option Bool := (if ((!decide ((a0.l.length : Int) = (a1.l.length : Int)))) = true then (some false) else ((loopO (S := Int) (R := (Unit ⊕ Bool)) (fun st1 => (if (decide (st1 < (a0.l.length : Int))) = true then ((elt a0 st1).bind fun y2 => ((elt a1 st1).bind fun y3 => (if (!decide (y2 = y3)) = true then (some (.inr (.inr false))) else (some (.inl (IntKind.i64.wrap (st1 + 1))))))) else (some (.inr (.inl ()))))) 0).bind fun y1 => (Sum.elim (fun y1 => (some true)) (fun y1 => (some y1)) y1)))
theorem u_laws_eqStringS (a0 : (Sl ByteArray)) (a1 : (Sl ByteArray)) (r : Bool) (h : B_laws_eqStringS a0 a1 = some r) : F_laws_eqStringS a0 a1 = some r := by
 unfold B_laws_eqStringS at h
 refine k_W ok_24 E_bool_inj h (fun σ0 => ?_)
 refine t_RN ?_
 refine t_RN ?_
 refine t_if (fun hc1 => ?_) fun hc1 => ?_
 ·refine t_RN ?_
  exact k_eW (rT rN) E_bool_p
 refine t_RN ?_
 refine t_loop (fun st1 fr => Sub [(0, a0.t), (1, a1.t), (5, i4 st1)] fr.s ∧ Heap σ0 fr.σ []) (fun y1 e fr => (Sum.elim (fun y => e = (.exit 0) ∧ Sub [] fr.s ∧ Heap σ0 fr.σ []) (fun y => e = .ret ∧ endW Tryz.prog (Tryz.f24.results.toList) σ0 (E_bool y) .ret fr)) y1) (fun hS hH => And.intro (sub_to hS (by kernel_rfl)) hH) (fun st1 x fr h HI => ?_) fun y1 e fr h HF => ?_
 ·obtain ⟨s, σ⟩ := fr; obtain ⟨hS, hH⟩ := HI
  refine t_bk h hS hH ?_
  refine t_RN ?_
  refine t_if (fun hc2 => ?_) fun hc2 => ?_
  ·refine t_D fun mb => ?_
   refine t_U 2 ?_
   refine k_elt fun y2 rest1 hy2 => ?_
   refine t_U 3 ?_
   refine k_elt fun y3 rest2 hy3 => ?_
   refine t_N ?_
   refine t_if (fun hc3 => ?_) fun hc3 => ?_
   ·refine t_RN ?_
    exact t_e fun he hS hH => he ▸ And.intro rfl (eW hS hH (rT rN) E_bool_p)
   refine t_RN ?_
   exact t_e fun he hS hH => he ▸ And.intro (sub_to hS (by kernel_rfl)) hH
  exact t_e fun he hS hH => he ▸ And.intro rfl (And.intro (sub_to hS (by kernel_rfl)) hH)
 obtain ⟨s, σ⟩ := fr
 rcases y1 with y1 | y1
 ·have h := el_l h
  obtain ⟨rfl, hS, hH⟩ := HF
  refine t_bx h hS hH ?_
  refine t_RN ?_
  exact k_eW (rT rN) E_bool_p
 have h := el_r h
 obtain ⟨rfl, HE⟩ := HF
 injection h with h; subst h; exact HE
noncomputable def B_laws_eqFileS (a0 : (Sl DFile)) (a1 : (Sl DFile)) : Option Bool := (if ((!decide ((a0.l.length : Int) = (a1.l.length : Int)))) = true then (some false) else ((loopO (S := Int) (R := (Unit ⊕ Bool)) (fun st1 => (if (decide (st1 < (a0.l.length : Int))) = true then ((elt a0 st1).bind fun y2 => ((elt a1 st1).bind fun y3 => ((F_laws_eqFile y2 y3).bind fun y4 => (if (!y4) = true then (some (.inr (.inr false))) else (some (.inl (IntKind.i64.wrap (st1 + 1)))))))) else (some (.inr (.inl ()))))) 0).bind fun y1 => (Sum.elim (fun y1 => (some true)) (fun y1 => (some y1)) y1)))
theorem u_laws_eqFileS (a0 : (Sl DFile)) (a1 : (Sl DFile)) (r : Bool) (h : B_laws_eqFileS a0 a1 = some r) : F_laws_eqFileS a0 a1 = some r := by
 unfold B_laws_eqFileS at h
 refine k_W ok_25 E_bool_inj h (fun σ0 => ?_)
 refine t_RN ?_
 refine t_RN ?_
 refine t_if (fun hc1 => ?_) fun hc1 => ?_
 ·refine t_RN ?_
  exact k_eW (rT rN) E_bool_p
 refine t_RN ?_
 refine t_loop (fun st1 fr => Sub [(0, a0.t), (1, a1.t), (5, i4 st1)] fr.s ∧ Heap σ0 fr.σ []) (fun y1 e fr => (Sum.elim (fun y => e = (.exit 0) ∧ Sub [] fr.s ∧ Heap σ0 fr.σ []) (fun y => e = .ret ∧ endW Tryz.prog (Tryz.f25.results.toList) σ0 (E_bool y) .ret fr)) y1) (fun hS hH => And.intro (sub_to hS (by kernel_rfl)) hH) (fun st1 x fr h HI => ?_) fun y1 e fr h HF => ?_
 ·obtain ⟨s, σ⟩ := fr; obtain ⟨hS, hH⟩ := HI
  refine t_bk h hS hH ?_
  refine t_RN ?_
  refine t_if (fun hc2 => ?_) fun hc2 => ?_
  ·refine t_D fun mb => ?_
   refine t_U 2 ?_
   refine k_elt fun y2 rest1 hy2 => ?_
   refine t_U 3 ?_
   refine k_elt fun y3 rest2 hy3 => ?_
   refine t_U 1 ?_
   refine k_call fun y4 hy4 => ?_
   refine t_N ?_
   refine t_if (fun hc3 => ?_) fun hc3 => ?_
   ·refine t_RN ?_
    exact t_e fun he hS hH => he ▸ And.intro rfl (eW hS hH (rT rN) E_bool_p)
   refine t_RN ?_
   exact t_e fun he hS hH => he ▸ And.intro (sub_to hS (by kernel_rfl)) hH
  exact t_e fun he hS hH => he ▸ And.intro rfl (And.intro (sub_to hS (by kernel_rfl)) hH)
 obtain ⟨s, σ⟩ := fr
 rcases y1 with y1 | y1
 ·have h := el_l h
  obtain ⟨rfl, hS, hH⟩ := HF
  refine t_bx h hS hH ?_
  refine t_RN ?_
  exact k_eW (rT rN) E_bool_p
 have h := el_r h
 obtain ⟨rfl, HE⟩ := HF
 injection h with h; subst h; exact HE
noncomputable def B_laws_heldStringS (a0 : (Sl ByteArray)) (a1 : Int) : Option Int := ((loopO (S := (Int × Int)) (R := (Int ⊕ Int)) (fun st1 => (if (decide (st1.2 < (a0.l.length : Int))) = true then ((elt a0 st1.2).bind fun y2 => ((F_laws_markText st1.1).bind fun y3 => (if (!decide (y2 = y3)) = true then (some (.inr (.inr (-1)))) else (some (.inl ((IntKind.i64.wrap (st1.1 + 1)), (IntKind.i64.wrap (st1.2 + 1)))))))) else (some (.inr (.inl st1.1))))) (a1, 0)).bind fun y1 => (Sum.elim (fun y1 => (some y1)) (fun y1 => (some y1)) y1))
theorem u_laws_heldStringS (a0 : (Sl ByteArray)) (a1 : Int) (r : Int) (h : B_laws_heldStringS a0 a1 = some r) : F_laws_heldStringS a0 a1 = some r := by
 unfold B_laws_heldStringS at h
 refine k_W ok_28 E_i64_inj h (fun σ0 => ?_)
 refine t_RN ?_
 refine t_RN ?_
 refine t_loop (fun st1 fr => Sub [(0, a0.t), (1, i4 st1.1), (5, i4 st1.2)] fr.s ∧ Heap σ0 fr.σ []) (fun y1 e fr => (Sum.elim (fun y => e = (.exit 0) ∧ Sub [(1, i4 y)] fr.s ∧ Heap σ0 fr.σ []) (fun y => e = .ret ∧ endW Tryz.prog (Tryz.f28.results.toList) σ0 (E_i64 y) .ret fr)) y1) (fun hS hH => And.intro (sub_to hS (by kernel_rfl)) hH) (fun st1 x fr h HI => ?_) fun y1 e fr h HF => ?_
 ·obtain ⟨s, σ⟩ := fr; obtain ⟨hS, hH⟩ := HI
  refine t_bk h hS hH ?_
  refine t_RN ?_
  refine t_if (fun hc1 => ?_) fun hc1 => ?_
  ·refine t_D fun mb => ?_
   refine t_U 2 ?_
   refine k_elt fun y2 rest1 hy2 => ?_
   refine t_U 2 ?_
   refine k_call fun y3 hy3 => ?_
   refine t_N ?_
   refine t_if (fun hc2 => ?_) fun hc2 => ?_
   ·refine t_RN ?_
    exact t_e fun he hS hH => he ▸ And.intro rfl (eW hS hH (rT rN) E_i64_p)
   refine t_RN ?_
   refine t_RN ?_
   exact t_e fun he hS hH => he ▸ And.intro (sub_to hS (by kernel_rfl)) hH
  exact t_e fun he hS hH => he ▸ And.intro rfl (And.intro (sub_to hS (by kernel_rfl)) hH)
 obtain ⟨s, σ⟩ := fr
 rcases y1 with y1 | y1
 ·have h := el_l h
  obtain ⟨rfl, hS, hH⟩ := HF
  refine t_bx h hS hH ?_
  refine t_RN ?_
  exact k_eW (rT rN) E_i64_p
 have h := el_r h
 obtain ⟨rfl, HE⟩ := HF
 injection h with h; subst h; exact HE
end Go.Am
