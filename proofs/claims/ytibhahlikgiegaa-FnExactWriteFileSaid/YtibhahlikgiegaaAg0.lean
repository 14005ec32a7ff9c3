/- Functions of the program. -/
import Derived.Test.YtibhahlikgiegaaAd0
section
set_option maxRecDepth 100000
set_option maxHeartbeats 4000000
set_option linter.unusedVariables false
set_option linter.unusedSimpArgs false
namespace Go.Am
open Go.Proofs
noncomputable def B_laws_markStringS (a0 : (Sl ByteArray)) (a1 : Int) : Option (Int × (Sl ByteArray)) := ((loopO (S := (Int × Int × (Sl ByteArray))) (R := (Int × (Sl ByteArray))) (fun st1 => (if (decide (st1.2.1 < (st1.2.2.l.length : Int))) = true then ((F_laws_markText st1.1).bind fun y2 => ((elt st1.2.2 st1.2.1).bind fun y3 => (some (.inl ((IntKind.i64.wrap (st1.1 + 1)), (IntKind.i64.wrap (st1.2.1 + 1)), (setS st1.2.2 st1.2.1 (y2 : ByteArray))))))) else (some (.inr (st1.1, st1.2.2))))) (a1, 0, a0)).bind fun y1 => (some (y1.1, y1.2)))
theorem u_laws_markStringS (a0 : (Sl ByteArray)) (a1 : Int) (r : (Int × (Sl ByteArray))) (h : B_laws_markStringS a0 a1 = some r) (wp0_1 : Nat) (p0_1 : T) : RawS Try.prog md ext 54 [p0_1, .int .i64 a1] 0 (fun hs => E_i64 r.1) [.own true wp0_1 p0_1 (Sl.t (a0 : Sl ByteArray))] (fun hs => [.own true wp0_1 p0_1 (Sl.t (r.2 : Sl ByteArray))]) := by
  unfold B_laws_markStringS at h
  refine rawS_of rfl rfl ok_54 rfl ?_
  intro σ0 σ F σk s hS hH
  have hp0_1 : IsOne p0_1 := Heap.one hH
  have hS := sub_to (L' := [(0, p0_1), (1, .int .i64 a1)]) hS (by kernel_rfl)
  refine c_seq ?_
  refine c_region ?_
  refine q_seg 1 [(0, p0_1), (1, .int .i64 a1)] hS (by kernel_rfl) ?_; intro s hS
  refine x_nil ?_
  refine sq_n ?_
  refine c_seq ?_
  refine c_seq ?_
  refine c_region ?_
  refine q_seg 1 [(0, p0_1), (1, .int .i64 a1), (5, .int .i64 0)] hS (by kernel_rfl) ?_; intro s hS
  refine x_nil ?_
  refine sq_n ?_
  refine c_block ?_
  obtain ⟨y1, hy1, h⟩ := bind_some h
  refine c_loop (fun (st1 : (Int × Int × (Sl ByteArray))) (fr : Fr) => Sub [(0, p0_1), (1, .int .i64 st1.1), (5, .int .i64 st1.2.1)] fr.s ∧ Heap σ0 fr.σ [.own true wp0_1 p0_1 (Sl.t (st1.2.2 : Sl ByteArray)), .keep F σk]) (fun (y1 : (Int × (Sl ByteArray))) (e : AExit) (fr : Fr) => e = (.exit 0) ∧ Sub [(1, .int .i64 y1.1)] fr.s ∧ Heap σ0 fr.σ [.own true wp0_1 p0_1 (Sl.t (y1.2 : Sl ByteArray)), .keep F σk]) hy1 (And.intro (sub_to hS (by kernel_rfl)) hH) ?_ ?_
  · clear h hy1 hS hH; clear y1; intro st1 x fr h HI; obtain ⟨s, σ⟩ := fr; obtain ⟨hS, hH⟩ := HI
    refine c_seq ?_
    refine c_seq ?_
    refine c_region ?_
    refine q_seg 2 [(0, p0_1), (1, .int .i64 st1.1), (5, .int .i64 st1.2.1), (6, .int .i64 st1.2.1), (7, p0_1)] hS (by kernel_rfl) ?_; intro s hS
    refine q_lenH (a := st1.2.2) rfl hS hH rfl (by kernel_rfl) ?_; intro s hS
    refine q_seg 1 [(0, p0_1), (1, .int .i64 st1.1), (5, .int .i64 st1.2.1), (9, .bool (decide (st1.2.1 < (st1.2.2.l.length : Int))))] hS (by kernel_rfl) ?_; intro s hS
    refine x_nil ?_
    refine sq_n ?_
    by_cases hc1 : (decide (st1.2.1 < (st1.2.2.l.length : Int))) = true
    · have h := it_pos hc1 h
      refine c_cond hS rfl (fun _ => ?_) (fun hf => ff_absurd hc1 hf)
      refine c_skip ?_
      refine sq_n ?_
      refine c_seq ?_
      refine c_block ?_
      refine c_seq ?_
      refine c_region ?_
      refine q_seg 3 [(0, p0_1), (1, .int .i64 st1.1), (5, .int .i64 st1.2.1), (12, p0_1), (13, .int .i64 st1.2.1), (14, .int .i64 st1.1)] hS (by kernel_rfl) ?_; intro s hS
      obtain ⟨y2, hy2, h⟩ := bind_some h
      refine q_callF (a := []) (b := []) (xs := [.int .i64 st1.1]) rfl hS rfl rfl hy2 ?_; intro s hS
      obtain ⟨y3, hy3, h⟩ := bind_some h
      refine q_hidx (a := st1.2.2) (e := 9) (fun _ _ _ _ _ => trivial) rfl hS hH rfl rfl (by kernel_rfl) (by kernel_rfl) hy3 ?_; intro hb1 hb1e s hl_hb1 hS
      refine q_hstore (ents := []) (a := st1.2.2) (j := st1.2.1) (y := y3) (y' := (y2 : ByteArray)) (off := 0) (c := [.str y3]) (us := [.str y2]) (vs := [.str y2]) (v := .str y2) rfl hS hH hl_hb1 rfl rfl rfl (by kernel_rfl) (by kernel_rfl) rfl hy3 rfl (HL.leaf (fun σ d => hold_str _ σ d _) HL.nil) rfl (by kernel_rfl) ?_; intro σ s hH hS
      refine x_nil ?_
      refine sq_n ?_
      refine c_region ?_
      refine q_seg 3 [(0, p0_1), (1, .int .i64 (IntKind.i64.wrap (st1.1 + 1))), (5, .int .i64 st1.2.1)] hS (by kernel_rfl) ?_; intro s hS
      refine x_nil ?_
      refine bk_n ?_
      refine sq_n ?_
      refine c_region ?_
      refine q_seg 3 [(0, p0_1), (1, .int .i64 (IntKind.i64.wrap (st1.1 + 1))), (5, .int .i64 (IntKind.i64.wrap (st1.2.1 + 1)))] hS (by kernel_rfl) ?_; intro s hS
      refine x_nil ?_
      injection h with h; subst h
      exact And.intro (sub_to hS (by kernel_rfl)) hH
    · have h := it_neg hc1 h
      refine c_cond hS rfl (fun hf => tt_absurd hc1 hf) (fun _ => ?_)
      refine c_exit ?_
      refine sq_x ?_
      injection h with h; subst h
      exact And.intro rfl (And.intro (sub_to hS (by kernel_rfl)) hH)
  · clear hS hH; intro e fr HF; obtain ⟨s, σ⟩ := fr
    obtain ⟨rfl, hS, hH⟩ := HF
    refine bk_e ?_
    refine sq_n ?_
    refine c_seq ?_
    refine c_region ?_
    refine q_seg 2 [(4, .int .i64 y1.1)] hS (by kernel_rfl) ?_; intro s hS
    refine x_nil ?_
    refine sq_n ?_
    refine c_ret ?_
    injection h with h; subst h
    exact end_M [] (r_tmp (v := .int .i64 y1.1) hS rfl r_nil) rfl rfl hH
end Go.Am
end
section
set_option maxRecDepth 100000
set_option maxHeartbeats 4000000
set_option linter.unusedVariables false
set_option linter.unusedSimpArgs false
namespace Go.Am
open Go.Proofs
noncomputable def B_laws_markFileS (a0 : (Sl DFile)) (a1 : Int) : Option (Int × (Sl DFile)) := ((loopO (S := (Int × Int × (Sl DFile))) (R := (Int × (Sl DFile))) (fun st1 => (if (decide (st1.2.1 < (st1.2.2.l.length : Int))) = true then ((F_laws_markText st1.1).bind fun y2 => ((elt st1.2.2 st1.2.1).bind fun y3 => ((elt (setS st1.2.2 st1.2.1 ((⟨y2, y3.Lines, y3.Mode, y3.At⟩ : DFile) : DFile)) st1.2.1).bind fun y4 => ((B_laws_markStringS y4.Lines (IntKind.i64.wrap (st1.1 + 1))).bind fun y5 => ((elt ((setS (setS st1.2.2 st1.2.1 ((⟨y2, y3.Lines, y3.Mode, y3.At⟩ : DFile) : DFile)) st1.2.1 ((⟨y4.Name, y5.2, y4.Mode, y4.At⟩ : DFile) : DFile))) st1.2.1).bind fun y6 => ((elt ((setS ((setS (setS st1.2.2 st1.2.1 ((⟨y2, y3.Lines, y3.Mode, y3.At⟩ : DFile) : DFile)) st1.2.1 ((⟨y4.Name, y5.2, y4.Mode, y4.At⟩ : DFile) : DFile))) st1.2.1 ((⟨y6.Name, y6.Lines, y5.1, y6.At⟩ : DFile) : DFile))) st1.2.1).bind fun y7 => (some (.inl ((IntKind.i64.wrap ((IntKind.i64.wrap (y5.1 + 1)) + 1)), (IntKind.i64.wrap (st1.2.1 + 1)), (setS ((setS ((setS (setS st1.2.2 st1.2.1 ((⟨y2, y3.Lines, y3.Mode, y3.At⟩ : DFile) : DFile)) st1.2.1 ((⟨y4.Name, y5.2, y4.Mode, y4.At⟩ : DFile) : DFile))) st1.2.1 ((⟨y6.Name, y6.Lines, y5.1, y6.At⟩ : DFile) : DFile))) st1.2.1 ((⟨y7.Name, y7.Lines, y7.Mode, (IntKind.i64.wrap (y5.1 + 1))⟩ : DFile) : DFile))))))))))) else (some (.inr (st1.1, st1.2.2))))) (a1, 0, a0)).bind fun y1 => (some (y1.1, y1.2)))
theorem u_laws_markFileS (a0 : (Sl DFile)) (a1 : Int) (r : (Int × (Sl DFile))) (h : B_laws_markFileS a0 a1 = some r) (wp0_1 : Nat) (p0_1 : T) : RawS Try.prog md ext 55 [p0_1, .int .i64 a1] 0 (fun hs => E_i64 r.1) [.own true wp0_1 p0_1 (Sl.t (a0 : Sl DFile))] (fun hs => [.own true wp0_1 p0_1 (Sl.t (r.2 : Sl DFile))]) := by
  unfold B_laws_markFileS at h
  refine rawS_of rfl rfl ok_55 rfl ?_
  intro σ0 σ F σk s hS hH
  have hp0_1 : IsOne p0_1 := Heap.one hH
  have hS := sub_to (L' := [(0, p0_1), (1, .int .i64 a1)]) hS (by kernel_rfl)
  refine c_seq ?_
  refine c_region ?_
  refine q_seg 1 [(0, p0_1), (1, .int .i64 a1)] hS (by kernel_rfl) ?_; intro s hS
  refine x_nil ?_
  refine sq_n ?_
  refine c_seq ?_
  refine c_seq ?_
  refine c_region ?_
  refine q_seg 1 [(0, p0_1), (1, .int .i64 a1), (5, .int .i64 0)] hS (by kernel_rfl) ?_; intro s hS
  refine x_nil ?_
  refine sq_n ?_
  refine c_block ?_
  obtain ⟨y1, hy1, h⟩ := bind_some h
  refine c_loop (fun (st1 : (Int × Int × (Sl DFile))) (fr : Fr) => Sub [(0, p0_1), (1, .int .i64 st1.1), (5, .int .i64 st1.2.1)] fr.s ∧ Heap σ0 fr.σ [.own true wp0_1 p0_1 (Sl.t (st1.2.2 : Sl DFile)), .keep F σk]) (fun (y1 : (Int × (Sl DFile))) (e : AExit) (fr : Fr) => e = (.exit 0) ∧ Sub [(1, .int .i64 y1.1)] fr.s ∧ Heap σ0 fr.σ [.own true wp0_1 p0_1 (Sl.t (y1.2 : Sl DFile)), .keep F σk]) hy1 (And.intro (sub_to hS (by kernel_rfl)) hH) ?_ ?_
  · clear h hy1 hS hH; clear y1; intro st1 x fr h HI; obtain ⟨s, σ⟩ := fr; obtain ⟨hS, hH⟩ := HI
    refine c_seq ?_
    refine c_seq ?_
    refine c_region ?_
    refine q_seg 2 [(0, p0_1), (1, .int .i64 st1.1), (5, .int .i64 st1.2.1), (6, .int .i64 st1.2.1), (7, p0_1)] hS (by kernel_rfl) ?_; intro s hS
    refine q_lenH (a := st1.2.2) rfl hS hH rfl (by kernel_rfl) ?_; intro s hS
    refine q_seg 1 [(0, p0_1), (1, .int .i64 st1.1), (5, .int .i64 st1.2.1), (9, .bool (decide (st1.2.1 < (st1.2.2.l.length : Int))))] hS (by kernel_rfl) ?_; intro s hS
    refine x_nil ?_
    refine sq_n ?_
    by_cases hc1 : (decide (st1.2.1 < (st1.2.2.l.length : Int))) = true
    · have h := it_pos hc1 h
      refine c_cond hS rfl (fun _ => ?_) (fun hf => ff_absurd hc1 hf)
      refine c_skip ?_
      refine sq_n ?_
      refine c_seq ?_
      refine c_block ?_
      refine c_seq ?_
      refine c_region ?_
      refine q_seg 3 [(0, p0_1), (1, .int .i64 st1.1), (5, .int .i64 st1.2.1), (12, p0_1), (13, .int .i64 st1.2.1), (14, .int .i64 st1.1)] hS (by kernel_rfl) ?_; intro s hS
      obtain ⟨y2, hy2, h⟩ := bind_some h
      refine q_callF (a := []) (b := []) (xs := [.int .i64 st1.1]) rfl hS rfl rfl hy2 ?_; intro s hS
      obtain ⟨y3, hy3, h⟩ := bind_some h
      refine q_hidx (a := st1.2.2) (e := 52) (fun _ _ _ _ _ => trivial) rfl hS hH rfl rfl (by kernel_rfl) (by kernel_rfl) hy3 ?_; intro hb1 hb1e s hl_hb1 hS
      refine q_seg 1 [(0, p0_1), (1, .int .i64 st1.1), (5, .int .i64 st1.2.1), (15, .str y2), (17, .ptr hb1 hb1e (st1.2.1.toNat * Enc.w DFile + 0) 1)] hS (by kernel_rfl) ?_; intro s hS
      refine q_hstore (ents := []) (a := st1.2.2) (j := st1.2.1) (y := y3) (y' := ((⟨y2, y3.Lines, y3.Mode, y3.At⟩ : DFile) : DFile)) (off := 0) (c := [.str y3.Name, (Sl.t (y3.Lines : Sl ByteArray)), .int .i64 y3.Mode, .int .i64 y3.At]) (us := [.str y2]) (vs := [.str y2]) (v := .str y2) rfl hS hH hl_hb1 rfl rfl rfl (by kernel_rfl) (by kernel_rfl) rfl hy3 rfl (HL.leaf (fun σ d => hold_str _ σ d _) HL.nil) rfl (by kernel_rfl) ?_; intro σ s hH hS
      refine x_nil ?_
      refine sq_n ?_
      refine c_seq ?_
      refine c_region ?_
      refine q_seg 3 [(0, p0_1), (1, .int .i64 (IntKind.i64.wrap (st1.1 + 1))), (5, .int .i64 st1.2.1)] hS (by kernel_rfl) ?_; intro s hS
      refine x_nil ?_
      refine sq_n ?_
      refine c_seq ?_
      refine c_region ?_
      refine q_seg 2 [(0, p0_1), (1, .int .i64 (IntKind.i64.wrap (st1.1 + 1))), (5, .int .i64 st1.2.1), (20, p0_1), (21, .int .i64 st1.2.1)] hS (by kernel_rfl) ?_; intro s hS
      obtain ⟨y4, hy4, h⟩ := bind_some h
      refine q_hidx (a := (setS st1.2.2 st1.2.1 ((⟨y2, y3.Lines, y3.Mode, y3.At⟩ : DFile) : DFile))) (e := 52) (fun _ _ _ _ _ => trivial) rfl hS hH rfl rfl (by kernel_rfl) (by kernel_rfl) hy4 ?_; intro hb2 hb2e s hl_hb2 hS
      refine q_seg 1 [(0, p0_1), (1, .int .i64 (IntKind.i64.wrap (st1.1 + 1))), (5, .int .i64 st1.2.1), (23, .ptr hb2 hb2e (st1.2.1.toNat * Enc.w DFile + 1) 1)] hS (by kernel_rfl) ?_; intro s hS
      refine q_hlens (a := (setS st1.2.2 st1.2.1 ((⟨y2, y3.Lines, y3.Mode, y3.At⟩ : DFile) : DFile))) (j := st1.2.1) (y := y4) (off := 1) (c := [.str y4.Name, (Sl.t (y4.Lines : Sl ByteArray)), .int .i64 y4.Mode, .int .i64 y4.At]) (q := (y4.Lines : Sl ByteArray)) (fun _ _ _ _ _ => trivial) rfl hS hH hl_hb2 rfl hy4 rfl (by kernel_rfl) rfl rfl ?_; intro F1 σk1 t1 s ht1 hH hcl1 hcl1s hcl1p hcl1k hcl1f hS
      refine q_seg 1 [(0, p0_1), (5, .int .i64 st1.2.1), (24, t1), (25, .int .i64 (IntKind.i64.wrap (st1.1 + 1)))] hS (by kernel_rfl) ?_; intro s hS
      obtain ⟨y5, hy5, h⟩ := bind_some h
      refine q_callR (a := []) (b := []) (xs := [t1, .int .i64 (IntKind.i64.wrap (st1.1 + 1))]) (ents := [.own true 0 t1 (Sl.t (y4.Lines : Sl ByteArray))]) rfl hS rfl rfl hH (u_laws_markStringS y4.Lines (IntKind.i64.wrap (st1.1 + 1)) y5 hy5 0 t1) ?_; intro hs σ s hl hH hS
      have hH : Heap σ0 σ [.own true 0 t1 (Sl.t (y5.2 : Sl ByteArray)), .keep F1 σk1, .keep F σk] := hH
      refine q_seg 1 [(0, p0_1), (1, .int .i64 y5.1), (5, .int .i64 st1.2.1)] hS (by kernel_rfl) ?_; intro s hS
      have hH := hcl1 _ _ _ ((⟨y4.Name, y5.2, y4.Mode, y4.At⟩ : DFile) : DFile) rfl hH
      have hH : Heap σ0 σ [.own true wp0_1 p0_1 (Sl.t ((setS (setS st1.2.2 st1.2.1 ((⟨y2, y3.Lines, y3.Mode, y3.At⟩ : DFile) : DFile)) st1.2.1 ((⟨y4.Name, y5.2, y4.Mode, y4.At⟩ : DFile) : DFile)) : Sl DFile)), .keep F σk] := hH
      refine x_nil ?_
      refine sq_n ?_
      refine c_seq ?_
      refine c_region ?_
      refine q_seg 3 [(0, p0_1), (1, .int .i64 y5.1), (5, .int .i64 st1.2.1), (27, p0_1), (28, .int .i64 st1.2.1), (29, .int .i64 y5.1)] hS (by kernel_rfl) ?_; intro s hS
      obtain ⟨y6, hy6, h⟩ := bind_some h
      refine q_hidx (a := (setS (setS st1.2.2 st1.2.1 ((⟨y2, y3.Lines, y3.Mode, y3.At⟩ : DFile) : DFile)) st1.2.1 ((⟨y4.Name, y5.2, y4.Mode, y4.At⟩ : DFile) : DFile))) (e := 52) (fun _ _ _ _ _ => trivial) rfl hS hH rfl rfl (by kernel_rfl) (by kernel_rfl) hy6 ?_; intro hb3 hb3e s hl_hb3 hS
      refine q_seg 1 [(0, p0_1), (1, .int .i64 y5.1), (5, .int .i64 st1.2.1), (29, .int .i64 y5.1), (31, .ptr hb3 hb3e (st1.2.1.toNat * Enc.w DFile + 2) 1)] hS (by kernel_rfl) ?_; intro s hS
      refine q_hstore (ents := []) (a := (setS (setS st1.2.2 st1.2.1 ((⟨y2, y3.Lines, y3.Mode, y3.At⟩ : DFile) : DFile)) st1.2.1 ((⟨y4.Name, y5.2, y4.Mode, y4.At⟩ : DFile) : DFile))) (j := st1.2.1) (y := y6) (y' := ((⟨y6.Name, y6.Lines, y5.1, y6.At⟩ : DFile) : DFile)) (off := 2) (c := [.str y6.Name, (Sl.t (y6.Lines : Sl ByteArray)), .int .i64 y6.Mode, .int .i64 y6.At]) (us := [.int .i64 y5.1]) (vs := [.int .i64 y5.1]) (v := .int .i64 y5.1) rfl hS hH hl_hb3 rfl rfl rfl (by kernel_rfl) (by kernel_rfl) rfl hy6 rfl (HL.leaf (fun σ d => hold_int _ σ d _ _) HL.nil) rfl (by kernel_rfl) ?_; intro σ s hH hS
      refine x_nil ?_
      refine sq_n ?_
      refine c_seq ?_
      refine c_region ?_
      refine q_seg 3 [(0, p0_1), (1, .int .i64 (IntKind.i64.wrap (y5.1 + 1))), (5, .int .i64 st1.2.1)] hS (by kernel_rfl) ?_; intro s hS
      refine x_nil ?_
      refine sq_n ?_
      refine c_seq ?_
      refine c_region ?_
      refine q_seg 3 [(0, p0_1), (1, .int .i64 (IntKind.i64.wrap (y5.1 + 1))), (5, .int .i64 st1.2.1), (34, p0_1), (35, .int .i64 st1.2.1), (36, .int .i64 (IntKind.i64.wrap (y5.1 + 1)))] hS (by kernel_rfl) ?_; intro s hS
      obtain ⟨y7, hy7, h⟩ := bind_some h
      refine q_hidx (a := (setS ((setS (setS st1.2.2 st1.2.1 ((⟨y2, y3.Lines, y3.Mode, y3.At⟩ : DFile) : DFile)) st1.2.1 ((⟨y4.Name, y5.2, y4.Mode, y4.At⟩ : DFile) : DFile))) st1.2.1 ((⟨y6.Name, y6.Lines, y5.1, y6.At⟩ : DFile) : DFile))) (e := 52) (fun _ _ _ _ _ => trivial) rfl hS hH rfl rfl (by kernel_rfl) (by kernel_rfl) hy7 ?_; intro hb4 hb4e s hl_hb4 hS
      refine q_seg 1 [(0, p0_1), (1, .int .i64 (IntKind.i64.wrap (y5.1 + 1))), (5, .int .i64 st1.2.1), (36, .int .i64 (IntKind.i64.wrap (y5.1 + 1))), (38, .ptr hb4 hb4e (st1.2.1.toNat * Enc.w DFile + 3) 1)] hS (by kernel_rfl) ?_; intro s hS
      refine q_hstore (ents := []) (a := (setS ((setS (setS st1.2.2 st1.2.1 ((⟨y2, y3.Lines, y3.Mode, y3.At⟩ : DFile) : DFile)) st1.2.1 ((⟨y4.Name, y5.2, y4.Mode, y4.At⟩ : DFile) : DFile))) st1.2.1 ((⟨y6.Name, y6.Lines, y5.1, y6.At⟩ : DFile) : DFile))) (j := st1.2.1) (y := y7) (y' := ((⟨y7.Name, y7.Lines, y7.Mode, (IntKind.i64.wrap (y5.1 + 1))⟩ : DFile) : DFile)) (off := 3) (c := [.str y7.Name, (Sl.t (y7.Lines : Sl ByteArray)), .int .i64 y7.Mode, .int .i64 y7.At]) (us := [.int .i64 (IntKind.i64.wrap (y5.1 + 1))]) (vs := [.int .i64 (IntKind.i64.wrap (y5.1 + 1))]) (v := .int .i64 (IntKind.i64.wrap (y5.1 + 1))) rfl hS hH hl_hb4 rfl rfl rfl (by kernel_rfl) (by kernel_rfl) rfl hy7 rfl (HL.leaf (fun σ d => hold_int _ σ d _ _) HL.nil) rfl (by kernel_rfl) ?_; intro σ s hH hS
      refine x_nil ?_
      refine sq_n ?_
      refine c_region ?_
      refine q_seg 3 [(0, p0_1), (1, .int .i64 (IntKind.i64.wrap ((IntKind.i64.wrap (y5.1 + 1)) + 1))), (5, .int .i64 st1.2.1)] hS (by kernel_rfl) ?_; intro s hS
      refine x_nil ?_
      refine bk_n ?_
      refine sq_n ?_
      refine c_region ?_
      refine q_seg 3 [(0, p0_1), (1, .int .i64 (IntKind.i64.wrap ((IntKind.i64.wrap (y5.1 + 1)) + 1))), (5, .int .i64 (IntKind.i64.wrap (st1.2.1 + 1)))] hS (by kernel_rfl) ?_; intro s hS
      refine x_nil ?_
      injection h with h; subst h
      exact And.intro (sub_to hS (by kernel_rfl)) hH
    · have h := it_neg hc1 h
      refine c_cond hS rfl (fun hf => tt_absurd hc1 hf) (fun _ => ?_)
      refine c_exit ?_
      refine sq_x ?_
      injection h with h; subst h
      exact And.intro rfl (And.intro (sub_to hS (by kernel_rfl)) hH)
  · clear hS hH; intro e fr HF; obtain ⟨s, σ⟩ := fr
    obtain ⟨rfl, hS, hH⟩ := HF
    refine bk_e ?_
    refine sq_n ?_
    refine c_seq ?_
    refine c_region ?_
    refine q_seg 2 [(4, .int .i64 y1.1)] hS (by kernel_rfl) ?_; intro s hS
    refine x_nil ?_
    refine sq_n ?_
    refine c_ret ?_
    injection h with h; subst h
    exact end_M [] (r_tmp (v := .int .i64 y1.1) hS rfl r_nil) rfl rfl hH
end Go.Am
end
section
set_option maxRecDepth 100000
set_option maxHeartbeats 4000000
set_option linter.unusedVariables false
set_option linter.unusedSimpArgs false
namespace Go.Am
open Go.Proofs
noncomputable def B_laws_markConsole (a0 : DConsole) (a1 : Int) : Option (Int × DConsole) := ((B_laws_markStringS a0.Input a1).bind fun y1 => ((B_laws_markStringS a0.Output y1.1).bind fun y2 => ((B_laws_markFileS a0.Files y2.1).bind fun y3 => ((B_laws_markStringS a0.Trace y3.1).bind fun y4 => (some (y4.1, (⟨y1.2, a0.At, y2.2, y3.2, y4.2⟩ : DConsole)))))))
theorem u_laws_markConsole (a0 : DConsole) (a1 : Int) (r : (Int × DConsole)) (h : B_laws_markConsole a0 a1 = some r) (wp0_1 : Nat) (p0_1 : T) (wp0_2 : Nat) (p0_2 : T) (wp0_3 : Nat) (p0_3 : T) (wp0_4 : Nat) (p0_4 : T) : RawS Try.prog md ext 23 [.agg [p0_1, .int .i64 a0.At, p0_2, p0_3, p0_4], .int .i64 a1] 0 (fun hs => E_i64 r.1) [.own true wp0_1 p0_1 (Sl.t (a0.Input : Sl ByteArray)), .own true wp0_2 p0_2 (Sl.t (a0.Output : Sl ByteArray)), .own true wp0_3 p0_3 (Sl.t (a0.Files : Sl DFile)), .own true wp0_4 p0_4 (Sl.t (a0.Trace : Sl ByteArray))] (fun hs => [.own true wp0_1 p0_1 (Sl.t (r.2.Input : Sl ByteArray)), .own true wp0_2 p0_2 (Sl.t (r.2.Output : Sl ByteArray)), .own true wp0_3 p0_3 (Sl.t (r.2.Files : Sl DFile)), .own true wp0_4 p0_4 (Sl.t (r.2.Trace : Sl ByteArray))]) := by
  unfold B_laws_markConsole at h
  refine rawS_of rfl rfl ok_23 rfl ?_
  intro σ0 σ F σk s hS hH
  have hp0_1 : IsOne p0_1 := Heap.one hH
  have hp0_2 : IsOne p0_2 := Heap.one (hH.at 1 rfl)
  have hp0_3 : IsOne p0_3 := Heap.one (hH.at 2 rfl)
  have hp0_4 : IsOne p0_4 := Heap.one (hH.at 3 rfl)
  have hS := sub_to (L' := [(0, .agg [p0_1, .int .i64 a0.At, p0_2, p0_3, p0_4]), (1, .int .i64 a1)]) hS (by kernel_rfl)
  refine c_seq ?_
  refine c_region ?_
  refine q_box (v := .agg [p0_1, .int .i64 a0.At, p0_2, p0_3, p0_4]) (cs := [p0_1, .int .i64 a0.At, p0_2, p0_3, p0_4]) rfl hS hH rfl rfl (by simp [hp0_1.1, hp0_1.2, hp0_2.1, hp0_2.2, hp0_3.1, hp0_3.2, hp0_4.1, hp0_4.2]) ?_; intro b1 σ s hH hS
  refine q_seg 1 [(1, .int .i64 a1), (2, .ptr b1 0 0 5)] hS (by kernel_rfl) ?_; intro s hS
  refine x_nil ?_
  refine sq_n ?_
  refine c_seq ?_
  refine c_region ?_
  refine q_seg 1 [(1, .int .i64 a1), (2, .ptr b1 0 0 5), (5, .ptr b1 0 0 1)] hS (by kernel_rfl) ?_; intro s hS
  refine q_load (v := p0_1) 0 trivial rfl hS hH rfl rfl (by kernel_rfl) ?_; intro s hS
  refine q_seg 1 [(2, .ptr b1 0 0 5), (6, p0_1), (7, .int .i64 a1)] hS (by kernel_rfl) ?_; intro s hS
  have hH : Heap σ0 σ [.own true wp0_1 p0_1 (Sl.t (a0.Input : Sl ByteArray)), .box b1 [p0_1, .int .i64 a0.At, p0_2, p0_3, p0_4], .own true wp0_2 p0_2 (Sl.t (a0.Output : Sl ByteArray)), .own true wp0_3 p0_3 (Sl.t (a0.Files : Sl DFile)), .own true wp0_4 p0_4 (Sl.t (a0.Trace : Sl ByteArray)), .keep F σk] := hH.sel [1, 0, 2, 3, 4, 5] rfl (by kernel_rfl)
  obtain ⟨y1, hy1, h⟩ := bind_some h
  refine q_callR (a := []) (b := []) (xs := [p0_1, .int .i64 a1]) (ents := [.own true wp0_1 p0_1 (Sl.t (a0.Input : Sl ByteArray))]) rfl hS rfl rfl hH (u_laws_markStringS a0.Input a1 y1 hy1 wp0_1 p0_1) ?_; intro hs σ s hl hH hS
  have hH : Heap σ0 σ [.own true wp0_1 p0_1 (Sl.t (y1.2 : Sl ByteArray)), .box b1 [p0_1, .int .i64 a0.At, p0_2, p0_3, p0_4], .own true wp0_2 p0_2 (Sl.t (a0.Output : Sl ByteArray)), .own true wp0_3 p0_3 (Sl.t (a0.Files : Sl DFile)), .own true wp0_4 p0_4 (Sl.t (a0.Trace : Sl ByteArray)), .keep F σk] := hH
  refine q_seg 1 [(1, .int .i64 y1.1), (2, .ptr b1 0 0 5)] hS (by kernel_rfl) ?_; intro s hS
  refine x_nil ?_
  refine sq_n ?_
  refine c_seq ?_
  refine c_region ?_
  refine q_seg 1 [(1, .int .i64 y1.1), (2, .ptr b1 0 0 5), (9, .ptr b1 0 2 1)] hS (by kernel_rfl) ?_; intro s hS
  refine q_load (v := p0_2) 1 trivial rfl hS hH rfl rfl (by kernel_rfl) ?_; intro s hS
  refine q_seg 1 [(2, .ptr b1 0 0 5), (10, p0_2), (11, .int .i64 y1.1)] hS (by kernel_rfl) ?_; intro s hS
  have hH : Heap σ0 σ [.own true wp0_2 p0_2 (Sl.t (a0.Output : Sl ByteArray)), .own true wp0_1 p0_1 (Sl.t (y1.2 : Sl ByteArray)), .box b1 [p0_1, .int .i64 a0.At, p0_2, p0_3, p0_4], .own true wp0_3 p0_3 (Sl.t (a0.Files : Sl DFile)), .own true wp0_4 p0_4 (Sl.t (a0.Trace : Sl ByteArray)), .keep F σk] := hH.sel [2, 0, 1, 3, 4, 5] rfl (by kernel_rfl)
  obtain ⟨y2, hy2, h⟩ := bind_some h
  refine q_callR (a := []) (b := []) (xs := [p0_2, .int .i64 y1.1]) (ents := [.own true wp0_2 p0_2 (Sl.t (a0.Output : Sl ByteArray))]) rfl hS rfl rfl hH (u_laws_markStringS a0.Output y1.1 y2 hy2 wp0_2 p0_2) ?_; intro hs σ s hl hH hS
  have hH : Heap σ0 σ [.own true wp0_2 p0_2 (Sl.t (y2.2 : Sl ByteArray)), .own true wp0_1 p0_1 (Sl.t (y1.2 : Sl ByteArray)), .box b1 [p0_1, .int .i64 a0.At, p0_2, p0_3, p0_4], .own true wp0_3 p0_3 (Sl.t (a0.Files : Sl DFile)), .own true wp0_4 p0_4 (Sl.t (a0.Trace : Sl ByteArray)), .keep F σk] := hH
  refine q_seg 1 [(1, .int .i64 y2.1), (2, .ptr b1 0 0 5)] hS (by kernel_rfl) ?_; intro s hS
  refine x_nil ?_
  refine sq_n ?_
  refine c_seq ?_
  refine c_region ?_
  refine q_seg 1 [(1, .int .i64 y2.1), (2, .ptr b1 0 0 5), (13, .ptr b1 0 3 1)] hS (by kernel_rfl) ?_; intro s hS
  refine q_load (v := p0_3) 2 trivial rfl hS hH rfl rfl (by kernel_rfl) ?_; intro s hS
  refine q_seg 1 [(2, .ptr b1 0 0 5), (14, p0_3), (15, .int .i64 y2.1)] hS (by kernel_rfl) ?_; intro s hS
  have hH : Heap σ0 σ [.own true wp0_3 p0_3 (Sl.t (a0.Files : Sl DFile)), .own true wp0_2 p0_2 (Sl.t (y2.2 : Sl ByteArray)), .own true wp0_1 p0_1 (Sl.t (y1.2 : Sl ByteArray)), .box b1 [p0_1, .int .i64 a0.At, p0_2, p0_3, p0_4], .own true wp0_4 p0_4 (Sl.t (a0.Trace : Sl ByteArray)), .keep F σk] := hH.sel [3, 0, 1, 2, 4, 5] rfl (by kernel_rfl)
  obtain ⟨y3, hy3, h⟩ := bind_some h
  refine q_callR (a := []) (b := []) (xs := [p0_3, .int .i64 y2.1]) (ents := [.own true wp0_3 p0_3 (Sl.t (a0.Files : Sl DFile))]) rfl hS rfl rfl hH (u_laws_markFileS a0.Files y2.1 y3 hy3 wp0_3 p0_3) ?_; intro hs σ s hl hH hS
  have hH : Heap σ0 σ [.own true wp0_3 p0_3 (Sl.t (y3.2 : Sl DFile)), .own true wp0_2 p0_2 (Sl.t (y2.2 : Sl ByteArray)), .own true wp0_1 p0_1 (Sl.t (y1.2 : Sl ByteArray)), .box b1 [p0_1, .int .i64 a0.At, p0_2, p0_3, p0_4], .own true wp0_4 p0_4 (Sl.t (a0.Trace : Sl ByteArray)), .keep F σk] := hH
  refine q_seg 1 [(1, .int .i64 y3.1), (2, .ptr b1 0 0 5)] hS (by kernel_rfl) ?_; intro s hS
  refine x_nil ?_
  refine sq_n ?_
  refine c_seq ?_
  refine c_region ?_
  refine q_seg 1 [(1, .int .i64 y3.1), (17, .ptr b1 0 4 1)] hS (by kernel_rfl) ?_; intro s hS
  refine q_load (v := p0_4) 3 trivial rfl hS hH rfl rfl (by kernel_rfl) ?_; intro s hS
  refine q_seg 1 [(18, p0_4), (19, .int .i64 y3.1)] hS (by kernel_rfl) ?_; intro s hS
  have hH : Heap σ0 σ [.own true wp0_4 p0_4 (Sl.t (a0.Trace : Sl ByteArray)), .own true wp0_3 p0_3 (Sl.t (y3.2 : Sl DFile)), .own true wp0_2 p0_2 (Sl.t (y2.2 : Sl ByteArray)), .own true wp0_1 p0_1 (Sl.t (y1.2 : Sl ByteArray)), .box b1 [p0_1, .int .i64 a0.At, p0_2, p0_3, p0_4], .keep F σk] := hH.sel [4, 0, 1, 2, 3, 5] rfl (by kernel_rfl)
  obtain ⟨y4, hy4, h⟩ := bind_some h
  refine q_callR (a := []) (b := []) (xs := [p0_4, .int .i64 y3.1]) (ents := [.own true wp0_4 p0_4 (Sl.t (a0.Trace : Sl ByteArray))]) rfl hS rfl rfl hH (u_laws_markStringS a0.Trace y3.1 y4 hy4 wp0_4 p0_4) ?_; intro hs σ s hl hH hS
  have hH : Heap σ0 σ [.own true wp0_4 p0_4 (Sl.t (y4.2 : Sl ByteArray)), .own true wp0_3 p0_3 (Sl.t (y3.2 : Sl DFile)), .own true wp0_2 p0_2 (Sl.t (y2.2 : Sl ByteArray)), .own true wp0_1 p0_1 (Sl.t (y1.2 : Sl ByteArray)), .box b1 [p0_1, .int .i64 a0.At, p0_2, p0_3, p0_4], .keep F σk] := hH
  refine q_seg 1 [(1, .int .i64 y4.1)] hS (by kernel_rfl) ?_; intro s hS
  refine x_nil ?_
  refine sq_n ?_
  refine c_seq ?_
  refine c_region ?_
  refine q_seg 2 [(4, .int .i64 y4.1)] hS (by kernel_rfl) ?_; intro s hS
  refine x_nil ?_
  refine sq_n ?_
  refine c_ret ?_
  injection h with h; subst h
  exact end_M [] (r_tmp (v := .int .i64 y4.1) hS rfl r_nil) rfl rfl (Heap.sel hH [3, 2, 1, 0, 5] rfl (by kernel_rfl))
end Go.Am
end
