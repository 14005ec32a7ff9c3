/- Functions of the program. -/
import Derived.Test.YtibhahlikgiegaaAd0
section
set_option maxRecDepth 100000
set_option maxHeartbeats 4000000
set_option linter.unusedVariables false
set_option linter.unusedSimpArgs false
namespace Go.Am
open Go.Proofs
noncomputable def B_laws_toStringS (a0 : (Sl ByteArray)) : Option (Sl ByteArray) := ((mkS 16 (⟨#[]⟩ : ByteArray) (a0.l.length : Int) (a0.l.length : Int)).bind fun y1 => ((loopO (S := (Int × (Sl ByteArray))) (R := (Sl ByteArray)) (fun st1 => (if (decide (st1.1 < (a0.l.length : Int))) = true then ((elt a0 st1.1).bind fun y3 => ((elt st1.2 st1.1).bind fun y4 => (some (.inl ((IntKind.i64.wrap (st1.1 + 1)), (setS st1.2 st1.1 (y3 : ByteArray))))))) else (some (.inr st1.2)))) (0, y1)).bind fun y2 => (some y2)))
theorem u_laws_toStringS (a0 : (Sl ByteArray)) (r : (Sl ByteArray)) (h : B_laws_toStringS a0 = some r) : F_laws_toStringS a0 = some r := by
  unfold B_laws_toStringS at h
  refine semO_of rfl rfl ok_50 rfl (all_cons (by kernel_rfl) all_nil) ?_
  intro σ0 s hS hH
  have hS := sub_to (L' := [(0, (Sl.t (a0 : Sl ByteArray)))]) hS (by kernel_rfl)
  refine c_seq ?_
  refine c_region ?_
  refine q_seg 1 [(0, (Sl.t (a0 : Sl ByteArray)))] hS (by kernel_rfl) ?_; intro s hS
  refine x_nil ?_
  refine sq_n ?_
  refine c_seq ?_
  refine c_region ?_
  refine q_seg 2 [(0, (Sl.t (a0 : Sl ByteArray))), (6, .int .i64 (a0.l.length : Int))] hS (by kernel_rfl) ?_; intro s hS
  obtain ⟨y1, hy1, h⟩ := bind_some h
  refine q_make (z := true) (e := 9) (by_ := 16) (x0 := (⟨#[]⟩ : ByteArray)) (fun σ d => by simp [Enc.cells, hold_str, Iv]) rfl hS hH rfl rfl (by kernel_rfl) (by kernel_rfl) (by kernel_rfl) (by kernel_rfl) rfl hy1 ?_; intro t1 σ s ht1 hH hS
  refine q_seg 1 [(0, (Sl.t (a0 : Sl ByteArray))), (3, t1)] hS (by kernel_rfl) ?_; intro s hS
  refine x_nil ?_
  refine sq_n ?_
  refine c_seq ?_
  refine c_seq ?_
  refine c_region ?_
  refine q_seg 1 [(0, (Sl.t (a0 : Sl ByteArray))), (3, t1), (4, .int .i64 0)] hS (by kernel_rfl) ?_; intro s hS
  refine x_nil ?_
  refine sq_n ?_
  refine c_block ?_
  obtain ⟨y2, hy2, h⟩ := bind_some h
  refine c_loop (fun (st1 : (Int × (Sl ByteArray))) (fr : Fr) => Sub [(0, (Sl.t (a0 : Sl ByteArray))), (3, t1), (4, .int .i64 st1.1)] fr.s ∧ Heap σ0 fr.σ [.own true 1 t1 (Sl.t (st1.2 : Sl ByteArray))]) (fun (y2 : (Sl ByteArray)) (e : AExit) (fr : Fr) => e = (.exit 0) ∧ Sub [(3, t1)] fr.s ∧ Heap σ0 fr.σ [.own true 1 t1 (Sl.t (y2 : Sl ByteArray))]) hy2 (And.intro (sub_to hS (by kernel_rfl)) hH) ?_ ?_
  · clear h hy2 hS hH; clear y2; intro st1 x fr h HI; obtain ⟨s, σ⟩ := fr; obtain ⟨hS, hH⟩ := HI
    refine c_seq ?_
    refine c_seq ?_
    refine c_region ?_
    refine q_seg 4 [(0, (Sl.t (a0 : Sl ByteArray))), (3, t1), (4, .int .i64 st1.1), (11, .bool (decide (st1.1 < (a0.l.length : Int))))] hS (by kernel_rfl) ?_; intro s hS
    refine x_nil ?_
    refine sq_n ?_
    by_cases hc1 : (decide (st1.1 < (a0.l.length : Int))) = true
    · have h := it_pos hc1 h
      refine c_cond hS rfl (fun _ => ?_) (fun hf => ff_absurd hc1 hf)
      refine c_skip ?_
      refine sq_n ?_
      refine c_seq ?_
      refine c_block ?_
      refine c_region ?_
      refine q_seg 4 [(0, (Sl.t (a0 : Sl ByteArray))), (3, t1), (4, .int .i64 st1.1), (14, t1), (15, .int .i64 st1.1), (16, (Sl.t (a0 : Sl ByteArray))), (17, .int .i64 st1.1)] hS (by kernel_rfl) ?_; intro s hS
      obtain ⟨y3, hy3, h⟩ := bind_some h
      refine q_elt (sl := a0) (e := 9) [.str y3] rfl hS rfl rfl (by kernel_rfl) (by kernel_rfl) hy3 rfl ?_; intro rest1 s hS
      refine q_seg 1 [(0, (Sl.t (a0 : Sl ByteArray))), (3, t1), (4, .int .i64 st1.1), (14, t1), (15, .int .i64 st1.1), (19, .str y3)] hS (by kernel_rfl) ?_; intro s hS
      obtain ⟨y4, hy4, h⟩ := bind_some h
      refine q_hidx (a := st1.2) (e := 9) (fun _ _ _ _ _ => trivial) rfl hS hH rfl rfl (by kernel_rfl) (by kernel_rfl) hy4 ?_; intro hb1 hb1e s hl_hb1 hS
      refine q_hstore (ents := []) (a := st1.2) (j := st1.1) (y := y4) (y' := (y3 : ByteArray)) (off := 0) (c := [.str y4]) (us := [.str y3]) (vs := [.str y3]) (v := .str y3) rfl hS hH hl_hb1 rfl rfl rfl (by kernel_rfl) (by kernel_rfl) rfl hy4 rfl (HL.leaf (fun σ d => hold_str _ σ d _) HL.nil) rfl (by kernel_rfl) ?_; intro σ s hH hS
      refine x_nil ?_
      refine bk_n ?_
      refine sq_n ?_
      refine c_region ?_
      refine q_seg 3 [(0, (Sl.t (a0 : Sl ByteArray))), (3, t1), (4, .int .i64 (IntKind.i64.wrap (st1.1 + 1)))] hS (by kernel_rfl) ?_; intro s hS
      refine x_nil ?_
      injection h with h; subst h
      exact And.intro (sub_to hS (by kernel_rfl)) hH
    · have h := it_neg hc1 h
      refine c_cond hS rfl (fun hf => tt_absurd hc1 hf) (fun _ => ?_)
      refine c_exit ?_
      refine sq_x ?_
      injection h with h; subst h
      exact And.intro rfl (And.intro (sub_to hS (by kernel_rfl)) hH)
  · clear hS hH; intro e fr HF; obtain ⟨s, σ⟩ := fr
    obtain ⟨rfl, hS, hH⟩ := HF
    refine bk_e ?_
    refine sq_n ?_
    refine c_seq ?_
    refine c_region ?_
    refine q_seg 2 [(2, t1)] hS (by kernel_rfl) ?_; intro s hS
    refine x_nil ?_
    refine sq_n ?_
    refine c_ret ?_
    injection h with h; subst h
    exact end_Ow [t1] [] (r_tmp (v := t1) hS rfl r_nil) (by kernel_rfl) rfl hH (by kernel_rfl)
end Go.Am
end
section
set_option maxRecDepth 100000
set_option maxHeartbeats 4000000
set_option linter.unusedVariables false
set_option linter.unusedSimpArgs false
namespace Go.Am
open Go.Proofs
noncomputable def B_laws_toFileS (a0 : (Sl DFile)) : Option (Sl DFile) := ((mkS 56 ((⟨⟨#[]⟩, ⟨true, []⟩, 0, 0⟩ : DFile) : DFile) (a0.l.length : Int) (a0.l.length : Int)).bind fun y1 => ((loopO (S := (Int × (Sl DFile))) (R := (Sl DFile)) (fun st1 => (if (decide (st1.1 < (a0.l.length : Int))) = true then ((elt a0 st1.1).bind fun y3 => ((F_laws_toFile y3).bind fun y4 => ((elt st1.2 st1.1).bind fun y5 => (some (.inl ((IntKind.i64.wrap (st1.1 + 1)), (setS st1.2 st1.1 (y4 : DFile)))))))) else (some (.inr st1.2)))) (0, y1)).bind fun y2 => (some y2)))
theorem u_laws_toFileS (a0 : (Sl DFile)) (r : (Sl DFile)) (h : B_laws_toFileS a0 = some r) : F_laws_toFileS a0 = some r := by
  unfold B_laws_toFileS at h
  refine semO_of rfl rfl ok_51 rfl (all_cons (by kernel_rfl) all_nil) ?_
  intro σ0 s hS hH
  have hS := sub_to (L' := [(0, (Sl.t (a0 : Sl DFile)))]) hS (by kernel_rfl)
  refine c_seq ?_
  refine c_region ?_
  refine q_seg 1 [(0, (Sl.t (a0 : Sl DFile)))] hS (by kernel_rfl) ?_; intro s hS
  refine x_nil ?_
  refine sq_n ?_
  refine c_seq ?_
  refine c_region ?_
  refine q_seg 2 [(0, (Sl.t (a0 : Sl DFile))), (6, .int .i64 (a0.l.length : Int))] hS (by kernel_rfl) ?_; intro s hS
  obtain ⟨y1, hy1, h⟩ := bind_some h
  refine q_make (z := true) (e := 52) (by_ := 56) (x0 := ((⟨⟨#[]⟩, ⟨true, []⟩, 0, 0⟩ : DFile) : DFile)) (fun σ d => by simp [Enc.cells, DFile.cells, Iv]) rfl hS hH rfl rfl (by kernel_rfl) (by kernel_rfl) (by kernel_rfl) (by kernel_rfl) rfl hy1 ?_; intro t1 σ s ht1 hH hS
  refine q_seg 1 [(0, (Sl.t (a0 : Sl DFile))), (3, t1)] hS (by kernel_rfl) ?_; intro s hS
  refine x_nil ?_
  refine sq_n ?_
  refine c_seq ?_
  refine c_seq ?_
  refine c_region ?_
  refine q_seg 1 [(0, (Sl.t (a0 : Sl DFile))), (3, t1), (4, .int .i64 0)] hS (by kernel_rfl) ?_; intro s hS
  refine x_nil ?_
  refine sq_n ?_
  refine c_block ?_
  obtain ⟨y2, hy2, h⟩ := bind_some h
  refine c_loop (fun (st1 : (Int × (Sl DFile))) (fr : Fr) => Sub [(0, (Sl.t (a0 : Sl DFile))), (3, t1), (4, .int .i64 st1.1)] fr.s ∧ Heap σ0 fr.σ [.own true 4 t1 (Sl.t (st1.2 : Sl DFile))]) (fun (y2 : (Sl DFile)) (e : AExit) (fr : Fr) => e = (.exit 0) ∧ Sub [(3, t1)] fr.s ∧ Heap σ0 fr.σ [.own true 4 t1 (Sl.t (y2 : Sl DFile))]) hy2 (And.intro (sub_to hS (by kernel_rfl)) hH) ?_ ?_
  · clear h hy2 hS hH; clear y2; intro st1 x fr h HI; obtain ⟨s, σ⟩ := fr; obtain ⟨hS, hH⟩ := HI
    refine c_seq ?_
    refine c_seq ?_
    refine c_region ?_
    refine q_seg 4 [(0, (Sl.t (a0 : Sl DFile))), (3, t1), (4, .int .i64 st1.1), (11, .bool (decide (st1.1 < (a0.l.length : Int))))] hS (by kernel_rfl) ?_; intro s hS
    refine x_nil ?_
    refine sq_n ?_
    by_cases hc1 : (decide (st1.1 < (a0.l.length : Int))) = true
    · have h := it_pos hc1 h
      refine c_cond hS rfl (fun _ => ?_) (fun hf => ff_absurd hc1 hf)
      refine c_skip ?_
      refine sq_n ?_
      refine c_seq ?_
      refine c_block ?_
      refine c_region ?_
      refine q_seg 4 [(0, (Sl.t (a0 : Sl DFile))), (3, t1), (4, .int .i64 st1.1), (14, t1), (15, .int .i64 st1.1), (16, (Sl.t (a0 : Sl DFile))), (17, .int .i64 st1.1)] hS (by kernel_rfl) ?_; intro s hS
      obtain ⟨y3, hy3, h⟩ := bind_some h
      refine q_elt (sl := a0) (e := 104) [.str y3.Name, (Sl.t (y3.Lines : Sl ByteArray)), .int .i64 y3.Mode, .int .i64 y3.At] rfl hS rfl rfl (by kernel_rfl) (by kernel_rfl) hy3 rfl ?_; intro rest1 s hS
      refine q_seg 1 [(0, (Sl.t (a0 : Sl DFile))), (3, t1), (4, .int .i64 st1.1), (14, t1), (15, .int .i64 st1.1), (19, .agg (DFile.cells y3))] hS (by kernel_rfl) ?_; intro s hS
      obtain ⟨y4, hy4, h⟩ := bind_some h
      refine q_callO (ents := []) (z := false) (ts := [.agg (DFile.cells y3)]) (vs := [.agg (DFile.cells y3)]) rfl rfl hS rfl rfl rfl hH (HL.agg (es1 := []) (es2 := []) (HL.leaf (fun σ d => hold_str _ σ d _) (HL.leaf (fun σ d => hold_pure σ d _) (HL.leaf (fun σ d => hold_int _ σ d _ _) (HL.leaf (fun σ d => hold_int _ σ d _ _) HL.nil)))) HL.nil) hy4 ?_; intro hs σ s hl hH hS
      obtain ⟨t2, rfl⟩ := len1 hl
      have hH : Heap σ0 σ [.own true 1 t2 (Sl.t (y4.Lines : Sl ByteArray)), .own true 4 t1 (Sl.t (st1.2 : Sl DFile))] := hH
      have ht2 : IsOne t2 := Heap.one hH
      have hH : Heap σ0 σ [.own true 4 t1 (Sl.t (st1.2 : Sl DFile)), .own true 1 t2 (Sl.t (y4.Lines : Sl ByteArray))] := hH.sel [1, 0] rfl (by kernel_rfl)
      obtain ⟨y5, hy5, h⟩ := bind_some h
      refine q_hidx (a := st1.2) (e := 52) (fun _ _ _ _ _ => trivial) rfl hS hH rfl rfl (by kernel_rfl) (by kernel_rfl) hy5 ?_; intro hb1 hb1e s hl_hb1 hS
      refine q_hstore (ents := [.own true 1 t2 (Sl.t (y4.Lines : Sl ByteArray))]) (a := st1.2) (j := st1.1) (y := y5) (y' := (y4 : DFile)) (off := 0) (c := [.str y5.Name, (Sl.t (y5.Lines : Sl ByteArray)), .int .i64 y5.Mode, .int .i64 y5.At]) (us := [.str y4.Name, t2, .int .i64 y4.Mode, .int .i64 y4.At]) (vs := [.str y4.Name, (Sl.t (y4.Lines : Sl ByteArray)), .int .i64 y4.Mode, .int .i64 y4.At]) (v := .agg [.str y4.Name, t2, .int .i64 y4.Mode, .int .i64 y4.At]) rfl hS hH hl_hb1 rfl rfl rfl (by simp [ht2.1, ht2.2]) (by kernel_rfl) rfl hy5 rfl (HL.leaf (fun σ d => hold_str _ σ d _) (HL.own rfl (HL.leaf (fun σ d => hold_int _ σ d _ _) (HL.leaf (fun σ d => hold_int _ σ d _ _) HL.nil)))) rfl (by kernel_rfl) ?_; intro σ s hH hS
      refine x_nil ?_
      refine bk_n ?_
      refine sq_n ?_
      refine c_region ?_
      refine q_seg 3 [(0, (Sl.t (a0 : Sl DFile))), (3, t1), (4, .int .i64 (IntKind.i64.wrap (st1.1 + 1)))] hS (by kernel_rfl) ?_; intro s hS
      refine x_nil ?_
      injection h with h; subst h
      exact And.intro (sub_to hS (by kernel_rfl)) hH
    · have h := it_neg hc1 h
      refine c_cond hS rfl (fun hf => tt_absurd hc1 hf) (fun _ => ?_)
      refine c_exit ?_
      refine sq_x ?_
      injection h with h; subst h
      exact And.intro rfl (And.intro (sub_to hS (by kernel_rfl)) hH)
  · clear hS hH; intro e fr HF; obtain ⟨s, σ⟩ := fr
    obtain ⟨rfl, hS, hH⟩ := HF
    refine bk_e ?_
    refine sq_n ?_
    refine c_seq ?_
    refine c_region ?_
    refine q_seg 2 [(2, t1)] hS (by kernel_rfl) ?_; intro s hS
    refine x_nil ?_
    refine sq_n ?_
    refine c_ret ?_
    injection h with h; subst h
    exact end_Ow [t1] [] (r_tmp (v := t1) hS rfl r_nil) (by kernel_rfl) rfl hH (by kernel_rfl)
end Go.Am
end
section
set_option maxRecDepth 100000
set_option maxHeartbeats 4000000
set_option linter.unusedVariables false
set_option linter.unusedSimpArgs false
namespace Go.Am
open Go.Proofs
noncomputable def B_laws_eqStringS (a0 : (Sl ByteArray)) (a1 : (Sl ByteArray)) : Option Bool := (if ((!decide ((a0.l.length : Int) = (a1.l.length : Int)))) = true then (some false) else ((loopO (S := Int) (R := (Unit ⊕ Bool)) (fun st1 => (if (decide (st1 < (a0.l.length : Int))) = true then ((elt a0 st1).bind fun y2 => ((elt a1 st1).bind fun y3 => (if (!decide (y2 = y3)) = true then (some (.inr (.inr false))) else (some (.inl (IntKind.i64.wrap (st1 + 1))))))) else (some (.inr (.inl ()))))) 0).bind fun y1 => (Sum.elim (fun y1 => (some true)) (fun y1 => (some y1)) y1)))
theorem u_laws_eqStringS (a0 : (Sl ByteArray)) (a1 : (Sl ByteArray)) (r : Bool) (h : B_laws_eqStringS a0 a1 = some r) : F_laws_eqStringS a0 a1 = some r := by
  unfold B_laws_eqStringS at h
  refine semW_of E_bool_inj rfl rfl ok_52 rfl (all_cons (by kernel_rfl) (all_cons (by kernel_rfl) all_nil)) ?_
  intro σ0 s hS hH
  have hS := sub_to (L' := [(0, (Sl.t (a0 : Sl ByteArray))), (1, (Sl.t (a1 : Sl ByteArray)))]) hS (by kernel_rfl)
  refine c_seq ?_
  refine c_region ?_
  refine q_seg 1 [(0, (Sl.t (a0 : Sl ByteArray))), (1, (Sl.t (a1 : Sl ByteArray)))] hS (by kernel_rfl) ?_; intro s hS
  refine x_nil ?_
  refine sq_n ?_
  refine c_seq ?_
  refine c_seq ?_
  refine c_region ?_
  refine q_seg 5 [(0, (Sl.t (a0 : Sl ByteArray))), (1, (Sl.t (a1 : Sl ByteArray))), (10, .bool ((!decide ((a0.l.length : Int) = (a1.l.length : Int)))))] hS (by kernel_rfl) ?_; intro s hS
  refine x_nil ?_
  refine sq_n ?_
  by_cases hc1 : ((!decide ((a0.l.length : Int) = (a1.l.length : Int)))) = true
  · have h := it_pos hc1 h
    refine c_cond hS rfl (fun _ => ?_) (fun hf => ff_absurd hc1 hf)
    refine c_seq ?_
    refine c_region ?_
    refine q_seg 1 [(4, .bool false)] hS (by kernel_rfl) ?_; intro s hS
    refine x_nil ?_
    refine sq_n ?_
    refine c_ret ?_
    refine sq_r ?_
    injection h with h; subst h
    exact end_W hH (r_tmp (v := .bool false) hS rfl r_nil) rfl (by kernel_rfl) (by simp [pureT, pureL, E_bool])
  · have h := it_neg hc1 h
    refine c_cond hS rfl (fun hf => tt_absurd hc1 hf) (fun _ => ?_)
    refine c_skip ?_
    refine sq_n ?_
    refine c_seq ?_
    refine c_seq ?_
    refine c_region ?_
    refine q_seg 1 [(0, (Sl.t (a0 : Sl ByteArray))), (1, (Sl.t (a1 : Sl ByteArray))), (5, .int .i64 0)] hS (by kernel_rfl) ?_; intro s hS
    refine x_nil ?_
    refine sq_n ?_
    refine c_block ?_
    obtain ⟨y1, hy1, h⟩ := bind_some h
    refine c_loop (fun (st1 : Int) (fr : Fr) => Sub [(0, (Sl.t (a0 : Sl ByteArray))), (1, (Sl.t (a1 : Sl ByteArray))), (5, .int .i64 st1)] fr.s ∧ Heap σ0 fr.σ []) (fun (y1 : (Unit ⊕ Bool)) (e : AExit) (fr : Fr) => (Sum.elim (fun y => e = (.exit 0) ∧ Sub [] fr.s ∧ Heap σ0 fr.σ []) (fun y => e = .ret ∧ endW Try.prog (Try.f52.results.toList) σ0 (E_bool y) .ret fr)) y1) hy1 (And.intro (sub_to hS (by kernel_rfl)) hH) ?_ ?_
    · clear h hy1 hS hH; clear y1; intro st1 x fr h HI; obtain ⟨s, σ⟩ := fr; obtain ⟨hS, hH⟩ := HI
      refine c_seq ?_
      refine c_seq ?_
      refine c_region ?_
      refine q_seg 4 [(0, (Sl.t (a0 : Sl ByteArray))), (1, (Sl.t (a1 : Sl ByteArray))), (5, .int .i64 st1), (14, .bool (decide (st1 < (a0.l.length : Int))))] hS (by kernel_rfl) ?_; intro s hS
      refine x_nil ?_
      refine sq_n ?_
      by_cases hc2 : (decide (st1 < (a0.l.length : Int))) = true
      · have h := it_pos hc2 h
        refine c_cond hS rfl (fun _ => ?_) (fun hf => ff_absurd hc2 hf)
        refine c_skip ?_
        refine sq_n ?_
        refine c_seq ?_
        refine c_block ?_
        refine c_seq ?_
        refine c_draw (by kernel_rfl) hH ?_; intro mb σ hH
        refine q_seg 2 [(0, (Sl.t (a0 : Sl ByteArray))), (1, (Sl.t (a1 : Sl ByteArray))), (5, .int .i64 st1), (17, (Sl.t (a0 : Sl ByteArray))), (18, .int .i64 st1)] hS (by kernel_rfl) ?_; intro s hS
        obtain ⟨y2, hy2, h⟩ := bind_some h
        refine q_elt (sl := a0) (e := 9) [.str y2] rfl hS rfl rfl (by kernel_rfl) (by kernel_rfl) hy2 rfl ?_; intro rest1 s hS
        refine q_seg 3 [(0, (Sl.t (a0 : Sl ByteArray))), (1, (Sl.t (a1 : Sl ByteArray))), (5, .int .i64 st1), (20, .str y2), (21, (Sl.t (a1 : Sl ByteArray))), (22, .int .i64 st1)] hS (by kernel_rfl) ?_; intro s hS
        obtain ⟨y3, hy3, h⟩ := bind_some h
        refine q_elt (sl := a1) (e := 9) [.str y3] rfl hS rfl rfl (by kernel_rfl) (by kernel_rfl) hy3 rfl ?_; intro rest2 s hS
        refine q_seg 2 [(0, (Sl.t (a0 : Sl ByteArray))), (1, (Sl.t (a1 : Sl ByteArray))), (5, .int .i64 st1), (25, .bool (!decide (y2 = y3)))] hS (by kernel_rfl) ?_; intro s hS
        refine x_nil ?_
        refine sq_n ?_
        by_cases hc3 : (!decide (y2 = y3)) = true
        · have h := it_pos hc3 h
          refine c_cond hS rfl (fun _ => ?_) (fun hf => ff_absurd hc3 hf)
          refine c_seq ?_
          refine c_region ?_
          refine q_seg 1 [(4, .bool false)] hS (by kernel_rfl) ?_; intro s hS
          refine x_nil ?_
          refine sq_n ?_
          refine c_ret ?_
          refine bk_r ?_
          refine sq_r ?_
          injection h with h; subst h
          exact And.intro rfl (end_W hH (r_tmp (v := .bool false) hS rfl r_nil) rfl (by kernel_rfl) (by simp [pureT, pureL, E_bool]))
        · have h := it_neg hc3 h
          refine c_cond hS rfl (fun hf => tt_absurd hc3 hf) (fun _ => ?_)
          refine c_skip ?_
          refine bk_n ?_
          refine sq_n ?_
          refine c_region ?_
          refine q_seg 3 [(0, (Sl.t (a0 : Sl ByteArray))), (1, (Sl.t (a1 : Sl ByteArray))), (5, .int .i64 (IntKind.i64.wrap (st1 + 1)))] hS (by kernel_rfl) ?_; intro s hS
          refine x_nil ?_
          injection h with h; subst h
          exact And.intro (sub_to hS (by kernel_rfl)) hH
      · have h := it_neg hc2 h
        refine c_cond hS rfl (fun hf => tt_absurd hc2 hf) (fun _ => ?_)
        refine c_exit ?_
        refine sq_x ?_
        injection h with h; subst h
        exact And.intro rfl (And.intro (sub_to hS (by kernel_rfl)) hH)
    · clear hS hH; intro e fr HF; obtain ⟨s, σ⟩ := fr
      rcases y1 with y1 | y1
      · obtain ⟨rfl, hS, hH⟩ := HF
        refine bk_e ?_
        refine sq_n ?_
        refine c_seq ?_
        refine c_region ?_
        refine q_seg 1 [(4, .bool true)] hS (by kernel_rfl) ?_; intro s hS
        refine x_nil ?_
        refine sq_n ?_
        refine c_ret ?_
        injection h with h; subst h
        exact end_W hH (r_tmp (v := .bool true) hS rfl r_nil) rfl (by kernel_rfl) (by simp [pureT, pureL, E_bool])
      · obtain ⟨rfl, HE⟩ := HF
        refine bk_r ?_
        refine sq_r ?_
        injection h with h; subst h; exact HE
end Go.Am
end
section
set_option maxRecDepth 100000
set_option maxHeartbeats 4000000
set_option linter.unusedVariables false
set_option linter.unusedSimpArgs false
namespace Go.Am
open Go.Proofs
noncomputable def B_laws_eqFileS (a0 : (Sl DFile)) (a1 : (Sl DFile)) : Option Bool := (if ((!decide ((a0.l.length : Int) = (a1.l.length : Int)))) = true then (some false) else ((loopO (S := Int) (R := (Unit ⊕ Bool)) (fun st1 => (if (decide (st1 < (a0.l.length : Int))) = true then ((elt a0 st1).bind fun y2 => ((elt a1 st1).bind fun y3 => ((F_laws_eqFile y2 y3).bind fun y4 => (if (!y4) = true then (some (.inr (.inr false))) else (some (.inl (IntKind.i64.wrap (st1 + 1)))))))) else (some (.inr (.inl ()))))) 0).bind fun y1 => (Sum.elim (fun y1 => (some true)) (fun y1 => (some y1)) y1)))
theorem u_laws_eqFileS (a0 : (Sl DFile)) (a1 : (Sl DFile)) (r : Bool) (h : B_laws_eqFileS a0 a1 = some r) : F_laws_eqFileS a0 a1 = some r := by
  unfold B_laws_eqFileS at h
  refine semW_of E_bool_inj rfl rfl ok_53 rfl (all_cons (by kernel_rfl) (all_cons (by kernel_rfl) all_nil)) ?_
  intro σ0 s hS hH
  have hS := sub_to (L' := [(0, (Sl.t (a0 : Sl DFile))), (1, (Sl.t (a1 : Sl DFile)))]) hS (by kernel_rfl)
  refine c_seq ?_
  refine c_region ?_
  refine q_seg 1 [(0, (Sl.t (a0 : Sl DFile))), (1, (Sl.t (a1 : Sl DFile)))] hS (by kernel_rfl) ?_; intro s hS
  refine x_nil ?_
  refine sq_n ?_
  refine c_seq ?_
  refine c_seq ?_
  refine c_region ?_
  refine q_seg 5 [(0, (Sl.t (a0 : Sl DFile))), (1, (Sl.t (a1 : Sl DFile))), (10, .bool ((!decide ((a0.l.length : Int) = (a1.l.length : Int)))))] hS (by kernel_rfl) ?_; intro s hS
  refine x_nil ?_
  refine sq_n ?_
  by_cases hc1 : ((!decide ((a0.l.length : Int) = (a1.l.length : Int)))) = true
  · have h := it_pos hc1 h
    refine c_cond hS rfl (fun _ => ?_) (fun hf => ff_absurd hc1 hf)
    refine c_seq ?_
    refine c_region ?_
    refine q_seg 1 [(4, .bool false)] hS (by kernel_rfl) ?_; intro s hS
    refine x_nil ?_
    refine sq_n ?_
    refine c_ret ?_
    refine sq_r ?_
    injection h with h; subst h
    exact end_W hH (r_tmp (v := .bool false) hS rfl r_nil) rfl (by kernel_rfl) (by simp [pureT, pureL, E_bool])
  · have h := it_neg hc1 h
    refine c_cond hS rfl (fun hf => tt_absurd hc1 hf) (fun _ => ?_)
    refine c_skip ?_
    refine sq_n ?_
    refine c_seq ?_
    refine c_seq ?_
    refine c_region ?_
    refine q_seg 1 [(0, (Sl.t (a0 : Sl DFile))), (1, (Sl.t (a1 : Sl DFile))), (5, .int .i64 0)] hS (by kernel_rfl) ?_; intro s hS
    refine x_nil ?_
    refine sq_n ?_
    refine c_block ?_
    obtain ⟨y1, hy1, h⟩ := bind_some h
    refine c_loop (fun (st1 : Int) (fr : Fr) => Sub [(0, (Sl.t (a0 : Sl DFile))), (1, (Sl.t (a1 : Sl DFile))), (5, .int .i64 st1)] fr.s ∧ Heap σ0 fr.σ []) (fun (y1 : (Unit ⊕ Bool)) (e : AExit) (fr : Fr) => (Sum.elim (fun y => e = (.exit 0) ∧ Sub [] fr.s ∧ Heap σ0 fr.σ []) (fun y => e = .ret ∧ endW Try.prog (Try.f53.results.toList) σ0 (E_bool y) .ret fr)) y1) hy1 (And.intro (sub_to hS (by kernel_rfl)) hH) ?_ ?_
    · clear h hy1 hS hH; clear y1; intro st1 x fr h HI; obtain ⟨s, σ⟩ := fr; obtain ⟨hS, hH⟩ := HI
      refine c_seq ?_
      refine c_seq ?_
      refine c_region ?_
      refine q_seg 4 [(0, (Sl.t (a0 : Sl DFile))), (1, (Sl.t (a1 : Sl DFile))), (5, .int .i64 st1), (14, .bool (decide (st1 < (a0.l.length : Int))))] hS (by kernel_rfl) ?_; intro s hS
      refine x_nil ?_
      refine sq_n ?_
      by_cases hc2 : (decide (st1 < (a0.l.length : Int))) = true
      · have h := it_pos hc2 h
        refine c_cond hS rfl (fun _ => ?_) (fun hf => ff_absurd hc2 hf)
        refine c_skip ?_
        refine sq_n ?_
        refine c_seq ?_
        refine c_block ?_
        refine c_seq ?_
        refine c_draw (by kernel_rfl) hH ?_; intro mb σ hH
        refine q_seg 2 [(0, (Sl.t (a0 : Sl DFile))), (1, (Sl.t (a1 : Sl DFile))), (5, .int .i64 st1), (17, (Sl.t (a0 : Sl DFile))), (18, .int .i64 st1)] hS (by kernel_rfl) ?_; intro s hS
        obtain ⟨y2, hy2, h⟩ := bind_some h
        refine q_elt (sl := a0) (e := 52) [.str y2.Name, (Sl.t (y2.Lines : Sl ByteArray)), .int .i64 y2.Mode, .int .i64 y2.At] rfl hS rfl rfl (by kernel_rfl) (by kernel_rfl) hy2 rfl ?_; intro rest1 s hS
        refine q_seg 3 [(0, (Sl.t (a0 : Sl DFile))), (1, (Sl.t (a1 : Sl DFile))), (5, .int .i64 st1), (20, .agg (DFile.cells y2)), (21, (Sl.t (a1 : Sl DFile))), (22, .int .i64 st1)] hS (by kernel_rfl) ?_; intro s hS
        obtain ⟨y3, hy3, h⟩ := bind_some h
        refine q_elt (sl := a1) (e := 52) [.str y3.Name, (Sl.t (y3.Lines : Sl ByteArray)), .int .i64 y3.Mode, .int .i64 y3.At] rfl hS rfl rfl (by kernel_rfl) (by kernel_rfl) hy3 rfl ?_; intro rest2 s hS
        refine q_seg 1 [(0, (Sl.t (a0 : Sl DFile))), (1, (Sl.t (a1 : Sl DFile))), (5, .int .i64 st1), (20, .agg (DFile.cells y2)), (24, .agg (DFile.cells y3))] hS (by kernel_rfl) ?_; intro s hS
        obtain ⟨y4, hy4, h⟩ := bind_some h
        refine q_callF (a := []) (b := []) (xs := [.agg (DFile.cells y2), .agg (DFile.cells y3)]) rfl hS rfl rfl hy4 ?_; intro s hS
        refine q_seg 1 [(0, (Sl.t (a0 : Sl DFile))), (1, (Sl.t (a1 : Sl DFile))), (5, .int .i64 st1), (26, .bool (!y4))] hS (by kernel_rfl) ?_; intro s hS
        refine x_nil ?_
        refine sq_n ?_
        by_cases hc3 : (!y4) = true
        · have h := it_pos hc3 h
          refine c_cond hS rfl (fun _ => ?_) (fun hf => ff_absurd hc3 hf)
          refine c_seq ?_
          refine c_region ?_
          refine q_seg 1 [(4, .bool false)] hS (by kernel_rfl) ?_; intro s hS
          refine x_nil ?_
          refine sq_n ?_
          refine c_ret ?_
          refine bk_r ?_
          refine sq_r ?_
          injection h with h; subst h
          exact And.intro rfl (end_W hH (r_tmp (v := .bool false) hS rfl r_nil) rfl (by kernel_rfl) (by simp [pureT, pureL, E_bool]))
        · have h := it_neg hc3 h
          refine c_cond hS rfl (fun hf => tt_absurd hc3 hf) (fun _ => ?_)
          refine c_skip ?_
          refine bk_n ?_
          refine sq_n ?_
          refine c_region ?_
          refine q_seg 3 [(0, (Sl.t (a0 : Sl DFile))), (1, (Sl.t (a1 : Sl DFile))), (5, .int .i64 (IntKind.i64.wrap (st1 + 1)))] hS (by kernel_rfl) ?_; intro s hS
          refine x_nil ?_
          injection h with h; subst h
          exact And.intro (sub_to hS (by kernel_rfl)) hH
      · have h := it_neg hc2 h
        refine c_cond hS rfl (fun hf => tt_absurd hc2 hf) (fun _ => ?_)
        refine c_exit ?_
        refine sq_x ?_
        injection h with h; subst h
        exact And.intro rfl (And.intro (sub_to hS (by kernel_rfl)) hH)
    · clear hS hH; intro e fr HF; obtain ⟨s, σ⟩ := fr
      rcases y1 with y1 | y1
      · obtain ⟨rfl, hS, hH⟩ := HF
        refine bk_e ?_
        refine sq_n ?_
        refine c_seq ?_
        refine c_region ?_
        refine q_seg 1 [(4, .bool true)] hS (by kernel_rfl) ?_; intro s hS
        refine x_nil ?_
        refine sq_n ?_
        refine c_ret ?_
        injection h with h; subst h
        exact end_W hH (r_tmp (v := .bool true) hS rfl r_nil) rfl (by kernel_rfl) (by simp [pureT, pureL, E_bool])
      · obtain ⟨rfl, HE⟩ := HF
        refine bk_r ?_
        refine sq_r ?_
        injection h with h; subst h; exact HE
end Go.Am
end
section
set_option maxRecDepth 100000
set_option maxHeartbeats 4000000
set_option linter.unusedVariables false
set_option linter.unusedSimpArgs false
namespace Go.Am
open Go.Proofs
noncomputable def B_laws_heldStringS (a0 : (Sl ByteArray)) (a1 : Int) : Option Int := ((loopO (S := (Int × Int)) (R := (Int ⊕ Int)) (fun st1 => (if (decide (st1.2 < (a0.l.length : Int))) = true then ((elt a0 st1.2).bind fun y2 => ((F_laws_markText st1.1).bind fun y3 => (if (!decide (y2 = y3)) = true then (some (.inr (.inr (-1)))) else (some (.inl ((IntKind.i64.wrap (st1.1 + 1)), (IntKind.i64.wrap (st1.2 + 1)))))))) else (some (.inr (.inl st1.1))))) (a1, 0)).bind fun y1 => (Sum.elim (fun y1 => (some y1)) (fun y1 => (some y1)) y1))
theorem u_laws_heldStringS (a0 : (Sl ByteArray)) (a1 : Int) (r : Int) (h : B_laws_heldStringS a0 a1 = some r) : F_laws_heldStringS a0 a1 = some r := by
  unfold B_laws_heldStringS at h
  refine semW_of E_i64_inj rfl rfl ok_56 rfl (all_cons (by kernel_rfl) (all_cons (by kernel_rfl) all_nil)) ?_
  intro σ0 s hS hH
  have hS := sub_to (L' := [(0, (Sl.t (a0 : Sl ByteArray))), (1, .int .i64 a1)]) hS (by kernel_rfl)
  refine c_seq ?_
  refine c_region ?_
  refine q_seg 1 [(0, (Sl.t (a0 : Sl ByteArray))), (1, .int .i64 a1)] hS (by kernel_rfl) ?_; intro s hS
  refine x_nil ?_
  refine sq_n ?_
  refine c_seq ?_
  refine c_seq ?_
  refine c_region ?_
  refine q_seg 1 [(0, (Sl.t (a0 : Sl ByteArray))), (1, .int .i64 a1), (5, .int .i64 0)] hS (by kernel_rfl) ?_; intro s hS
  refine x_nil ?_
  refine sq_n ?_
  refine c_block ?_
  obtain ⟨y1, hy1, h⟩ := bind_some h
  refine c_loop (fun (st1 : (Int × Int)) (fr : Fr) => Sub [(0, (Sl.t (a0 : Sl ByteArray))), (1, .int .i64 st1.1), (5, .int .i64 st1.2)] fr.s ∧ Heap σ0 fr.σ []) (fun (y1 : (Int ⊕ Int)) (e : AExit) (fr : Fr) => (Sum.elim (fun y => e = (.exit 0) ∧ Sub [(1, .int .i64 y)] fr.s ∧ Heap σ0 fr.σ []) (fun y => e = .ret ∧ endW Try.prog (Try.f56.results.toList) σ0 (E_i64 y) .ret fr)) y1) hy1 (And.intro (sub_to hS (by kernel_rfl)) hH) ?_ ?_
  · clear h hy1 hS hH; clear y1; intro st1 x fr h HI; obtain ⟨s, σ⟩ := fr; obtain ⟨hS, hH⟩ := HI
    refine c_seq ?_
    refine c_seq ?_
    refine c_region ?_
    refine q_seg 4 [(0, (Sl.t (a0 : Sl ByteArray))), (1, .int .i64 st1.1), (5, .int .i64 st1.2), (9, .bool (decide (st1.2 < (a0.l.length : Int))))] hS (by kernel_rfl) ?_; intro s hS
    refine x_nil ?_
    refine sq_n ?_
    by_cases hc1 : (decide (st1.2 < (a0.l.length : Int))) = true
    · have h := it_pos hc1 h
      refine c_cond hS rfl (fun _ => ?_) (fun hf => ff_absurd hc1 hf)
      refine c_skip ?_
      refine sq_n ?_
      refine c_seq ?_
      refine c_block ?_
      refine c_seq ?_
      refine c_seq ?_
      refine c_draw (by kernel_rfl) hH ?_; intro mb σ hH
      refine q_seg 2 [(0, (Sl.t (a0 : Sl ByteArray))), (1, .int .i64 st1.1), (5, .int .i64 st1.2), (12, (Sl.t (a0 : Sl ByteArray))), (13, .int .i64 st1.2)] hS (by kernel_rfl) ?_; intro s hS
      obtain ⟨y2, hy2, h⟩ := bind_some h
      refine q_elt (sl := a0) (e := 9) [.str y2] rfl hS rfl rfl (by kernel_rfl) (by kernel_rfl) hy2 rfl ?_; intro rest1 s hS
      refine q_seg 2 [(0, (Sl.t (a0 : Sl ByteArray))), (1, .int .i64 st1.1), (5, .int .i64 st1.2), (15, .str y2), (16, .int .i64 st1.1)] hS (by kernel_rfl) ?_; intro s hS
      obtain ⟨y3, hy3, h⟩ := bind_some h
      refine q_callF (a := []) (b := []) (xs := [.int .i64 st1.1]) rfl hS rfl rfl hy3 ?_; intro s hS
      refine q_seg 1 [(0, (Sl.t (a0 : Sl ByteArray))), (1, .int .i64 st1.1), (5, .int .i64 st1.2), (18, .bool (!decide (y2 = y3)))] hS (by kernel_rfl) ?_; intro s hS
      refine x_nil ?_
      refine sq_n ?_
      by_cases hc2 : (!decide (y2 = y3)) = true
      · have h := it_pos hc2 h
        refine c_cond hS rfl (fun _ => ?_) (fun hf => ff_absurd hc2 hf)
        refine c_seq ?_
        refine c_region ?_
        refine q_seg 1 [(4, .int .i64 (-1))] hS (by kernel_rfl) ?_; intro s hS
        refine x_nil ?_
        refine sq_n ?_
        refine c_ret ?_
        refine sq_r ?_
        refine bk_r ?_
        refine sq_r ?_
        injection h with h; subst h
        exact And.intro rfl (end_W hH (r_tmp (v := .int .i64 (-1)) hS rfl r_nil) rfl (by kernel_rfl) (by simp [pureT, pureL, E_i64]))
      · have h := it_neg hc2 h
        refine c_cond hS rfl (fun hf => tt_absurd hc2 hf) (fun _ => ?_)
        refine c_skip ?_
        refine sq_n ?_
        refine c_region ?_
        refine q_seg 3 [(0, (Sl.t (a0 : Sl ByteArray))), (1, .int .i64 (IntKind.i64.wrap (st1.1 + 1))), (5, .int .i64 st1.2)] hS (by kernel_rfl) ?_; intro s hS
        refine x_nil ?_
        refine bk_n ?_
        refine sq_n ?_
        refine c_region ?_
        refine q_seg 3 [(0, (Sl.t (a0 : Sl ByteArray))), (1, .int .i64 (IntKind.i64.wrap (st1.1 + 1))), (5, .int .i64 (IntKind.i64.wrap (st1.2 + 1)))] hS (by kernel_rfl) ?_; intro s hS
        refine x_nil ?_
        injection h with h; subst h
        exact And.intro (sub_to hS (by kernel_rfl)) hH
    · have h := it_neg hc1 h
      refine c_cond hS rfl (fun hf => tt_absurd hc1 hf) (fun _ => ?_)
      refine c_exit ?_
      refine sq_x ?_
      injection h with h; subst h
      exact And.intro rfl (And.intro (sub_to hS (by kernel_rfl)) hH)
  · clear hS hH; intro e fr HF; obtain ⟨s, σ⟩ := fr
    rcases y1 with y1 | y1
    · obtain ⟨rfl, hS, hH⟩ := HF
      refine bk_e ?_
      refine sq_n ?_
      refine c_seq ?_
      refine c_region ?_
      refine q_seg 2 [(4, .int .i64 y1)] hS (by kernel_rfl) ?_; intro s hS
      refine x_nil ?_
      refine sq_n ?_
      refine c_ret ?_
      injection h with h; subst h
      exact end_W hH (r_tmp (v := .int .i64 y1) hS rfl r_nil) rfl (by kernel_rfl) (by simp [pureT, pureL, E_i64])
    · obtain ⟨rfl, HE⟩ := HF
      refine bk_r ?_
      refine sq_r ?_
      injection h with h; subst h; exact HE
end Go.Am
end
section
set_option maxRecDepth 100000
set_option maxHeartbeats 4000000
set_option linter.unusedVariables false
set_option linter.unusedSimpArgs false
namespace Go.Am
open Go.Proofs
noncomputable def B_laws_heldFileS (a0 : (Sl DFile)) (a1 : Int) : Option Int := ((loopO (S := (Int × Int)) (R := (Int ⊕ Int)) (fun st1 => (if (decide (st1.2 < (a0.l.length : Int))) = true then ((elt a0 st1.2).bind fun y2 => ((F_laws_markText st1.1).bind fun y3 => (if (!decide (y2.Name = y3)) = true then (some (.inr (.inr (-1)))) else ((elt a0 st1.2).bind fun y4 => ((F_laws_heldStringS y4.Lines (IntKind.i64.wrap (st1.1 + 1))).bind fun y5 => (if (decide (y5 < 0)) = true then (some (.inr (.inr (-1)))) else ((elt a0 st1.2).bind fun y6 => (if (!decide (y6.Mode = y5)) = true then (some (.inr (.inr (-1)))) else ((elt a0 st1.2).bind fun y7 => (if (!decide (y7.At = (IntKind.i64.wrap (y5 + 1)))) = true then (some (.inr (.inr (-1)))) else (some (.inl ((IntKind.i64.wrap ((IntKind.i64.wrap (y5 + 1)) + 1)), (IntKind.i64.wrap (st1.2 + 1))))))))))))))) else (some (.inr (.inl st1.1))))) (a1, 0)).bind fun y1 => (Sum.elim (fun y1 => (some y1)) (fun y1 => (some y1)) y1))
theorem u_laws_heldFileS (a0 : (Sl DFile)) (a1 : Int) (r : Int) (h : B_laws_heldFileS a0 a1 = some r) : F_laws_heldFileS a0 a1 = some r := by
  unfold B_laws_heldFileS at h
  refine semW_of E_i64_inj rfl rfl ok_57 rfl (all_cons (by kernel_rfl) (all_cons (by kernel_rfl) all_nil)) ?_
  intro σ0 s hS hH
  have hS := sub_to (L' := [(0, (Sl.t (a0 : Sl DFile))), (1, .int .i64 a1)]) hS (by kernel_rfl)
  refine c_seq ?_
  refine c_region ?_
  refine q_seg 1 [(0, (Sl.t (a0 : Sl DFile))), (1, .int .i64 a1)] hS (by kernel_rfl) ?_; intro s hS
  refine x_nil ?_
  refine sq_n ?_
  refine c_seq ?_
  refine c_seq ?_
  refine c_region ?_
  refine q_seg 1 [(0, (Sl.t (a0 : Sl DFile))), (1, .int .i64 a1), (5, .int .i64 0)] hS (by kernel_rfl) ?_; intro s hS
  refine x_nil ?_
  refine sq_n ?_
  refine c_block ?_
  obtain ⟨y1, hy1, h⟩ := bind_some h
  refine c_loop (fun (st1 : (Int × Int)) (fr : Fr) => Sub [(0, (Sl.t (a0 : Sl DFile))), (1, .int .i64 st1.1), (5, .int .i64 st1.2)] fr.s ∧ Heap σ0 fr.σ []) (fun (y1 : (Int ⊕ Int)) (e : AExit) (fr : Fr) => (Sum.elim (fun y => e = (.exit 0) ∧ Sub [(1, .int .i64 y)] fr.s ∧ Heap σ0 fr.σ []) (fun y => e = .ret ∧ endW Try.prog (Try.f57.results.toList) σ0 (E_i64 y) .ret fr)) y1) hy1 (And.intro (sub_to hS (by kernel_rfl)) hH) ?_ ?_
  · clear h hy1 hS hH; clear y1; intro st1 x fr h HI; obtain ⟨s, σ⟩ := fr; obtain ⟨hS, hH⟩ := HI
    refine c_seq ?_
    refine c_seq ?_
    refine c_region ?_
    refine q_seg 4 [(0, (Sl.t (a0 : Sl DFile))), (1, .int .i64 st1.1), (5, .int .i64 st1.2), (9, .bool (decide (st1.2 < (a0.l.length : Int))))] hS (by kernel_rfl) ?_; intro s hS
    refine x_nil ?_
    refine sq_n ?_
    by_cases hc1 : (decide (st1.2 < (a0.l.length : Int))) = true
    · have h := it_pos hc1 h
      refine c_cond hS rfl (fun _ => ?_) (fun hf => ff_absurd hc1 hf)
      refine c_skip ?_
      refine sq_n ?_
      refine c_seq ?_
      refine c_block ?_
      refine c_seq ?_
      refine c_seq ?_
      refine c_draw (by kernel_rfl) hH ?_; intro mb σ hH
      refine q_seg 2 [(0, (Sl.t (a0 : Sl DFile))), (1, .int .i64 st1.1), (5, .int .i64 st1.2), (12, (Sl.t (a0 : Sl DFile))), (13, .int .i64 st1.2)] hS (by kernel_rfl) ?_; intro s hS
      obtain ⟨y2, hy2, h⟩ := bind_some h
      refine q_elt (sl := a0) (e := 52) [.str y2.Name, (Sl.t (y2.Lines : Sl ByteArray)), .int .i64 y2.Mode, .int .i64 y2.At] rfl hS rfl rfl (by kernel_rfl) (by kernel_rfl) hy2 rfl ?_; intro rest1 s hS
      refine q_seg 3 [(0, (Sl.t (a0 : Sl DFile))), (1, .int .i64 st1.1), (5, .int .i64 st1.2), (16, .str y2.Name), (17, .int .i64 st1.1)] hS (by kernel_rfl) ?_; intro s hS
      obtain ⟨y3, hy3, h⟩ := bind_some h
      refine q_callF (a := []) (b := []) (xs := [.int .i64 st1.1]) rfl hS rfl rfl hy3 ?_; intro s hS
      refine q_seg 1 [(0, (Sl.t (a0 : Sl DFile))), (1, .int .i64 st1.1), (5, .int .i64 st1.2), (19, .bool (!decide (y2.Name = y3)))] hS (by kernel_rfl) ?_; intro s hS
      refine x_nil ?_
      refine sq_n ?_
      by_cases hc2 : (!decide (y2.Name = y3)) = true
      · have h := it_pos hc2 h
        refine c_cond hS rfl (fun _ => ?_) (fun hf => ff_absurd hc2 hf)
        refine c_seq ?_
        refine c_region ?_
        refine q_seg 1 [(4, .int .i64 (-1))] hS (by kernel_rfl) ?_; intro s hS
        refine x_nil ?_
        refine sq_n ?_
        refine c_ret ?_
        refine sq_r ?_
        refine bk_r ?_
        refine sq_r ?_
        injection h with h; subst h
        exact And.intro rfl (end_W hH (r_tmp (v := .int .i64 (-1)) hS rfl r_nil) rfl (by kernel_rfl) (by simp [pureT, pureL, E_i64]))
      · have h := it_neg hc2 h
        refine c_cond hS rfl (fun hf => tt_absurd hc2 hf) (fun _ => ?_)
        refine c_skip ?_
        refine sq_n ?_
        refine c_seq ?_
        refine c_region ?_
        refine q_seg 3 [(0, (Sl.t (a0 : Sl DFile))), (1, .int .i64 (IntKind.i64.wrap (st1.1 + 1))), (5, .int .i64 st1.2)] hS (by kernel_rfl) ?_; intro s hS
        refine x_nil ?_
        refine sq_n ?_
        refine c_seq ?_
        refine c_region ?_
        refine q_seg 2 [(0, (Sl.t (a0 : Sl DFile))), (1, .int .i64 (IntKind.i64.wrap (st1.1 + 1))), (5, .int .i64 st1.2), (22, (Sl.t (a0 : Sl DFile))), (23, .int .i64 st1.2)] hS (by kernel_rfl) ?_; intro s hS
        obtain ⟨y4, hy4, h⟩ := bind_some h
        refine q_elt (sl := a0) (e := 52) [.str y4.Name, (Sl.t (y4.Lines : Sl ByteArray)), .int .i64 y4.Mode, .int .i64 y4.At] rfl hS rfl rfl (by kernel_rfl) (by kernel_rfl) hy4 rfl ?_; intro rest2 s hS
        refine q_seg 3 [(0, (Sl.t (a0 : Sl DFile))), (5, .int .i64 st1.2), (26, (Sl.t (y4.Lines : Sl ByteArray))), (27, .int .i64 (IntKind.i64.wrap (st1.1 + 1)))] hS (by kernel_rfl) ?_; intro s hS
        obtain ⟨y5, hy5, h⟩ := bind_some h
        refine q_callF (a := []) (b := []) (xs := [(Sl.t (y4.Lines : Sl ByteArray)), .int .i64 (IntKind.i64.wrap (st1.1 + 1))]) rfl hS rfl rfl hy5 ?_; intro s hS
        refine q_seg 1 [(0, (Sl.t (a0 : Sl DFile))), (1, .int .i64 y5), (5, .int .i64 st1.2)] hS (by kernel_rfl) ?_; intro s hS
        refine x_nil ?_
        refine sq_n ?_
        refine c_seq ?_
        refine c_seq ?_
        refine c_region ?_
        refine q_seg 2 [(0, (Sl.t (a0 : Sl DFile))), (1, .int .i64 y5), (5, .int .i64 st1.2), (30, .bool (decide (y5 < 0)))] hS (by kernel_rfl) ?_; intro s hS
        refine x_nil ?_
        refine sq_n ?_
        by_cases hc3 : (decide (y5 < 0)) = true
        · have h := it_pos hc3 h
          refine c_cond hS rfl (fun _ => ?_) (fun hf => ff_absurd hc3 hf)
          refine c_seq ?_
          refine c_region ?_
          refine q_seg 1 [(4, .int .i64 (-1))] hS (by kernel_rfl) ?_; intro s hS
          refine x_nil ?_
          refine sq_n ?_
          refine c_ret ?_
          refine sq_r ?_
          refine bk_r ?_
          refine sq_r ?_
          injection h with h; subst h
          exact And.intro rfl (end_W hH (r_tmp (v := .int .i64 (-1)) hS rfl r_nil) rfl (by kernel_rfl) (by simp [pureT, pureL, E_i64]))
        · have h := it_neg hc3 h
          refine c_cond hS rfl (fun hf => tt_absurd hc3 hf) (fun _ => ?_)
          refine c_skip ?_
          refine sq_n ?_
          refine c_seq ?_
          refine c_seq ?_
          refine c_region ?_
          refine q_seg 2 [(0, (Sl.t (a0 : Sl DFile))), (1, .int .i64 y5), (5, .int .i64 st1.2), (31, (Sl.t (a0 : Sl DFile))), (32, .int .i64 st1.2)] hS (by kernel_rfl) ?_; intro s hS
          obtain ⟨y6, hy6, h⟩ := bind_some h
          refine q_elt (sl := a0) (e := 52) [.str y6.Name, (Sl.t (y6.Lines : Sl ByteArray)), .int .i64 y6.Mode, .int .i64 y6.At] rfl hS rfl rfl (by kernel_rfl) (by kernel_rfl) hy6 rfl ?_; intro rest3 s hS
          refine q_seg 4 [(0, (Sl.t (a0 : Sl DFile))), (1, .int .i64 y5), (5, .int .i64 st1.2), (37, .bool (!decide (y6.Mode = y5)))] hS (by kernel_rfl) ?_; intro s hS
          refine x_nil ?_
          refine sq_n ?_
          by_cases hc4 : (!decide (y6.Mode = y5)) = true
          · have h := it_pos hc4 h
            refine c_cond hS rfl (fun _ => ?_) (fun hf => ff_absurd hc4 hf)
            refine c_seq ?_
            refine c_region ?_
            refine q_seg 1 [(4, .int .i64 (-1))] hS (by kernel_rfl) ?_; intro s hS
            refine x_nil ?_
            refine sq_n ?_
            refine c_ret ?_
            refine sq_r ?_
            refine bk_r ?_
            refine sq_r ?_
            injection h with h; subst h
            exact And.intro rfl (end_W hH (r_tmp (v := .int .i64 (-1)) hS rfl r_nil) rfl (by kernel_rfl) (by simp [pureT, pureL, E_i64]))
          · have h := it_neg hc4 h
            refine c_cond hS rfl (fun hf => tt_absurd hc4 hf) (fun _ => ?_)
            refine c_skip ?_
            refine sq_n ?_
            refine c_seq ?_
            refine c_region ?_
            refine q_seg 3 [(0, (Sl.t (a0 : Sl DFile))), (1, .int .i64 (IntKind.i64.wrap (y5 + 1))), (5, .int .i64 st1.2)] hS (by kernel_rfl) ?_; intro s hS
            refine x_nil ?_
            refine sq_n ?_
            refine c_seq ?_
            refine c_seq ?_
            refine c_region ?_
            refine q_seg 2 [(0, (Sl.t (a0 : Sl DFile))), (1, .int .i64 (IntKind.i64.wrap (y5 + 1))), (5, .int .i64 st1.2), (40, (Sl.t (a0 : Sl DFile))), (41, .int .i64 st1.2)] hS (by kernel_rfl) ?_; intro s hS
            obtain ⟨y7, hy7, h⟩ := bind_some h
            refine q_elt (sl := a0) (e := 52) [.str y7.Name, (Sl.t (y7.Lines : Sl ByteArray)), .int .i64 y7.Mode, .int .i64 y7.At] rfl hS rfl rfl (by kernel_rfl) (by kernel_rfl) hy7 rfl ?_; intro rest4 s hS
            refine q_seg 4 [(0, (Sl.t (a0 : Sl DFile))), (1, .int .i64 (IntKind.i64.wrap (y5 + 1))), (5, .int .i64 st1.2), (46, .bool (!decide (y7.At = (IntKind.i64.wrap (y5 + 1)))))] hS (by kernel_rfl) ?_; intro s hS
            refine x_nil ?_
            refine sq_n ?_
            by_cases hc5 : (!decide (y7.At = (IntKind.i64.wrap (y5 + 1)))) = true
            · have h := it_pos hc5 h
              refine c_cond hS rfl (fun _ => ?_) (fun hf => ff_absurd hc5 hf)
              refine c_seq ?_
              refine c_region ?_
              refine q_seg 1 [(4, .int .i64 (-1))] hS (by kernel_rfl) ?_; intro s hS
              refine x_nil ?_
              refine sq_n ?_
              refine c_ret ?_
              refine sq_r ?_
              refine bk_r ?_
              refine sq_r ?_
              injection h with h; subst h
              exact And.intro rfl (end_W hH (r_tmp (v := .int .i64 (-1)) hS rfl r_nil) rfl (by kernel_rfl) (by simp [pureT, pureL, E_i64]))
            · have h := it_neg hc5 h
              refine c_cond hS rfl (fun hf => tt_absurd hc5 hf) (fun _ => ?_)
              refine c_skip ?_
              refine sq_n ?_
              refine c_region ?_
              refine q_seg 3 [(0, (Sl.t (a0 : Sl DFile))), (1, .int .i64 (IntKind.i64.wrap ((IntKind.i64.wrap (y5 + 1)) + 1))), (5, .int .i64 st1.2)] hS (by kernel_rfl) ?_; intro s hS
              refine x_nil ?_
              refine bk_n ?_
              refine sq_n ?_
              refine c_region ?_
              refine q_seg 3 [(0, (Sl.t (a0 : Sl DFile))), (1, .int .i64 (IntKind.i64.wrap ((IntKind.i64.wrap (y5 + 1)) + 1))), (5, .int .i64 (IntKind.i64.wrap (st1.2 + 1)))] hS (by kernel_rfl) ?_; intro s hS
              refine x_nil ?_
              injection h with h; subst h
              exact And.intro (sub_to hS (by kernel_rfl)) hH
    · have h := it_neg hc1 h
      refine c_cond hS rfl (fun hf => tt_absurd hc1 hf) (fun _ => ?_)
      refine c_exit ?_
      refine sq_x ?_
      injection h with h; subst h
      exact And.intro rfl (And.intro (sub_to hS (by kernel_rfl)) hH)
  · clear hS hH; intro e fr HF; obtain ⟨s, σ⟩ := fr
    rcases y1 with y1 | y1
    · obtain ⟨rfl, hS, hH⟩ := HF
      refine bk_e ?_
      refine sq_n ?_
      refine c_seq ?_
      refine c_region ?_
      refine q_seg 2 [(4, .int .i64 y1)] hS (by kernel_rfl) ?_; intro s hS
      refine x_nil ?_
      refine sq_n ?_
      refine c_ret ?_
      injection h with h; subst h
      exact end_W hH (r_tmp (v := .int .i64 y1) hS rfl r_nil) rfl (by kernel_rfl) (by simp [pureT, pureL, E_i64])
    · obtain ⟨rfl, HE⟩ := HF
      refine bk_r ?_
      refine sq_r ?_
      injection h with h; subst h; exact HE
end Go.Am
end
section
set_option maxRecDepth 100000
set_option maxHeartbeats 4000000
set_option linter.unusedVariables false
set_option linter.unusedSimpArgs false
namespace Go.Am
open Go.Proofs
noncomputable def B_spec_l21Code (a0 : DConsole) (a1 : ByteArray) : Option (Int × Int) := ((F_spec_l21Ok a0).bind fun y1 => (if (!y1) = true then (some (0, 1)) else ((F_spec_IsName a1).bind fun y2 => (if (!y2) = true then (some (0, 1)) else ((F_spec_l21Find a0 a1).bind fun y3 => (if (decide (y3 < 0)) = true then (some (0, 11)) else (some (y3, 0))))))))
theorem u_spec_l21Code (a0 : DConsole) (a1 : ByteArray) (r : (Int × Int)) (h : B_spec_l21Code a0 a1 = some r) : F_spec_l21Code a0 a1 = some r := by
  unfold B_spec_l21Code at h
  refine semL_of E_t2_i64_i64_inj rfl rfl ok_58 (fun bs hb => by obtain ⟨bp0, rfl⟩ := bl1 hb; exact rfl) (fun bs hb => by obtain ⟨bp0, rfl⟩ := bl1 hb; exact (all_cons rfl (all_cons (by kernel_rfl) all_nil))) ?_
  intro σ0 bs s hL hS hH
  obtain ⟨bp0, rfl, hL_bp0⟩ := lent1 hL
  clear hL
  have hS := sub_to (L' := [(0, .ptr bp0 0 0 5), (1, .str a1)]) hS (by kernel_rfl)
  refine c_seq ?_
  refine c_region ?_
  refine q_seg 2 [(0, .ptr bp0 0 0 5), (1, .str a1)] hS (by kernel_rfl) ?_; intro s hS
  refine x_nil ?_
  refine sq_n ?_
  refine c_seq ?_
  refine c_seq ?_
  refine c_region ?_
  refine q_seg 1 [(0, .ptr bp0 0 0 5), (1, .str a1), (7, .ptr bp0 0 0 5)] hS (by kernel_rfl) ?_; intro s hS
  obtain ⟨y1, hy1, h⟩ := bind_some h
  refine q_callL (xs := [.ptr bp0 0 0 5]) (cs := [[(Sl.t (a0.Input : Sl ByteArray)), .int .i64 a0.At, (Sl.t (a0.Output : Sl ByteArray)), (Sl.t (a0.Files : Sl DFile)), (Sl.t (a0.Trace : Sl ByteArray))]]) [bp0] rfl hS rfl rfl rfl (And.intro (Lent.grow hL_bp0 hH.grow) trivial) hy1 ?_; intro s hS
  refine q_seg 2 [(10, .bool (!y1)), (0, .ptr bp0 0 0 5), (1, .str a1)] hS (by kernel_rfl) ?_; intro s hS
  by_cases hc1 : (!y1) = true
  · have h := it_pos hc1 h
    have hS := sub_bt hS hc1
    refine q_seg 4 [(0, .ptr bp0 0 0 5), (1, .str a1), (14, .bool true)] hS (by kernel_rfl) ?_; intro s hS
    refine x_nil ?_
    refine sq_n ?_
    refine c_cond (t := true) hS rfl (fun _ => ?_) (fun hf => by cases hf)
    refine c_seq ?_
    refine c_region ?_
    refine q_seg 2 [(4, .int .i64 0), (5, .int .i64 1)] hS (by kernel_rfl) ?_; intro s hS
    refine x_nil ?_
    refine sq_n ?_
    refine c_ret ?_
    refine sq_r ?_
    injection h with h; subst h
    exact end_W hH (r_tmp (v := .int .i64 0) hS rfl (r_tmp (v := .int .i64 1) hS rfl r_nil)) rfl (by kernel_rfl) (by simp [pureT, pureL, E_t2_i64_i64])
  · have h := it_neg hc1 h
    have hS := sub_bt hS (tt_of hc1)
    refine q_seg 1 [(0, .ptr bp0 0 0 5), (1, .str a1), (10, .bool false), (11, .str a1)] hS (by kernel_rfl) ?_; intro s hS
    obtain ⟨y2, hy2, h⟩ := bind_some h
    refine q_callF (a := []) (b := []) (xs := [.str a1]) rfl hS rfl rfl hy2 ?_; intro s hS
    refine q_seg 2 [(0, .ptr bp0 0 0 5), (1, .str a1), (14, .bool (!y2))] hS (by kernel_rfl) ?_; intro s hS
    refine x_nil ?_
    refine sq_n ?_
    by_cases hc2 : (!y2) = true
    · have h := it_pos hc2 h
      refine c_cond hS rfl (fun _ => ?_) (fun hf => ff_absurd hc2 hf)
      refine c_seq ?_
      refine c_region ?_
      refine q_seg 2 [(4, .int .i64 0), (5, .int .i64 1)] hS (by kernel_rfl) ?_; intro s hS
      refine x_nil ?_
      refine sq_n ?_
      refine c_ret ?_
      refine sq_r ?_
      injection h with h; subst h
      exact end_W hH (r_tmp (v := .int .i64 0) hS rfl (r_tmp (v := .int .i64 1) hS rfl r_nil)) rfl (by kernel_rfl) (by simp [pureT, pureL, E_t2_i64_i64])
    · have h := it_neg hc2 h
      refine c_cond hS rfl (fun hf => tt_absurd hc2 hf) (fun _ => ?_)
      refine c_skip ?_
      refine sq_n ?_
      refine c_seq ?_
      refine c_region ?_
      refine q_seg 2 [(15, .ptr bp0 0 0 5), (16, .str a1)] hS (by kernel_rfl) ?_; intro s hS
      obtain ⟨y3, hy3, h⟩ := bind_some h
      refine q_callL (xs := [.ptr bp0 0 0 5, .str a1]) (cs := [[(Sl.t (a0.Input : Sl ByteArray)), .int .i64 a0.At, (Sl.t (a0.Output : Sl ByteArray)), (Sl.t (a0.Files : Sl DFile)), (Sl.t (a0.Trace : Sl ByteArray))]]) [bp0] rfl hS rfl rfl rfl (And.intro (Lent.grow hL_bp0 hH.grow) trivial) hy3 ?_; intro s hS
      refine q_seg 1 [(6, .int .i64 y3)] hS (by kernel_rfl) ?_; intro s hS
      refine x_nil ?_
      refine sq_n ?_
      refine c_seq ?_
      refine c_seq ?_
      refine c_region ?_
      refine q_seg 2 [(6, .int .i64 y3), (19, .bool (decide (y3 < 0)))] hS (by kernel_rfl) ?_; intro s hS
      refine x_nil ?_
      refine sq_n ?_
      by_cases hc3 : (decide (y3 < 0)) = true
      · have h := it_pos hc3 h
        refine c_cond hS rfl (fun _ => ?_) (fun hf => ff_absurd hc3 hf)
        refine c_seq ?_
        refine c_region ?_
        refine q_seg 2 [(4, .int .i64 0), (5, .int .i64 11)] hS (by kernel_rfl) ?_; intro s hS
        refine x_nil ?_
        refine sq_n ?_
        refine c_ret ?_
        refine sq_r ?_
        injection h with h; subst h
        exact end_W hH (r_tmp (v := .int .i64 0) hS rfl (r_tmp (v := .int .i64 11) hS rfl r_nil)) rfl (by kernel_rfl) (by simp [pureT, pureL, E_t2_i64_i64])
      · have h := it_neg hc3 h
        refine c_cond hS rfl (fun hf => tt_absurd hc3 hf) (fun _ => ?_)
        refine c_skip ?_
        refine sq_n ?_
        refine c_seq ?_
        refine c_region ?_
        refine q_seg 3 [(4, .int .i64 y3), (5, .int .i64 0)] hS (by kernel_rfl) ?_; intro s hS
        refine x_nil ?_
        refine sq_n ?_
        refine c_ret ?_
        injection h with h; subst h
        exact end_W hH (r_tmp (v := .int .i64 y3) hS rfl (r_tmp (v := .int .i64 0) hS rfl r_nil)) rfl (by kernel_rfl) (by simp [pureT, pureL, E_t2_i64_i64])
end Go.Am
end
section
set_option maxRecDepth 100000
set_option maxHeartbeats 4000000
set_option linter.unusedVariables false
set_option linter.unusedSimpArgs false
namespace Go.Am
open Go.Proofs
noncomputable def B_impl_unless (a0 : Bool) (a1 : Int) : Option Int := (if a0 = true then (some 0) else (some a1))
theorem u_impl_unless (a0 : Bool) (a1 : Int) (r : Int) (h : B_impl_unless a0 a1 = some r) : F_impl_unless a0 a1 = some r := by
  unfold B_impl_unless at h
  refine semW_of E_i64_inj rfl rfl ok_61 rfl (all_cons (by kernel_rfl) (all_cons (by kernel_rfl) all_nil)) ?_
  intro σ0 s hS hH
  have hS := sub_to (L' := [(0, .bool a0), (1, .int .i64 a1)]) hS (by kernel_rfl)
  refine c_seq ?_
  refine c_region ?_
  refine q_seg 1 [(0, .bool a0), (1, .int .i64 a1)] hS (by kernel_rfl) ?_; intro s hS
  refine x_nil ?_
  refine sq_n ?_
  refine c_seq ?_
  refine c_seq ?_
  refine c_region ?_
  refine q_seg 1 [(1, .int .i64 a1), (5, .bool a0)] hS (by kernel_rfl) ?_; intro s hS
  refine x_nil ?_
  refine sq_n ?_
  by_cases hc1 : a0 = true
  · have h := it_pos hc1 h
    refine c_cond hS rfl (fun _ => ?_) (fun hf => ff_absurd hc1 hf)
    refine c_seq ?_
    refine c_region ?_
    refine q_seg 1 [(4, .int .i64 0)] hS (by kernel_rfl) ?_; intro s hS
    refine x_nil ?_
    refine sq_n ?_
    refine c_ret ?_
    refine sq_r ?_
    injection h with h; subst h
    exact end_W hH (r_tmp (v := .int .i64 0) hS rfl r_nil) rfl (by kernel_rfl) (by simp [pureT, pureL, E_i64])
  · have h := it_neg hc1 h
    refine c_cond hS rfl (fun hf => tt_absurd hc1 hf) (fun _ => ?_)
    refine c_skip ?_
    refine sq_n ?_
    refine c_seq ?_
    refine c_region ?_
    refine q_seg 2 [(4, .int .i64 a1)] hS (by kernel_rfl) ?_; intro s hS
    refine x_nil ?_
    refine sq_n ?_
    refine c_ret ?_
    injection h with h; subst h
    exact end_W hH (r_tmp (v := .int .i64 a1) hS rfl r_nil) rfl (by kernel_rfl) (by simp [pureT, pureL, E_i64])
end Go.Am
end
section
set_option maxRecDepth 100000
set_option maxHeartbeats 4000000
set_option linter.unusedVariables false
set_option linter.unusedSimpArgs false
namespace Go.Am
open Go.Proofs
noncomputable def B_impl_first (a0 : (Sl (Iv .i64))) : Option Int := ((loopO (S := Int) (R := (Unit ⊕ Int)) (fun st1 => (if (decide (st1 < (a0.l.length : Int))) = true then ((elt a0 st1).bind fun y2 => (if (!decide (y2.v = 0)) = true then (some (.inr (.inr y2.v))) else (some (.inl (IntKind.i64.wrap (st1 + 1)))))) else (some (.inr (.inl ()))))) 0).bind fun y1 => (Sum.elim (fun y1 => (some 0)) (fun y1 => (some y1)) y1))
theorem u_impl_first (a0 : (Sl (Iv .i64))) (r : Int) (h : B_impl_first a0 = some r) : F_impl_first a0 = some r := by
  unfold B_impl_first at h
  refine semW_of E_i64_inj rfl rfl ok_65 rfl (all_cons (by kernel_rfl) all_nil) ?_
  intro σ0 s hS hH
  have hS := sub_to (L' := [(0, (Sl.t (a0 : Sl (Iv .i64))))]) hS (by kernel_rfl)
  refine c_seq ?_
  refine c_region ?_
  refine q_seg 1 [(0, (Sl.t (a0 : Sl (Iv .i64))))] hS (by kernel_rfl) ?_; intro s hS
  refine x_nil ?_
  refine sq_n ?_
  refine c_seq ?_
  refine c_seq ?_
  refine c_region ?_
  refine q_seg 3 [(5, (Sl.t (a0 : Sl (Iv .i64)))), (6, .int .i64 (a0.l.length : Int)), (7, .int .i64 0)] hS (by kernel_rfl) ?_; intro s hS
  refine x_nil ?_
  refine sq_n ?_
  refine c_block ?_
  obtain ⟨y1, hy1, h⟩ := bind_some h
  refine c_loop (fun (st1 : Int) (fr : Fr) => Sub [(5, (Sl.t (a0 : Sl (Iv .i64)))), (6, .int .i64 (a0.l.length : Int)), (7, .int .i64 st1)] fr.s ∧ Heap σ0 fr.σ []) (fun (y1 : (Unit ⊕ Int)) (e : AExit) (fr : Fr) => (Sum.elim (fun y => e = (.exit 0) ∧ Sub [] fr.s ∧ Heap σ0 fr.σ []) (fun y => e = .ret ∧ endW Try.prog (Try.f65.results.toList) σ0 (E_i64 y) .ret fr)) y1) hy1 (And.intro (sub_to hS (by kernel_rfl)) hH) ?_ ?_
  · clear h hy1 hS hH; clear y1; intro st1 x fr h HI; obtain ⟨s, σ⟩ := fr; obtain ⟨hS, hH⟩ := HI
    refine c_seq ?_
    refine c_region ?_
    refine q_seg 1 [(5, (Sl.t (a0 : Sl (Iv .i64)))), (6, .int .i64 (a0.l.length : Int)), (7, .int .i64 st1), (8, .bool (decide (st1 < (a0.l.length : Int))))] hS (by kernel_rfl) ?_; intro s hS
    refine x_nil ?_
    refine sq_n ?_
    refine c_seq ?_
    by_cases hc1 : (decide (st1 < (a0.l.length : Int))) = true
    · have h := it_pos hc1 h
      refine c_cond hS rfl (fun _ => ?_) (fun hf => ff_absurd hc1 hf)
      refine c_skip ?_
      refine sq_n ?_
      refine c_seq ?_
      refine c_block ?_
      refine c_seq ?_
      refine c_region ?_
      obtain ⟨y2, hy2, h⟩ := bind_some h
      refine q_elt (sl := a0) (e := 2) [.int .i64 y2.v] rfl hS rfl rfl (by kernel_rfl) (by kernel_rfl) hy2 rfl ?_; intro rest1 s hS
      refine q_seg 2 [(4, .int .i64 y2.v), (5, (Sl.t (a0 : Sl (Iv .i64)))), (6, .int .i64 (a0.l.length : Int)), (7, .int .i64 st1)] hS (by kernel_rfl) ?_; intro s hS
      refine x_nil ?_
      refine sq_n ?_
      refine c_seq ?_
      refine c_region ?_
      refine q_seg 2 [(4, .int .i64 y2.v), (5, (Sl.t (a0 : Sl (Iv .i64)))), (6, .int .i64 (a0.l.length : Int)), (7, .int .i64 st1), (12, .bool (!decide (y2.v = 0)))] hS (by kernel_rfl) ?_; intro s hS
      refine x_nil ?_
      refine sq_n ?_
      by_cases hc2 : (!decide (y2.v = 0)) = true
      · have h := it_pos hc2 h
        refine c_cond hS rfl (fun _ => ?_) (fun hf => ff_absurd hc2 hf)
        refine c_seq ?_
        refine c_region ?_
        refine q_seg 2 [(2, .int .i64 y2.v)] hS (by kernel_rfl) ?_; intro s hS
        refine x_nil ?_
        refine sq_n ?_
        refine c_ret ?_
        refine bk_r ?_
        refine sq_r ?_
        injection h with h; subst h
        exact And.intro rfl (end_W hH (r_tmp (v := .int .i64 y2.v) hS rfl r_nil) rfl (by kernel_rfl) (by simp [pureT, pureL, E_i64]))
      · have h := it_neg hc2 h
        refine c_cond hS rfl (fun hf => tt_absurd hc2 hf) (fun _ => ?_)
        refine c_skip ?_
        refine bk_n ?_
        refine sq_n ?_
        refine c_region ?_
        refine q_seg 2 [(5, (Sl.t (a0 : Sl (Iv .i64)))), (6, .int .i64 (a0.l.length : Int)), (7, .int .i64 (IntKind.i64.wrap (st1 + 1)))] hS (by kernel_rfl) ?_; intro s hS
        refine x_nil ?_
        injection h with h; subst h
        exact And.intro (sub_to hS (by kernel_rfl)) hH
    · have h := it_neg hc1 h
      refine c_cond hS rfl (fun hf => tt_absurd hc1 hf) (fun _ => ?_)
      refine c_exit ?_
      refine sq_x ?_
      injection h with h; subst h
      exact And.intro rfl (And.intro (sub_to hS (by kernel_rfl)) hH)
  · clear hS hH; intro e fr HF; obtain ⟨s, σ⟩ := fr
    rcases y1 with y1 | y1
    · obtain ⟨rfl, hS, hH⟩ := HF
      refine bk_e ?_
      refine sq_n ?_
      refine c_seq ?_
      refine c_region ?_
      refine q_seg 1 [(2, .int .i64 0)] hS (by kernel_rfl) ?_; intro s hS
      refine x_nil ?_
      refine sq_n ?_
      refine c_ret ?_
      injection h with h; subst h
      exact end_W hH (r_tmp (v := .int .i64 0) hS rfl r_nil) rfl (by kernel_rfl) (by simp [pureT, pureL, E_i64])
    · obtain ⟨rfl, HE⟩ := HF
      refine bk_r ?_
      refine sq_r ?_
      injection h with h; subst h; exact HE
end Go.Am
end
section
set_option maxRecDepth 100000
set_option maxHeartbeats 4000000
set_option linter.unusedVariables false
set_option linter.unusedSimpArgs false
namespace Go.Am
open Go.Proofs
noncomputable def B_impl_IsName (a0 : ByteArray) : Option Bool := (if (decide (1 ≤ (a0.size : Int))) = true then (if (decide ((a0.size : Int) ≤ 12)) = true then ((byteAt a0 0).bind fun y1 => ((F_impl_isLetter y1).bind fun y2 => (if y2 = true then ((bytesS a0).bind fun y3 => ((F_impl_areAll_byte y3 (T.fn 103 [] [])).bind fun y4 => (some y4))) else (some false)))) else (some false)) else (some false))
theorem u_impl_IsName (a0 : ByteArray) (r : Bool) (h : B_impl_IsName a0 = some r) : F_impl_IsName a0 = some r := by
  unfold B_impl_IsName at h
  refine semW_of E_bool_inj rfl rfl ok_70 rfl (all_cons (by kernel_rfl) all_nil) ?_
  intro σ0 s hS hH
  have hS := sub_to (L' := [(0, .str a0)]) hS (by kernel_rfl)
  refine c_seq ?_
  refine c_region ?_
  refine q_seg 1 [(0, .str a0)] hS (by kernel_rfl) ?_; intro s hS
  refine x_nil ?_
  refine sq_n ?_
  refine c_seq ?_
  refine c_region ?_
  refine q_seg 4 [(6, .bool (decide (1 ≤ (a0.size : Int)))), (0, .str a0)] hS (by kernel_rfl) ?_; intro s hS
  by_cases hc1 : (decide (1 ≤ (a0.size : Int))) = true
  · have h := it_pos hc1 h
    have hS := sub_bt hS hc1
    refine q_seg 5 [(11, .bool (decide ((a0.size : Int) ≤ 12))), (0, .str a0)] hS (by kernel_rfl) ?_; intro s hS
    by_cases hc2 : (decide ((a0.size : Int) ≤ 12)) = true
    · have h := it_pos hc2 h
      have hS := sub_bt hS hc2
      refine q_seg 1 [(0, .str a0), (11, .bool true), (12, .str a0)] hS (by kernel_rfl) ?_; intro s hS
      obtain ⟨y1, hy1, h⟩ := bind_some h
      refine q_byteO rfl hS rfl rfl (by kernel_rfl) hy1 ?_; intro s hS
      obtain ⟨y2, hy2, h⟩ := bind_some h
      refine q_callF (a := []) (b := []) (xs := [.int .u8 y1]) rfl hS rfl rfl hy2 ?_; intro s hS
      refine q_seg 2 [(16, .bool y2), (0, .str a0)] hS (by kernel_rfl) ?_; intro s hS
      by_cases hc3 : y2 = true
      · have h := it_pos hc3 h
        have hS := sub_bt hS hc3
        refine q_seg 1 [(16, .bool true), (17, .str a0)] hS (by kernel_rfl) ?_; intro s hS
        obtain ⟨y3, hy3, h⟩ := bind_some h
        refine q_s2b (e := 5) rfl hS hH rfl (by kernel_rfl) (by kernel_rfl) (by kernel_rfl) hy3 ?_; intro t1 σ s ht1 hH hS
        obtain ⟨y4, hy4, h⟩ := bind_some h
        refine q_callH (ents := [.own true 1 t1 (Sl.t (y3 : Sl (Iv .u8)))]) (z := false) (ts := [t1, T.fn 103 [] []]) (vs := [(Sl.t (y3 : Sl (Iv .u8))), T.fn 103 [] []]) rfl hS rfl rfl rfl hH (HL.own rfl (HL.leaf (fun σ d => hold_flat1 (by first | assumption | rfl)) HL.nil)) hy4 (by kernel_rfl) ?_; intro s hS
        refine q_seg 2 [(2, .bool y4)] hS (by kernel_rfl) ?_; intro s hS
        refine x_nil ?_
        refine sq_n ?_
        refine c_ret ?_
        injection h with h; subst h
        exact end_W hH (r_tmp (v := .bool y4) hS rfl r_nil) rfl (by kernel_rfl) (by simp [pureT, pureL, E_bool])
      · have h := it_neg hc3 h
        have hS := sub_bt hS (tt_of hc3)
        refine q_seg 5 [(2, .bool false)] hS (by kernel_rfl) ?_; intro s hS
        refine x_nil ?_
        refine sq_n ?_
        refine c_ret ?_
        injection h with h; subst h
        exact end_W hH (r_tmp (v := .bool false) hS rfl r_nil) rfl (by kernel_rfl) (by simp [pureT, pureL, E_bool])
    · have h := it_neg hc2 h
      have hS := sub_bt hS (tt_of hc2)
      refine q_seg 10 [(2, .bool false)] hS (by kernel_rfl) ?_; intro s hS
      refine x_nil ?_
      refine sq_n ?_
      refine c_ret ?_
      injection h with h; subst h
      exact end_W hH (r_tmp (v := .bool false) hS rfl r_nil) rfl (by kernel_rfl) (by simp [pureT, pureL, E_bool])
  · have h := it_neg hc1 h
    have hS := sub_bt hS (tt_of hc1)
    refine q_seg 15 [(2, .bool false)] hS (by kernel_rfl) ?_; intro s hS
    refine x_nil ?_
    refine sq_n ?_
    refine c_ret ?_
    injection h with h; subst h
    exact end_W hH (r_tmp (v := .bool false) hS rfl r_nil) rfl (by kernel_rfl) (by simp [pureT, pureL, E_bool])
end Go.Am
end
section
set_option maxRecDepth 100000
set_option maxHeartbeats 4000000
set_option linter.unusedVariables false
set_option linter.unusedSimpArgs false
namespace Go.Am
open Go.Proofs
noncomputable def B_impl_isMode (a0 : Int) : Option Bool := ((F_impl_within a0 1 3).bind fun y1 => (some y1))
theorem u_impl_isMode (a0 : Int) (r : Bool) (h : B_impl_isMode a0 = some r) : F_impl_isMode a0 = some r := by
  unfold B_impl_isMode at h
  refine semW_of E_bool_inj rfl rfl ok_71 rfl (all_cons (by kernel_rfl) all_nil) ?_
  intro σ0 s hS hH
  have hS := sub_to (L' := [(0, .int .i64 a0)]) hS (by kernel_rfl)
  refine c_seq ?_
  refine c_region ?_
  refine q_seg 1 [(0, .int .i64 a0)] hS (by kernel_rfl) ?_; intro s hS
  refine x_nil ?_
  refine sq_n ?_
  refine c_seq ?_
  refine c_region ?_
  refine q_seg 1 [(3, .int .i64 a0)] hS (by kernel_rfl) ?_; intro s hS
  obtain ⟨y1, hy1, h⟩ := bind_some h
  refine q_callF (a := []) (b := []) (xs := [.int .i64 a0, .int .i64 1, .int .i64 3]) rfl hS rfl rfl hy1 ?_; intro s hS
  refine q_seg 1 [(2, .bool y1)] hS (by kernel_rfl) ?_; intro s hS
  refine x_nil ?_
  refine sq_n ?_
  refine c_ret ?_
  injection h with h; subst h
  exact end_W hH (r_tmp (v := .bool y1) hS rfl r_nil) rfl (by kernel_rfl) (by simp [pureT, pureL, E_bool])
end Go.Am
end
section
set_option maxRecDepth 100000
set_option maxHeartbeats 4000000
set_option linter.unusedVariables false
set_option linter.unusedSimpArgs false
namespace Go.Am
open Go.Proofs
noncomputable def B_impl_nameOfFile (a0 : DFile) : Option ByteArray := (some a0.Name)
theorem u_impl_nameOfFile (a0 : DFile) (r : ByteArray) (h : B_impl_nameOfFile a0 = some r) : F_impl_nameOfFile a0 = some r := by
  unfold B_impl_nameOfFile at h
  refine semW_of E_str_inj rfl rfl ok_73 rfl (all_cons (by kernel_rfl) all_nil) ?_
  intro σ0 s hS hH
  have hS := sub_to (L' := [(0, .agg (DFile.cells a0))]) hS (by kernel_rfl)
  refine c_seq ?_
  refine c_region ?_
  refine q_box (v := .agg (DFile.cells a0)) (cs := [.str a0.Name, (Sl.t (a0.Lines : Sl ByteArray)), .int .i64 a0.Mode, .int .i64 a0.At]) rfl hS hH rfl rfl (by kernel_rfl) ?_; intro b1 σ s hH hS
  refine q_seg 1 [(1, .ptr b1 0 0 4)] hS (by kernel_rfl) ?_; intro s hS
  refine x_nil ?_
  refine sq_n ?_
  refine c_seq ?_
  refine c_region ?_
  refine q_seg 1 [(3, .ptr b1 0 0 1)] hS (by kernel_rfl) ?_; intro s hS
  refine q_load (v := .str a0.Name) 0 trivial rfl hS hH rfl rfl (by kernel_rfl) ?_; intro s hS
  refine q_seg 1 [(2, .str a0.Name)] hS (by kernel_rfl) ?_; intro s hS
  refine x_nil ?_
  refine sq_n ?_
  refine c_ret ?_
  injection h with h; subst h
  exact end_W hH (r_tmp (v := .str a0.Name) hS rfl r_nil) rfl (by kernel_rfl) (by simp [pureT, pureL, E_str])
end Go.Am
end
section
set_option maxRecDepth 100000
set_option maxHeartbeats 4000000
set_option linter.unusedVariables false
set_option linter.unusedSimpArgs false
namespace Go.Am
open Go.Proofs
noncomputable def B_spec_IsName (a0 : ByteArray) : Option Bool := (if (!decide (a0 = (⟨#[]⟩ : ByteArray))) = true then (if (decide ((a0.size : Int) ≤ 12)) = true then ((F_spec_l02NameEnd a0 0).bind fun y1 => (some (decide (y1 = (a0.size : Int))))) else (some false)) else (some false))
theorem u_spec_IsName (a0 : ByteArray) (r : Bool) (h : B_spec_IsName a0 = some r) : F_spec_IsName a0 = some r := by
  unfold B_spec_IsName at h
  refine semW_of E_bool_inj rfl rfl ok_76 rfl (all_cons (by kernel_rfl) all_nil) ?_
  intro σ0 s hS hH
  have hS := sub_to (L' := [(0, .str a0)]) hS (by kernel_rfl)
  refine c_seq ?_
  refine c_region ?_
  refine q_seg 1 [(0, .str a0)] hS (by kernel_rfl) ?_; intro s hS
  refine x_nil ?_
  refine sq_n ?_
  refine c_seq ?_
  refine c_region ?_
  refine q_seg 3 [(5, .bool (!decide (a0 = (⟨#[]⟩ : ByteArray)))), (0, .str a0)] hS (by kernel_rfl) ?_; intro s hS
  by_cases hc1 : (!decide (a0 = (⟨#[]⟩ : ByteArray))) = true
  · have h := it_pos hc1 h
    have hS := sub_bt hS hc1
    refine q_seg 5 [(10, .bool (decide ((a0.size : Int) ≤ 12))), (0, .str a0)] hS (by kernel_rfl) ?_; intro s hS
    by_cases hc2 : (decide ((a0.size : Int) ≤ 12)) = true
    · have h := it_pos hc2 h
      have hS := sub_bt hS hc2
      refine q_seg 1 [(0, .str a0), (10, .bool true), (11, .str a0)] hS (by kernel_rfl) ?_; intro s hS
      obtain ⟨y1, hy1, h⟩ := bind_some h
      refine q_callF (a := []) (b := []) (xs := [.str a0, .int .i64 0]) rfl hS rfl rfl hy1 ?_; intro s hS
      refine q_seg 5 [(2, .bool (decide (y1 = (a0.size : Int))))] hS (by kernel_rfl) ?_; intro s hS
      refine x_nil ?_
      refine sq_n ?_
      refine c_ret ?_
      injection h with h; subst h
      exact end_W hH (r_tmp (v := .bool (decide (y1 = (a0.size : Int)))) hS rfl r_nil) rfl (by kernel_rfl) (by simp [pureT, pureL, E_bool])
    · have h := it_neg hc2 h
      have hS := sub_bt hS (tt_of hc2)
      refine q_seg 7 [(2, .bool false)] hS (by kernel_rfl) ?_; intro s hS
      refine x_nil ?_
      refine sq_n ?_
      refine c_ret ?_
      injection h with h; subst h
      exact end_W hH (r_tmp (v := .bool false) hS rfl r_nil) rfl (by kernel_rfl) (by simp [pureT, pureL, E_bool])
  · have h := it_neg hc1 h
    have hS := sub_bt hS (tt_of hc1)
    refine q_seg 12 [(2, .bool false)] hS (by kernel_rfl) ?_; intro s hS
    refine x_nil ?_
    refine sq_n ?_
    refine c_ret ?_
    injection h with h; subst h
    exact end_W hH (r_tmp (v := .bool false) hS rfl r_nil) rfl (by kernel_rfl) (by simp [pureT, pureL, E_bool])
end Go.Am
end
section
set_option maxRecDepth 100000
set_option maxHeartbeats 4000000
set_option linter.unusedVariables false
set_option linter.unusedSimpArgs false
namespace Go.Am
open Go.Proofs
noncomputable def B_spec_l00In (a0 : Int) (a1 : Int) (a2 : Int) : Option Bool := (if (decide (a1 ≤ a0)) = true then (some (decide (a0 ≤ a2))) else (some false))
theorem u_spec_l00In (a0 : Int) (a1 : Int) (a2 : Int) (r : Bool) (h : B_spec_l00In a0 a1 a2 = some r) : F_spec_l00In a0 a1 a2 = some r := by
  unfold B_spec_l00In at h
  refine semW_of E_bool_inj rfl rfl ok_77 rfl (all_cons (by kernel_rfl) (all_cons (by kernel_rfl) (all_cons (by kernel_rfl) all_nil))) ?_
  intro σ0 s hS hH
  have hS := sub_to (L' := [(0, .int .i64 a0), (1, .int .i64 a1), (2, .int .i64 a2)]) hS (by kernel_rfl)
  refine c_seq ?_
  refine c_region ?_
  refine q_seg 1 [(0, .int .i64 a0), (1, .int .i64 a1), (2, .int .i64 a2)] hS (by kernel_rfl) ?_; intro s hS
  refine x_nil ?_
  refine sq_n ?_
  refine c_seq ?_
  refine c_region ?_
  refine q_seg 4 [(10, .bool (decide (a1 ≤ a0))), (0, .int .i64 a0), (2, .int .i64 a2)] hS (by kernel_rfl) ?_; intro s hS
  by_cases hc1 : (decide (a1 ≤ a0)) = true
  · have h := it_pos hc1 h
    have hS := sub_bt hS hc1
    refine q_seg 5 [(6, .bool (decide (a0 ≤ a2)))] hS (by kernel_rfl) ?_; intro s hS
    refine x_nil ?_
    refine sq_n ?_
    refine c_ret ?_
    injection h with h; subst h
    exact end_W hH (r_tmp (v := .bool (decide (a0 ≤ a2))) hS rfl r_nil) rfl (by kernel_rfl) (by simp [pureT, pureL, E_bool])
  · have h := it_neg hc1 h
    have hS := sub_bt hS (tt_of hc1)
    refine q_seg 5 [(6, .bool false)] hS (by kernel_rfl) ?_; intro s hS
    refine x_nil ?_
    refine sq_n ?_
    refine c_ret ?_
    injection h with h; subst h
    exact end_W hH (r_tmp (v := .bool false) hS rfl r_nil) rfl (by kernel_rfl) (by simp [pureT, pureL, E_bool])
end Go.Am
end
section
set_option maxRecDepth 100000
set_option maxHeartbeats 4000000
set_option linter.unusedVariables false
set_option linter.unusedSimpArgs false
namespace Go.Am
open Go.Proofs
noncomputable def B_spec_l21Find (a0 : DConsole) (a1 : ByteArray) : Option Int := ((loopO (S := Int) (R := (Unit ⊕ Int)) (fun st1 => (if (decide (st1 < (a0.Files.l.length : Int))) = true then ((elt a0.Files st1).bind fun y2 => (if (decide (y2.Name = a1)) = true then (some (.inr (.inr st1))) else (some (.inl (IntKind.i64.wrap (st1 + 1)))))) else (some (.inr (.inl ()))))) 0).bind fun y1 => (Sum.elim (fun y1 => (some (-1))) (fun y1 => (some y1)) y1))
theorem u_spec_l21Find (a0 : DConsole) (a1 : ByteArray) (r : Int) (h : B_spec_l21Find a0 a1 = some r) : F_spec_l21Find a0 a1 = some r := by
  unfold B_spec_l21Find at h
  refine semL_of E_i64_inj rfl rfl ok_78 (fun bs hb => by obtain ⟨bp0, rfl⟩ := bl1 hb; exact rfl) (fun bs hb => by obtain ⟨bp0, rfl⟩ := bl1 hb; exact (all_cons rfl (all_cons (by kernel_rfl) all_nil))) ?_
  intro σ0 bs s hL hS hH
  obtain ⟨bp0, rfl, hL_bp0⟩ := lent1 hL
  clear hL
  have hS := sub_to (L' := [(0, .ptr bp0 0 0 5), (1, .str a1)]) hS (by kernel_rfl)
  refine c_seq ?_
  refine c_region ?_
  refine q_seg 1 [(0, .ptr bp0 0 0 5), (1, .str a1)] hS (by kernel_rfl) ?_; intro s hS
  refine x_nil ?_
  refine sq_n ?_
  refine c_seq ?_
  refine c_seq ?_
  refine c_region ?_
  refine q_seg 1 [(0, .ptr bp0 0 0 5), (1, .str a1), (5, .int .i64 0)] hS (by kernel_rfl) ?_; intro s hS
  refine x_nil ?_
  refine sq_n ?_
  refine c_block ?_
  obtain ⟨y1, hy1, h⟩ := bind_some h
  refine c_loop (fun (st1 : Int) (fr : Fr) => Sub [(0, .ptr bp0 0 0 5), (1, .str a1), (5, .int .i64 st1)] fr.s ∧ Heap σ0 fr.σ []) (fun (y1 : (Unit ⊕ Int)) (e : AExit) (fr : Fr) => (Sum.elim (fun y => e = (.exit 0) ∧ Sub [] fr.s ∧ Heap σ0 fr.σ []) (fun y => e = .ret ∧ endW Try.prog (Try.f78.results.toList) σ0 (E_i64 y) .ret fr)) y1) hy1 (And.intro (sub_to hS (by kernel_rfl)) hH) ?_ ?_
  · clear h hy1 hS hH; clear y1; intro st1 x fr h HI; obtain ⟨s, σ⟩ := fr; obtain ⟨hS, hH⟩ := HI
    refine c_seq ?_
    refine c_seq ?_
    refine c_region ?_
    refine q_seg 4 [(0, .ptr bp0 0 0 5), (1, .str a1), (5, .int .i64 st1), (6, .int .i64 st1), (9, .ptr bp0 0 3 1)] hS (by kernel_rfl) ?_; intro s hS
    refine q_loadL (v := (Sl.t (a0.Files : Sl DFile))) trivial rfl hS hH hL_bp0 rfl (by kernel_rfl) ?_; intro s hS
    refine q_seg 2 [(0, .ptr bp0 0 0 5), (1, .str a1), (5, .int .i64 st1), (12, .bool (decide (st1 < (a0.Files.l.length : Int))))] hS (by kernel_rfl) ?_; intro s hS
    refine x_nil ?_
    refine sq_n ?_
    by_cases hc1 : (decide (st1 < (a0.Files.l.length : Int))) = true
    · have h := it_pos hc1 h
      refine c_cond hS rfl (fun _ => ?_) (fun hf => ff_absurd hc1 hf)
      refine c_skip ?_
      refine sq_n ?_
      refine c_seq ?_
      refine c_block ?_
      refine c_seq ?_
      refine c_region ?_
      refine q_seg 3 [(0, .ptr bp0 0 0 5), (1, .str a1), (5, .int .i64 st1), (17, .ptr bp0 0 3 1)] hS (by kernel_rfl) ?_; intro s hS
      refine q_loadL (v := (Sl.t (a0.Files : Sl DFile))) trivial rfl hS hH hL_bp0 rfl (by kernel_rfl) ?_; intro s hS
      refine q_seg 1 [(0, .ptr bp0 0 0 5), (1, .str a1), (5, .int .i64 st1), (18, (Sl.t (a0.Files : Sl DFile))), (19, .int .i64 st1)] hS (by kernel_rfl) ?_; intro s hS
      obtain ⟨y2, hy2, h⟩ := bind_some h
      refine q_elt (sl := a0.Files) (e := 52) [.str y2.Name, (Sl.t (y2.Lines : Sl ByteArray)), .int .i64 y2.Mode, .int .i64 y2.At] rfl hS rfl rfl (by kernel_rfl) (by kernel_rfl) hy2 rfl ?_; intro rest1 s hS
      refine q_seg 4 [(0, .ptr bp0 0 0 5), (1, .str a1), (5, .int .i64 st1), (24, .bool (decide (y2.Name = a1)))] hS (by kernel_rfl) ?_; intro s hS
      refine x_nil ?_
      refine sq_n ?_
      by_cases hc2 : (decide (y2.Name = a1)) = true
      · have h := it_pos hc2 h
        refine c_cond hS rfl (fun _ => ?_) (fun hf => ff_absurd hc2 hf)
        refine c_seq ?_
        refine c_region ?_
        refine q_seg 2 [(4, .int .i64 st1)] hS (by kernel_rfl) ?_; intro s hS
        refine x_nil ?_
        refine sq_n ?_
        refine c_ret ?_
        refine bk_r ?_
        refine sq_r ?_
        injection h with h; subst h
        exact And.intro rfl (end_W hH (r_tmp (v := .int .i64 st1) hS rfl r_nil) rfl (by kernel_rfl) (by simp [pureT, pureL, E_i64]))
      · have h := it_neg hc2 h
        refine c_cond hS rfl (fun hf => tt_absurd hc2 hf) (fun _ => ?_)
        refine c_skip ?_
        refine bk_n ?_
        refine sq_n ?_
        refine c_region ?_
        refine q_seg 3 [(0, .ptr bp0 0 0 5), (1, .str a1), (5, .int .i64 (IntKind.i64.wrap (st1 + 1)))] hS (by kernel_rfl) ?_; intro s hS
        refine x_nil ?_
        injection h with h; subst h
        exact And.intro (sub_to hS (by kernel_rfl)) hH
    · have h := it_neg hc1 h
      refine c_cond hS rfl (fun hf => tt_absurd hc1 hf) (fun _ => ?_)
      refine c_exit ?_
      refine sq_x ?_
      injection h with h; subst h
      exact And.intro rfl (And.intro (sub_to hS (by kernel_rfl)) hH)
  · clear hS hH; intro e fr HF; obtain ⟨s, σ⟩ := fr
    rcases y1 with y1 | y1
    · obtain ⟨rfl, hS, hH⟩ := HF
      refine bk_e ?_
      refine sq_n ?_
      refine c_seq ?_
      refine c_region ?_
      refine q_seg 1 [(4, .int .i64 (-1))] hS (by kernel_rfl) ?_; intro s hS
      refine x_nil ?_
      refine sq_n ?_
      refine c_ret ?_
      injection h with h; subst h
      exact end_W hH (r_tmp (v := .int .i64 (-1)) hS rfl r_nil) rfl (by kernel_rfl) (by simp [pureT, pureL, E_i64])
    · obtain ⟨rfl, HE⟩ := HF
      refine bk_r ?_
      refine sq_r ?_
      injection h with h; subst h; exact HE
end Go.Am
end
section
set_option maxRecDepth 100000
set_option maxHeartbeats 4000000
set_option linter.unusedVariables false
set_option linter.unusedSimpArgs false
namespace Go.Am
open Go.Proofs
noncomputable def B_spec_l21Lines (a0 : (Sl ByteArray)) (a1 : Int) (a2 : Int) : Option Bool := (if (decide (a1 < (a0.l.length : Int))) = true then (some false) else ((loopO (S := Int) (R := (Unit ⊕ Bool)) (fun st1 => (if (decide (st1 < (a0.l.length : Int))) = true then ((elt a0 st1).bind fun y2 => (if (decide (a2 < (y2.size : Int))) = true then (some (.inr (.inr false))) else (some (.inl (IntKind.i64.wrap (st1 + 1)))))) else (some (.inr (.inl ()))))) 0).bind fun y1 => (Sum.elim (fun y1 => (some true)) (fun y1 => (some y1)) y1)))
theorem u_spec_l21Lines (a0 : (Sl ByteArray)) (a1 : Int) (a2 : Int) (r : Bool) (h : B_spec_l21Lines a0 a1 a2 = some r) : F_spec_l21Lines a0 a1 a2 = some r := by
  unfold B_spec_l21Lines at h
  refine semW_of E_bool_inj rfl rfl ok_85 rfl (all_cons (by kernel_rfl) (all_cons (by kernel_rfl) (all_cons (by kernel_rfl) all_nil))) ?_
  intro σ0 s hS hH
  have hS := sub_to (L' := [(0, (Sl.t (a0 : Sl ByteArray))), (1, .int .i64 a1), (2, .int .i64 a2)]) hS (by kernel_rfl)
  refine c_seq ?_
  refine c_region ?_
  refine q_seg 1 [(0, (Sl.t (a0 : Sl ByteArray))), (1, .int .i64 a1), (2, .int .i64 a2)] hS (by kernel_rfl) ?_; intro s hS
  refine x_nil ?_
  refine sq_n ?_
  refine c_seq ?_
  refine c_seq ?_
  refine c_region ?_
  refine q_seg 4 [(0, (Sl.t (a0 : Sl ByteArray))), (2, .int .i64 a2), (11, .bool (decide (a1 < (a0.l.length : Int))))] hS (by kernel_rfl) ?_; intro s hS
  refine x_nil ?_
  refine sq_n ?_
  by_cases hc1 : (decide (a1 < (a0.l.length : Int))) = true
  · have h := it_pos hc1 h
    refine c_cond hS rfl (fun _ => ?_) (fun hf => ff_absurd hc1 hf)
    refine c_seq ?_
    refine c_region ?_
    refine q_seg 1 [(6, .bool false)] hS (by kernel_rfl) ?_; intro s hS
    refine x_nil ?_
    refine sq_n ?_
    refine c_ret ?_
    refine sq_r ?_
    injection h with h; subst h
    exact end_W hH (r_tmp (v := .bool false) hS rfl r_nil) rfl (by kernel_rfl) (by simp [pureT, pureL, E_bool])
  · have h := it_neg hc1 h
    refine c_cond hS rfl (fun hf => tt_absurd hc1 hf) (fun _ => ?_)
    refine c_skip ?_
    refine sq_n ?_
    refine c_seq ?_
    refine c_seq ?_
    refine c_region ?_
    refine q_seg 1 [(0, (Sl.t (a0 : Sl ByteArray))), (2, .int .i64 a2), (7, .int .i64 0)] hS (by kernel_rfl) ?_; intro s hS
    refine x_nil ?_
    refine sq_n ?_
    refine c_block ?_
    obtain ⟨y1, hy1, h⟩ := bind_some h
    refine c_loop (fun (st1 : Int) (fr : Fr) => Sub [(0, (Sl.t (a0 : Sl ByteArray))), (2, .int .i64 a2), (7, .int .i64 st1)] fr.s ∧ Heap σ0 fr.σ []) (fun (y1 : (Unit ⊕ Bool)) (e : AExit) (fr : Fr) => (Sum.elim (fun y => e = (.exit 0) ∧ Sub [] fr.s ∧ Heap σ0 fr.σ []) (fun y => e = .ret ∧ endW Try.prog (Try.f85.results.toList) σ0 (E_bool y) .ret fr)) y1) hy1 (And.intro (sub_to hS (by kernel_rfl)) hH) ?_ ?_
    · clear h hy1 hS hH; clear y1; intro st1 x fr h HI; obtain ⟨s, σ⟩ := fr; obtain ⟨hS, hH⟩ := HI
      refine c_seq ?_
      refine c_seq ?_
      refine c_region ?_
      refine q_seg 4 [(0, (Sl.t (a0 : Sl ByteArray))), (2, .int .i64 a2), (7, .int .i64 st1), (15, .bool (decide (st1 < (a0.l.length : Int))))] hS (by kernel_rfl) ?_; intro s hS
      refine x_nil ?_
      refine sq_n ?_
      by_cases hc2 : (decide (st1 < (a0.l.length : Int))) = true
      · have h := it_pos hc2 h
        refine c_cond hS rfl (fun _ => ?_) (fun hf => ff_absurd hc2 hf)
        refine c_skip ?_
        refine sq_n ?_
        refine c_seq ?_
        refine c_block ?_
        refine c_seq ?_
        refine c_region ?_
        refine q_seg 2 [(0, (Sl.t (a0 : Sl ByteArray))), (2, .int .i64 a2), (7, .int .i64 st1), (18, (Sl.t (a0 : Sl ByteArray))), (19, .int .i64 st1)] hS (by kernel_rfl) ?_; intro s hS
        obtain ⟨y2, hy2, h⟩ := bind_some h
        refine q_elt (sl := a0) (e := 9) [.str y2] rfl hS rfl rfl (by kernel_rfl) (by kernel_rfl) hy2 rfl ?_; intro rest1 s hS
        refine q_seg 4 [(0, (Sl.t (a0 : Sl ByteArray))), (2, .int .i64 a2), (7, .int .i64 st1), (24, .bool (decide (a2 < (y2.size : Int))))] hS (by kernel_rfl) ?_; intro s hS
        refine x_nil ?_
        refine sq_n ?_
        by_cases hc3 : (decide (a2 < (y2.size : Int))) = true
        · have h := it_pos hc3 h
          refine c_cond hS rfl (fun _ => ?_) (fun hf => ff_absurd hc3 hf)
          refine c_seq ?_
          refine c_region ?_
          refine q_seg 1 [(6, .bool false)] hS (by kernel_rfl) ?_; intro s hS
          refine x_nil ?_
          refine sq_n ?_
          refine c_ret ?_
          refine bk_r ?_
          refine sq_r ?_
          injection h with h; subst h
          exact And.intro rfl (end_W hH (r_tmp (v := .bool false) hS rfl r_nil) rfl (by kernel_rfl) (by simp [pureT, pureL, E_bool]))
        · have h := it_neg hc3 h
          refine c_cond hS rfl (fun hf => tt_absurd hc3 hf) (fun _ => ?_)
          refine c_skip ?_
          refine bk_n ?_
          refine sq_n ?_
          refine c_region ?_
          refine q_seg 3 [(0, (Sl.t (a0 : Sl ByteArray))), (2, .int .i64 a2), (7, .int .i64 (IntKind.i64.wrap (st1 + 1)))] hS (by kernel_rfl) ?_; intro s hS
          refine x_nil ?_
          injection h with h; subst h
          exact And.intro (sub_to hS (by kernel_rfl)) hH
      · have h := it_neg hc2 h
        refine c_cond hS rfl (fun hf => tt_absurd hc2 hf) (fun _ => ?_)
        refine c_exit ?_
        refine sq_x ?_
        injection h with h; subst h
        exact And.intro rfl (And.intro (sub_to hS (by kernel_rfl)) hH)
    · clear hS hH; intro e fr HF; obtain ⟨s, σ⟩ := fr
      rcases y1 with y1 | y1
      · obtain ⟨rfl, hS, hH⟩ := HF
        refine bk_e ?_
        refine sq_n ?_
        refine c_seq ?_
        refine c_region ?_
        refine q_seg 1 [(6, .bool true)] hS (by kernel_rfl) ?_; intro s hS
        refine x_nil ?_
        refine sq_n ?_
        refine c_ret ?_
        injection h with h; subst h
        exact end_W hH (r_tmp (v := .bool true) hS rfl r_nil) rfl (by kernel_rfl) (by simp [pureT, pureL, E_bool])
      · obtain ⟨rfl, HE⟩ := HF
        refine bk_r ?_
        refine sq_r ?_
        injection h with h; subst h; exact HE
end Go.Am
end
section
set_option maxRecDepth 100000
set_option maxHeartbeats 4000000
set_option linter.unusedVariables false
set_option linter.unusedSimpArgs false
namespace Go.Am
open Go.Proofs
noncomputable def B_spec_l21File (a0 : DFile) : Option Bool := ((F_spec_IsName a0.Name).bind fun y1 => (if (!y1) = true then (some false) else ((F_spec_l21Lines a0.Lines 40 200).bind fun y2 => (if (!y2) = true then (some false) else ((F_spec_l00In a0.Mode 0 3).bind fun y3 => (if (!y3) = true then (some false) else ((F_spec_l00In a0.At 0 (a0.Lines.l.length : Int)).bind fun y4 => (if y4 = true then (if (decide (a0.Mode = 1)) = true then (some true) else (some (decide (a0.At = 0)))) else (some false)))))))))
theorem u_spec_l21File (a0 : DFile) (r : Bool) (h : B_spec_l21File a0 = some r) : F_spec_l21File a0 = some r := by
  unfold B_spec_l21File at h
  refine semW_of E_bool_inj rfl rfl ok_86 rfl (all_cons (by kernel_rfl) all_nil) ?_
  intro σ0 s hS hH
  have hS := sub_to (L' := [(0, .agg (DFile.cells a0))]) hS (by kernel_rfl)
  refine c_seq ?_
  refine c_region ?_
  refine q_box (v := .agg (DFile.cells a0)) (cs := [.str a0.Name, (Sl.t (a0.Lines : Sl ByteArray)), .int .i64 a0.Mode, .int .i64 a0.At]) rfl hS hH rfl rfl (by kernel_rfl) ?_; intro b1 σ s hH hS
  refine q_seg 1 [(1, .ptr b1 0 0 4)] hS (by kernel_rfl) ?_; intro s hS
  refine x_nil ?_
  refine sq_n ?_
  refine c_seq ?_
  refine c_seq ?_
  refine c_region ?_
  refine q_seg 1 [(1, .ptr b1 0 0 4), (3, .ptr b1 0 0 1)] hS (by kernel_rfl) ?_; intro s hS
  refine q_load (v := .str a0.Name) 0 trivial rfl hS hH rfl rfl (by kernel_rfl) ?_; intro s hS
  obtain ⟨y1, hy1, h⟩ := bind_some h
  refine q_callF (a := []) (b := []) (xs := [.str a0.Name]) rfl hS rfl rfl hy1 ?_; intro s hS
  refine q_seg 2 [(7, .bool (!y1)), (1, .ptr b1 0 0 4)] hS (by kernel_rfl) ?_; intro s hS
  by_cases hc1 : (!y1) = true
  · have h := it_pos hc1 h
    have hS := sub_bt hS hc1
    refine q_seg 11 [(1, .ptr b1 0 0 4), (18, .bool true)] hS (by kernel_rfl) ?_; intro s hS
    refine x_nil ?_
    refine sq_n ?_
    refine c_cond (t := true) hS rfl (fun _ => ?_) (fun hf => by cases hf)
    refine c_seq ?_
    refine c_region ?_
    refine q_seg 1 [(2, .bool false)] hS (by kernel_rfl) ?_; intro s hS
    refine x_nil ?_
    refine sq_n ?_
    refine c_ret ?_
    refine sq_r ?_
    injection h with h; subst h
    exact end_W hH (r_tmp (v := .bool false) hS rfl r_nil) rfl (by kernel_rfl) (by simp [pureT, pureL, E_bool])
  · have h := it_neg hc1 h
    have hS := sub_bt hS (tt_of hc1)
    refine q_seg 1 [(1, .ptr b1 0 0 4), (7, .bool false), (8, .ptr b1 0 1 1)] hS (by kernel_rfl) ?_; intro s hS
    refine q_load (v := (Sl.t (a0.Lines : Sl ByteArray))) 0 trivial rfl hS hH rfl rfl (by kernel_rfl) ?_; intro s hS
    obtain ⟨y2, hy2, h⟩ := bind_some h
    refine q_callF (a := []) (b := []) (xs := [(Sl.t (a0.Lines : Sl ByteArray)), .int .i64 40, .int .i64 200]) rfl hS rfl rfl hy2 ?_; intro s hS
    refine q_seg 3 [(13, .bool (!y2)), (1, .ptr b1 0 0 4)] hS (by kernel_rfl) ?_; intro s hS
    by_cases hc2 : (!y2) = true
    · have h := it_pos hc2 h
      have hS := sub_bt hS hc2
      refine q_seg 5 [(1, .ptr b1 0 0 4), (18, .bool true)] hS (by kernel_rfl) ?_; intro s hS
      refine x_nil ?_
      refine sq_n ?_
      refine c_cond (t := true) hS rfl (fun _ => ?_) (fun hf => by cases hf)
      refine c_seq ?_
      refine c_region ?_
      refine q_seg 1 [(2, .bool false)] hS (by kernel_rfl) ?_; intro s hS
      refine x_nil ?_
      refine sq_n ?_
      refine c_ret ?_
      refine sq_r ?_
      injection h with h; subst h
      exact end_W hH (r_tmp (v := .bool false) hS rfl r_nil) rfl (by kernel_rfl) (by simp [pureT, pureL, E_bool])
    · have h := it_neg hc2 h
      have hS := sub_bt hS (tt_of hc2)
      refine q_seg 1 [(1, .ptr b1 0 0 4), (13, .bool false), (14, .ptr b1 0 2 1)] hS (by kernel_rfl) ?_; intro s hS
      refine q_load (v := .int .i64 a0.Mode) 0 trivial rfl hS hH rfl rfl (by kernel_rfl) ?_; intro s hS
      obtain ⟨y3, hy3, h⟩ := bind_some h
      refine q_callF (a := []) (b := []) (xs := [.int .i64 a0.Mode, .int .i64 0, .int .i64 3]) rfl hS rfl rfl hy3 ?_; intro s hS
      refine q_seg 2 [(1, .ptr b1 0 0 4), (18, .bool (!y3))] hS (by kernel_rfl) ?_; intro s hS
      refine x_nil ?_
      refine sq_n ?_
      by_cases hc3 : (!y3) = true
      · have h := it_pos hc3 h
        refine c_cond hS rfl (fun _ => ?_) (fun hf => ff_absurd hc3 hf)
        refine c_seq ?_
        refine c_region ?_
        refine q_seg 1 [(2, .bool false)] hS (by kernel_rfl) ?_; intro s hS
        refine x_nil ?_
        refine sq_n ?_
        refine c_ret ?_
        refine sq_r ?_
        injection h with h; subst h
        exact end_W hH (r_tmp (v := .bool false) hS rfl r_nil) rfl (by kernel_rfl) (by simp [pureT, pureL, E_bool])
      · have h := it_neg hc3 h
        refine c_cond hS rfl (fun hf => tt_absurd hc3 hf) (fun _ => ?_)
        refine c_skip ?_
        refine sq_n ?_
        refine c_seq ?_
        refine c_region ?_
        refine q_seg 1 [(1, .ptr b1 0 0 4), (19, .ptr b1 0 3 1)] hS (by kernel_rfl) ?_; intro s hS
        refine q_load (v := .int .i64 a0.At) 0 trivial rfl hS hH rfl rfl (by kernel_rfl) ?_; intro s hS
        refine q_seg 1 [(1, .ptr b1 0 0 4), (20, .int .i64 a0.At), (21, .ptr b1 0 1 1)] hS (by kernel_rfl) ?_; intro s hS
        refine q_load (v := (Sl.t (a0.Lines : Sl ByteArray))) 0 trivial rfl hS hH rfl rfl (by kernel_rfl) ?_; intro s hS
        refine q_seg 1 [(1, .ptr b1 0 0 4), (20, .int .i64 a0.At), (23, .int .i64 (a0.Lines.l.length : Int))] hS (by kernel_rfl) ?_; intro s hS
        obtain ⟨y4, hy4, h⟩ := bind_some h
        refine q_callF (a := []) (b := []) (xs := [.int .i64 a0.At, .int .i64 0, .int .i64 (a0.Lines.l.length : Int)]) rfl hS rfl rfl hy4 ?_; intro s hS
        refine q_seg 1 [(25, .bool y4), (1, .ptr b1 0 0 4)] hS (by kernel_rfl) ?_; intro s hS
        by_cases hc4 : y4 = true
        · have h := it_pos hc4 h
          have hS := sub_bt hS hc4
          refine q_seg 1 [(1, .ptr b1 0 0 4), (25, .bool true), (26, .ptr b1 0 2 1)] hS (by kernel_rfl) ?_; intro s hS
          refine q_load (v := .int .i64 a0.Mode) 0 trivial rfl hS hH rfl rfl (by kernel_rfl) ?_; intro s hS
          refine q_seg 2 [(29, .bool (decide (a0.Mode = 1))), (1, .ptr b1 0 0 4), (25, .bool true)] hS (by kernel_rfl) ?_; intro s hS
          by_cases hc5 : (decide (a0.Mode = 1)) = true
          · have h := it_pos hc5 h
            have hS := sub_bt hS hc5
            refine q_seg 6 [(2, .bool true)] hS (by kernel_rfl) ?_; intro s hS
            refine x_nil ?_
            refine sq_n ?_
            refine c_ret ?_
            injection h with h; subst h
            exact end_W hH (r_tmp (v := .bool true) hS rfl r_nil) rfl (by kernel_rfl) (by simp [pureT, pureL, E_bool])
          · have h := it_neg hc5 h
            have hS := sub_bt hS (tt_of hc5)
            refine q_seg 1 [(25, .bool true), (29, .bool false), (30, .ptr b1 0 3 1)] hS (by kernel_rfl) ?_; intro s hS
            refine q_load (v := .int .i64 a0.At) 0 trivial rfl hS hH rfl rfl (by kernel_rfl) ?_; intro s hS
            refine q_seg 4 [(2, .bool (decide (a0.At = 0)))] hS (by kernel_rfl) ?_; intro s hS
            refine x_nil ?_
            refine sq_n ?_
            refine c_ret ?_
            injection h with h; subst h
            exact end_W hH (r_tmp (v := .bool (decide (a0.At = 0))) hS rfl r_nil) rfl (by kernel_rfl) (by simp [pureT, pureL, E_bool])
        · have h := it_neg hc4 h
          have hS := sub_bt hS (tt_of hc4)
          refine q_seg 10 [(2, .bool false)] hS (by kernel_rfl) ?_; intro s hS
          refine x_nil ?_
          refine sq_n ?_
          refine c_ret ?_
          injection h with h; subst h
          exact end_W hH (r_tmp (v := .bool false) hS rfl r_nil) rfl (by kernel_rfl) (by simp [pureT, pureL, E_bool])
end Go.Am
end
