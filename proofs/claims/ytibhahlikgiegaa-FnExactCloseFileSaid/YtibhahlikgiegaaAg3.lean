/- Functions of the program. -/
import Derived.Test.YtibhahlikgiegaaAd0
section
set_option maxRecDepth 100000
set_option maxHeartbeats 4000000
set_option linter.unusedVariables false
set_option linter.unusedSimpArgs false
namespace Go.Am
open Go.Proofs
noncomputable def B_impl_CloseFile (a0 : DConsole) (a1 : ByteArray) : Option (DConsole × Int) := ((((F_impl_ValidConsole a0).bind fun y2 => (if (!y2) = true then (some (0, 1, (⟨true, []⟩ : Sl ByteArray), (⟨true, []⟩ : Sl ByteArray), (⟨true, []⟩ : Sl DFile), (⟨true, []⟩ : Sl ByteArray))) else ((F_impl_IsName a1).bind fun y3 => (if (!y3) = true then (some (0, 1, (⟨true, []⟩ : Sl ByteArray), (⟨true, []⟩ : Sl ByteArray), (⟨true, []⟩ : Sl DFile), (⟨true, []⟩ : Sl ByteArray))) else ((F_impl_Console_copied a0).bind fun y4 => ((loopO (S := (Int × Int)) (R := Int) (fun st1 => (if (decide (st1.1 < st1.2)) = true then ((elt y4.Files ((IntKind.i64.wrap (((IntKind.u64.wrap (IntKind.i64.wrap (st1.1 + st1.2))).fdiv (2 ^ 1)))))).bind fun y6 => ((F_impl_nameOfFile y6).bind fun y7 => ((F_cmp_Compare_string y7 a1).bind fun y8 => (if (decide (y8 < 0)) = true then (some (.inl ((IntKind.i64.wrap ((IntKind.i64.wrap (((IntKind.u64.wrap (IntKind.i64.wrap (st1.1 + st1.2))).fdiv (2 ^ 1)))) + 1)), st1.2))) else (some (.inl (st1.1, (IntKind.i64.wrap (((IntKind.u64.wrap (IntKind.i64.wrap (st1.1 + st1.2))).fdiv (2 ^ 1))))))))))) else (some (.inr st1.1)))) (0, (y4.Files.l.length : Int))).bind fun y5 => (if (decide (y5 < (y4.Files.l.length : Int))) = true then ((elt y4.Files y5).bind fun y9 => ((F_impl_nameOfFile y9).bind fun y10 => ((F_cmp_Compare_string y10 a1).bind fun y11 => (if (!(decide (y11 = 0))) = true then (some (0, 11, (⟨true, []⟩ : Sl ByteArray), (⟨true, []⟩ : Sl ByteArray), (⟨true, []⟩ : Sl DFile), (⟨true, []⟩ : Sl ByteArray))) else ((elt y4.Files y5).bind fun y12 => ((F_impl_unless (!decide (y12.Mode = 0)) 10).bind fun y13 => ((elt (setS y4.Files y5 ((⟨y12.Name, y12.Lines, 0, y12.At⟩ : DFile) : DFile)) y5).bind fun y14 => (if (!decide (y13 = 0)) = true then (some (0, y13, (⟨true, []⟩ : Sl ByteArray), (⟨true, []⟩ : Sl ByteArray), (⟨true, []⟩ : Sl DFile), (⟨true, []⟩ : Sl ByteArray))) else (some (y4.At, 0, y4.Input, y4.Output, (setS (setS y4.Files y5 ((⟨y12.Name, y12.Lines, 0, y12.At⟩ : DFile) : DFile)) y5 ((⟨y14.Name, y14.Lines, y14.Mode, 0⟩ : DFile) : DFile)), y4.Trace)))))))))) else (some (0, 11, (⟨true, []⟩ : Sl ByteArray), (⟨true, []⟩ : Sl ByteArray), (⟨true, []⟩ : Sl DFile), (⟨true, []⟩ : Sl ByteArray)))))))))) : Option ((Int × Int × (Sl ByteArray) × (Sl ByteArray) × (Sl DFile) × (Sl ByteArray)))).bind fun y1 => (some ((⟨y1.2.2.1, y1.1, y1.2.2.2.1, y1.2.2.2.2.1, y1.2.2.2.2.2⟩ : DConsole), y1.2.1)))
theorem u_impl_CloseFile (a0 : DConsole) (a1 : ByteArray) (r : (DConsole × Int)) (h : B_impl_CloseFile a0 a1 = some r) : F_impl_CloseFile a0 a1 = some r := by
  unfold B_impl_CloseFile at h
  refine semO_of rfl rfl ok_29 rfl (all_cons (by kernel_rfl) (all_cons (by kernel_rfl) all_nil)) ?_
  intro σ0 s hS hH
  have hS := sub_to (L' := [(0, .agg (DConsole.cells a0)), (1, .str a1)]) hS (by kernel_rfl)
  refine c_seq ?_
  refine c_region ?_
  refine q_box (v := .agg (DConsole.cells a0)) (cs := [(Sl.t (a0.Input : Sl ByteArray)), .int .i64 a0.At, (Sl.t (a0.Output : Sl ByteArray)), (Sl.t (a0.Files : Sl DFile)), (Sl.t (a0.Trace : Sl ByteArray))]) rfl hS hH rfl rfl (by kernel_rfl) ?_; intro b1 σ s hH hS
  refine q_alloc (z := [(Sl.t (⟨true, []⟩ : Sl ByteArray)), .int .i64 0, (Sl.t (⟨true, []⟩ : Sl ByteArray)), (Sl.t (⟨true, []⟩ : Sl DFile)), (Sl.t (⟨true, []⟩ : Sl ByteArray))]) rfl hS hH (by kernel_rfl) ?_; intro b2 σ s hH hS
  refine q_seg 1 [(1, .str a1), (2, .ptr b1 0 0 5), (4, .ptr b2 0 0 5)] hS (by kernel_rfl) ?_; intro s hS
  refine x_nil ?_
  refine sq_n ?_
  refine c_seq ?_
  refine c_region ?_
  refine q_load (v := .agg (DConsole.cells a0)) 1 trivial rfl hS hH rfl rfl (by kernel_rfl) ?_; intro s hS
  refine q_seg 1 [(4, .ptr b2 0 0 5), (6, .agg (DConsole.cells a0)), (7, .str a1)] hS (by kernel_rfl) ?_; intro s hS
  obtain ⟨y1, hy1, h⟩ := bind_some h
  refine q_inlC (HF := fun s σ => ∃ t1, IsOne t1 ∧ ∃ t2, IsOne t2 ∧ ∃ t3, IsOne t3 ∧ ∃ t4, IsOne t4 ∧ Sub [(4, .ptr b2 0 0 5), (8, .tup [.agg [t1, .int .i64 y1.1, t2, t3, t4], .int .i64 y1.2.1])] s ∧ Heap σ0 σ [.box b2 [(Sl.t (⟨true, []⟩ : Sl ByteArray)), .int .i64 0, (Sl.t (⟨true, []⟩ : Sl ByteArray)), (Sl.t (⟨true, []⟩ : Sl DFile)), (Sl.t (⟨true, []⟩ : Sl ByteArray))], .own true 1 t1 (Sl.t (y1.2.2.1 : Sl ByteArray)), .own true 1 t2 (Sl.t (y1.2.2.2.1 : Sl ByteArray)), .own true 4 t3 (Sl.t (y1.2.2.2.2.1 : Sl DFile)), .own true 1 t4 (Sl.t (y1.2.2.2.2.2 : Sl ByteArray))]) [.agg (DConsole.cells a0), .str a1, T.fn 62 [] []] rfl hS rfl rfl rfl rfl rfl ok_59 rfl ?_ ?_
  · clear h; have h := hy1; intro s hS
    have hS := sub_to (L' := [(0, .agg (DConsole.cells a0)), (1, .str a1), (2, T.fn 62 [] [])]) hS (by kernel_rfl)
    refine c_seq ?_
    refine c_region ?_
    refine q_box (v := .agg (DConsole.cells a0)) (cs := [(Sl.t (a0.Input : Sl ByteArray)), .int .i64 a0.At, (Sl.t (a0.Output : Sl ByteArray)), (Sl.t (a0.Files : Sl DFile)), (Sl.t (a0.Trace : Sl ByteArray))]) rfl hS hH rfl rfl (by kernel_rfl) ?_; intro b3 σ s hH hS
    refine q_alloc (z := [(Sl.t (⟨true, []⟩ : Sl ByteArray)), .int .i64 0, (Sl.t (⟨true, []⟩ : Sl ByteArray)), (Sl.t (⟨true, []⟩ : Sl DFile)), (Sl.t (⟨true, []⟩ : Sl ByteArray))]) rfl hS hH (by kernel_rfl) ?_; intro b4 σ s hH hS
    refine q_seg 1 [(1, .str a1), (2, T.fn 62 [] []), (3, .ptr b3 0 0 5), (6, .ptr b4 0 0 5)] hS (by kernel_rfl) ?_; intro s hS
    refine x_nil ?_
    refine sq_n ?_
    refine c_seq ?_
    refine c_seq ?_
    refine c_region ?_
    refine q_load (v := .agg (DConsole.cells a0)) 1 trivial rfl hS hH rfl rfl (by kernel_rfl) ?_; intro s hS
    obtain ⟨y2, hy2, h⟩ := bind_some h
    refine q_callF (a := []) (b := []) (xs := [.agg (DConsole.cells a0)]) rfl hS rfl rfl hy2 ?_; intro s hS
    refine q_seg 2 [(15, .bool (!y2)), (1, .str a1), (2, T.fn 62 [] []), (3, .ptr b3 0 0 5), (6, .ptr b4 0 0 5)] hS (by kernel_rfl) ?_; intro s hS
    by_cases hc1 : (!y2) = true
    · have h := it_pos hc1 h
      have hS := sub_bt hS hc1
      refine q_seg 4 [(1, .str a1), (2, T.fn 62 [] []), (3, .ptr b3 0 0 5), (6, .ptr b4 0 0 5), (19, .bool true)] hS (by kernel_rfl) ?_; intro s hS
      refine x_nil ?_
      refine sq_n ?_
      refine c_cond (t := true) hS rfl (fun _ => ?_) (fun hf => by cases hf)
      refine c_seq ?_
      refine c_region ?_
      refine q_seg 1 [(6, .ptr b4 0 0 5), (20, .agg [(Sl.t (⟨true, []⟩ : Sl ByteArray)), .int .i64 0, (Sl.t (⟨true, []⟩ : Sl ByteArray)), (Sl.t (⟨true, []⟩ : Sl DFile)), (Sl.t (⟨true, []⟩ : Sl ByteArray))])] hS (by kernel_rfl) ?_; intro s hS
      refine q_store (v := .agg [(Sl.t (⟨true, []⟩ : Sl ByteArray)), .int .i64 0, (Sl.t (⟨true, []⟩ : Sl ByteArray)), (Sl.t (⟨true, []⟩ : Sl DFile)), (Sl.t (⟨true, []⟩ : Sl ByteArray))]) (cs := [(Sl.t (⟨true, []⟩ : Sl ByteArray)), .int .i64 0, (Sl.t (⟨true, []⟩ : Sl ByteArray)), (Sl.t (⟨true, []⟩ : Sl DFile)), (Sl.t (⟨true, []⟩ : Sl ByteArray))]) (cells' := [(Sl.t (⟨true, []⟩ : Sl ByteArray)), .int .i64 0, (Sl.t (⟨true, []⟩ : Sl ByteArray)), (Sl.t (⟨true, []⟩ : Sl DFile)), (Sl.t (⟨true, []⟩ : Sl ByteArray))]) rfl hS hH rfl rfl rfl (by kernel_rfl) (by kernel_rfl) ?_; intro σ s hH hS
      refine q_seg 1 [(6, .ptr b4 0 0 5), (7, .int .i64 1)] hS (by kernel_rfl) ?_; intro s hS
      refine x_nil ?_
      refine sq_n ?_
      refine c_ret ?_
      refine sq_r ?_
      refine end_I (v := .tup [.agg [(Sl.t (⟨true, []⟩ : Sl ByteArray)), .int .i64 0, (Sl.t (⟨true, []⟩ : Sl ByteArray)), (Sl.t (⟨true, []⟩ : Sl DFile)), (Sl.t (⟨true, []⟩ : Sl ByteArray))], .int .i64 1]) (r_cell (v := .agg [(Sl.t (⟨true, []⟩ : Sl ByteArray)), .int .i64 0, (Sl.t (⟨true, []⟩ : Sl ByteArray)), (Sl.t (⟨true, []⟩ : Sl DFile)), (Sl.t (⟨true, []⟩ : Sl ByteArray))]) hS hH rfl (by kernel_rfl) (r_tmp (v := .int .i64 1) hS rfl r_nil)) rfl ?_; intro s hS
      injection h with h; subst h
      have hH := Heap.addNil hH true 1
      have hH := Heap.addNil hH true 1
      have hH := Heap.addNil hH true 4
      have hH := Heap.addNil hH true 1
      exact Exists.intro (T.row true 0 []) (And.intro ⟨rfl, rfl⟩ (Exists.intro (T.row true 0 []) (And.intro ⟨rfl, rfl⟩ (Exists.intro (T.row true 0 []) (And.intro ⟨rfl, rfl⟩ (Exists.intro (T.row true 0 []) (And.intro ⟨rfl, rfl⟩ (And.intro (sub_to hS (by kernel_rfl)) (Heap.sel hH [6, 3, 2, 1, 0] rfl (by kernel_rfl))))))))))
    · have h := it_neg hc1 h
      have hS := sub_bt hS (tt_of hc1)
      refine q_seg 1 [(1, .str a1), (2, T.fn 62 [] []), (3, .ptr b3 0 0 5), (6, .ptr b4 0 0 5), (15, .bool false), (16, .str a1)] hS (by kernel_rfl) ?_; intro s hS
      obtain ⟨y3, hy3, h⟩ := bind_some h
      refine q_callF (a := []) (b := []) (xs := [.str a1]) rfl hS rfl rfl hy3 ?_; intro s hS
      refine q_seg 2 [(1, .str a1), (2, T.fn 62 [] []), (3, .ptr b3 0 0 5), (6, .ptr b4 0 0 5), (19, .bool (!y3))] hS (by kernel_rfl) ?_; intro s hS
      refine x_nil ?_
      refine sq_n ?_
      by_cases hc2 : (!y3) = true
      · have h := it_pos hc2 h
        refine c_cond hS rfl (fun _ => ?_) (fun hf => ff_absurd hc2 hf)
        refine c_seq ?_
        refine c_region ?_
        refine q_seg 1 [(6, .ptr b4 0 0 5), (20, .agg [(Sl.t (⟨true, []⟩ : Sl ByteArray)), .int .i64 0, (Sl.t (⟨true, []⟩ : Sl ByteArray)), (Sl.t (⟨true, []⟩ : Sl DFile)), (Sl.t (⟨true, []⟩ : Sl ByteArray))])] hS (by kernel_rfl) ?_; intro s hS
        refine q_store (v := .agg [(Sl.t (⟨true, []⟩ : Sl ByteArray)), .int .i64 0, (Sl.t (⟨true, []⟩ : Sl ByteArray)), (Sl.t (⟨true, []⟩ : Sl DFile)), (Sl.t (⟨true, []⟩ : Sl ByteArray))]) (cs := [(Sl.t (⟨true, []⟩ : Sl ByteArray)), .int .i64 0, (Sl.t (⟨true, []⟩ : Sl ByteArray)), (Sl.t (⟨true, []⟩ : Sl DFile)), (Sl.t (⟨true, []⟩ : Sl ByteArray))]) (cells' := [(Sl.t (⟨true, []⟩ : Sl ByteArray)), .int .i64 0, (Sl.t (⟨true, []⟩ : Sl ByteArray)), (Sl.t (⟨true, []⟩ : Sl DFile)), (Sl.t (⟨true, []⟩ : Sl ByteArray))]) rfl hS hH rfl rfl rfl (by kernel_rfl) (by kernel_rfl) ?_; intro σ s hH hS
        refine q_seg 1 [(6, .ptr b4 0 0 5), (7, .int .i64 1)] hS (by kernel_rfl) ?_; intro s hS
        refine x_nil ?_
        refine sq_n ?_
        refine c_ret ?_
        refine sq_r ?_
        refine end_I (v := .tup [.agg [(Sl.t (⟨true, []⟩ : Sl ByteArray)), .int .i64 0, (Sl.t (⟨true, []⟩ : Sl ByteArray)), (Sl.t (⟨true, []⟩ : Sl DFile)), (Sl.t (⟨true, []⟩ : Sl ByteArray))], .int .i64 1]) (r_cell (v := .agg [(Sl.t (⟨true, []⟩ : Sl ByteArray)), .int .i64 0, (Sl.t (⟨true, []⟩ : Sl ByteArray)), (Sl.t (⟨true, []⟩ : Sl DFile)), (Sl.t (⟨true, []⟩ : Sl ByteArray))]) hS hH rfl (by kernel_rfl) (r_tmp (v := .int .i64 1) hS rfl r_nil)) rfl ?_; intro s hS
        injection h with h; subst h
        have hH := Heap.addNil hH true 1
        have hH := Heap.addNil hH true 1
        have hH := Heap.addNil hH true 4
        have hH := Heap.addNil hH true 1
        exact Exists.intro (T.row true 0 []) (And.intro ⟨rfl, rfl⟩ (Exists.intro (T.row true 0 []) (And.intro ⟨rfl, rfl⟩ (Exists.intro (T.row true 0 []) (And.intro ⟨rfl, rfl⟩ (Exists.intro (T.row true 0 []) (And.intro ⟨rfl, rfl⟩ (And.intro (sub_to hS (by kernel_rfl)) (Heap.sel hH [6, 3, 2, 1, 0] rfl (by kernel_rfl))))))))))
      · have h := it_neg hc2 h
        refine c_cond hS rfl (fun hf => tt_absurd hc2 hf) (fun _ => ?_)
        refine c_skip ?_
        refine sq_n ?_
        refine c_seq ?_
        refine c_region ?_
        refine q_load (v := .agg (DConsole.cells a0)) 1 trivial rfl hS hH rfl rfl (by kernel_rfl) ?_; intro s hS
        obtain ⟨y4, hy4, h⟩ := bind_some h
        refine q_callO (ents := []) (z := false) (ts := [.agg (DConsole.cells a0)]) (vs := [.agg (DConsole.cells a0)]) rfl rfl hS rfl rfl rfl hH (HL.agg (es1 := []) (es2 := []) (HL.leaf (fun σ d => hold_pure σ d _) (HL.leaf (fun σ d => hold_int _ σ d _ _) (HL.leaf (fun σ d => hold_pure σ d _) (HL.leaf (fun σ d => hold_pure σ d _) (HL.leaf (fun σ d => hold_pure σ d _) HL.nil))))) HL.nil) hy4 ?_; intro hs σ s hl hH hS
        obtain ⟨t5, t6, t7, t8, rfl⟩ := len4 hl
        have hH : Heap σ0 σ [.own true 1 t5 (Sl.t (y4.Input : Sl ByteArray)), .own true 1 t6 (Sl.t (y4.Output : Sl ByteArray)), .own true 4 t7 (Sl.t (y4.Files : Sl DFile)), .own true 1 t8 (Sl.t (y4.Trace : Sl ByteArray)), .box b4 [(Sl.t (⟨true, []⟩ : Sl ByteArray)), .int .i64 0, (Sl.t (⟨true, []⟩ : Sl ByteArray)), (Sl.t (⟨true, []⟩ : Sl DFile)), (Sl.t (⟨true, []⟩ : Sl ByteArray))], .box b3 [(Sl.t (a0.Input : Sl ByteArray)), .int .i64 a0.At, (Sl.t (a0.Output : Sl ByteArray)), (Sl.t (a0.Files : Sl DFile)), (Sl.t (a0.Trace : Sl ByteArray))], .box b2 [(Sl.t (⟨true, []⟩ : Sl ByteArray)), .int .i64 0, (Sl.t (⟨true, []⟩ : Sl ByteArray)), (Sl.t (⟨true, []⟩ : Sl DFile)), (Sl.t (⟨true, []⟩ : Sl ByteArray))], .box b1 [(Sl.t (a0.Input : Sl ByteArray)), .int .i64 a0.At, (Sl.t (a0.Output : Sl ByteArray)), (Sl.t (a0.Files : Sl DFile)), (Sl.t (a0.Trace : Sl ByteArray))]] := hH
        have ht5 : IsOne t5 := Heap.one hH
        have ht6 : IsOne t6 := Heap.one (hH.at 1 rfl)
        have ht7 : IsOne t7 := Heap.one (hH.at 2 rfl)
        have ht8 : IsOne t8 := Heap.one (hH.at 3 rfl)
        refine q_alloc (z := [(Sl.t (⟨true, []⟩ : Sl ByteArray)), .int .i64 0, (Sl.t (⟨true, []⟩ : Sl ByteArray)), (Sl.t (⟨true, []⟩ : Sl DFile)), (Sl.t (⟨true, []⟩ : Sl ByteArray))]) rfl hS hH (by kernel_rfl) ?_; intro b5 σ s hH hS
        refine q_store (v := .agg [t5, .int .i64 y4.At, t6, t7, t8]) (cs := [t5, .int .i64 y4.At, t6, t7, t8]) (cells' := [t5, .int .i64 y4.At, t6, t7, t8]) rfl hS hH rfl rfl rfl (by simp [ht5.1, ht5.2, ht6.1, ht6.2, ht7.1, ht7.2, ht8.1, ht8.2]) (by kernel_rfl) ?_; intro σ s hH hS
        refine x_nil ?_
        refine sq_n ?_
        refine c_seq ?_
        refine c_region ?_
        refine q_seg 1 [(1, .str a1), (2, T.fn 62 [] []), (6, .ptr b4 0 0 5), (8, .ptr b5 0 0 5), (24, .ptr b5 0 3 1)] hS (by kernel_rfl) ?_; intro s hS
        refine q_load (v := t7) 0 trivial rfl hS hH rfl rfl (by kernel_rfl) ?_; intro s hS
        refine q_seg 1 [(2, T.fn 62 [] []), (6, .ptr b4 0 0 5), (8, .ptr b5 0 0 5), (25, t7), (26, .str a1)] hS (by kernel_rfl) ?_; intro s hS
        refine q_inl [t7, .str a1, T.fn 73 [] []] rfl hS rfl rfl rfl rfl rfl ok_72 rfl ?_; intro s hS
        have hS := sub_to (L' := [(0, t7), (1, .str a1), (2, T.fn 73 [] [])]) hS (by kernel_rfl)
        refine c_seq ?_
        refine c_region ?_
        refine q_box (v := T.fn 73 [] []) (cs := [T.fn 73 [] []]) rfl hS hH rfl rfl (by kernel_rfl) ?_; intro b6 σ s hH hS
        refine q_seg 2 [(0, t7), (1, .str a1), (5, .ptr b6 0 0 1)] hS (by kernel_rfl) ?_; intro s hS
        refine x_nil ?_
        refine sq_n ?_
        refine c_seq ?_
        refine c_region ?_
        refine q_seg 3 [(8, t7), (9, .str a1), (10, T.fn 105 [] [.ptr b6 0 0 1])] hS (by kernel_rfl) ?_; intro s hS
        refine q_inl [t7, .str a1, T.fn 105 [] [.ptr b6 0 0 1]] rfl hS rfl rfl rfl rfl rfl ok_104 rfl ?_; intro s hS
        have hS := sub_to (L' := [(0, t7), (1, .str a1), (2, T.fn 105 [] [.ptr b6 0 0 1])]) hS (by kernel_rfl)
        refine c_seq ?_
        refine c_region ?_
        refine q_seg 2 [(0, t7), (1, .str a1), (2, T.fn 105 [] [.ptr b6 0 0 1])] hS (by kernel_rfl) ?_; intro s hS
        refine x_nil ?_
        refine sq_n ?_
        refine c_seq ?_
        refine c_region ?_
        refine q_seg 1 [(0, t7), (1, .str a1), (2, T.fn 105 [] [.ptr b6 0 0 1]), (12, t7)] hS (by kernel_rfl) ?_; intro s hS
        have hH : Heap σ0 σ [.own true 4 t7 (Sl.t (y4.Files : Sl DFile)), .box b6 [T.fn 73 [] []], .box b5 [t5, .int .i64 y4.At, t6, t7, t8], .own true 1 t5 (Sl.t (y4.Input : Sl ByteArray)), .own true 1 t6 (Sl.t (y4.Output : Sl ByteArray)), .own true 1 t8 (Sl.t (y4.Trace : Sl ByteArray)), .box b4 [(Sl.t (⟨true, []⟩ : Sl ByteArray)), .int .i64 0, (Sl.t (⟨true, []⟩ : Sl ByteArray)), (Sl.t (⟨true, []⟩ : Sl DFile)), (Sl.t (⟨true, []⟩ : Sl ByteArray))], .box b3 [(Sl.t (a0.Input : Sl ByteArray)), .int .i64 a0.At, (Sl.t (a0.Output : Sl ByteArray)), (Sl.t (a0.Files : Sl DFile)), (Sl.t (a0.Trace : Sl ByteArray))], .box b2 [(Sl.t (⟨true, []⟩ : Sl ByteArray)), .int .i64 0, (Sl.t (⟨true, []⟩ : Sl ByteArray)), (Sl.t (⟨true, []⟩ : Sl DFile)), (Sl.t (⟨true, []⟩ : Sl ByteArray))], .box b1 [(Sl.t (a0.Input : Sl ByteArray)), .int .i64 a0.At, (Sl.t (a0.Output : Sl ByteArray)), (Sl.t (a0.Files : Sl DFile)), (Sl.t (a0.Trace : Sl ByteArray))]] := hH.sel [4, 0, 1, 2, 3, 5, 6, 7, 8, 9] rfl (by kernel_rfl)
        refine q_lenH (a := y4.Files) rfl hS hH rfl (by kernel_rfl) ?_; intro s hS
        refine q_seg 1 [(0, t7), (1, .str a1), (2, T.fn 105 [] [.ptr b6 0 0 1]), (8, .int .i64 (y4.Files.l.length : Int))] hS (by kernel_rfl) ?_; intro s hS
        refine x_nil ?_
        refine sq_n ?_
        refine c_seq ?_
        refine c_region ?_
        refine q_seg 3 [(0, t7), (1, .str a1), (2, T.fn 105 [] [.ptr b6 0 0 1]), (8, .int .i64 (y4.Files.l.length : Int)), (9, .int .i64 0), (10, .int .i64 (y4.Files.l.length : Int))] hS (by kernel_rfl) ?_; intro s hS
        refine x_nil ?_
        refine sq_n ?_
        refine c_seq ?_
        refine c_block ?_
        obtain ⟨y5, hy5, h⟩ := bind_some h
        refine c_loop (fun (st1 : (Int × Int)) (fr : Fr) => Sub [(0, t7), (1, .str a1), (2, T.fn 105 [] [.ptr b6 0 0 1]), (8, .int .i64 (y4.Files.l.length : Int)), (9, .int .i64 st1.1), (10, .int .i64 st1.2)] fr.s ∧ Heap σ0 fr.σ [.box b6 [T.fn 73 [] []], .box b5 [t5, .int .i64 y4.At, t6, t7, t8], .box b4 [(Sl.t (⟨true, []⟩ : Sl ByteArray)), .int .i64 0, (Sl.t (⟨true, []⟩ : Sl ByteArray)), (Sl.t (⟨true, []⟩ : Sl DFile)), (Sl.t (⟨true, []⟩ : Sl ByteArray))], .box b2 [(Sl.t (⟨true, []⟩ : Sl ByteArray)), .int .i64 0, (Sl.t (⟨true, []⟩ : Sl ByteArray)), (Sl.t (⟨true, []⟩ : Sl DFile)), (Sl.t (⟨true, []⟩ : Sl ByteArray))], .own true 4 t7 (Sl.t (y4.Files : Sl DFile)), .own true 1 t5 (Sl.t (y4.Input : Sl ByteArray)), .own true 1 t6 (Sl.t (y4.Output : Sl ByteArray)), .own true 1 t8 (Sl.t (y4.Trace : Sl ByteArray))]) (fun (y5 : Int) (e : AExit) (fr : Fr) => e = (.exit 0) ∧ Sub [(0, t7), (1, .str a1), (2, T.fn 105 [] [.ptr b6 0 0 1]), (8, .int .i64 (y4.Files.l.length : Int)), (9, .int .i64 y5)] fr.s ∧ Heap σ0 fr.σ [.box b6 [T.fn 73 [] []], .box b5 [t5, .int .i64 y4.At, t6, t7, t8], .box b4 [(Sl.t (⟨true, []⟩ : Sl ByteArray)), .int .i64 0, (Sl.t (⟨true, []⟩ : Sl ByteArray)), (Sl.t (⟨true, []⟩ : Sl DFile)), (Sl.t (⟨true, []⟩ : Sl ByteArray))], .box b2 [(Sl.t (⟨true, []⟩ : Sl ByteArray)), .int .i64 0, (Sl.t (⟨true, []⟩ : Sl ByteArray)), (Sl.t (⟨true, []⟩ : Sl DFile)), (Sl.t (⟨true, []⟩ : Sl ByteArray))], .own true 4 t7 (Sl.t (y4.Files : Sl DFile)), .own true 1 t5 (Sl.t (y4.Input : Sl ByteArray)), .own true 1 t6 (Sl.t (y4.Output : Sl ByteArray)), .own true 1 t8 (Sl.t (y4.Trace : Sl ByteArray))]) hy5 (And.intro (sub_to hS (by kernel_rfl)) (Heap.sel hH [1, 2, 6, 8, 0, 3, 4, 5] rfl (by kernel_rfl))) ?_ ?_
        · clear h hy5 hS hH; clear y5; intro st1 x fr h HI; obtain ⟨s, σ⟩ := fr; obtain ⟨hS, hH⟩ := HI
          refine c_seq ?_
          refine c_seq ?_
          refine c_region ?_
          refine q_seg 3 [(0, t7), (1, .str a1), (2, T.fn 105 [] [.ptr b6 0 0 1]), (8, .int .i64 (y4.Files.l.length : Int)), (9, .int .i64 st1.1), (10, .int .i64 st1.2), (17, .bool (decide (st1.1 < st1.2)))] hS (by kernel_rfl) ?_; intro s hS
          refine x_nil ?_
          refine sq_n ?_
          by_cases hc3 : (decide (st1.1 < st1.2)) = true
          · have h := it_pos hc3 h
            refine c_cond hS rfl (fun _ => ?_) (fun hf => ff_absurd hc3 hf)
            refine c_skip ?_
            refine sq_n ?_
            refine c_block ?_
            refine c_seq ?_
            refine c_region ?_
            refine q_seg 7 [(0, t7), (1, .str a1), (2, T.fn 105 [] [.ptr b6 0 0 1]), (8, .int .i64 (y4.Files.l.length : Int)), (9, .int .i64 st1.1), (10, .int .i64 st1.2), (11, .int .i64 ((IntKind.i64.wrap (((IntKind.u64.wrap (IntKind.i64.wrap (st1.1 + st1.2))).fdiv (2 ^ 1))))))] hS (by kernel_rfl) ?_; intro s hS
            refine x_nil ?_
            refine sq_n ?_
            refine c_seq ?_
            refine c_region ?_
            refine q_seg 3 [(0, t7), (1, .str a1), (2, T.fn 105 [] [.ptr b6 0 0 1]), (8, .int .i64 (y4.Files.l.length : Int)), (9, .int .i64 st1.1), (10, .int .i64 st1.2), (11, .int .i64 ((IntKind.i64.wrap (((IntKind.u64.wrap (IntKind.i64.wrap (st1.1 + st1.2))).fdiv (2 ^ 1)))))), (24, T.fn 105 [] [.ptr b6 0 0 1]), (25, t7), (26, .int .i64 ((IntKind.i64.wrap (((IntKind.u64.wrap (IntKind.i64.wrap (st1.1 + st1.2))).fdiv (2 ^ 1))))))] hS (by kernel_rfl) ?_; intro s hS
            have hH : Heap σ0 σ [.own true 4 t7 (Sl.t (y4.Files : Sl DFile)), .box b6 [T.fn 73 [] []], .box b5 [t5, .int .i64 y4.At, t6, t7, t8], .box b4 [(Sl.t (⟨true, []⟩ : Sl ByteArray)), .int .i64 0, (Sl.t (⟨true, []⟩ : Sl ByteArray)), (Sl.t (⟨true, []⟩ : Sl DFile)), (Sl.t (⟨true, []⟩ : Sl ByteArray))], .box b2 [(Sl.t (⟨true, []⟩ : Sl ByteArray)), .int .i64 0, (Sl.t (⟨true, []⟩ : Sl ByteArray)), (Sl.t (⟨true, []⟩ : Sl DFile)), (Sl.t (⟨true, []⟩ : Sl ByteArray))], .own true 1 t5 (Sl.t (y4.Input : Sl ByteArray)), .own true 1 t6 (Sl.t (y4.Output : Sl ByteArray)), .own true 1 t8 (Sl.t (y4.Trace : Sl ByteArray))] := hH.sel [4, 0, 1, 2, 3, 5, 6, 7] rfl (by kernel_rfl)
            obtain ⟨y6, hy6, h⟩ := bind_some h
            refine q_hidx (a := y4.Files) (e := 52) rfl rfl hS hH rfl rfl (by kernel_rfl) (by kernel_rfl) hy6 ?_; intro hb1 hb1e s hl_hb1 hS
            refine q_hlensS (a := y4.Files) (j := (IntKind.i64.wrap (((IntKind.u64.wrap (IntKind.i64.wrap (st1.1 + st1.2))).fdiv (2 ^ 1))))) (y := y6) (off := 1) (c := [.str y6.Name, (Sl.t (y6.Lines : Sl ByteArray)), .int .i64 y6.Mode, .int .i64 y6.At]) (q := (y6.Lines : Sl ByteArray)) rfl rfl hS hH hl_hb1 rfl hy6 rfl (by kernel_rfl) (by kernel_rfl) rfl (by kernel_rfl) (by kernel_rfl) (by kernel_rfl) ?_; intro F1 σk1 t9 s ht9 hH hcl1 hcl1s hcl1k hcl1f hS
            refine q_seg 1 [(0, t7), (1, .str a1), (2, T.fn 105 [] [.ptr b6 0 0 1]), (8, .int .i64 (y4.Files.l.length : Int)), (9, .int .i64 st1.1), (10, .int .i64 st1.2), (11, .int .i64 ((IntKind.i64.wrap (((IntKind.u64.wrap (IntKind.i64.wrap (st1.1 + st1.2))).fdiv (2 ^ 1)))))), (24, T.fn 105 [] [.ptr b6 0 0 1]), (28, .agg [.str y6.Name, t9, .int .i64 y6.Mode, .int .i64 y6.At]), (29, .str a1)] hS (by kernel_rfl) ?_; intro s hS
            refine q_inl [.agg [.str y6.Name, t9, .int .i64 y6.Mode, .int .i64 y6.At], .str a1, .ptr b6 0 0 1] rfl hS rfl rfl rfl rfl rfl ok_105 rfl ?_; intro s hS
            have hS := sub_to (L' := [(0, .agg [.str y6.Name, t9, .int .i64 y6.Mode, .int .i64 y6.At]), (1, .str a1), (2, .ptr b6 0 0 1)]) hS (by kernel_rfl)
            refine c_seq ?_
            refine c_region ?_
            refine q_box (v := .agg [.str y6.Name, t9, .int .i64 y6.Mode, .int .i64 y6.At]) (cs := [.str y6.Name, t9, .int .i64 y6.Mode, .int .i64 y6.At]) rfl hS hH rfl rfl (by simp [ht9.1, ht9.2]) ?_; intro b7 σ s hH hS
            refine q_seg 1 [(1, .str a1), (2, .ptr b6 0 0 1), (3, .ptr b7 0 0 4)] hS (by kernel_rfl) ?_; intro s hS
            refine x_nil ?_
            refine sq_n ?_
            refine c_seq ?_
            refine c_region ?_
            refine q_load (v := T.fn 73 [] []) 3 trivial rfl hS hH rfl rfl (by kernel_rfl) ?_; intro s hS
            refine q_load (v := .agg [.str y6.Name, t9, .int .i64 y6.Mode, .int .i64 y6.At]) 0 trivial rfl hS hH rfl rfl (by kernel_rfl) ?_; intro s hS
            obtain ⟨y7, hy7, h⟩ := bind_some h
            have hH : Heap σ0 σ [.own true 0 t9 (Sl.t (y6.Lines : Sl ByteArray)), .box b7 [.str y6.Name, t9, .int .i64 y6.Mode, .int .i64 y6.At], .keep F1 σk1, .box b6 [T.fn 73 [] []], .box b5 [t5, .int .i64 y4.At, t6, t7, t8], .box b4 [(Sl.t (⟨true, []⟩ : Sl ByteArray)), .int .i64 0, (Sl.t (⟨true, []⟩ : Sl ByteArray)), (Sl.t (⟨true, []⟩ : Sl DFile)), (Sl.t (⟨true, []⟩ : Sl ByteArray))], .box b2 [(Sl.t (⟨true, []⟩ : Sl ByteArray)), .int .i64 0, (Sl.t (⟨true, []⟩ : Sl ByteArray)), (Sl.t (⟨true, []⟩ : Sl DFile)), (Sl.t (⟨true, []⟩ : Sl ByteArray))], .own true 1 t5 (Sl.t (y4.Input : Sl ByteArray)), .own true 1 t6 (Sl.t (y4.Output : Sl ByteArray)), .own true 1 t8 (Sl.t (y4.Trace : Sl ByteArray))] := hH.sel [1, 0, 2, 3, 4, 5, 6, 7, 8, 9] rfl (by kernel_rfl)
            refine q_callH (ents := [.own true 0 t9 (Sl.t (y6.Lines : Sl ByteArray))]) (z := false) (ts := [.agg [.str y6.Name, t9, .int .i64 y6.Mode, .int .i64 y6.At]]) (vs := [.agg (DFile.cells y6)]) rfl hS rfl rfl rfl hH (HL.agg (es1 := [.own true 0 t9 (Sl.t (y6.Lines : Sl ByteArray))]) (es2 := []) (HL.leaf (fun σ d => hold_str _ σ d _) (HL.own rfl (HL.leaf (fun σ d => hold_int _ σ d _ _) (HL.leaf (fun σ d => hold_int _ σ d _ _) HL.nil)))) HL.nil) hy7 (by kernel_rfl) ?_; intro s hS
            refine q_seg 1 [(8, .str y7), (9, .str a1)] hS (by kernel_rfl) ?_; intro s hS
            obtain ⟨y8, hy8, h⟩ := bind_some h
            refine q_callF (a := []) (b := []) (xs := [.str y7, .str a1]) rfl hS rfl rfl hy8 ?_; intro s hS
            refine q_seg 1 [(5, .int .i64 y8)] hS (by kernel_rfl) ?_; intro s hS
            refine x_nil ?_
            refine sq_n ?_
            refine c_ret ?_
            refine end_I (v := .int .i64 y8) (r_tmp (v := .int .i64 y8) hS rfl r_nil) rfl ?_; intro s hS
            refine q_seg 1 [(0, t7), (1, .str a1), (2, T.fn 105 [] [.ptr b6 0 0 1]), (8, .int .i64 (y4.Files.l.length : Int)), (9, .int .i64 st1.1), (10, .int .i64 st1.2), (11, .int .i64 ((IntKind.i64.wrap (((IntKind.u64.wrap (IntKind.i64.wrap (st1.1 + st1.2))).fdiv (2 ^ 1)))))), (31, .bool (decide (y8 < 0)))] hS (by kernel_rfl) ?_; intro s hS
            have hH : Heap σ0 σ [.own true 0 t9 (Sl.t (y6.Lines : Sl ByteArray)), .keep F1 σk1, .box b7 [.str y6.Name, t9, .int .i64 y6.Mode, .int .i64 y6.At], .box b6 [T.fn 73 [] []], .box b5 [t5, .int .i64 y4.At, t6, t7, t8], .box b4 [(Sl.t (⟨true, []⟩ : Sl ByteArray)), .int .i64 0, (Sl.t (⟨true, []⟩ : Sl ByteArray)), (Sl.t (⟨true, []⟩ : Sl DFile)), (Sl.t (⟨true, []⟩ : Sl ByteArray))], .box b2 [(Sl.t (⟨true, []⟩ : Sl ByteArray)), .int .i64 0, (Sl.t (⟨true, []⟩ : Sl ByteArray)), (Sl.t (⟨true, []⟩ : Sl DFile)), (Sl.t (⟨true, []⟩ : Sl ByteArray))], .own true 1 t5 (Sl.t (y4.Input : Sl ByteArray)), .own true 1 t6 (Sl.t (y4.Output : Sl ByteArray)), .own true 1 t8 (Sl.t (y4.Trace : Sl ByteArray))] := hH.sel [0, 2, 1, 3, 4, 5, 6, 7, 8, 9] rfl (by kernel_rfl)
            have hH := hcl1s _ _ hH
            have hH : Heap σ0 σ [.own true 4 t7 (Sl.t (y4.Files : Sl DFile)), .box b7 [.str y6.Name, t9, .int .i64 y6.Mode, .int .i64 y6.At], .box b6 [T.fn 73 [] []], .box b5 [t5, .int .i64 y4.At, t6, t7, t8], .box b4 [(Sl.t (⟨true, []⟩ : Sl ByteArray)), .int .i64 0, (Sl.t (⟨true, []⟩ : Sl ByteArray)), (Sl.t (⟨true, []⟩ : Sl DFile)), (Sl.t (⟨true, []⟩ : Sl ByteArray))], .box b2 [(Sl.t (⟨true, []⟩ : Sl ByteArray)), .int .i64 0, (Sl.t (⟨true, []⟩ : Sl ByteArray)), (Sl.t (⟨true, []⟩ : Sl DFile)), (Sl.t (⟨true, []⟩ : Sl ByteArray))], .own true 1 t5 (Sl.t (y4.Input : Sl ByteArray)), .own true 1 t6 (Sl.t (y4.Output : Sl ByteArray)), .own true 1 t8 (Sl.t (y4.Trace : Sl ByteArray))] := hH
            refine x_nil ?_
            refine sq_n ?_
            by_cases hc4 : (decide (y8 < 0)) = true
            · have h := it_pos hc4 h
              refine c_cond hS rfl (fun _ => ?_) (fun hf => ff_absurd hc4 hf)
              refine c_region ?_
              refine q_seg 3 [(0, t7), (1, .str a1), (2, T.fn 105 [] [.ptr b6 0 0 1]), (8, .int .i64 (y4.Files.l.length : Int)), (9, .int .i64 ((IntKind.i64.wrap ((IntKind.i64.wrap (((IntKind.u64.wrap (IntKind.i64.wrap (st1.1 + st1.2))).fdiv (2 ^ 1)))) + 1)))), (10, .int .i64 st1.2)] hS (by kernel_rfl) ?_; intro s hS
              refine x_nil ?_
              refine bk_n ?_
              injection h with h; subst h
              exact And.intro (sub_to hS (by kernel_rfl)) (Heap.sel hH [2, 3, 4, 5, 0, 6, 7, 8] rfl (by kernel_rfl))
            · have h := it_neg hc4 h
              refine c_cond hS rfl (fun hf => tt_absurd hc4 hf) (fun _ => ?_)
              refine c_region ?_
              refine q_seg 2 [(0, t7), (1, .str a1), (2, T.fn 105 [] [.ptr b6 0 0 1]), (8, .int .i64 (y4.Files.l.length : Int)), (9, .int .i64 st1.1), (10, .int .i64 ((IntKind.i64.wrap (((IntKind.u64.wrap (IntKind.i64.wrap (st1.1 + st1.2))).fdiv (2 ^ 1))))))] hS (by kernel_rfl) ?_; intro s hS
              refine x_nil ?_
              refine bk_n ?_
              injection h with h; subst h
              exact And.intro (sub_to hS (by kernel_rfl)) (Heap.sel hH [2, 3, 4, 5, 0, 6, 7, 8] rfl (by kernel_rfl))
          · have h := it_neg hc3 h
            refine c_cond hS rfl (fun hf => tt_absurd hc3 hf) (fun _ => ?_)
            refine c_exit ?_
            refine sq_x ?_
            injection h with h; subst h
            exact And.intro rfl (And.intro (sub_to hS (by kernel_rfl)) hH)
        · clear hS hH; intro e fr HF; obtain ⟨s, σ⟩ := fr
          obtain ⟨rfl, hS, hH⟩ := HF
          refine bk_e ?_
          refine sq_n ?_
          refine c_seq ?_
          refine c_region ?_
          refine q_seg 5 [(39, .bool (decide (y5 < (y4.Files.l.length : Int)))), (0, t7), (1, .str a1), (2, T.fn 105 [] [.ptr b6 0 0 1]), (9, .int .i64 y5), (35, .int .i64 y5)] hS (by kernel_rfl) ?_; intro s hS
          by_cases hc5 : (decide (y5 < (y4.Files.l.length : Int))) = true
          · have h := it_pos hc5 h
            have hS := sub_bt hS hc5
            refine q_seg 3 [(1, .str a1), (35, .int .i64 y5), (39, .bool true), (40, T.fn 105 [] [.ptr b6 0 0 1]), (41, t7), (42, .int .i64 y5)] hS (by kernel_rfl) ?_; intro s hS
            have hH : Heap σ0 σ [.own true 4 t7 (Sl.t (y4.Files : Sl DFile)), .box b6 [T.fn 73 [] []], .box b5 [t5, .int .i64 y4.At, t6, t7, t8], .box b4 [(Sl.t (⟨true, []⟩ : Sl ByteArray)), .int .i64 0, (Sl.t (⟨true, []⟩ : Sl ByteArray)), (Sl.t (⟨true, []⟩ : Sl DFile)), (Sl.t (⟨true, []⟩ : Sl ByteArray))], .box b2 [(Sl.t (⟨true, []⟩ : Sl ByteArray)), .int .i64 0, (Sl.t (⟨true, []⟩ : Sl ByteArray)), (Sl.t (⟨true, []⟩ : Sl DFile)), (Sl.t (⟨true, []⟩ : Sl ByteArray))], .own true 1 t5 (Sl.t (y4.Input : Sl ByteArray)), .own true 1 t6 (Sl.t (y4.Output : Sl ByteArray)), .own true 1 t8 (Sl.t (y4.Trace : Sl ByteArray))] := hH.sel [4, 0, 1, 2, 3, 5, 6, 7] rfl (by kernel_rfl)
            obtain ⟨y9, hy9, h⟩ := bind_some h
            refine q_hidx (a := y4.Files) (e := 52) rfl rfl hS hH rfl rfl (by kernel_rfl) (by kernel_rfl) hy9 ?_; intro hb2 hb2e s hl_hb2 hS
            refine q_hlensS (a := y4.Files) (j := y5) (y := y9) (off := 1) (c := [.str y9.Name, (Sl.t (y9.Lines : Sl ByteArray)), .int .i64 y9.Mode, .int .i64 y9.At]) (q := (y9.Lines : Sl ByteArray)) rfl rfl hS hH hl_hb2 rfl hy9 rfl (by kernel_rfl) (by kernel_rfl) rfl (by kernel_rfl) (by kernel_rfl) (by kernel_rfl) ?_; intro F2 σk2 t10 s ht10 hH hcl2 hcl2s hcl2k hcl2f hS
            refine q_seg 1 [(35, .int .i64 y5), (39, .bool true), (40, T.fn 105 [] [.ptr b6 0 0 1]), (44, .agg [.str y9.Name, t10, .int .i64 y9.Mode, .int .i64 y9.At]), (45, .str a1)] hS (by kernel_rfl) ?_; intro s hS
            refine q_inl [.agg [.str y9.Name, t10, .int .i64 y9.Mode, .int .i64 y9.At], .str a1, .ptr b6 0 0 1] rfl hS rfl rfl rfl rfl rfl ok_105 rfl ?_; intro s hS
            have hS := sub_to (L' := [(0, .agg [.str y9.Name, t10, .int .i64 y9.Mode, .int .i64 y9.At]), (1, .str a1), (2, .ptr b6 0 0 1)]) hS (by kernel_rfl)
            refine c_seq ?_
            refine c_region ?_
            refine q_box (v := .agg [.str y9.Name, t10, .int .i64 y9.Mode, .int .i64 y9.At]) (cs := [.str y9.Name, t10, .int .i64 y9.Mode, .int .i64 y9.At]) rfl hS hH rfl rfl (by simp [ht10.1, ht10.2]) ?_; intro b8 σ s hH hS
            refine q_seg 1 [(1, .str a1), (2, .ptr b6 0 0 1), (3, .ptr b8 0 0 4)] hS (by kernel_rfl) ?_; intro s hS
            refine x_nil ?_
            refine sq_n ?_
            refine c_seq ?_
            refine c_region ?_
            refine q_load (v := T.fn 73 [] []) 3 trivial rfl hS hH rfl rfl (by kernel_rfl) ?_; intro s hS
            refine q_load (v := .agg [.str y9.Name, t10, .int .i64 y9.Mode, .int .i64 y9.At]) 0 trivial rfl hS hH rfl rfl (by kernel_rfl) ?_; intro s hS
            obtain ⟨y10, hy10, h⟩ := bind_some h
            have hH : Heap σ0 σ [.own true 0 t10 (Sl.t (y9.Lines : Sl ByteArray)), .box b8 [.str y9.Name, t10, .int .i64 y9.Mode, .int .i64 y9.At], .keep F2 σk2, .box b6 [T.fn 73 [] []], .box b5 [t5, .int .i64 y4.At, t6, t7, t8], .box b4 [(Sl.t (⟨true, []⟩ : Sl ByteArray)), .int .i64 0, (Sl.t (⟨true, []⟩ : Sl ByteArray)), (Sl.t (⟨true, []⟩ : Sl DFile)), (Sl.t (⟨true, []⟩ : Sl ByteArray))], .box b2 [(Sl.t (⟨true, []⟩ : Sl ByteArray)), .int .i64 0, (Sl.t (⟨true, []⟩ : Sl ByteArray)), (Sl.t (⟨true, []⟩ : Sl DFile)), (Sl.t (⟨true, []⟩ : Sl ByteArray))], .own true 1 t5 (Sl.t (y4.Input : Sl ByteArray)), .own true 1 t6 (Sl.t (y4.Output : Sl ByteArray)), .own true 1 t8 (Sl.t (y4.Trace : Sl ByteArray))] := hH.sel [1, 0, 2, 3, 4, 5, 6, 7, 8, 9] rfl (by kernel_rfl)
            refine q_callH (ents := [.own true 0 t10 (Sl.t (y9.Lines : Sl ByteArray))]) (z := false) (ts := [.agg [.str y9.Name, t10, .int .i64 y9.Mode, .int .i64 y9.At]]) (vs := [.agg (DFile.cells y9)]) rfl hS rfl rfl rfl hH (HL.agg (es1 := [.own true 0 t10 (Sl.t (y9.Lines : Sl ByteArray))]) (es2 := []) (HL.leaf (fun σ d => hold_str _ σ d _) (HL.own rfl (HL.leaf (fun σ d => hold_int _ σ d _ _) (HL.leaf (fun σ d => hold_int _ σ d _ _) HL.nil)))) HL.nil) hy10 (by kernel_rfl) ?_; intro s hS
            refine q_seg 1 [(8, .str y10), (9, .str a1)] hS (by kernel_rfl) ?_; intro s hS
            obtain ⟨y11, hy11, h⟩ := bind_some h
            refine q_callF (a := []) (b := []) (xs := [.str y10, .str a1]) rfl hS rfl rfl hy11 ?_; intro s hS
            refine q_seg 1 [(5, .int .i64 y11)] hS (by kernel_rfl) ?_; intro s hS
            refine x_nil ?_
            refine sq_n ?_
            refine c_ret ?_
            refine end_I (v := .int .i64 y11) (r_tmp (v := .int .i64 y11) hS rfl r_nil) rfl ?_; intro s hS
            refine q_seg 4 [(6, .int .i64 y5), (7, .bool (decide (y11 = 0)))] hS (by kernel_rfl) ?_; intro s hS
            have hH : Heap σ0 σ [.own true 0 t10 (Sl.t (y9.Lines : Sl ByteArray)), .keep F2 σk2, .box b8 [.str y9.Name, t10, .int .i64 y9.Mode, .int .i64 y9.At], .box b6 [T.fn 73 [] []], .box b5 [t5, .int .i64 y4.At, t6, t7, t8], .box b4 [(Sl.t (⟨true, []⟩ : Sl ByteArray)), .int .i64 0, (Sl.t (⟨true, []⟩ : Sl ByteArray)), (Sl.t (⟨true, []⟩ : Sl DFile)), (Sl.t (⟨true, []⟩ : Sl ByteArray))], .box b2 [(Sl.t (⟨true, []⟩ : Sl ByteArray)), .int .i64 0, (Sl.t (⟨true, []⟩ : Sl ByteArray)), (Sl.t (⟨true, []⟩ : Sl DFile)), (Sl.t (⟨true, []⟩ : Sl ByteArray))], .own true 1 t5 (Sl.t (y4.Input : Sl ByteArray)), .own true 1 t6 (Sl.t (y4.Output : Sl ByteArray)), .own true 1 t8 (Sl.t (y4.Trace : Sl ByteArray))] := hH.sel [0, 2, 1, 3, 4, 5, 6, 7, 8, 9] rfl (by kernel_rfl)
            have hH := hcl2s _ _ hH
            have hH : Heap σ0 σ [.own true 4 t7 (Sl.t (y4.Files : Sl DFile)), .box b8 [.str y9.Name, t10, .int .i64 y9.Mode, .int .i64 y9.At], .box b6 [T.fn 73 [] []], .box b5 [t5, .int .i64 y4.At, t6, t7, t8], .box b4 [(Sl.t (⟨true, []⟩ : Sl ByteArray)), .int .i64 0, (Sl.t (⟨true, []⟩ : Sl ByteArray)), (Sl.t (⟨true, []⟩ : Sl DFile)), (Sl.t (⟨true, []⟩ : Sl ByteArray))], .box b2 [(Sl.t (⟨true, []⟩ : Sl ByteArray)), .int .i64 0, (Sl.t (⟨true, []⟩ : Sl ByteArray)), (Sl.t (⟨true, []⟩ : Sl DFile)), (Sl.t (⟨true, []⟩ : Sl ByteArray))], .own true 1 t5 (Sl.t (y4.Input : Sl ByteArray)), .own true 1 t6 (Sl.t (y4.Output : Sl ByteArray)), .own true 1 t8 (Sl.t (y4.Trace : Sl ByteArray))] := hH
            refine x_nil ?_
            refine sq_n ?_
            refine c_ret ?_
            refine end_I (v := .tup [.int .i64 y5, .bool (decide (y11 = 0))]) (r_tmp (v := .int .i64 y5) hS rfl (r_tmp (v := .bool (decide (y11 = 0))) hS rfl r_nil)) rfl ?_; intro s hS
            refine q_seg 4 [(6, .int .i64 y5), (7, .bool (decide (y11 = 0)))] hS (by kernel_rfl) ?_; intro s hS
            refine x_nil ?_
            refine sq_n ?_
            refine c_ret ?_
            refine end_I (v := .tup [.int .i64 y5, .bool (decide (y11 = 0))]) (r_tmp (v := .int .i64 y5) hS rfl (r_tmp (v := .bool (decide (y11 = 0))) hS rfl r_nil)) rfl ?_; intro s hS
            refine q_seg 5 [(2, T.fn 62 [] []), (6, .ptr b4 0 0 5), (8, .ptr b5 0 0 5), (9, .int .i64 y5), (10, .bool (decide (y11 = 0)))] hS (by kernel_rfl) ?_; intro s hS
            refine x_nil ?_
            refine sq_n ?_
            refine c_seq ?_
            refine c_seq ?_
            refine c_region ?_
            refine q_seg 2 [(2, T.fn 62 [] []), (6, .ptr b4 0 0 5), (8, .ptr b5 0 0 5), (9, .int .i64 y5), (31, .bool (!(decide (y11 = 0))))] hS (by kernel_rfl) ?_; intro s hS
            refine x_nil ?_
            refine sq_n ?_
            by_cases hc6 : (!(decide (y11 = 0))) = true
            · have h := it_pos hc6 h
              refine c_cond hS rfl (fun _ => ?_) (fun hf => ff_absurd hc6 hf)
              refine c_seq ?_
              refine c_region ?_
              refine q_seg 1 [(6, .ptr b4 0 0 5), (32, .agg [(Sl.t (⟨true, []⟩ : Sl ByteArray)), .int .i64 0, (Sl.t (⟨true, []⟩ : Sl ByteArray)), (Sl.t (⟨true, []⟩ : Sl DFile)), (Sl.t (⟨true, []⟩ : Sl ByteArray))])] hS (by kernel_rfl) ?_; intro s hS
              have hH : Heap σ0 σ [.box b4 [(Sl.t (⟨true, []⟩ : Sl ByteArray)), .int .i64 0, (Sl.t (⟨true, []⟩ : Sl ByteArray)), (Sl.t (⟨true, []⟩ : Sl DFile)), (Sl.t (⟨true, []⟩ : Sl ByteArray))], .own true 4 t7 (Sl.t (y4.Files : Sl DFile)), .box b8 [.str y9.Name, t10, .int .i64 y9.Mode, .int .i64 y9.At], .box b6 [T.fn 73 [] []], .box b5 [t5, .int .i64 y4.At, t6, t7, t8], .box b2 [(Sl.t (⟨true, []⟩ : Sl ByteArray)), .int .i64 0, (Sl.t (⟨true, []⟩ : Sl ByteArray)), (Sl.t (⟨true, []⟩ : Sl DFile)), (Sl.t (⟨true, []⟩ : Sl ByteArray))], .own true 1 t5 (Sl.t (y4.Input : Sl ByteArray)), .own true 1 t6 (Sl.t (y4.Output : Sl ByteArray)), .own true 1 t8 (Sl.t (y4.Trace : Sl ByteArray))] := hH.sel [4, 0, 1, 2, 3, 5, 6, 7, 8] rfl (by kernel_rfl)
              refine q_store (v := .agg [(Sl.t (⟨true, []⟩ : Sl ByteArray)), .int .i64 0, (Sl.t (⟨true, []⟩ : Sl ByteArray)), (Sl.t (⟨true, []⟩ : Sl DFile)), (Sl.t (⟨true, []⟩ : Sl ByteArray))]) (cs := [(Sl.t (⟨true, []⟩ : Sl ByteArray)), .int .i64 0, (Sl.t (⟨true, []⟩ : Sl ByteArray)), (Sl.t (⟨true, []⟩ : Sl DFile)), (Sl.t (⟨true, []⟩ : Sl ByteArray))]) (cells' := [(Sl.t (⟨true, []⟩ : Sl ByteArray)), .int .i64 0, (Sl.t (⟨true, []⟩ : Sl ByteArray)), (Sl.t (⟨true, []⟩ : Sl DFile)), (Sl.t (⟨true, []⟩ : Sl ByteArray))]) rfl hS hH rfl rfl rfl (by kernel_rfl) (by kernel_rfl) ?_; intro σ s hH hS
              refine q_seg 1 [(6, .ptr b4 0 0 5), (7, .int .i64 11)] hS (by kernel_rfl) ?_; intro s hS
              refine x_nil ?_
              refine sq_n ?_
              refine c_ret ?_
              refine sq_r ?_
              refine end_I (v := .tup [.agg [(Sl.t (⟨true, []⟩ : Sl ByteArray)), .int .i64 0, (Sl.t (⟨true, []⟩ : Sl ByteArray)), (Sl.t (⟨true, []⟩ : Sl DFile)), (Sl.t (⟨true, []⟩ : Sl ByteArray))], .int .i64 11]) (r_cell (v := .agg [(Sl.t (⟨true, []⟩ : Sl ByteArray)), .int .i64 0, (Sl.t (⟨true, []⟩ : Sl ByteArray)), (Sl.t (⟨true, []⟩ : Sl DFile)), (Sl.t (⟨true, []⟩ : Sl ByteArray))]) hS hH rfl (by kernel_rfl) (r_tmp (v := .int .i64 11) hS rfl r_nil)) rfl ?_; intro s hS
              injection h with h; subst h
              have hH := Heap.addNil hH true 1
              have hH := Heap.addNil hH true 1
              have hH := Heap.addNil hH true 4
              have hH := Heap.addNil hH true 1
              exact Exists.intro (T.row true 0 []) (And.intro ⟨rfl, rfl⟩ (Exists.intro (T.row true 0 []) (And.intro ⟨rfl, rfl⟩ (Exists.intro (T.row true 0 []) (And.intro ⟨rfl, rfl⟩ (Exists.intro (T.row true 0 []) (And.intro ⟨rfl, rfl⟩ (And.intro (sub_to hS (by kernel_rfl)) (Heap.sel hH [9, 3, 2, 1, 0] rfl (by kernel_rfl))))))))))
            · have h := it_neg hc6 h
              refine c_cond hS rfl (fun hf => tt_absurd hc6 hf) (fun _ => ?_)
              refine c_skip ?_
              refine sq_n ?_
              refine c_seq ?_
              refine c_seq ?_
              refine c_region ?_
              refine q_seg 2 [(6, .ptr b4 0 0 5), (8, .ptr b5 0 0 5), (9, .int .i64 y5), (33, T.fn 62 [] []), (34, .ptr b5 0 3 1)] hS (by kernel_rfl) ?_; intro s hS
              refine q_load (v := t7) 3 trivial rfl hS hH rfl rfl (by kernel_rfl) ?_; intro s hS
              refine q_seg 1 [(6, .ptr b4 0 0 5), (8, .ptr b5 0 0 5), (33, T.fn 62 [] []), (35, t7), (36, .int .i64 y5)] hS (by kernel_rfl) ?_; intro s hS
              obtain ⟨y12, hy12, h⟩ := bind_some h
              refine q_hidx (a := y4.Files) (e := 52) rfl rfl hS hH rfl rfl (by kernel_rfl) (by kernel_rfl) hy12 ?_; intro hb3 hb3e s hl_hb3 hS
              refine q_inl [.ptr hb3 hb3e (y5.toNat * Enc.w DFile) (Enc.w DFile)] rfl hS rfl rfl rfl rfl rfl ok_62 rfl ?_; intro s hS
              have hS := sub_to (L' := [(0, .ptr hb3 hb3e (y5.toNat * Enc.w DFile) (Enc.w DFile))]) hS (by kernel_rfl)
              refine c_seq ?_
              refine c_region ?_
              refine q_seg 1 [(0, .ptr hb3 hb3e (y5.toNat * Enc.w DFile) (Enc.w DFile))] hS (by kernel_rfl) ?_; intro s hS
              refine x_nil ?_
              refine sq_n ?_
              refine c_seq ?_
              refine c_region ?_
              refine q_seg 3 [(0, .ptr hb3 hb3e (y5.toNat * Enc.w DFile) (Enc.w DFile)), (6, .ptr hb3 hb3e (y5.toNat * Enc.w DFile + 2) 1)] hS (by kernel_rfl) ?_; intro s hS
              refine q_hload (a := y4.Files) (j := y5) (y := y12) (off := 2) (c := [.str y12.Name, (Sl.t (y12.Lines : Sl ByteArray)), .int .i64 y12.Mode, .int .i64 y12.At]) (v := .int .i64 y12.Mode) rfl rfl hS hH hl_hb3 rfl hy12 rfl (by kernel_rfl) rfl rfl leaf_int ?_; intro s hS
              refine q_seg 1 [(0, .ptr hb3 hb3e (y5.toNat * Enc.w DFile) (Enc.w DFile)), (8, .bool (!decide (y12.Mode = 0)))] hS (by kernel_rfl) ?_; intro s hS
              obtain ⟨y13, hy13, h⟩ := bind_some h
              refine q_callF (a := []) (b := []) (xs := [.bool (!decide (y12.Mode = 0)), .int .i64 10]) rfl hS rfl rfl hy13 ?_; intro s hS
              refine q_seg 1 [(0, .ptr hb3 hb3e (y5.toNat * Enc.w DFile) (Enc.w DFile)), (3, .int .i64 y13)] hS (by kernel_rfl) ?_; intro s hS
              refine x_nil ?_
              refine sq_n ?_
              refine c_seq ?_
              refine c_region ?_
              refine q_seg 4 [(3, .int .i64 y13), (11, .ptr hb3 hb3e (y5.toNat * Enc.w DFile) (Enc.w DFile)), (13, .ptr hb3 hb3e (y5.toNat * Enc.w DFile + 2) 1)] hS (by kernel_rfl) ?_; intro s hS
              refine q_hstore (ents := []) (a := y4.Files) (j := y5) (y := y12) (y' := ((⟨y12.Name, y12.Lines, 0, y12.At⟩ : DFile) : DFile)) (off := 2) (c := [.str y12.Name, (Sl.t (y12.Lines : Sl ByteArray)), .int .i64 y12.Mode, .int .i64 y12.At]) (us := [.int .i64 0]) (vs := [.int .i64 0]) (v := .int .i64 0) rfl hS hH hl_hb3 rfl rfl rfl (by kernel_rfl) (by kernel_rfl) rfl hy12 rfl (HL.leaf (fun σ d => hold_int _ σ d _ _) HL.nil) rfl (by kernel_rfl) ?_; intro σ s hH hS
              refine q_seg 2 [(3, .int .i64 y13), (15, .ptr hb3 hb3e (y5.toNat * Enc.w DFile + 3) 1)] hS (by kernel_rfl) ?_; intro s hS
              obtain ⟨y14, hy14, h⟩ := bind_some h
              have hl_hb3 : t7 = .ref hb3 hb3e 0 (setS y4.Files y5 ((⟨y12.Name, y12.Lines, 0, y12.At⟩ : DFile) : DFile)).l.length := by rw [hl_hb3]; simp [setS]
              refine q_hstore (ents := []) (a := (setS y4.Files y5 ((⟨y12.Name, y12.Lines, 0, y12.At⟩ : DFile) : DFile))) (j := y5) (y := y14) (y' := ((⟨y14.Name, y14.Lines, y14.Mode, 0⟩ : DFile) : DFile)) (off := 3) (c := [.str y14.Name, (Sl.t (y14.Lines : Sl ByteArray)), .int .i64 y14.Mode, .int .i64 y14.At]) (us := [.int .i64 0]) (vs := [.int .i64 0]) (v := .int .i64 0) rfl hS hH hl_hb3 rfl rfl rfl (by kernel_rfl) (by kernel_rfl) rfl hy14 rfl (HL.leaf (fun σ d => hold_int _ σ d _ _) HL.nil) rfl (by kernel_rfl) ?_; intro σ s hH hS
              refine x_nil ?_
              refine sq_n ?_
              refine c_seq ?_
              refine c_region ?_
              refine q_seg 2 [(2, .int .i64 y13)] hS (by kernel_rfl) ?_; intro s hS
              refine x_nil ?_
              refine sq_n ?_
              refine c_ret ?_
              refine end_I (v := .int .i64 y13) (r_tmp (v := .int .i64 y13) hS rfl r_nil) rfl ?_; intro s hS
              refine q_seg 1 [(6, .ptr b4 0 0 5), (8, .ptr b5 0 0 5), (11, .int .i64 y13)] hS (by kernel_rfl) ?_; intro s hS
              refine x_nil ?_
              refine sq_n ?_
              refine c_seq ?_
              refine c_region ?_
              refine q_seg 2 [(6, .ptr b4 0 0 5), (8, .ptr b5 0 0 5), (11, .int .i64 y13), (40, .bool (!decide (y13 = 0)))] hS (by kernel_rfl) ?_; intro s hS
              refine x_nil ?_
              refine sq_n ?_
              by_cases hc7 : (!decide (y13 = 0)) = true
              · have h := it_pos hc7 h
                refine c_cond hS rfl (fun _ => ?_) (fun hf => ff_absurd hc7 hf)
                refine c_seq ?_
                refine c_region ?_
                refine q_seg 2 [(6, .ptr b4 0 0 5), (41, .agg [(Sl.t (⟨true, []⟩ : Sl ByteArray)), .int .i64 0, (Sl.t (⟨true, []⟩ : Sl ByteArray)), (Sl.t (⟨true, []⟩ : Sl DFile)), (Sl.t (⟨true, []⟩ : Sl ByteArray))]), (42, .int .i64 y13)] hS (by kernel_rfl) ?_; intro s hS
                have hH : Heap σ0 σ [.box b4 [(Sl.t (⟨true, []⟩ : Sl ByteArray)), .int .i64 0, (Sl.t (⟨true, []⟩ : Sl ByteArray)), (Sl.t (⟨true, []⟩ : Sl DFile)), (Sl.t (⟨true, []⟩ : Sl ByteArray))], .own true 4 t7 (Sl.t ((setS (setS y4.Files y5 ((⟨y12.Name, y12.Lines, 0, y12.At⟩ : DFile) : DFile)) y5 ((⟨y14.Name, y14.Lines, y14.Mode, 0⟩ : DFile) : DFile)) : Sl DFile)), .box b8 [.str y9.Name, t10, .int .i64 y9.Mode, .int .i64 y9.At], .box b6 [T.fn 73 [] []], .box b5 [t5, .int .i64 y4.At, t6, t7, t8], .box b2 [(Sl.t (⟨true, []⟩ : Sl ByteArray)), .int .i64 0, (Sl.t (⟨true, []⟩ : Sl ByteArray)), (Sl.t (⟨true, []⟩ : Sl DFile)), (Sl.t (⟨true, []⟩ : Sl ByteArray))], .own true 1 t5 (Sl.t (y4.Input : Sl ByteArray)), .own true 1 t6 (Sl.t (y4.Output : Sl ByteArray)), .own true 1 t8 (Sl.t (y4.Trace : Sl ByteArray))] := hH.sel [4, 0, 1, 2, 3, 5, 6, 7, 8] rfl (by kernel_rfl)
                refine q_store (v := .agg [(Sl.t (⟨true, []⟩ : Sl ByteArray)), .int .i64 0, (Sl.t (⟨true, []⟩ : Sl ByteArray)), (Sl.t (⟨true, []⟩ : Sl DFile)), (Sl.t (⟨true, []⟩ : Sl ByteArray))]) (cs := [(Sl.t (⟨true, []⟩ : Sl ByteArray)), .int .i64 0, (Sl.t (⟨true, []⟩ : Sl ByteArray)), (Sl.t (⟨true, []⟩ : Sl DFile)), (Sl.t (⟨true, []⟩ : Sl ByteArray))]) (cells' := [(Sl.t (⟨true, []⟩ : Sl ByteArray)), .int .i64 0, (Sl.t (⟨true, []⟩ : Sl ByteArray)), (Sl.t (⟨true, []⟩ : Sl DFile)), (Sl.t (⟨true, []⟩ : Sl ByteArray))]) rfl hS hH rfl rfl rfl (by kernel_rfl) (by kernel_rfl) ?_; intro σ s hH hS
                refine q_seg 1 [(6, .ptr b4 0 0 5), (7, .int .i64 y13)] hS (by kernel_rfl) ?_; intro s hS
                refine x_nil ?_
                refine sq_n ?_
                refine c_ret ?_
                refine sq_r ?_
                refine end_I (v := .tup [.agg [(Sl.t (⟨true, []⟩ : Sl ByteArray)), .int .i64 0, (Sl.t (⟨true, []⟩ : Sl ByteArray)), (Sl.t (⟨true, []⟩ : Sl DFile)), (Sl.t (⟨true, []⟩ : Sl ByteArray))], .int .i64 y13]) (r_cell (v := .agg [(Sl.t (⟨true, []⟩ : Sl ByteArray)), .int .i64 0, (Sl.t (⟨true, []⟩ : Sl ByteArray)), (Sl.t (⟨true, []⟩ : Sl DFile)), (Sl.t (⟨true, []⟩ : Sl ByteArray))]) hS hH rfl (by kernel_rfl) (r_tmp (v := .int .i64 y13) hS rfl r_nil)) rfl ?_; intro s hS
                injection h with h; subst h
                have hH := Heap.addNil hH true 1
                have hH := Heap.addNil hH true 1
                have hH := Heap.addNil hH true 4
                have hH := Heap.addNil hH true 1
                exact Exists.intro (T.row true 0 []) (And.intro ⟨rfl, rfl⟩ (Exists.intro (T.row true 0 []) (And.intro ⟨rfl, rfl⟩ (Exists.intro (T.row true 0 []) (And.intro ⟨rfl, rfl⟩ (Exists.intro (T.row true 0 []) (And.intro ⟨rfl, rfl⟩ (And.intro (sub_to hS (by kernel_rfl)) (Heap.sel hH [9, 3, 2, 1, 0] rfl (by kernel_rfl))))))))))
              · have h := it_neg hc7 h
                refine c_cond hS rfl (fun hf => tt_absurd hc7 hf) (fun _ => ?_)
                refine c_skip ?_
                refine sq_n ?_
                refine c_seq ?_
                refine c_region ?_
                refine q_load (v := .agg [t5, .int .i64 y4.At, t6, t7, t8]) 3 trivial rfl hS hH rfl rfl (by kernel_rfl) ?_; intro s hS
                have hH : Heap σ0 σ [.box b4 [(Sl.t (⟨true, []⟩ : Sl ByteArray)), .int .i64 0, (Sl.t (⟨true, []⟩ : Sl ByteArray)), (Sl.t (⟨true, []⟩ : Sl DFile)), (Sl.t (⟨true, []⟩ : Sl ByteArray))], .own true 4 t7 (Sl.t ((setS (setS y4.Files y5 ((⟨y12.Name, y12.Lines, 0, y12.At⟩ : DFile) : DFile)) y5 ((⟨y14.Name, y14.Lines, y14.Mode, 0⟩ : DFile) : DFile)) : Sl DFile)), .box b8 [.str y9.Name, t10, .int .i64 y9.Mode, .int .i64 y9.At], .box b6 [T.fn 73 [] []], .box b5 [t5, .int .i64 y4.At, t6, t7, t8], .box b2 [(Sl.t (⟨true, []⟩ : Sl ByteArray)), .int .i64 0, (Sl.t (⟨true, []⟩ : Sl ByteArray)), (Sl.t (⟨true, []⟩ : Sl DFile)), (Sl.t (⟨true, []⟩ : Sl ByteArray))], .own true 1 t5 (Sl.t (y4.Input : Sl ByteArray)), .own true 1 t6 (Sl.t (y4.Output : Sl ByteArray)), .own true 1 t8 (Sl.t (y4.Trace : Sl ByteArray))] := hH.sel [4, 0, 1, 2, 3, 5, 6, 7, 8] rfl (by kernel_rfl)
                refine q_store (v := .agg [t5, .int .i64 y4.At, t6, t7, t8]) (cs := [t5, .int .i64 y4.At, t6, t7, t8]) (cells' := [t5, .int .i64 y4.At, t6, t7, t8]) rfl hS hH rfl rfl rfl (by simp [ht5.1, ht5.2, ht6.1, ht6.2, ht7.1, ht7.2, ht8.1, ht8.2]) (by kernel_rfl) ?_; intro σ s hH hS
                refine q_seg 1 [(6, .ptr b4 0 0 5), (7, .int .i64 0)] hS (by kernel_rfl) ?_; intro s hS
                refine x_nil ?_
                refine sq_n ?_
                refine c_ret ?_
                refine end_I (v := .tup [.agg [t5, .int .i64 y4.At, t6, t7, t8], .int .i64 0]) (r_cell (v := .agg [t5, .int .i64 y4.At, t6, t7, t8]) hS hH rfl (by kernel_rfl) (r_tmp (v := .int .i64 0) hS rfl r_nil)) rfl ?_; intro s hS
                injection h with h; subst h
                exact Exists.intro t5 (And.intro ht5 (Exists.intro t6 (And.intro ht6 (Exists.intro t7 (And.intro ht7 (Exists.intro t8 (And.intro ht8 (And.intro (sub_to hS (by kernel_rfl)) (Heap.sel hH [5, 6, 7, 1, 8] rfl (by kernel_rfl))))))))))
          · have h := it_neg hc5 h
            have hS := sub_bt hS (tt_of hc5)
            refine q_seg 11 [(6, .int .i64 y5), (7, .bool false)] hS (by kernel_rfl) ?_; intro s hS
            refine x_nil ?_
            refine sq_n ?_
            refine c_ret ?_
            refine end_I (v := .tup [.int .i64 y5, .bool false]) (r_tmp (v := .int .i64 y5) hS rfl (r_tmp (v := .bool false) hS rfl r_nil)) rfl ?_; intro s hS
            refine q_seg 4 [(6, .int .i64 y5), (7, .bool false)] hS (by kernel_rfl) ?_; intro s hS
            refine x_nil ?_
            refine sq_n ?_
            refine c_ret ?_
            refine end_I (v := .tup [.int .i64 y5, .bool false]) (r_tmp (v := .int .i64 y5) hS rfl (r_tmp (v := .bool false) hS rfl r_nil)) rfl ?_; intro s hS
            refine q_seg 5 [(2, T.fn 62 [] []), (6, .ptr b4 0 0 5), (8, .ptr b5 0 0 5), (9, .int .i64 y5), (10, .bool false)] hS (by kernel_rfl) ?_; intro s hS
            refine x_nil ?_
            refine sq_n ?_
            refine c_seq ?_
            refine c_seq ?_
            refine c_region ?_
            refine q_seg 2 [(2, T.fn 62 [] []), (6, .ptr b4 0 0 5), (8, .ptr b5 0 0 5), (9, .int .i64 y5), (31, .bool true)] hS (by kernel_rfl) ?_; intro s hS
            refine x_nil ?_
            refine sq_n ?_
            refine c_cond (t := true) hS rfl (fun _ => ?_) (fun hf => by cases hf)
            refine c_seq ?_
            refine c_region ?_
            refine q_seg 1 [(6, .ptr b4 0 0 5), (32, .agg [(Sl.t (⟨true, []⟩ : Sl ByteArray)), .int .i64 0, (Sl.t (⟨true, []⟩ : Sl ByteArray)), (Sl.t (⟨true, []⟩ : Sl DFile)), (Sl.t (⟨true, []⟩ : Sl ByteArray))])] hS (by kernel_rfl) ?_; intro s hS
            have hH : Heap σ0 σ [.box b4 [(Sl.t (⟨true, []⟩ : Sl ByteArray)), .int .i64 0, (Sl.t (⟨true, []⟩ : Sl ByteArray)), (Sl.t (⟨true, []⟩ : Sl DFile)), (Sl.t (⟨true, []⟩ : Sl ByteArray))], .box b6 [T.fn 73 [] []], .box b5 [t5, .int .i64 y4.At, t6, t7, t8], .box b2 [(Sl.t (⟨true, []⟩ : Sl ByteArray)), .int .i64 0, (Sl.t (⟨true, []⟩ : Sl ByteArray)), (Sl.t (⟨true, []⟩ : Sl DFile)), (Sl.t (⟨true, []⟩ : Sl ByteArray))], .own true 4 t7 (Sl.t (y4.Files : Sl DFile)), .own true 1 t5 (Sl.t (y4.Input : Sl ByteArray)), .own true 1 t6 (Sl.t (y4.Output : Sl ByteArray)), .own true 1 t8 (Sl.t (y4.Trace : Sl ByteArray))] := hH.sel [2, 0, 1, 3, 4, 5, 6, 7] rfl (by kernel_rfl)
            refine q_store (v := .agg [(Sl.t (⟨true, []⟩ : Sl ByteArray)), .int .i64 0, (Sl.t (⟨true, []⟩ : Sl ByteArray)), (Sl.t (⟨true, []⟩ : Sl DFile)), (Sl.t (⟨true, []⟩ : Sl ByteArray))]) (cs := [(Sl.t (⟨true, []⟩ : Sl ByteArray)), .int .i64 0, (Sl.t (⟨true, []⟩ : Sl ByteArray)), (Sl.t (⟨true, []⟩ : Sl DFile)), (Sl.t (⟨true, []⟩ : Sl ByteArray))]) (cells' := [(Sl.t (⟨true, []⟩ : Sl ByteArray)), .int .i64 0, (Sl.t (⟨true, []⟩ : Sl ByteArray)), (Sl.t (⟨true, []⟩ : Sl DFile)), (Sl.t (⟨true, []⟩ : Sl ByteArray))]) rfl hS hH rfl rfl rfl (by kernel_rfl) (by kernel_rfl) ?_; intro σ s hH hS
            refine q_seg 1 [(6, .ptr b4 0 0 5), (7, .int .i64 11)] hS (by kernel_rfl) ?_; intro s hS
            refine x_nil ?_
            refine sq_n ?_
            refine c_ret ?_
            refine sq_r ?_
            refine end_I (v := .tup [.agg [(Sl.t (⟨true, []⟩ : Sl ByteArray)), .int .i64 0, (Sl.t (⟨true, []⟩ : Sl ByteArray)), (Sl.t (⟨true, []⟩ : Sl DFile)), (Sl.t (⟨true, []⟩ : Sl ByteArray))], .int .i64 11]) (r_cell (v := .agg [(Sl.t (⟨true, []⟩ : Sl ByteArray)), .int .i64 0, (Sl.t (⟨true, []⟩ : Sl ByteArray)), (Sl.t (⟨true, []⟩ : Sl DFile)), (Sl.t (⟨true, []⟩ : Sl ByteArray))]) hS hH rfl (by kernel_rfl) (r_tmp (v := .int .i64 11) hS rfl r_nil)) rfl ?_; intro s hS
            injection h with h; subst h
            have hH := Heap.addNil hH true 1
            have hH := Heap.addNil hH true 1
            have hH := Heap.addNil hH true 4
            have hH := Heap.addNil hH true 1
            exact Exists.intro (T.row true 0 []) (And.intro ⟨rfl, rfl⟩ (Exists.intro (T.row true 0 []) (And.intro ⟨rfl, rfl⟩ (Exists.intro (T.row true 0 []) (And.intro ⟨rfl, rfl⟩ (Exists.intro (T.row true 0 []) (And.intro ⟨rfl, rfl⟩ (And.intro (sub_to hS (by kernel_rfl)) (Heap.sel hH [7, 3, 2, 1, 0] rfl (by kernel_rfl))))))))))
  · intro s σ HF; obtain ⟨t1, ht1, ⟨t2, ht2, ⟨t3, ht3, ⟨t4, ht4, ⟨hS, hH⟩⟩⟩⟩⟩ := HF
    refine q_seg 2 [(4, .ptr b2 0 0 5), (9, .agg [t1, .int .i64 y1.1, t2, t3, t4]), (10, .int .i64 y1.2.1)] hS (by kernel_rfl) ?_; intro s hS
    refine q_store (v := .agg [t1, .int .i64 y1.1, t2, t3, t4]) (cs := [t1, .int .i64 y1.1, t2, t3, t4]) (cells' := [t1, .int .i64 y1.1, t2, t3, t4]) rfl hS hH rfl rfl rfl (by simp [ht1.1, ht1.2, ht2.1, ht2.2, ht3.1, ht3.2, ht4.1, ht4.2]) (by kernel_rfl) ?_; intro σ s hH hS
    refine q_seg 1 [(4, .ptr b2 0 0 5), (5, .int .i64 y1.2.1)] hS (by kernel_rfl) ?_; intro s hS
    refine x_nil ?_
    refine sq_n ?_
    refine c_ret ?_
    injection h with h; subst h
    have hH : Heap σ0 σ [.own true 1 t1 (Sl.t (y1.2.2.1 : Sl ByteArray)), .own true 1 t2 (Sl.t (y1.2.2.2.1 : Sl ByteArray)), .own true 4 t3 (Sl.t (y1.2.2.2.2.1 : Sl DFile)), .own true 1 t4 (Sl.t (y1.2.2.2.2.2 : Sl ByteArray)), .box b2 [t1, .int .i64 y1.1, t2, t3, t4]] := hH.sel [1, 2, 3, 4, 0] rfl (by kernel_rfl)
    exact end_Ow [t1, t2, t3, t4] [.box b2 [t1, .int .i64 y1.1, t2, t3, t4]] (r_cell (v := .agg [t1, .int .i64 y1.1, t2, t3, t4]) hS (hH.at 4 rfl) rfl (by kernel_rfl) (r_tmp (v := .int .i64 y1.2.1) hS rfl r_nil)) (by kernel_rfl) rfl hH (by kernel_rfl)
end Go.Am
end
section
set_option maxRecDepth 100000
set_option maxHeartbeats 4000000
set_option linter.unusedVariables false
set_option linter.unusedSimpArgs false
namespace Go.Am
open Go.Proofs
noncomputable def B_spec_l21Ok (a0 : DConsole) : Option Bool := ((F_spec_l21Lines a0.Input 100 200).bind fun y1 => (if (!y1) = true then (some false) else ((F_spec_l00In a0.At 0 (a0.Input.l.length : Int)).bind fun y2 => (if (!y2) = true then (some false) else ((F_spec_l21Lines a0.Output 100 200).bind fun y3 => (if (!y3) = true then (some false) else (if (decide (6 < (a0.Files.l.length : Int))) = true then (some false) else ((F_spec_l21Lines a0.Trace 200 1300).bind fun y4 => (if (!y4) = true then (some false) else ((loopO (S := Int) (R := (Unit ⊕ Bool)) (fun st1 => (if (decide (st1 < (a0.Files.l.length : Int))) = true then ((elt a0.Files st1).bind fun y6 => ((F_spec_l21File y6).bind fun y7 => (if (!y7) = true then (some (.inr (.inr false))) else (if (decide (0 < st1)) = true then ((elt a0.Files (IntKind.i64.wrap (st1 - 1))).bind fun y8 => ((elt a0.Files st1).bind fun y9 => (if (!Op.bytesLess y8.Name.toList y9.Name.toList) = true then (some (.inr (.inr false))) else (some (.inl (IntKind.i64.wrap (st1 + 1))))))) else (some (.inl (IntKind.i64.wrap (st1 + 1)))))))) else (some (.inr (.inl ()))))) 0).bind fun y5 => (Sum.elim (fun y5 => (some true)) (fun y5 => (some y5)) y5)))))))))))
theorem u_spec_l21Ok (a0 : DConsole) (r : Bool) (h : B_spec_l21Ok a0 = some r) : F_spec_l21Ok a0 = some r := by
  unfold B_spec_l21Ok at h
  refine semL_of E_bool_inj rfl rfl ok_41 (fun bs hb => by obtain ⟨bp0, rfl⟩ := bl1 hb; exact rfl) (fun bs hb => by obtain ⟨bp0, rfl⟩ := bl1 hb; exact (all_cons rfl all_nil)) ?_
  intro σ0 bs s hL hS hH
  obtain ⟨bp0, rfl, hL_bp0⟩ := lent1 hL
  clear hL
  have hS := sub_to (L' := [(0, .ptr bp0 0 0 5)]) hS (by kernel_rfl)
  refine c_seq ?_
  refine c_region ?_
  refine q_seg 1 [(0, .ptr bp0 0 0 5)] hS (by kernel_rfl) ?_; intro s hS
  refine x_nil ?_
  refine sq_n ?_
  refine c_seq ?_
  refine c_seq ?_
  refine c_draw (by kernel_rfl) hH ?_; intro mb σ hH
  refine q_seg 3 [(0, .ptr bp0 0 0 5), (6, .ptr bp0 0 0 1)] hS (by kernel_rfl) ?_; intro s hS
  refine q_loadL (v := (Sl.t (a0.Input : Sl ByteArray))) trivial rfl hS hH hL_bp0 rfl (by kernel_rfl) ?_; intro s hS
  obtain ⟨y1, hy1, h⟩ := bind_some h
  refine q_callF (a := []) (b := []) (xs := [(Sl.t (a0.Input : Sl ByteArray)), .int .i64 100, .int .i64 200]) rfl hS rfl rfl hy1 ?_; intro s hS
  refine q_seg 2 [(10, .bool (!y1)), (0, .ptr bp0 0 0 5)] hS (by kernel_rfl) ?_; intro s hS
  by_cases hc1 : (!y1) = true
  · have h := it_pos hc1 h
    have hS := sub_bt hS hc1
    refine q_seg 36 [(0, .ptr bp0 0 0 5), (46, .bool true)] hS (by kernel_rfl) ?_; intro s hS
    refine x_nil ?_
    refine sq_n ?_
    refine c_cond (t := true) hS rfl (fun _ => ?_) (fun hf => by cases hf)
    refine c_seq ?_
    refine c_region ?_
    refine q_seg 1 [(2, .bool false)] hS (by kernel_rfl) ?_; intro s hS
    refine x_nil ?_
    refine sq_n ?_
    refine c_ret ?_
    refine sq_r ?_
    injection h with h; subst h
    exact end_W hH (r_tmp (v := .bool false) hS rfl r_nil) rfl (by kernel_rfl) (by simp [pureT, pureL, E_bool])
  · have h := it_neg hc1 h
    have hS := sub_bt hS (tt_of hc1)
    refine q_seg 3 [(0, .ptr bp0 0 0 5), (10, .bool false), (13, .ptr bp0 0 1 1)] hS (by kernel_rfl) ?_; intro s hS
    refine q_loadL (v := .int .i64 a0.At) trivial rfl hS hH hL_bp0 rfl (by kernel_rfl) ?_; intro s hS
    refine q_seg 3 [(0, .ptr bp0 0 0 5), (10, .bool false), (14, .int .i64 a0.At), (17, .ptr bp0 0 0 1)] hS (by kernel_rfl) ?_; intro s hS
    refine q_loadL (v := (Sl.t (a0.Input : Sl ByteArray))) trivial rfl hS hH hL_bp0 rfl (by kernel_rfl) ?_; intro s hS
    refine q_seg 1 [(0, .ptr bp0 0 0 5), (10, .bool false), (14, .int .i64 a0.At), (19, .int .i64 (a0.Input.l.length : Int))] hS (by kernel_rfl) ?_; intro s hS
    obtain ⟨y2, hy2, h⟩ := bind_some h
    refine q_callF (a := []) (b := []) (xs := [.int .i64 a0.At, .int .i64 0, .int .i64 (a0.Input.l.length : Int)]) rfl hS rfl rfl hy2 ?_; intro s hS
    refine q_seg 3 [(23, .bool (!y2)), (0, .ptr bp0 0 0 5)] hS (by kernel_rfl) ?_; intro s hS
    by_cases hc2 : (!y2) = true
    · have h := it_pos hc2 h
      have hS := sub_bt hS hc2
      refine q_seg 23 [(0, .ptr bp0 0 0 5), (46, .bool true)] hS (by kernel_rfl) ?_; intro s hS
      refine x_nil ?_
      refine sq_n ?_
      refine c_cond (t := true) hS rfl (fun _ => ?_) (fun hf => by cases hf)
      refine c_seq ?_
      refine c_region ?_
      refine q_seg 1 [(2, .bool false)] hS (by kernel_rfl) ?_; intro s hS
      refine x_nil ?_
      refine sq_n ?_
      refine c_ret ?_
      refine sq_r ?_
      injection h with h; subst h
      exact end_W hH (r_tmp (v := .bool false) hS rfl r_nil) rfl (by kernel_rfl) (by simp [pureT, pureL, E_bool])
    · have h := it_neg hc2 h
      have hS := sub_bt hS (tt_of hc2)
      refine q_seg 3 [(0, .ptr bp0 0 0 5), (23, .bool false), (26, .ptr bp0 0 2 1)] hS (by kernel_rfl) ?_; intro s hS
      refine q_loadL (v := (Sl.t (a0.Output : Sl ByteArray))) trivial rfl hS hH hL_bp0 rfl (by kernel_rfl) ?_; intro s hS
      obtain ⟨y3, hy3, h⟩ := bind_some h
      refine q_callF (a := []) (b := []) (xs := [(Sl.t (a0.Output : Sl ByteArray)), .int .i64 100, .int .i64 200]) rfl hS rfl rfl hy3 ?_; intro s hS
      refine q_seg 3 [(31, .bool (!y3)), (0, .ptr bp0 0 0 5)] hS (by kernel_rfl) ?_; intro s hS
      by_cases hc3 : (!y3) = true
      · have h := it_pos hc3 h
        have hS := sub_bt hS hc3
        refine q_seg 15 [(0, .ptr bp0 0 0 5), (46, .bool true)] hS (by kernel_rfl) ?_; intro s hS
        refine x_nil ?_
        refine sq_n ?_
        refine c_cond (t := true) hS rfl (fun _ => ?_) (fun hf => by cases hf)
        refine c_seq ?_
        refine c_region ?_
        refine q_seg 1 [(2, .bool false)] hS (by kernel_rfl) ?_; intro s hS
        refine x_nil ?_
        refine sq_n ?_
        refine c_ret ?_
        refine sq_r ?_
        injection h with h; subst h
        exact end_W hH (r_tmp (v := .bool false) hS rfl r_nil) rfl (by kernel_rfl) (by simp [pureT, pureL, E_bool])
      · have h := it_neg hc3 h
        have hS := sub_bt hS (tt_of hc3)
        refine q_seg 3 [(0, .ptr bp0 0 0 5), (31, .bool false), (34, .ptr bp0 0 3 1)] hS (by kernel_rfl) ?_; intro s hS
        refine q_loadL (v := (Sl.t (a0.Files : Sl DFile))) trivial rfl hS hH hL_bp0 rfl (by kernel_rfl) ?_; intro s hS
        refine q_seg 4 [(39, .bool (decide (6 < (a0.Files.l.length : Int)))), (0, .ptr bp0 0 0 5)] hS (by kernel_rfl) ?_; intro s hS
        by_cases hc4 : (decide (6 < (a0.Files.l.length : Int))) = true
        · have h := it_pos hc4 h
          have hS := sub_bt hS hc4
          refine q_seg 7 [(0, .ptr bp0 0 0 5), (46, .bool true)] hS (by kernel_rfl) ?_; intro s hS
          refine x_nil ?_
          refine sq_n ?_
          refine c_cond (t := true) hS rfl (fun _ => ?_) (fun hf => by cases hf)
          refine c_seq ?_
          refine c_region ?_
          refine q_seg 1 [(2, .bool false)] hS (by kernel_rfl) ?_; intro s hS
          refine x_nil ?_
          refine sq_n ?_
          refine c_ret ?_
          refine sq_r ?_
          injection h with h; subst h
          exact end_W hH (r_tmp (v := .bool false) hS rfl r_nil) rfl (by kernel_rfl) (by simp [pureT, pureL, E_bool])
        · have h := it_neg hc4 h
          have hS := sub_bt hS (tt_of hc4)
          refine q_seg 3 [(0, .ptr bp0 0 0 5), (39, .bool false), (42, .ptr bp0 0 4 1)] hS (by kernel_rfl) ?_; intro s hS
          refine q_loadL (v := (Sl.t (a0.Trace : Sl ByteArray))) trivial rfl hS hH hL_bp0 rfl (by kernel_rfl) ?_; intro s hS
          obtain ⟨y4, hy4, h⟩ := bind_some h
          refine q_callF (a := []) (b := []) (xs := [(Sl.t (a0.Trace : Sl ByteArray)), .int .i64 200, .int .i64 1300]) rfl hS rfl rfl hy4 ?_; intro s hS
          refine q_seg 2 [(0, .ptr bp0 0 0 5), (46, .bool (!y4))] hS (by kernel_rfl) ?_; intro s hS
          refine x_nil ?_
          refine sq_n ?_
          by_cases hc5 : (!y4) = true
          · have h := it_pos hc5 h
            refine c_cond hS rfl (fun _ => ?_) (fun hf => ff_absurd hc5 hf)
            refine c_seq ?_
            refine c_region ?_
            refine q_seg 1 [(2, .bool false)] hS (by kernel_rfl) ?_; intro s hS
            refine x_nil ?_
            refine sq_n ?_
            refine c_ret ?_
            refine sq_r ?_
            injection h with h; subst h
            exact end_W hH (r_tmp (v := .bool false) hS rfl r_nil) rfl (by kernel_rfl) (by simp [pureT, pureL, E_bool])
          · have h := it_neg hc5 h
            refine c_cond hS rfl (fun hf => tt_absurd hc5 hf) (fun _ => ?_)
            refine c_skip ?_
            refine sq_n ?_
            refine c_seq ?_
            refine c_seq ?_
            refine c_region ?_
            refine q_seg 1 [(0, .ptr bp0 0 0 5), (3, .int .i64 0)] hS (by kernel_rfl) ?_; intro s hS
            refine x_nil ?_
            refine sq_n ?_
            refine c_block ?_
            obtain ⟨y5, hy5, h⟩ := bind_some h
            refine c_loop (fun (st1 : Int) (fr : Fr) => Sub [(0, .ptr bp0 0 0 5), (3, .int .i64 st1)] fr.s ∧ Heap σ0 fr.σ []) (fun (y5 : (Unit ⊕ Bool)) (e : AExit) (fr : Fr) => (Sum.elim (fun y => e = (.exit 0) ∧ Sub [] fr.s ∧ Heap σ0 fr.σ []) (fun y => e = .ret ∧ endW Try.prog (Try.f41.results.toList) σ0 (E_bool y) .ret fr)) y5) hy5 (And.intro (sub_to hS (by kernel_rfl)) hH) ?_ ?_
            · clear h hy5 hS hH; clear y5; intro st1 x fr h HI; obtain ⟨s, σ⟩ := fr; obtain ⟨hS, hH⟩ := HI
              refine c_seq ?_
              refine c_seq ?_
              refine c_region ?_
              refine q_seg 4 [(0, .ptr bp0 0 0 5), (3, .int .i64 st1), (47, .int .i64 st1), (50, .ptr bp0 0 3 1)] hS (by kernel_rfl) ?_; intro s hS
              refine q_loadL (v := (Sl.t (a0.Files : Sl DFile))) trivial rfl hS hH hL_bp0 rfl (by kernel_rfl) ?_; intro s hS
              refine q_seg 2 [(0, .ptr bp0 0 0 5), (3, .int .i64 st1), (53, .bool (decide (st1 < (a0.Files.l.length : Int))))] hS (by kernel_rfl) ?_; intro s hS
              refine x_nil ?_
              refine sq_n ?_
              by_cases hc6 : (decide (st1 < (a0.Files.l.length : Int))) = true
              · have h := it_pos hc6 h
                refine c_cond hS rfl (fun _ => ?_) (fun hf => ff_absurd hc6 hf)
                refine c_skip ?_
                refine sq_n ?_
                refine c_seq ?_
                refine c_block ?_
                refine c_seq ?_
                refine c_draw (by kernel_rfl) hH ?_; intro mb σ hH
                refine q_seg 3 [(0, .ptr bp0 0 0 5), (3, .int .i64 st1), (58, .ptr bp0 0 3 1)] hS (by kernel_rfl) ?_; intro s hS
                refine q_loadL (v := (Sl.t (a0.Files : Sl DFile))) trivial rfl hS hH hL_bp0 rfl (by kernel_rfl) ?_; intro s hS
                refine q_seg 1 [(0, .ptr bp0 0 0 5), (3, .int .i64 st1), (59, (Sl.t (a0.Files : Sl DFile))), (60, .int .i64 st1)] hS (by kernel_rfl) ?_; intro s hS
                obtain ⟨y6, hy6, h⟩ := bind_some h
                refine q_elt (sl := a0.Files) (e := 52) [.str y6.Name, (Sl.t (y6.Lines : Sl ByteArray)), .int .i64 y6.Mode, .int .i64 y6.At] rfl hS rfl rfl (by kernel_rfl) (by kernel_rfl) hy6 rfl ?_; intro rest1 s hS
                refine q_seg 1 [(0, .ptr bp0 0 0 5), (3, .int .i64 st1), (62, .agg (DFile.cells y6))] hS (by kernel_rfl) ?_; intro s hS
                obtain ⟨y7, hy7, h⟩ := bind_some h
                refine q_callF (a := []) (b := []) (xs := [.agg (DFile.cells y6)]) rfl hS rfl rfl hy7 ?_; intro s hS
                refine q_seg 2 [(65, .bool (!y7)), (0, .ptr bp0 0 0 5), (3, .int .i64 st1)] hS (by kernel_rfl) ?_; intro s hS
                by_cases hc7 : (!y7) = true
                · have h := it_pos hc7 h
                  have hS := sub_bt hS hc7
                  refine q_seg 23 [(0, .ptr bp0 0 0 5), (3, .int .i64 st1), (88, .bool true)] hS (by kernel_rfl) ?_; intro s hS
                  refine x_nil ?_
                  refine sq_n ?_
                  refine c_cond (t := true) hS rfl (fun _ => ?_) (fun hf => by cases hf)
                  refine c_seq ?_
                  refine c_region ?_
                  refine q_seg 1 [(2, .bool false)] hS (by kernel_rfl) ?_; intro s hS
                  refine x_nil ?_
                  refine sq_n ?_
                  refine c_ret ?_
                  refine bk_r ?_
                  refine sq_r ?_
                  injection h with h; subst h
                  exact And.intro rfl (end_W hH (r_tmp (v := .bool false) hS rfl r_nil) rfl (by kernel_rfl) (by simp [pureT, pureL, E_bool]))
                · have h := it_neg hc7 h
                  have hS := sub_bt hS (tt_of hc7)
                  refine q_seg 3 [(68, .bool (decide (0 < st1))), (0, .ptr bp0 0 0 5), (3, .int .i64 st1), (65, .bool false)] hS (by kernel_rfl) ?_; intro s hS
                  by_cases hc8 : (decide (0 < st1)) = true
                  · have h := it_pos hc8 h
                    have hS := sub_bt hS hc8
                    refine q_seg 3 [(0, .ptr bp0 0 0 5), (3, .int .i64 st1), (65, .bool false), (68, .bool true), (71, .ptr bp0 0 3 1)] hS (by kernel_rfl) ?_; intro s hS
                    refine q_loadL (v := (Sl.t (a0.Files : Sl DFile))) trivial rfl hS hH hL_bp0 rfl (by kernel_rfl) ?_; intro s hS
                    refine q_seg 2 [(0, .ptr bp0 0 0 5), (3, .int .i64 st1), (65, .bool false), (68, .bool true), (72, (Sl.t (a0.Files : Sl DFile))), (74, .int .i64 (IntKind.i64.wrap (st1 - 1)))] hS (by kernel_rfl) ?_; intro s hS
                    obtain ⟨y8, hy8, h⟩ := bind_some h
                    refine q_elt (sl := a0.Files) (e := 52) [.str y8.Name, (Sl.t (y8.Lines : Sl ByteArray)), .int .i64 y8.Mode, .int .i64 y8.At] rfl hS rfl rfl (by kernel_rfl) (by kernel_rfl) hy8 rfl ?_; intro rest2 s hS
                    refine q_seg 5 [(0, .ptr bp0 0 0 5), (3, .int .i64 st1), (65, .bool false), (68, .bool true), (77, .str y8.Name), (80, .ptr bp0 0 3 1)] hS (by kernel_rfl) ?_; intro s hS
                    refine q_loadL (v := (Sl.t (a0.Files : Sl DFile))) trivial rfl hS hH hL_bp0 rfl (by kernel_rfl) ?_; intro s hS
                    refine q_seg 1 [(0, .ptr bp0 0 0 5), (3, .int .i64 st1), (65, .bool false), (68, .bool true), (77, .str y8.Name), (81, (Sl.t (a0.Files : Sl DFile))), (82, .int .i64 st1)] hS (by kernel_rfl) ?_; intro s hS
                    obtain ⟨y9, hy9, h⟩ := bind_some h
                    refine q_elt (sl := a0.Files) (e := 52) [.str y9.Name, (Sl.t (y9.Lines : Sl ByteArray)), .int .i64 y9.Mode, .int .i64 y9.At] rfl hS rfl rfl (by kernel_rfl) (by kernel_rfl) hy9 rfl ?_; intro rest3 s hS
                    refine q_seg 5 [(0, .ptr bp0 0 0 5), (3, .int .i64 st1), (88, .bool (!Op.bytesLess y8.Name.toList y9.Name.toList))] hS (by kernel_rfl) ?_; intro s hS
                    refine x_nil ?_
                    refine sq_n ?_
                    by_cases hc9 : (!Op.bytesLess y8.Name.toList y9.Name.toList) = true
                    · have h := it_pos hc9 h
                      refine c_cond hS rfl (fun _ => ?_) (fun hf => ff_absurd hc9 hf)
                      refine c_seq ?_
                      refine c_region ?_
                      refine q_seg 1 [(2, .bool false)] hS (by kernel_rfl) ?_; intro s hS
                      refine x_nil ?_
                      refine sq_n ?_
                      refine c_ret ?_
                      refine bk_r ?_
                      refine sq_r ?_
                      injection h with h; subst h
                      exact And.intro rfl (end_W hH (r_tmp (v := .bool false) hS rfl r_nil) rfl (by kernel_rfl) (by simp [pureT, pureL, E_bool]))
                    · have h := it_neg hc9 h
                      refine c_cond hS rfl (fun hf => tt_absurd hc9 hf) (fun _ => ?_)
                      refine c_skip ?_
                      refine bk_n ?_
                      refine sq_n ?_
                      refine c_region ?_
                      refine q_seg 3 [(0, .ptr bp0 0 0 5), (3, .int .i64 (IntKind.i64.wrap (st1 + 1)))] hS (by kernel_rfl) ?_; intro s hS
                      refine x_nil ?_
                      injection h with h; subst h
                      exact And.intro (sub_to hS (by kernel_rfl)) hH
                  · have h := it_neg hc8 h
                    have hS := sub_bt hS (tt_of hc8)
                    refine q_seg 20 [(0, .ptr bp0 0 0 5), (3, .int .i64 st1), (88, .bool false)] hS (by kernel_rfl) ?_; intro s hS
                    refine x_nil ?_
                    refine sq_n ?_
                    refine c_cond (t := false) hS rfl (fun hf => by cases hf) (fun _ => ?_)
                    refine c_skip ?_
                    refine bk_n ?_
                    refine sq_n ?_
                    refine c_region ?_
                    refine q_seg 3 [(0, .ptr bp0 0 0 5), (3, .int .i64 (IntKind.i64.wrap (st1 + 1)))] hS (by kernel_rfl) ?_; intro s hS
                    refine x_nil ?_
                    injection h with h; subst h
                    exact And.intro (sub_to hS (by kernel_rfl)) hH
              · have h := it_neg hc6 h
                refine c_cond hS rfl (fun hf => tt_absurd hc6 hf) (fun _ => ?_)
                refine c_exit ?_
                refine sq_x ?_
                injection h with h; subst h
                exact And.intro rfl (And.intro (sub_to hS (by kernel_rfl)) hH)
            · clear hS hH; intro e fr HF; obtain ⟨s, σ⟩ := fr
              rcases y5 with y5 | y5
              · obtain ⟨rfl, hS, hH⟩ := HF
                refine bk_e ?_
                refine sq_n ?_
                refine c_seq ?_
                refine c_region ?_
                refine q_seg 1 [(2, .bool true)] hS (by kernel_rfl) ?_; intro s hS
                refine x_nil ?_
                refine sq_n ?_
                refine c_ret ?_
                injection h with h; subst h
                exact end_W hH (r_tmp (v := .bool true) hS rfl r_nil) rfl (by kernel_rfl) (by simp [pureT, pureL, E_bool])
              · obtain ⟨rfl, HE⟩ := HF
                refine bk_r ?_
                refine sq_r ?_
                injection h with h; subst h; exact HE
end Go.Am
end
