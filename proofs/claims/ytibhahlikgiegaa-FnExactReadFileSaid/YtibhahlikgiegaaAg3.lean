/- Functions of the program. -/
import Derived.Test.YtibhahlikgiegaaAd0
section
set_option maxRecDepth 100000
set_option maxHeartbeats 4000000
set_option linter.unusedVariables false
set_option linter.unusedSimpArgs false
namespace Go.Am
open Go.Proofs
noncomputable def B_impl_ReadFile (a0 : DConsole) (a1 : ByteArray) : Option (DConsole × ByteArray × Bool × Int) := ((((F_impl_ValidConsole a0).bind fun y2 => (if (!y2) = true then (some (0, 1, false, ⟨#[]⟩, (⟨true, []⟩ : Sl ByteArray), (⟨true, []⟩ : Sl ByteArray), (⟨true, []⟩ : Sl DFile), (⟨true, []⟩ : Sl ByteArray))) else ((F_impl_IsName a1).bind fun y3 => (if (!y3) = true then (some (0, 1, false, ⟨#[]⟩, (⟨true, []⟩ : Sl ByteArray), (⟨true, []⟩ : Sl ByteArray), (⟨true, []⟩ : Sl DFile), (⟨true, []⟩ : Sl ByteArray))) else ((F_impl_Console_copied a0).bind fun y4 => ((loopO (S := (Int × Int)) (R := Int) (fun st1 => (if (decide (st1.1 < st1.2)) = true then ((elt y4.Files ((IntKind.i64.wrap (((IntKind.u64.wrap (IntKind.i64.wrap (st1.1 + st1.2))).fdiv (2 ^ 1)))))).bind fun y6 => ((F_impl_nameOfFile y6).bind fun y7 => ((F_cmp_Compare_string y7 a1).bind fun y8 => (if (decide (y8 < 0)) = true then (some (.inl ((IntKind.i64.wrap ((IntKind.i64.wrap (((IntKind.u64.wrap (IntKind.i64.wrap (st1.1 + st1.2))).fdiv (2 ^ 1)))) + 1)), st1.2))) else (some (.inl (st1.1, (IntKind.i64.wrap (((IntKind.u64.wrap (IntKind.i64.wrap (st1.1 + st1.2))).fdiv (2 ^ 1))))))))))) else (some (.inr st1.1)))) (0, (y4.Files.l.length : Int))).bind fun y5 => (if (decide (y5 < (y4.Files.l.length : Int))) = true then ((elt y4.Files y5).bind fun y9 => ((F_impl_nameOfFile y9).bind fun y10 => ((F_cmp_Compare_string y10 a1).bind fun y11 => (if (!(decide (y11 = 0))) = true then (some (0, 11, false, ⟨#[]⟩, (⟨true, []⟩ : Sl ByteArray), (⟨true, []⟩ : Sl ByteArray), (⟨true, []⟩ : Sl DFile), (⟨true, []⟩ : Sl ByteArray))) else ((elt y4.Files y5).bind fun y12 => (((if (!decide (y12.Mode = 1)) = true then (some (10, false, ⟨#[]⟩, y4.Files)) else (if (decide (y12.At < (y12.Lines.l.length : Int))) = true then ((elt y12.Lines y12.At).bind fun y14 => (some (0, (decide (y12.At < (y12.Lines.l.length : Int))), y14, (setS y4.Files y5 ((⟨y12.Name, y12.Lines, y12.Mode, (IntKind.i64.wrap (y12.At + 1))⟩ : DFile) : DFile))))) else (some (0, (decide (y12.At < (y12.Lines.l.length : Int))), ⟨#[]⟩, y4.Files)))) : Option (Int × Bool × ByteArray × (Sl DFile))).bind fun y13 => (if (!decide (y13.1 = 0)) = true then (some (0, y13.1, y13.2.1, y13.2.2.1, (⟨true, []⟩ : Sl ByteArray), (⟨true, []⟩ : Sl ByteArray), (⟨true, []⟩ : Sl DFile), (⟨true, []⟩ : Sl ByteArray))) else (some (y4.At, 0, y13.2.1, y13.2.2.1, y4.Input, y4.Output, y13.2.2.2, y4.Trace))))))))) else (some (0, 11, false, ⟨#[]⟩, (⟨true, []⟩ : Sl ByteArray), (⟨true, []⟩ : Sl ByteArray), (⟨true, []⟩ : Sl DFile), (⟨true, []⟩ : Sl ByteArray)))))))))) : Option ((Int × Int × Bool × ByteArray × (Sl ByteArray) × (Sl ByteArray) × (Sl DFile) × (Sl ByteArray)))).bind fun y1 => (some ((⟨y1.2.2.2.2.1, y1.1, y1.2.2.2.2.2.1, y1.2.2.2.2.2.2.1, y1.2.2.2.2.2.2.2⟩ : DConsole), y1.2.2.2.1, y1.2.2.1, y1.2.1)))
theorem u_impl_ReadFile (a0 : DConsole) (a1 : ByteArray) (r : (DConsole × ByteArray × Bool × Int)) (h : B_impl_ReadFile a0 a1 = some r) : F_impl_ReadFile a0 a1 = some r := by
  unfold B_impl_ReadFile at h
  refine semO_of rfl rfl ok_31 rfl (all_cons (by kernel_rfl) (all_cons (by kernel_rfl) all_nil)) ?_
  intro σ0 s hS hH
  have hS := sub_to (L' := [(0, .agg (DConsole.cells a0)), (1, .str a1)]) hS (by kernel_rfl)
  refine c_seq ?_
  refine c_region ?_
  refine q_box (v := .agg (DConsole.cells a0)) (cs := [(Sl.t (a0.Input : Sl ByteArray)), .int .i64 a0.At, (Sl.t (a0.Output : Sl ByteArray)), (Sl.t (a0.Files : Sl DFile)), (Sl.t (a0.Trace : Sl ByteArray))]) rfl hS hH rfl rfl (by kernel_rfl) ?_; intro b1 σ s hH hS
  refine q_alloc (z := [(Sl.t (⟨true, []⟩ : Sl ByteArray)), .int .i64 0, (Sl.t (⟨true, []⟩ : Sl ByteArray)), (Sl.t (⟨true, []⟩ : Sl DFile)), (Sl.t (⟨true, []⟩ : Sl ByteArray))]) rfl hS hH (by kernel_rfl) ?_; intro b2 σ s hH hS
  refine q_seg 3 [(1, .str a1), (2, .ptr b1 0 0 5), (4, .ptr b2 0 0 5)] hS (by kernel_rfl) ?_; intro s hS
  refine x_nil ?_
  refine sq_n ?_
  refine c_seq ?_
  refine c_region ?_
  refine q_alloc (z := [.str ⟨#[]⟩]) rfl hS hH (by kernel_rfl) ?_; intro b3 σ s hH hS
  refine q_alloc (z := [.bool false]) rfl hS hH (by kernel_rfl) ?_; intro b4 σ s hH hS
  have hH : Heap σ0 σ [.box b3 [.str ⟨#[]⟩], .box b4 [.bool false], .box b2 [(Sl.t (⟨true, []⟩ : Sl ByteArray)), .int .i64 0, (Sl.t (⟨true, []⟩ : Sl ByteArray)), (Sl.t (⟨true, []⟩ : Sl DFile)), (Sl.t (⟨true, []⟩ : Sl ByteArray))], .box b1 [(Sl.t (a0.Input : Sl ByteArray)), .int .i64 a0.At, (Sl.t (a0.Output : Sl ByteArray)), (Sl.t (a0.Files : Sl DFile)), (Sl.t (a0.Trace : Sl ByteArray))]] := hH.sel [1, 0, 2, 3] rfl (by kernel_rfl)
  refine q_store (v := .str ⟨#[]⟩) (cs := [.str ⟨#[]⟩]) (cells' := [.str ⟨#[]⟩]) rfl hS hH rfl rfl rfl (by kernel_rfl) (by kernel_rfl) ?_; intro σ s hH hS
  have hH : Heap σ0 σ [.box b4 [.bool false], .box b3 [.str ⟨#[]⟩], .box b2 [(Sl.t (⟨true, []⟩ : Sl ByteArray)), .int .i64 0, (Sl.t (⟨true, []⟩ : Sl ByteArray)), (Sl.t (⟨true, []⟩ : Sl DFile)), (Sl.t (⟨true, []⟩ : Sl ByteArray))], .box b1 [(Sl.t (a0.Input : Sl ByteArray)), .int .i64 a0.At, (Sl.t (a0.Output : Sl ByteArray)), (Sl.t (a0.Files : Sl DFile)), (Sl.t (a0.Trace : Sl ByteArray))]] := hH.sel [1, 0, 2, 3] rfl (by kernel_rfl)
  refine q_store (v := .bool false) (cs := [.bool false]) (cells' := [.bool false]) rfl hS hH rfl rfl rfl (by kernel_rfl) (by kernel_rfl) ?_; intro σ s hH hS
  refine x_nil ?_
  refine sq_n ?_
  refine c_seq ?_
  refine c_region ?_
  refine q_load (v := .agg (DConsole.cells a0)) 3 trivial rfl hS hH rfl rfl (by kernel_rfl) ?_; intro s hS
  refine q_seg 2 [(4, .ptr b2 0 0 5), (8, .ptr b3 0 0 1), (9, .ptr b4 0 0 1), (13, .agg (DConsole.cells a0)), (14, .str a1), (15, T.fn 63 [] [.ptr b4 0 0 1, .ptr b3 0 0 1])] hS (by kernel_rfl) ?_; intro s hS
  obtain ⟨y1, hy1, h⟩ := bind_some h
  refine q_inlC (HF := fun s σ => ∃ t1, IsOne t1 ∧ ∃ t2, IsOne t2 ∧ ∃ t3, IsOne t3 ∧ ∃ t4, IsOne t4 ∧ Sub [(4, .ptr b2 0 0 5), (8, .ptr b3 0 0 1), (9, .ptr b4 0 0 1), (16, .tup [.agg [t1, .int .i64 y1.1, t2, t3, t4], .int .i64 y1.2.1])] s ∧ Heap σ0 σ [.box b4 [.bool y1.2.2.1], .box b3 [.str y1.2.2.2.1], .box b2 [(Sl.t (⟨true, []⟩ : Sl ByteArray)), .int .i64 0, (Sl.t (⟨true, []⟩ : Sl ByteArray)), (Sl.t (⟨true, []⟩ : Sl DFile)), (Sl.t (⟨true, []⟩ : Sl ByteArray))], .own true 1 t1 (Sl.t (y1.2.2.2.2.1 : Sl ByteArray)), .own true 1 t2 (Sl.t (y1.2.2.2.2.2.1 : Sl ByteArray)), .own true 4 t3 (Sl.t (y1.2.2.2.2.2.2.1 : Sl DFile)), .own true 1 t4 (Sl.t (y1.2.2.2.2.2.2.2 : Sl ByteArray))]) [.agg (DConsole.cells a0), .str a1, T.fn 63 [] [.ptr b4 0 0 1, .ptr b3 0 0 1]] rfl hS rfl rfl rfl rfl rfl ok_59 rfl ?_ ?_
  · clear h; have h := hy1; intro s hS
    have hS := sub_to (L' := [(0, .agg (DConsole.cells a0)), (1, .str a1), (2, T.fn 63 [] [.ptr b4 0 0 1, .ptr b3 0 0 1])]) hS (by kernel_rfl)
    refine c_seq ?_
    refine c_region ?_
    refine q_box (v := .agg (DConsole.cells a0)) (cs := [(Sl.t (a0.Input : Sl ByteArray)), .int .i64 a0.At, (Sl.t (a0.Output : Sl ByteArray)), (Sl.t (a0.Files : Sl DFile)), (Sl.t (a0.Trace : Sl ByteArray))]) rfl hS hH rfl rfl (by kernel_rfl) ?_; intro b5 σ s hH hS
    refine q_alloc (z := [(Sl.t (⟨true, []⟩ : Sl ByteArray)), .int .i64 0, (Sl.t (⟨true, []⟩ : Sl ByteArray)), (Sl.t (⟨true, []⟩ : Sl DFile)), (Sl.t (⟨true, []⟩ : Sl ByteArray))]) rfl hS hH (by kernel_rfl) ?_; intro b6 σ s hH hS
    refine q_seg 1 [(1, .str a1), (2, T.fn 63 [] [.ptr b4 0 0 1, .ptr b3 0 0 1]), (3, .ptr b5 0 0 5), (6, .ptr b6 0 0 5)] hS (by kernel_rfl) ?_; intro s hS
    refine x_nil ?_
    refine sq_n ?_
    refine c_seq ?_
    refine c_seq ?_
    refine c_region ?_
    refine q_load (v := .agg (DConsole.cells a0)) 1 trivial rfl hS hH rfl rfl (by kernel_rfl) ?_; intro s hS
    obtain ⟨y2, hy2, h⟩ := bind_some h
    refine q_callF (a := []) (b := []) (xs := [.agg (DConsole.cells a0)]) rfl hS rfl rfl hy2 ?_; intro s hS
    refine q_seg 2 [(15, .bool (!y2)), (1, .str a1), (2, T.fn 63 [] [.ptr b4 0 0 1, .ptr b3 0 0 1]), (3, .ptr b5 0 0 5), (6, .ptr b6 0 0 5)] hS (by kernel_rfl) ?_; intro s hS
    by_cases hc1 : (!y2) = true
    · have h := it_pos hc1 h
      have hS := sub_bt hS hc1
      refine q_seg 4 [(1, .str a1), (2, T.fn 63 [] [.ptr b4 0 0 1, .ptr b3 0 0 1]), (3, .ptr b5 0 0 5), (6, .ptr b6 0 0 5), (19, .bool true)] hS (by kernel_rfl) ?_; intro s hS
      refine x_nil ?_
      refine sq_n ?_
      refine c_cond (t := true) hS rfl (fun _ => ?_) (fun hf => by cases hf)
      refine c_seq ?_
      refine c_region ?_
      refine q_seg 1 [(6, .ptr b6 0 0 5), (20, .agg [(Sl.t (⟨true, []⟩ : Sl ByteArray)), .int .i64 0, (Sl.t (⟨true, []⟩ : Sl ByteArray)), (Sl.t (⟨true, []⟩ : Sl DFile)), (Sl.t (⟨true, []⟩ : Sl ByteArray))])] hS (by kernel_rfl) ?_; intro s hS
      refine q_store (v := .agg [(Sl.t (⟨true, []⟩ : Sl ByteArray)), .int .i64 0, (Sl.t (⟨true, []⟩ : Sl ByteArray)), (Sl.t (⟨true, []⟩ : Sl DFile)), (Sl.t (⟨true, []⟩ : Sl ByteArray))]) (cs := [(Sl.t (⟨true, []⟩ : Sl ByteArray)), .int .i64 0, (Sl.t (⟨true, []⟩ : Sl ByteArray)), (Sl.t (⟨true, []⟩ : Sl DFile)), (Sl.t (⟨true, []⟩ : Sl ByteArray))]) (cells' := [(Sl.t (⟨true, []⟩ : Sl ByteArray)), .int .i64 0, (Sl.t (⟨true, []⟩ : Sl ByteArray)), (Sl.t (⟨true, []⟩ : Sl DFile)), (Sl.t (⟨true, []⟩ : Sl ByteArray))]) rfl hS hH rfl rfl rfl (by kernel_rfl) (by kernel_rfl) ?_; intro σ s hH hS
      refine q_seg 1 [(6, .ptr b6 0 0 5), (7, .int .i64 1)] hS (by kernel_rfl) ?_; intro s hS
      refine x_nil ?_
      refine sq_n ?_
      refine c_ret ?_
      refine sq_r ?_
      refine end_I (v := .tup [.agg [(Sl.t (⟨true, []⟩ : Sl ByteArray)), .int .i64 0, (Sl.t (⟨true, []⟩ : Sl ByteArray)), (Sl.t (⟨true, []⟩ : Sl DFile)), (Sl.t (⟨true, []⟩ : Sl ByteArray))], .int .i64 1]) (r_cell (v := .agg [(Sl.t (⟨true, []⟩ : Sl ByteArray)), .int .i64 0, (Sl.t (⟨true, []⟩ : Sl ByteArray)), (Sl.t (⟨true, []⟩ : Sl DFile)), (Sl.t (⟨true, []⟩ : Sl ByteArray))]) hS hH rfl (by kernel_rfl) (r_tmp (v := .int .i64 1) hS rfl r_nil)) rfl ?_; intro s hS
      injection h with h; subst h
      have hH := Heap.addNil hH true 1
      have hH := Heap.addNil hH true 1
      have hH := Heap.addNil hH true 4
      have hH := Heap.addNil hH true 1
      exact Exists.intro (T.row true 0 []) (And.intro ⟨rfl, rfl⟩ (Exists.intro (T.row true 0 []) (And.intro ⟨rfl, rfl⟩ (Exists.intro (T.row true 0 []) (And.intro ⟨rfl, rfl⟩ (Exists.intro (T.row true 0 []) (And.intro ⟨rfl, rfl⟩ (And.intro (sub_to hS (by kernel_rfl)) (Heap.sel hH [6, 7, 8, 3, 2, 1, 0] rfl (by kernel_rfl))))))))))
    · have h := it_neg hc1 h
      have hS := sub_bt hS (tt_of hc1)
      refine q_seg 1 [(1, .str a1), (2, T.fn 63 [] [.ptr b4 0 0 1, .ptr b3 0 0 1]), (3, .ptr b5 0 0 5), (6, .ptr b6 0 0 5), (15, .bool false), (16, .str a1)] hS (by kernel_rfl) ?_; intro s hS
      obtain ⟨y3, hy3, h⟩ := bind_some h
      refine q_callF (a := []) (b := []) (xs := [.str a1]) rfl hS rfl rfl hy3 ?_; intro s hS
      refine q_seg 2 [(1, .str a1), (2, T.fn 63 [] [.ptr b4 0 0 1, .ptr b3 0 0 1]), (3, .ptr b5 0 0 5), (6, .ptr b6 0 0 5), (19, .bool (!y3))] hS (by kernel_rfl) ?_; intro s hS
      refine x_nil ?_
      refine sq_n ?_
      by_cases hc2 : (!y3) = true
      · have h := it_pos hc2 h
        refine c_cond hS rfl (fun _ => ?_) (fun hf => ff_absurd hc2 hf)
        refine c_seq ?_
        refine c_region ?_
        refine q_seg 1 [(6, .ptr b6 0 0 5), (20, .agg [(Sl.t (⟨true, []⟩ : Sl ByteArray)), .int .i64 0, (Sl.t (⟨true, []⟩ : Sl ByteArray)), (Sl.t (⟨true, []⟩ : Sl DFile)), (Sl.t (⟨true, []⟩ : Sl ByteArray))])] hS (by kernel_rfl) ?_; intro s hS
        refine q_store (v := .agg [(Sl.t (⟨true, []⟩ : Sl ByteArray)), .int .i64 0, (Sl.t (⟨true, []⟩ : Sl ByteArray)), (Sl.t (⟨true, []⟩ : Sl DFile)), (Sl.t (⟨true, []⟩ : Sl ByteArray))]) (cs := [(Sl.t (⟨true, []⟩ : Sl ByteArray)), .int .i64 0, (Sl.t (⟨true, []⟩ : Sl ByteArray)), (Sl.t (⟨true, []⟩ : Sl DFile)), (Sl.t (⟨true, []⟩ : Sl ByteArray))]) (cells' := [(Sl.t (⟨true, []⟩ : Sl ByteArray)), .int .i64 0, (Sl.t (⟨true, []⟩ : Sl ByteArray)), (Sl.t (⟨true, []⟩ : Sl DFile)), (Sl.t (⟨true, []⟩ : Sl ByteArray))]) rfl hS hH rfl rfl rfl (by kernel_rfl) (by kernel_rfl) ?_; intro σ s hH hS
        refine q_seg 1 [(6, .ptr b6 0 0 5), (7, .int .i64 1)] hS (by kernel_rfl) ?_; intro s hS
        refine x_nil ?_
        refine sq_n ?_
        refine c_ret ?_
        refine sq_r ?_
        refine end_I (v := .tup [.agg [(Sl.t (⟨true, []⟩ : Sl ByteArray)), .int .i64 0, (Sl.t (⟨true, []⟩ : Sl ByteArray)), (Sl.t (⟨true, []⟩ : Sl DFile)), (Sl.t (⟨true, []⟩ : Sl ByteArray))], .int .i64 1]) (r_cell (v := .agg [(Sl.t (⟨true, []⟩ : Sl ByteArray)), .int .i64 0, (Sl.t (⟨true, []⟩ : Sl ByteArray)), (Sl.t (⟨true, []⟩ : Sl DFile)), (Sl.t (⟨true, []⟩ : Sl ByteArray))]) hS hH rfl (by kernel_rfl) (r_tmp (v := .int .i64 1) hS rfl r_nil)) rfl ?_; intro s hS
        injection h with h; subst h
        have hH := Heap.addNil hH true 1
        have hH := Heap.addNil hH true 1
        have hH := Heap.addNil hH true 4
        have hH := Heap.addNil hH true 1
        exact Exists.intro (T.row true 0 []) (And.intro ⟨rfl, rfl⟩ (Exists.intro (T.row true 0 []) (And.intro ⟨rfl, rfl⟩ (Exists.intro (T.row true 0 []) (And.intro ⟨rfl, rfl⟩ (Exists.intro (T.row true 0 []) (And.intro ⟨rfl, rfl⟩ (And.intro (sub_to hS (by kernel_rfl)) (Heap.sel hH [6, 7, 8, 3, 2, 1, 0] rfl (by kernel_rfl))))))))))
      · have h := it_neg hc2 h
        refine c_cond hS rfl (fun hf => tt_absurd hc2 hf) (fun _ => ?_)
        refine c_skip ?_
        refine sq_n ?_
        refine c_seq ?_
        refine c_region ?_
        refine q_load (v := .agg (DConsole.cells a0)) 1 trivial rfl hS hH rfl rfl (by kernel_rfl) ?_; intro s hS
        obtain ⟨y4, hy4, h⟩ := bind_some h
        refine q_callO (ents := []) (z := false) (ts := [.agg (DConsole.cells a0)]) (vs := [.agg (DConsole.cells a0)]) rfl rfl hS rfl rfl rfl hH (HL.agg (es1 := []) (es2 := []) (HL.leaf (fun σ d => hold_pure σ d _) (HL.leaf (fun σ d => hold_int _ σ d _ _) (HL.leaf (fun σ d => hold_pure σ d _) (HL.leaf (fun σ d => hold_pure σ d _) (HL.leaf (fun σ d => hold_pure σ d _) HL.nil))))) HL.nil) hy4 ?_; intro hs σ s hl hH hS
        obtain ⟨t5, t6, t7, t8, rfl⟩ := len4 hl
        have hH : Heap σ0 σ [.own true 1 t5 (Sl.t (y4.Input : Sl ByteArray)), .own true 1 t6 (Sl.t (y4.Output : Sl ByteArray)), .own true 4 t7 (Sl.t (y4.Files : Sl DFile)), .own true 1 t8 (Sl.t (y4.Trace : Sl ByteArray)), .box b6 [(Sl.t (⟨true, []⟩ : Sl ByteArray)), .int .i64 0, (Sl.t (⟨true, []⟩ : Sl ByteArray)), (Sl.t (⟨true, []⟩ : Sl DFile)), (Sl.t (⟨true, []⟩ : Sl ByteArray))], .box b5 [(Sl.t (a0.Input : Sl ByteArray)), .int .i64 a0.At, (Sl.t (a0.Output : Sl ByteArray)), (Sl.t (a0.Files : Sl DFile)), (Sl.t (a0.Trace : Sl ByteArray))], .box b4 [.bool false], .box b3 [.str ⟨#[]⟩], .box b2 [(Sl.t (⟨true, []⟩ : Sl ByteArray)), .int .i64 0, (Sl.t (⟨true, []⟩ : Sl ByteArray)), (Sl.t (⟨true, []⟩ : Sl DFile)), (Sl.t (⟨true, []⟩ : Sl ByteArray))], .box b1 [(Sl.t (a0.Input : Sl ByteArray)), .int .i64 a0.At, (Sl.t (a0.Output : Sl ByteArray)), (Sl.t (a0.Files : Sl DFile)), (Sl.t (a0.Trace : Sl ByteArray))]] := hH
        have ht5 : IsOne t5 := Heap.one hH
        have ht6 : IsOne t6 := Heap.one (hH.at 1 rfl)
        have ht7 : IsOne t7 := Heap.one (hH.at 2 rfl)
        have ht8 : IsOne t8 := Heap.one (hH.at 3 rfl)
        refine q_alloc (z := [(Sl.t (⟨true, []⟩ : Sl ByteArray)), .int .i64 0, (Sl.t (⟨true, []⟩ : Sl ByteArray)), (Sl.t (⟨true, []⟩ : Sl DFile)), (Sl.t (⟨true, []⟩ : Sl ByteArray))]) rfl hS hH (by kernel_rfl) ?_; intro b7 σ s hH hS
        refine q_store (v := .agg [t5, .int .i64 y4.At, t6, t7, t8]) (cs := [t5, .int .i64 y4.At, t6, t7, t8]) (cells' := [t5, .int .i64 y4.At, t6, t7, t8]) rfl hS hH rfl rfl rfl (by simp [ht5.1, ht5.2, ht6.1, ht6.2, ht7.1, ht7.2, ht8.1, ht8.2]) (by kernel_rfl) ?_; intro σ s hH hS
        refine x_nil ?_
        refine sq_n ?_
        refine c_seq ?_
        refine c_region ?_
        refine q_seg 1 [(1, .str a1), (2, T.fn 63 [] [.ptr b4 0 0 1, .ptr b3 0 0 1]), (6, .ptr b6 0 0 5), (8, .ptr b7 0 0 5), (24, .ptr b7 0 3 1)] hS (by kernel_rfl) ?_; intro s hS
        refine q_load (v := t7) 0 trivial rfl hS hH rfl rfl (by kernel_rfl) ?_; intro s hS
        refine q_seg 1 [(2, T.fn 63 [] [.ptr b4 0 0 1, .ptr b3 0 0 1]), (6, .ptr b6 0 0 5), (8, .ptr b7 0 0 5), (25, t7), (26, .str a1)] hS (by kernel_rfl) ?_; intro s hS
        refine q_inl [t7, .str a1, T.fn 73 [] []] rfl hS rfl rfl rfl rfl rfl ok_72 rfl ?_; intro s hS
        have hS := sub_to (L' := [(0, t7), (1, .str a1), (2, T.fn 73 [] [])]) hS (by kernel_rfl)
        refine c_seq ?_
        refine c_region ?_
        refine q_box (v := T.fn 73 [] []) (cs := [T.fn 73 [] []]) rfl hS hH rfl rfl (by kernel_rfl) ?_; intro b8 σ s hH hS
        refine q_seg 2 [(0, t7), (1, .str a1), (5, .ptr b8 0 0 1)] hS (by kernel_rfl) ?_; intro s hS
        refine x_nil ?_
        refine sq_n ?_
        refine c_seq ?_
        refine c_region ?_
        refine q_seg 3 [(8, t7), (9, .str a1), (10, T.fn 105 [] [.ptr b8 0 0 1])] hS (by kernel_rfl) ?_; intro s hS
        refine q_inl [t7, .str a1, T.fn 105 [] [.ptr b8 0 0 1]] rfl hS rfl rfl rfl rfl rfl ok_104 rfl ?_; intro s hS
        have hS := sub_to (L' := [(0, t7), (1, .str a1), (2, T.fn 105 [] [.ptr b8 0 0 1])]) hS (by kernel_rfl)
        refine c_seq ?_
        refine c_region ?_
        refine q_seg 2 [(0, t7), (1, .str a1), (2, T.fn 105 [] [.ptr b8 0 0 1])] hS (by kernel_rfl) ?_; intro s hS
        refine x_nil ?_
        refine sq_n ?_
        refine c_seq ?_
        refine c_region ?_
        refine q_seg 1 [(0, t7), (1, .str a1), (2, T.fn 105 [] [.ptr b8 0 0 1]), (12, t7)] hS (by kernel_rfl) ?_; intro s hS
        have hH : Heap σ0 σ [.own true 4 t7 (Sl.t (y4.Files : Sl DFile)), .box b8 [T.fn 73 [] []], .box b7 [t5, .int .i64 y4.At, t6, t7, t8], .own true 1 t5 (Sl.t (y4.Input : Sl ByteArray)), .own true 1 t6 (Sl.t (y4.Output : Sl ByteArray)), .own true 1 t8 (Sl.t (y4.Trace : Sl ByteArray)), .box b6 [(Sl.t (⟨true, []⟩ : Sl ByteArray)), .int .i64 0, (Sl.t (⟨true, []⟩ : Sl ByteArray)), (Sl.t (⟨true, []⟩ : Sl DFile)), (Sl.t (⟨true, []⟩ : Sl ByteArray))], .box b5 [(Sl.t (a0.Input : Sl ByteArray)), .int .i64 a0.At, (Sl.t (a0.Output : Sl ByteArray)), (Sl.t (a0.Files : Sl DFile)), (Sl.t (a0.Trace : Sl ByteArray))], .box b4 [.bool false], .box b3 [.str ⟨#[]⟩], .box b2 [(Sl.t (⟨true, []⟩ : Sl ByteArray)), .int .i64 0, (Sl.t (⟨true, []⟩ : Sl ByteArray)), (Sl.t (⟨true, []⟩ : Sl DFile)), (Sl.t (⟨true, []⟩ : Sl ByteArray))], .box b1 [(Sl.t (a0.Input : Sl ByteArray)), .int .i64 a0.At, (Sl.t (a0.Output : Sl ByteArray)), (Sl.t (a0.Files : Sl DFile)), (Sl.t (a0.Trace : Sl ByteArray))]] := hH.sel [4, 0, 1, 2, 3, 5, 6, 7, 8, 9, 10, 11] rfl (by kernel_rfl)
        refine q_lenH (a := y4.Files) rfl hS hH rfl (by kernel_rfl) ?_; intro s hS
        refine q_seg 1 [(0, t7), (1, .str a1), (2, T.fn 105 [] [.ptr b8 0 0 1]), (8, .int .i64 (y4.Files.l.length : Int))] hS (by kernel_rfl) ?_; intro s hS
        refine x_nil ?_
        refine sq_n ?_
        refine c_seq ?_
        refine c_region ?_
        refine q_seg 3 [(0, t7), (1, .str a1), (2, T.fn 105 [] [.ptr b8 0 0 1]), (8, .int .i64 (y4.Files.l.length : Int)), (9, .int .i64 0), (10, .int .i64 (y4.Files.l.length : Int))] hS (by kernel_rfl) ?_; intro s hS
        refine x_nil ?_
        refine sq_n ?_
        refine c_seq ?_
        refine c_block ?_
        obtain ⟨y5, hy5, h⟩ := bind_some h
        refine c_loop (fun (st1 : (Int × Int)) (fr : Fr) => Sub [(0, t7), (1, .str a1), (2, T.fn 105 [] [.ptr b8 0 0 1]), (8, .int .i64 (y4.Files.l.length : Int)), (9, .int .i64 st1.1), (10, .int .i64 st1.2)] fr.s ∧ Heap σ0 fr.σ [.box b8 [T.fn 73 [] []], .box b7 [t5, .int .i64 y4.At, t6, t7, t8], .box b6 [(Sl.t (⟨true, []⟩ : Sl ByteArray)), .int .i64 0, (Sl.t (⟨true, []⟩ : Sl ByteArray)), (Sl.t (⟨true, []⟩ : Sl DFile)), (Sl.t (⟨true, []⟩ : Sl ByteArray))], .box b4 [.bool false], .box b3 [.str ⟨#[]⟩], .box b2 [(Sl.t (⟨true, []⟩ : Sl ByteArray)), .int .i64 0, (Sl.t (⟨true, []⟩ : Sl ByteArray)), (Sl.t (⟨true, []⟩ : Sl DFile)), (Sl.t (⟨true, []⟩ : Sl ByteArray))], .own true 4 t7 (Sl.t (y4.Files : Sl DFile)), .own true 1 t5 (Sl.t (y4.Input : Sl ByteArray)), .own true 1 t6 (Sl.t (y4.Output : Sl ByteArray)), .own true 1 t8 (Sl.t (y4.Trace : Sl ByteArray))]) (fun (y5 : Int) (e : AExit) (fr : Fr) => e = (.exit 0) ∧ Sub [(0, t7), (1, .str a1), (2, T.fn 105 [] [.ptr b8 0 0 1]), (8, .int .i64 (y4.Files.l.length : Int)), (9, .int .i64 y5)] fr.s ∧ Heap σ0 fr.σ [.box b8 [T.fn 73 [] []], .box b7 [t5, .int .i64 y4.At, t6, t7, t8], .box b6 [(Sl.t (⟨true, []⟩ : Sl ByteArray)), .int .i64 0, (Sl.t (⟨true, []⟩ : Sl ByteArray)), (Sl.t (⟨true, []⟩ : Sl DFile)), (Sl.t (⟨true, []⟩ : Sl ByteArray))], .box b4 [.bool false], .box b3 [.str ⟨#[]⟩], .box b2 [(Sl.t (⟨true, []⟩ : Sl ByteArray)), .int .i64 0, (Sl.t (⟨true, []⟩ : Sl ByteArray)), (Sl.t (⟨true, []⟩ : Sl DFile)), (Sl.t (⟨true, []⟩ : Sl ByteArray))], .own true 4 t7 (Sl.t (y4.Files : Sl DFile)), .own true 1 t5 (Sl.t (y4.Input : Sl ByteArray)), .own true 1 t6 (Sl.t (y4.Output : Sl ByteArray)), .own true 1 t8 (Sl.t (y4.Trace : Sl ByteArray))]) hy5 (And.intro (sub_to hS (by kernel_rfl)) (Heap.sel hH [1, 2, 6, 8, 9, 10, 0, 3, 4, 5] rfl (by kernel_rfl))) ?_ ?_
        · clear h hy5 hS hH; clear y5; intro st1 x fr h HI; obtain ⟨s, σ⟩ := fr; obtain ⟨hS, hH⟩ := HI
          refine c_seq ?_
          refine c_seq ?_
          refine c_region ?_
          refine q_seg 3 [(0, t7), (1, .str a1), (2, T.fn 105 [] [.ptr b8 0 0 1]), (8, .int .i64 (y4.Files.l.length : Int)), (9, .int .i64 st1.1), (10, .int .i64 st1.2), (17, .bool (decide (st1.1 < st1.2)))] hS (by kernel_rfl) ?_; intro s hS
          refine x_nil ?_
          refine sq_n ?_
          by_cases hc3 : (decide (st1.1 < st1.2)) = true
          · have h := it_pos hc3 h
            refine c_cond hS rfl (fun _ => ?_) (fun hf => ff_absurd hc3 hf)
            refine c_skip ?_
            refine sq_n ?_
            refine c_block ?_
            refine c_seq ?_
            refine c_region ?_
            refine q_seg 7 [(0, t7), (1, .str a1), (2, T.fn 105 [] [.ptr b8 0 0 1]), (8, .int .i64 (y4.Files.l.length : Int)), (9, .int .i64 st1.1), (10, .int .i64 st1.2), (11, .int .i64 ((IntKind.i64.wrap (((IntKind.u64.wrap (IntKind.i64.wrap (st1.1 + st1.2))).fdiv (2 ^ 1))))))] hS (by kernel_rfl) ?_; intro s hS
            refine x_nil ?_
            refine sq_n ?_
            refine c_seq ?_
            refine c_region ?_
            refine q_seg 3 [(0, t7), (1, .str a1), (2, T.fn 105 [] [.ptr b8 0 0 1]), (8, .int .i64 (y4.Files.l.length : Int)), (9, .int .i64 st1.1), (10, .int .i64 st1.2), (11, .int .i64 ((IntKind.i64.wrap (((IntKind.u64.wrap (IntKind.i64.wrap (st1.1 + st1.2))).fdiv (2 ^ 1)))))), (24, T.fn 105 [] [.ptr b8 0 0 1]), (25, t7), (26, .int .i64 ((IntKind.i64.wrap (((IntKind.u64.wrap (IntKind.i64.wrap (st1.1 + st1.2))).fdiv (2 ^ 1))))))] hS (by kernel_rfl) ?_; intro s hS
            have hH : Heap σ0 σ [.own true 4 t7 (Sl.t (y4.Files : Sl DFile)), .box b8 [T.fn 73 [] []], .box b7 [t5, .int .i64 y4.At, t6, t7, t8], .box b6 [(Sl.t (⟨true, []⟩ : Sl ByteArray)), .int .i64 0, (Sl.t (⟨true, []⟩ : Sl ByteArray)), (Sl.t (⟨true, []⟩ : Sl DFile)), (Sl.t (⟨true, []⟩ : Sl ByteArray))], .box b4 [.bool false], .box b3 [.str ⟨#[]⟩], .box b2 [(Sl.t (⟨true, []⟩ : Sl ByteArray)), .int .i64 0, (Sl.t (⟨true, []⟩ : Sl ByteArray)), (Sl.t (⟨true, []⟩ : Sl DFile)), (Sl.t (⟨true, []⟩ : Sl ByteArray))], .own true 1 t5 (Sl.t (y4.Input : Sl ByteArray)), .own true 1 t6 (Sl.t (y4.Output : Sl ByteArray)), .own true 1 t8 (Sl.t (y4.Trace : Sl ByteArray))] := hH.sel [6, 0, 1, 2, 3, 4, 5, 7, 8, 9] rfl (by kernel_rfl)
            obtain ⟨y6, hy6, h⟩ := bind_some h
            refine q_hidx (a := y4.Files) (e := 52) rfl rfl hS hH rfl rfl (by kernel_rfl) (by kernel_rfl) hy6 ?_; intro hb1 hb1e s hl_hb1 hS
            refine q_hlensS (a := y4.Files) (j := (IntKind.i64.wrap (((IntKind.u64.wrap (IntKind.i64.wrap (st1.1 + st1.2))).fdiv (2 ^ 1))))) (y := y6) (off := 1) (c := [.str y6.Name, (Sl.t (y6.Lines : Sl ByteArray)), .int .i64 y6.Mode, .int .i64 y6.At]) (q := (y6.Lines : Sl ByteArray)) rfl rfl hS hH hl_hb1 rfl hy6 rfl (by kernel_rfl) (by kernel_rfl) rfl (by kernel_rfl) (by kernel_rfl) (by kernel_rfl) ?_; intro F1 σk1 t9 s ht9 hH hcl1 hcl1s hcl1k hcl1f hS
            refine q_seg 1 [(0, t7), (1, .str a1), (2, T.fn 105 [] [.ptr b8 0 0 1]), (8, .int .i64 (y4.Files.l.length : Int)), (9, .int .i64 st1.1), (10, .int .i64 st1.2), (11, .int .i64 ((IntKind.i64.wrap (((IntKind.u64.wrap (IntKind.i64.wrap (st1.1 + st1.2))).fdiv (2 ^ 1)))))), (24, T.fn 105 [] [.ptr b8 0 0 1]), (28, .agg [.str y6.Name, t9, .int .i64 y6.Mode, .int .i64 y6.At]), (29, .str a1)] hS (by kernel_rfl) ?_; intro s hS
            refine q_inl [.agg [.str y6.Name, t9, .int .i64 y6.Mode, .int .i64 y6.At], .str a1, .ptr b8 0 0 1] rfl hS rfl rfl rfl rfl rfl ok_105 rfl ?_; intro s hS
            have hS := sub_to (L' := [(0, .agg [.str y6.Name, t9, .int .i64 y6.Mode, .int .i64 y6.At]), (1, .str a1), (2, .ptr b8 0 0 1)]) hS (by kernel_rfl)
            refine c_seq ?_
            refine c_region ?_
            refine q_box (v := .agg [.str y6.Name, t9, .int .i64 y6.Mode, .int .i64 y6.At]) (cs := [.str y6.Name, t9, .int .i64 y6.Mode, .int .i64 y6.At]) rfl hS hH rfl rfl (by simp [ht9.1, ht9.2]) ?_; intro b9 σ s hH hS
            refine q_seg 1 [(1, .str a1), (2, .ptr b8 0 0 1), (3, .ptr b9 0 0 4)] hS (by kernel_rfl) ?_; intro s hS
            refine x_nil ?_
            refine sq_n ?_
            refine c_seq ?_
            refine c_region ?_
            refine q_load (v := T.fn 73 [] []) 3 trivial rfl hS hH rfl rfl (by kernel_rfl) ?_; intro s hS
            refine q_load (v := .agg [.str y6.Name, t9, .int .i64 y6.Mode, .int .i64 y6.At]) 0 trivial rfl hS hH rfl rfl (by kernel_rfl) ?_; intro s hS
            obtain ⟨y7, hy7, h⟩ := bind_some h
            have hH : Heap σ0 σ [.own true 0 t9 (Sl.t (y6.Lines : Sl ByteArray)), .box b9 [.str y6.Name, t9, .int .i64 y6.Mode, .int .i64 y6.At], .keep F1 σk1, .box b8 [T.fn 73 [] []], .box b7 [t5, .int .i64 y4.At, t6, t7, t8], .box b6 [(Sl.t (⟨true, []⟩ : Sl ByteArray)), .int .i64 0, (Sl.t (⟨true, []⟩ : Sl ByteArray)), (Sl.t (⟨true, []⟩ : Sl DFile)), (Sl.t (⟨true, []⟩ : Sl ByteArray))], .box b4 [.bool false], .box b3 [.str ⟨#[]⟩], .box b2 [(Sl.t (⟨true, []⟩ : Sl ByteArray)), .int .i64 0, (Sl.t (⟨true, []⟩ : Sl ByteArray)), (Sl.t (⟨true, []⟩ : Sl DFile)), (Sl.t (⟨true, []⟩ : Sl ByteArray))], .own true 1 t5 (Sl.t (y4.Input : Sl ByteArray)), .own true 1 t6 (Sl.t (y4.Output : Sl ByteArray)), .own true 1 t8 (Sl.t (y4.Trace : Sl ByteArray))] := hH.sel [1, 0, 2, 3, 4, 5, 6, 7, 8, 9, 10, 11] rfl (by kernel_rfl)
            refine q_callH (ents := [.own true 0 t9 (Sl.t (y6.Lines : Sl ByteArray))]) (z := false) (ts := [.agg [.str y6.Name, t9, .int .i64 y6.Mode, .int .i64 y6.At]]) (vs := [.agg (DFile.cells y6)]) rfl hS rfl rfl rfl hH (HL.agg (es1 := [.own true 0 t9 (Sl.t (y6.Lines : Sl ByteArray))]) (es2 := []) (HL.leaf (fun σ d => hold_str _ σ d _) (HL.own rfl (HL.leaf (fun σ d => hold_int _ σ d _ _) (HL.leaf (fun σ d => hold_int _ σ d _ _) HL.nil)))) HL.nil) hy7 (by kernel_rfl) ?_; intro s hS
            refine q_seg 1 [(8, .str y7), (9, .str a1)] hS (by kernel_rfl) ?_; intro s hS
            obtain ⟨y8, hy8, h⟩ := bind_some h
            refine q_callF (a := []) (b := []) (xs := [.str y7, .str a1]) rfl hS rfl rfl hy8 ?_; intro s hS
            refine q_seg 1 [(5, .int .i64 y8)] hS (by kernel_rfl) ?_; intro s hS
            refine x_nil ?_
            refine sq_n ?_
            refine c_ret ?_
            refine end_I (v := .int .i64 y8) (r_tmp (v := .int .i64 y8) hS rfl r_nil) rfl ?_; intro s hS
            refine q_seg 1 [(0, t7), (1, .str a1), (2, T.fn 105 [] [.ptr b8 0 0 1]), (8, .int .i64 (y4.Files.l.length : Int)), (9, .int .i64 st1.1), (10, .int .i64 st1.2), (11, .int .i64 ((IntKind.i64.wrap (((IntKind.u64.wrap (IntKind.i64.wrap (st1.1 + st1.2))).fdiv (2 ^ 1)))))), (31, .bool (decide (y8 < 0)))] hS (by kernel_rfl) ?_; intro s hS
            have hH : Heap σ0 σ [.own true 0 t9 (Sl.t (y6.Lines : Sl ByteArray)), .keep F1 σk1, .box b9 [.str y6.Name, t9, .int .i64 y6.Mode, .int .i64 y6.At], .box b8 [T.fn 73 [] []], .box b7 [t5, .int .i64 y4.At, t6, t7, t8], .box b6 [(Sl.t (⟨true, []⟩ : Sl ByteArray)), .int .i64 0, (Sl.t (⟨true, []⟩ : Sl ByteArray)), (Sl.t (⟨true, []⟩ : Sl DFile)), (Sl.t (⟨true, []⟩ : Sl ByteArray))], .box b4 [.bool false], .box b3 [.str ⟨#[]⟩], .box b2 [(Sl.t (⟨true, []⟩ : Sl ByteArray)), .int .i64 0, (Sl.t (⟨true, []⟩ : Sl ByteArray)), (Sl.t (⟨true, []⟩ : Sl DFile)), (Sl.t (⟨true, []⟩ : Sl ByteArray))], .own true 1 t5 (Sl.t (y4.Input : Sl ByteArray)), .own true 1 t6 (Sl.t (y4.Output : Sl ByteArray)), .own true 1 t8 (Sl.t (y4.Trace : Sl ByteArray))] := hH.sel [0, 2, 1, 3, 4, 5, 6, 7, 8, 9, 10, 11] rfl (by kernel_rfl)
            have hH := hcl1s _ _ hH
            have hH : Heap σ0 σ [.own true 4 t7 (Sl.t (y4.Files : Sl DFile)), .box b9 [.str y6.Name, t9, .int .i64 y6.Mode, .int .i64 y6.At], .box b8 [T.fn 73 [] []], .box b7 [t5, .int .i64 y4.At, t6, t7, t8], .box b6 [(Sl.t (⟨true, []⟩ : Sl ByteArray)), .int .i64 0, (Sl.t (⟨true, []⟩ : Sl ByteArray)), (Sl.t (⟨true, []⟩ : Sl DFile)), (Sl.t (⟨true, []⟩ : Sl ByteArray))], .box b4 [.bool false], .box b3 [.str ⟨#[]⟩], .box b2 [(Sl.t (⟨true, []⟩ : Sl ByteArray)), .int .i64 0, (Sl.t (⟨true, []⟩ : Sl ByteArray)), (Sl.t (⟨true, []⟩ : Sl DFile)), (Sl.t (⟨true, []⟩ : Sl ByteArray))], .own true 1 t5 (Sl.t (y4.Input : Sl ByteArray)), .own true 1 t6 (Sl.t (y4.Output : Sl ByteArray)), .own true 1 t8 (Sl.t (y4.Trace : Sl ByteArray))] := hH
            refine x_nil ?_
            refine sq_n ?_
            by_cases hc4 : (decide (y8 < 0)) = true
            · have h := it_pos hc4 h
              refine c_cond hS rfl (fun _ => ?_) (fun hf => ff_absurd hc4 hf)
              refine c_region ?_
              refine q_seg 3 [(0, t7), (1, .str a1), (2, T.fn 105 [] [.ptr b8 0 0 1]), (8, .int .i64 (y4.Files.l.length : Int)), (9, .int .i64 ((IntKind.i64.wrap ((IntKind.i64.wrap (((IntKind.u64.wrap (IntKind.i64.wrap (st1.1 + st1.2))).fdiv (2 ^ 1)))) + 1)))), (10, .int .i64 st1.2)] hS (by kernel_rfl) ?_; intro s hS
              refine x_nil ?_
              refine bk_n ?_
              injection h with h; subst h
              exact And.intro (sub_to hS (by kernel_rfl)) (Heap.sel hH [2, 3, 4, 5, 6, 7, 0, 8, 9, 10] rfl (by kernel_rfl))
            · have h := it_neg hc4 h
              refine c_cond hS rfl (fun hf => tt_absurd hc4 hf) (fun _ => ?_)
              refine c_region ?_
              refine q_seg 2 [(0, t7), (1, .str a1), (2, T.fn 105 [] [.ptr b8 0 0 1]), (8, .int .i64 (y4.Files.l.length : Int)), (9, .int .i64 st1.1), (10, .int .i64 ((IntKind.i64.wrap (((IntKind.u64.wrap (IntKind.i64.wrap (st1.1 + st1.2))).fdiv (2 ^ 1))))))] hS (by kernel_rfl) ?_; intro s hS
              refine x_nil ?_
              refine bk_n ?_
              injection h with h; subst h
              exact And.intro (sub_to hS (by kernel_rfl)) (Heap.sel hH [2, 3, 4, 5, 6, 7, 0, 8, 9, 10] rfl (by kernel_rfl))
          · have h := it_neg hc3 h
            refine c_cond hS rfl (fun hf => tt_absurd hc3 hf) (fun _ => ?_)
            refine c_exit ?_
            refine sq_x ?_
            injection h with h; subst h
            exact And.intro rfl (And.intro (sub_to hS (by kernel_rfl)) hH)
        · clear hS hH; intro e fr HF; obtain ⟨s, σ⟩ := fr
          obtain ⟨rfl, hS, hH⟩ := HF
          refine bk_e ?_
          refine sq_n ?_
          refine c_seq ?_
          refine c_region ?_
          refine q_seg 5 [(39, .bool (decide (y5 < (y4.Files.l.length : Int)))), (0, t7), (1, .str a1), (2, T.fn 105 [] [.ptr b8 0 0 1]), (9, .int .i64 y5), (35, .int .i64 y5)] hS (by kernel_rfl) ?_; intro s hS
          by_cases hc5 : (decide (y5 < (y4.Files.l.length : Int))) = true
          · have h := it_pos hc5 h
            have hS := sub_bt hS hc5
            refine q_seg 3 [(1, .str a1), (35, .int .i64 y5), (39, .bool true), (40, T.fn 105 [] [.ptr b8 0 0 1]), (41, t7), (42, .int .i64 y5)] hS (by kernel_rfl) ?_; intro s hS
            have hH : Heap σ0 σ [.own true 4 t7 (Sl.t (y4.Files : Sl DFile)), .box b8 [T.fn 73 [] []], .box b7 [t5, .int .i64 y4.At, t6, t7, t8], .box b6 [(Sl.t (⟨true, []⟩ : Sl ByteArray)), .int .i64 0, (Sl.t (⟨true, []⟩ : Sl ByteArray)), (Sl.t (⟨true, []⟩ : Sl DFile)), (Sl.t (⟨true, []⟩ : Sl ByteArray))], .box b4 [.bool false], .box b3 [.str ⟨#[]⟩], .box b2 [(Sl.t (⟨true, []⟩ : Sl ByteArray)), .int .i64 0, (Sl.t (⟨true, []⟩ : Sl ByteArray)), (Sl.t (⟨true, []⟩ : Sl DFile)), (Sl.t (⟨true, []⟩ : Sl ByteArray))], .own true 1 t5 (Sl.t (y4.Input : Sl ByteArray)), .own true 1 t6 (Sl.t (y4.Output : Sl ByteArray)), .own true 1 t8 (Sl.t (y4.Trace : Sl ByteArray))] := hH.sel [6, 0, 1, 2, 3, 4, 5, 7, 8, 9] rfl (by kernel_rfl)
            obtain ⟨y9, hy9, h⟩ := bind_some h
            refine q_hidx (a := y4.Files) (e := 52) rfl rfl hS hH rfl rfl (by kernel_rfl) (by kernel_rfl) hy9 ?_; intro hb2 hb2e s hl_hb2 hS
            refine q_hlensS (a := y4.Files) (j := y5) (y := y9) (off := 1) (c := [.str y9.Name, (Sl.t (y9.Lines : Sl ByteArray)), .int .i64 y9.Mode, .int .i64 y9.At]) (q := (y9.Lines : Sl ByteArray)) rfl rfl hS hH hl_hb2 rfl hy9 rfl (by kernel_rfl) (by kernel_rfl) rfl (by kernel_rfl) (by kernel_rfl) (by kernel_rfl) ?_; intro F2 σk2 t10 s ht10 hH hcl2 hcl2s hcl2k hcl2f hS
            refine q_seg 1 [(35, .int .i64 y5), (39, .bool true), (40, T.fn 105 [] [.ptr b8 0 0 1]), (44, .agg [.str y9.Name, t10, .int .i64 y9.Mode, .int .i64 y9.At]), (45, .str a1)] hS (by kernel_rfl) ?_; intro s hS
            refine q_inl [.agg [.str y9.Name, t10, .int .i64 y9.Mode, .int .i64 y9.At], .str a1, .ptr b8 0 0 1] rfl hS rfl rfl rfl rfl rfl ok_105 rfl ?_; intro s hS
            have hS := sub_to (L' := [(0, .agg [.str y9.Name, t10, .int .i64 y9.Mode, .int .i64 y9.At]), (1, .str a1), (2, .ptr b8 0 0 1)]) hS (by kernel_rfl)
            refine c_seq ?_
            refine c_region ?_
            refine q_box (v := .agg [.str y9.Name, t10, .int .i64 y9.Mode, .int .i64 y9.At]) (cs := [.str y9.Name, t10, .int .i64 y9.Mode, .int .i64 y9.At]) rfl hS hH rfl rfl (by simp [ht10.1, ht10.2]) ?_; intro b10 σ s hH hS
            refine q_seg 1 [(1, .str a1), (2, .ptr b8 0 0 1), (3, .ptr b10 0 0 4)] hS (by kernel_rfl) ?_; intro s hS
            refine x_nil ?_
            refine sq_n ?_
            refine c_seq ?_
            refine c_region ?_
            refine q_load (v := T.fn 73 [] []) 3 trivial rfl hS hH rfl rfl (by kernel_rfl) ?_; intro s hS
            refine q_load (v := .agg [.str y9.Name, t10, .int .i64 y9.Mode, .int .i64 y9.At]) 0 trivial rfl hS hH rfl rfl (by kernel_rfl) ?_; intro s hS
            obtain ⟨y10, hy10, h⟩ := bind_some h
            have hH : Heap σ0 σ [.own true 0 t10 (Sl.t (y9.Lines : Sl ByteArray)), .box b10 [.str y9.Name, t10, .int .i64 y9.Mode, .int .i64 y9.At], .keep F2 σk2, .box b8 [T.fn 73 [] []], .box b7 [t5, .int .i64 y4.At, t6, t7, t8], .box b6 [(Sl.t (⟨true, []⟩ : Sl ByteArray)), .int .i64 0, (Sl.t (⟨true, []⟩ : Sl ByteArray)), (Sl.t (⟨true, []⟩ : Sl DFile)), (Sl.t (⟨true, []⟩ : Sl ByteArray))], .box b4 [.bool false], .box b3 [.str ⟨#[]⟩], .box b2 [(Sl.t (⟨true, []⟩ : Sl ByteArray)), .int .i64 0, (Sl.t (⟨true, []⟩ : Sl ByteArray)), (Sl.t (⟨true, []⟩ : Sl DFile)), (Sl.t (⟨true, []⟩ : Sl ByteArray))], .own true 1 t5 (Sl.t (y4.Input : Sl ByteArray)), .own true 1 t6 (Sl.t (y4.Output : Sl ByteArray)), .own true 1 t8 (Sl.t (y4.Trace : Sl ByteArray))] := hH.sel [1, 0, 2, 3, 4, 5, 6, 7, 8, 9, 10, 11] rfl (by kernel_rfl)
            refine q_callH (ents := [.own true 0 t10 (Sl.t (y9.Lines : Sl ByteArray))]) (z := false) (ts := [.agg [.str y9.Name, t10, .int .i64 y9.Mode, .int .i64 y9.At]]) (vs := [.agg (DFile.cells y9)]) rfl hS rfl rfl rfl hH (HL.agg (es1 := [.own true 0 t10 (Sl.t (y9.Lines : Sl ByteArray))]) (es2 := []) (HL.leaf (fun σ d => hold_str _ σ d _) (HL.own rfl (HL.leaf (fun σ d => hold_int _ σ d _ _) (HL.leaf (fun σ d => hold_int _ σ d _ _) HL.nil)))) HL.nil) hy10 (by kernel_rfl) ?_; intro s hS
            refine q_seg 1 [(8, .str y10), (9, .str a1)] hS (by kernel_rfl) ?_; intro s hS
            obtain ⟨y11, hy11, h⟩ := bind_some h
            refine q_callF (a := []) (b := []) (xs := [.str y10, .str a1]) rfl hS rfl rfl hy11 ?_; intro s hS
            refine q_seg 1 [(5, .int .i64 y11)] hS (by kernel_rfl) ?_; intro s hS
            refine x_nil ?_
            refine sq_n ?_
            refine c_ret ?_
            refine end_I (v := .int .i64 y11) (r_tmp (v := .int .i64 y11) hS rfl r_nil) rfl ?_; intro s hS
            refine q_seg 4 [(6, .int .i64 y5), (7, .bool (decide (y11 = 0)))] hS (by kernel_rfl) ?_; intro s hS
            have hH : Heap σ0 σ [.own true 0 t10 (Sl.t (y9.Lines : Sl ByteArray)), .keep F2 σk2, .box b10 [.str y9.Name, t10, .int .i64 y9.Mode, .int .i64 y9.At], .box b8 [T.fn 73 [] []], .box b7 [t5, .int .i64 y4.At, t6, t7, t8], .box b6 [(Sl.t (⟨true, []⟩ : Sl ByteArray)), .int .i64 0, (Sl.t (⟨true, []⟩ : Sl ByteArray)), (Sl.t (⟨true, []⟩ : Sl DFile)), (Sl.t (⟨true, []⟩ : Sl ByteArray))], .box b4 [.bool false], .box b3 [.str ⟨#[]⟩], .box b2 [(Sl.t (⟨true, []⟩ : Sl ByteArray)), .int .i64 0, (Sl.t (⟨true, []⟩ : Sl ByteArray)), (Sl.t (⟨true, []⟩ : Sl DFile)), (Sl.t (⟨true, []⟩ : Sl ByteArray))], .own true 1 t5 (Sl.t (y4.Input : Sl ByteArray)), .own true 1 t6 (Sl.t (y4.Output : Sl ByteArray)), .own true 1 t8 (Sl.t (y4.Trace : Sl ByteArray))] := hH.sel [0, 2, 1, 3, 4, 5, 6, 7, 8, 9, 10, 11] rfl (by kernel_rfl)
            have hH := hcl2s _ _ hH
            have hH : Heap σ0 σ [.own true 4 t7 (Sl.t (y4.Files : Sl DFile)), .box b10 [.str y9.Name, t10, .int .i64 y9.Mode, .int .i64 y9.At], .box b8 [T.fn 73 [] []], .box b7 [t5, .int .i64 y4.At, t6, t7, t8], .box b6 [(Sl.t (⟨true, []⟩ : Sl ByteArray)), .int .i64 0, (Sl.t (⟨true, []⟩ : Sl ByteArray)), (Sl.t (⟨true, []⟩ : Sl DFile)), (Sl.t (⟨true, []⟩ : Sl ByteArray))], .box b4 [.bool false], .box b3 [.str ⟨#[]⟩], .box b2 [(Sl.t (⟨true, []⟩ : Sl ByteArray)), .int .i64 0, (Sl.t (⟨true, []⟩ : Sl ByteArray)), (Sl.t (⟨true, []⟩ : Sl DFile)), (Sl.t (⟨true, []⟩ : Sl ByteArray))], .own true 1 t5 (Sl.t (y4.Input : Sl ByteArray)), .own true 1 t6 (Sl.t (y4.Output : Sl ByteArray)), .own true 1 t8 (Sl.t (y4.Trace : Sl ByteArray))] := hH
            refine x_nil ?_
            refine sq_n ?_
            refine c_ret ?_
            refine end_I (v := .tup [.int .i64 y5, .bool (decide (y11 = 0))]) (r_tmp (v := .int .i64 y5) hS rfl (r_tmp (v := .bool (decide (y11 = 0))) hS rfl r_nil)) rfl ?_; intro s hS
            refine q_seg 4 [(6, .int .i64 y5), (7, .bool (decide (y11 = 0)))] hS (by kernel_rfl) ?_; intro s hS
            refine x_nil ?_
            refine sq_n ?_
            refine c_ret ?_
            refine end_I (v := .tup [.int .i64 y5, .bool (decide (y11 = 0))]) (r_tmp (v := .int .i64 y5) hS rfl (r_tmp (v := .bool (decide (y11 = 0))) hS rfl r_nil)) rfl ?_; intro s hS
            refine q_seg 5 [(2, T.fn 63 [] [.ptr b4 0 0 1, .ptr b3 0 0 1]), (6, .ptr b6 0 0 5), (8, .ptr b7 0 0 5), (9, .int .i64 y5), (10, .bool (decide (y11 = 0)))] hS (by kernel_rfl) ?_; intro s hS
            refine x_nil ?_
            refine sq_n ?_
            refine c_seq ?_
            refine c_seq ?_
            refine c_region ?_
            refine q_seg 2 [(2, T.fn 63 [] [.ptr b4 0 0 1, .ptr b3 0 0 1]), (6, .ptr b6 0 0 5), (8, .ptr b7 0 0 5), (9, .int .i64 y5), (31, .bool (!(decide (y11 = 0))))] hS (by kernel_rfl) ?_; intro s hS
            refine x_nil ?_
            refine sq_n ?_
            by_cases hc6 : (!(decide (y11 = 0))) = true
            · have h := it_pos hc6 h
              refine c_cond hS rfl (fun _ => ?_) (fun hf => ff_absurd hc6 hf)
              refine c_seq ?_
              refine c_region ?_
              refine q_seg 1 [(6, .ptr b6 0 0 5), (32, .agg [(Sl.t (⟨true, []⟩ : Sl ByteArray)), .int .i64 0, (Sl.t (⟨true, []⟩ : Sl ByteArray)), (Sl.t (⟨true, []⟩ : Sl DFile)), (Sl.t (⟨true, []⟩ : Sl ByteArray))])] hS (by kernel_rfl) ?_; intro s hS
              have hH : Heap σ0 σ [.box b6 [(Sl.t (⟨true, []⟩ : Sl ByteArray)), .int .i64 0, (Sl.t (⟨true, []⟩ : Sl ByteArray)), (Sl.t (⟨true, []⟩ : Sl DFile)), (Sl.t (⟨true, []⟩ : Sl ByteArray))], .own true 4 t7 (Sl.t (y4.Files : Sl DFile)), .box b10 [.str y9.Name, t10, .int .i64 y9.Mode, .int .i64 y9.At], .box b8 [T.fn 73 [] []], .box b7 [t5, .int .i64 y4.At, t6, t7, t8], .box b4 [.bool false], .box b3 [.str ⟨#[]⟩], .box b2 [(Sl.t (⟨true, []⟩ : Sl ByteArray)), .int .i64 0, (Sl.t (⟨true, []⟩ : Sl ByteArray)), (Sl.t (⟨true, []⟩ : Sl DFile)), (Sl.t (⟨true, []⟩ : Sl ByteArray))], .own true 1 t5 (Sl.t (y4.Input : Sl ByteArray)), .own true 1 t6 (Sl.t (y4.Output : Sl ByteArray)), .own true 1 t8 (Sl.t (y4.Trace : Sl ByteArray))] := hH.sel [4, 0, 1, 2, 3, 5, 6, 7, 8, 9, 10] rfl (by kernel_rfl)
              refine q_store (v := .agg [(Sl.t (⟨true, []⟩ : Sl ByteArray)), .int .i64 0, (Sl.t (⟨true, []⟩ : Sl ByteArray)), (Sl.t (⟨true, []⟩ : Sl DFile)), (Sl.t (⟨true, []⟩ : Sl ByteArray))]) (cs := [(Sl.t (⟨true, []⟩ : Sl ByteArray)), .int .i64 0, (Sl.t (⟨true, []⟩ : Sl ByteArray)), (Sl.t (⟨true, []⟩ : Sl DFile)), (Sl.t (⟨true, []⟩ : Sl ByteArray))]) (cells' := [(Sl.t (⟨true, []⟩ : Sl ByteArray)), .int .i64 0, (Sl.t (⟨true, []⟩ : Sl ByteArray)), (Sl.t (⟨true, []⟩ : Sl DFile)), (Sl.t (⟨true, []⟩ : Sl ByteArray))]) rfl hS hH rfl rfl rfl (by kernel_rfl) (by kernel_rfl) ?_; intro σ s hH hS
              refine q_seg 1 [(6, .ptr b6 0 0 5), (7, .int .i64 11)] hS (by kernel_rfl) ?_; intro s hS
              refine x_nil ?_
              refine sq_n ?_
              refine c_ret ?_
              refine sq_r ?_
              refine end_I (v := .tup [.agg [(Sl.t (⟨true, []⟩ : Sl ByteArray)), .int .i64 0, (Sl.t (⟨true, []⟩ : Sl ByteArray)), (Sl.t (⟨true, []⟩ : Sl DFile)), (Sl.t (⟨true, []⟩ : Sl ByteArray))], .int .i64 11]) (r_cell (v := .agg [(Sl.t (⟨true, []⟩ : Sl ByteArray)), .int .i64 0, (Sl.t (⟨true, []⟩ : Sl ByteArray)), (Sl.t (⟨true, []⟩ : Sl DFile)), (Sl.t (⟨true, []⟩ : Sl ByteArray))]) hS hH rfl (by kernel_rfl) (r_tmp (v := .int .i64 11) hS rfl r_nil)) rfl ?_; intro s hS
              injection h with h; subst h
              have hH := Heap.addNil hH true 1
              have hH := Heap.addNil hH true 1
              have hH := Heap.addNil hH true 4
              have hH := Heap.addNil hH true 1
              exact Exists.intro (T.row true 0 []) (And.intro ⟨rfl, rfl⟩ (Exists.intro (T.row true 0 []) (And.intro ⟨rfl, rfl⟩ (Exists.intro (T.row true 0 []) (And.intro ⟨rfl, rfl⟩ (Exists.intro (T.row true 0 []) (And.intro ⟨rfl, rfl⟩ (And.intro (sub_to hS (by kernel_rfl)) (Heap.sel hH [9, 10, 11, 3, 2, 1, 0] rfl (by kernel_rfl))))))))))
            · have h := it_neg hc6 h
              refine c_cond hS rfl (fun hf => tt_absurd hc6 hf) (fun _ => ?_)
              refine c_skip ?_
              refine sq_n ?_
              refine c_seq ?_
              refine c_seq ?_
              refine c_region ?_
              refine q_seg 2 [(6, .ptr b6 0 0 5), (8, .ptr b7 0 0 5), (9, .int .i64 y5), (33, T.fn 63 [] [.ptr b4 0 0 1, .ptr b3 0 0 1]), (34, .ptr b7 0 3 1)] hS (by kernel_rfl) ?_; intro s hS
              refine q_load (v := t7) 3 trivial rfl hS hH rfl rfl (by kernel_rfl) ?_; intro s hS
              refine q_seg 1 [(6, .ptr b6 0 0 5), (8, .ptr b7 0 0 5), (33, T.fn 63 [] [.ptr b4 0 0 1, .ptr b3 0 0 1]), (35, t7), (36, .int .i64 y5)] hS (by kernel_rfl) ?_; intro s hS
              obtain ⟨y12, hy12, h⟩ := bind_some h
              refine q_hidx (a := y4.Files) (e := 52) rfl rfl hS hH rfl rfl (by kernel_rfl) (by kernel_rfl) hy12 ?_; intro hb3 hb3e s hl_hb3 hS
              obtain ⟨y13, hy13, h⟩ := bind_some h
              refine q_inlC (HF := fun s σ => Sub [(6, .ptr b6 0 0 5), (8, .ptr b7 0 0 5), (38, .int .i64 y13.1)] s ∧ Heap σ0 σ [.box b7 [t5, .int .i64 y4.At, t6, t7, t8], .box b6 [(Sl.t (⟨true, []⟩ : Sl ByteArray)), .int .i64 0, (Sl.t (⟨true, []⟩ : Sl ByteArray)), (Sl.t (⟨true, []⟩ : Sl DFile)), (Sl.t (⟨true, []⟩ : Sl ByteArray))], .box b4 [.bool y13.2.1], .box b3 [.str y13.2.2.1], .box b2 [(Sl.t (⟨true, []⟩ : Sl ByteArray)), .int .i64 0, (Sl.t (⟨true, []⟩ : Sl ByteArray)), (Sl.t (⟨true, []⟩ : Sl DFile)), (Sl.t (⟨true, []⟩ : Sl ByteArray))], .own true 1 t5 (Sl.t (y4.Input : Sl ByteArray)), .own true 1 t6 (Sl.t (y4.Output : Sl ByteArray)), .own true 4 t7 (Sl.t (y13.2.2.2 : Sl DFile)), .own true 1 t8 (Sl.t (y4.Trace : Sl ByteArray))]) [.ptr hb3 hb3e (y5.toNat * Enc.w DFile) (Enc.w DFile), .ptr b4 0 0 1, .ptr b3 0 0 1] rfl hS rfl rfl rfl rfl rfl ok_63 rfl ?_ ?_
              · clear h; have h := hy13; intro s hS
                have hS := sub_to (L' := [(0, .ptr hb3 hb3e (y5.toNat * Enc.w DFile) (Enc.w DFile)), (1, .ptr b4 0 0 1), (2, .ptr b3 0 0 1)]) hS (by kernel_rfl)
                refine c_seq ?_
                refine c_region ?_
                refine q_seg 1 [(0, .ptr hb3 hb3e (y5.toNat * Enc.w DFile) (Enc.w DFile)), (1, .ptr b4 0 0 1), (2, .ptr b3 0 0 1)] hS (by kernel_rfl) ?_; intro s hS
                refine x_nil ?_
                refine sq_n ?_
                refine c_seq ?_
                refine c_seq ?_
                refine c_region ?_
                refine q_seg 3 [(0, .ptr hb3 hb3e (y5.toNat * Enc.w DFile) (Enc.w DFile)), (1, .ptr b4 0 0 1), (2, .ptr b3 0 0 1), (7, .ptr hb3 hb3e (y5.toNat * Enc.w DFile + 2) 1)] hS (by kernel_rfl) ?_; intro s hS
                refine q_hload (a := y4.Files) (j := y5) (y := y12) (off := 2) (c := [.str y12.Name, (Sl.t (y12.Lines : Sl ByteArray)), .int .i64 y12.Mode, .int .i64 y12.At]) (v := .int .i64 y12.Mode) rfl rfl hS hH hl_hb3 rfl hy12 rfl (by kernel_rfl) rfl rfl leaf_int ?_; intro s hS
                refine q_seg 1 [(0, .ptr hb3 hb3e (y5.toNat * Enc.w DFile) (Enc.w DFile)), (1, .ptr b4 0 0 1), (2, .ptr b3 0 0 1), (9, .bool (!decide (y12.Mode = 1)))] hS (by kernel_rfl) ?_; intro s hS
                refine x_nil ?_
                refine sq_n ?_
                by_cases hc7 : (!decide (y12.Mode = 1)) = true
                · have h := it_pos hc7 h
                  refine c_cond hS rfl (fun _ => ?_) (fun hf => ff_absurd hc7 hf)
                  refine c_seq ?_
                  refine c_region ?_
                  refine q_seg 1 [(4, .int .i64 10)] hS (by kernel_rfl) ?_; intro s hS
                  refine x_nil ?_
                  refine sq_n ?_
                  refine c_ret ?_
                  refine sq_r ?_
                  refine end_I (v := .int .i64 10) (r_tmp (v := .int .i64 10) hS rfl r_nil) rfl ?_; intro s hS
                  injection h with h; subst h
                  exact And.intro (sub_to hS (by kernel_rfl)) (Heap.sel hH [3, 4, 5, 6, 7, 8, 9, 0, 10] rfl (by kernel_rfl))
                · have h := it_neg hc7 h
                  refine c_cond hS rfl (fun hf => tt_absurd hc7 hf) (fun _ => ?_)
                  refine c_skip ?_
                  refine sq_n ?_
                  refine c_seq ?_
                  refine c_seq ?_
                  refine c_chain [b4] (fun _ => rfl) (by kernel_rfl) (by kernel_rfl) hH ?_; intro mb σs σ hn0 hlt hH
                  have hlt_b10 : b10 < mb ∧ b10 ∉ ([b4] : List Nat) := ⟨hlt b10 _ (List.Mem.tail _ (List.Mem.head _)), (by simp only [List.mem_cons, List.not_mem_nil, or_false, not_or]; exact (Heap.ne hH 5 1 (by decide) rfl rfl).symm)⟩
                  have hlt_b8 : b8 < mb ∧ b8 ∉ ([b4] : List Nat) := ⟨hlt b8 _ (List.Mem.tail _ (List.Mem.tail _ (List.Mem.head _))), (by simp only [List.mem_cons, List.not_mem_nil, or_false, not_or]; exact (Heap.ne hH 5 2 (by decide) rfl rfl).symm)⟩
                  have hlt_b7 : b7 < mb ∧ b7 ∉ ([b4] : List Nat) := ⟨hlt b7 _ (List.Mem.tail _ (List.Mem.tail _ (List.Mem.tail _ (List.Mem.head _)))), (by simp only [List.mem_cons, List.not_mem_nil, or_false, not_or]; exact (Heap.ne hH 5 3 (by decide) rfl rfl).symm)⟩
                  have hlt_b6 : b6 < mb ∧ b6 ∉ ([b4] : List Nat) := ⟨hlt b6 _ (List.Mem.tail _ (List.Mem.tail _ (List.Mem.tail _ (List.Mem.tail _ (List.Mem.head _))))), (by simp only [List.mem_cons, List.not_mem_nil, or_false, not_or]; exact (Heap.ne hH 5 4 (by decide) rfl rfl).symm)⟩
                  have hlt_b3 : b3 < mb ∧ b3 ∉ ([b4] : List Nat) := ⟨hlt b3 _ (List.Mem.tail _ (List.Mem.tail _ (List.Mem.tail _ (List.Mem.tail _ (List.Mem.tail _ (List.Mem.tail _ (List.Mem.head _))))))), (by simp only [List.mem_cons, List.not_mem_nil, or_false, not_or]; exact (Heap.ne hH 6 5 (by decide) rfl rfl))⟩
                  have hlt_b2 : b2 < mb ∧ b2 ∉ ([b4] : List Nat) := ⟨hlt b2 _ (List.Mem.tail _ (List.Mem.tail _ (List.Mem.tail _ (List.Mem.tail _ (List.Mem.tail _ (List.Mem.tail _ (List.Mem.tail _ (List.Mem.head _)))))))), (by simp only [List.mem_cons, List.not_mem_nil, or_false, not_or]; exact (Heap.ne hH 7 5 (by decide) rfl rfl))⟩
                  refine q_seg 3 [(0, .ptr hb3 hb3e (y5.toNat * Enc.w DFile) (Enc.w DFile)), (1, .ptr b4 0 0 1), (2, .ptr b3 0 0 1), (12, .ptr hb3 hb3e (y5.toNat * Enc.w DFile + 3) 1)] hS (by kernel_rfl) ?_; intro s hS
                  refine q_hload (a := y4.Files) (j := y5) (y := y12) (off := 3) (c := [.str y12.Name, (Sl.t (y12.Lines : Sl ByteArray)), .int .i64 y12.Mode, .int .i64 y12.At]) (v := .int .i64 y12.At) (by kernel_rfl) rfl hS hH hl_hb3 rfl hy12 rfl (by kernel_rfl) rfl rfl leaf_int ?_; intro s hS
                  refine q_seg 3 [(0, .ptr hb3 hb3e (y5.toNat * Enc.w DFile) (Enc.w DFile)), (1, .ptr b4 0 0 1), (2, .ptr b3 0 0 1), (13, .int .i64 y12.At), (16, .ptr hb3 hb3e (y5.toNat * Enc.w DFile + 1) 1)] hS (by kernel_rfl) ?_; intro s hS
                  refine q_hlens (a := y4.Files) (j := y5) (y := y12) (off := 1) (c := [.str y12.Name, (Sl.t (y12.Lines : Sl ByteArray)), .int .i64 y12.Mode, .int .i64 y12.At]) (q := (y12.Lines : Sl ByteArray)) (by kernel_rfl) rfl hS hH hl_hb3 rfl hy12 rfl (by kernel_rfl) rfl rfl ?_; intro F3 σk3 t11 s ht11 hH hcl3 hcl3s hcl3k hcl3f hS
                  refine q_lenH (a := y12.Lines) rfl hS hH rfl (by kernel_rfl) ?_; intro s hS
                  refine q_seg 1 [(0, .ptr hb3 hb3e (y5.toNat * Enc.w DFile) (Enc.w DFile)), (1, .ptr b4 0 0 1), (2, .ptr b3 0 0 1), (19, .bool (decide (y12.At < (y12.Lines.l.length : Int))))] hS (by kernel_rfl) ?_; intro s hS
                  have hH := hcl3s _ _ hH
                  have hH : Heap σ0 σ [.own true 4 t7 (Sl.t (y4.Files : Sl DFile)), .box b10 [.str y9.Name, t10, .int .i64 y9.Mode, .int .i64 y9.At], .box b8 [T.fn 73 [] []], .box b7 [t5, .int .i64 y4.At, t6, t7, t8], .box b6 [(Sl.t (⟨true, []⟩ : Sl ByteArray)), .int .i64 0, (Sl.t (⟨true, []⟩ : Sl ByteArray)), (Sl.t (⟨true, []⟩ : Sl DFile)), (Sl.t (⟨true, []⟩ : Sl ByteArray))], .box b4 [.bool false], .box b3 [.str ⟨#[]⟩], .box b2 [(Sl.t (⟨true, []⟩ : Sl ByteArray)), .int .i64 0, (Sl.t (⟨true, []⟩ : Sl ByteArray)), (Sl.t (⟨true, []⟩ : Sl DFile)), (Sl.t (⟨true, []⟩ : Sl ByteArray))], .own true 1 t5 (Sl.t (y4.Input : Sl ByteArray)), .own true 1 t6 (Sl.t (y4.Output : Sl ByteArray)), .own true 1 t8 (Sl.t (y4.Trace : Sl ByteArray))] := hH
                  have hH : Heap σ0 σ [.box b4 [.bool false], .own true 4 t7 (Sl.t (y4.Files : Sl DFile)), .box b10 [.str y9.Name, t10, .int .i64 y9.Mode, .int .i64 y9.At], .box b8 [T.fn 73 [] []], .box b7 [t5, .int .i64 y4.At, t6, t7, t8], .box b6 [(Sl.t (⟨true, []⟩ : Sl ByteArray)), .int .i64 0, (Sl.t (⟨true, []⟩ : Sl ByteArray)), (Sl.t (⟨true, []⟩ : Sl DFile)), (Sl.t (⟨true, []⟩ : Sl ByteArray))], .box b3 [.str ⟨#[]⟩], .box b2 [(Sl.t (⟨true, []⟩ : Sl ByteArray)), .int .i64 0, (Sl.t (⟨true, []⟩ : Sl ByteArray)), (Sl.t (⟨true, []⟩ : Sl DFile)), (Sl.t (⟨true, []⟩ : Sl ByteArray))], .own true 1 t5 (Sl.t (y4.Input : Sl ByteArray)), .own true 1 t6 (Sl.t (y4.Output : Sl ByteArray)), .own true 1 t8 (Sl.t (y4.Trace : Sl ByteArray))] := hH.sel [5, 0, 1, 2, 3, 4, 6, 7, 8, 9, 10] rfl (by kernel_rfl)
                  refine q_storeC rfl (v := .bool (decide (y12.At < (y12.Lines.l.length : Int)))) (cs := [.bool (decide (y12.At < (y12.Lines.l.length : Int)))]) (cells' := [.bool (decide (y12.At < (y12.Lines.l.length : Int)))]) (by exact Or.inr (by simp)) rfl hS hH rfl rfl rfl (by kernel_rfl) (by kernel_rfl) ?_; intro σ s hH hS
                  refine x_nil ?_
                  refine sq_n ?_
                  refine c_seq ?_
                  refine c_region ?_
                  refine q_load (v := .bool (decide (y12.At < (y12.Lines.l.length : Int)))) 0 trivial rfl hS hH rfl rfl (by kernel_rfl) ?_; intro s hS
                  refine x_nil ?_
                  refine sq_n ?_
                  by_cases hc8 : (decide (y12.At < (y12.Lines.l.length : Int))) = true
                  · have h := it_pos hc8 h
                    refine c_cond hS rfl (fun _ => ?_) (fun hf => ff_absurd hc8 hf)
                    refine c_seq ?_
                    refine c_chain [b3] (fun _ => rfl) (by kernel_rfl) (by kernel_rfl) hH ?_; intro mb σs σ hn0 hlt hH
                    have hlt_b4 : b4 < mb ∧ b4 ∉ ([b3] : List Nat) := ⟨hlt b4 _ (List.Mem.head _), (by simp only [List.mem_cons, List.not_mem_nil, or_false, not_or]; exact (Heap.ne hH 6 0 (by decide) rfl rfl).symm)⟩
                    have hlt_b10 : b10 < mb ∧ b10 ∉ ([b3] : List Nat) := ⟨hlt b10 _ (List.Mem.tail _ (List.Mem.tail _ (List.Mem.head _))), (by simp only [List.mem_cons, List.not_mem_nil, or_false, not_or]; exact (Heap.ne hH 6 2 (by decide) rfl rfl).symm)⟩
                    have hlt_b8 : b8 < mb ∧ b8 ∉ ([b3] : List Nat) := ⟨hlt b8 _ (List.Mem.tail _ (List.Mem.tail _ (List.Mem.tail _ (List.Mem.head _)))), (by simp only [List.mem_cons, List.not_mem_nil, or_false, not_or]; exact (Heap.ne hH 6 3 (by decide) rfl rfl).symm)⟩
                    have hlt_b7 : b7 < mb ∧ b7 ∉ ([b3] : List Nat) := ⟨hlt b7 _ (List.Mem.tail _ (List.Mem.tail _ (List.Mem.tail _ (List.Mem.tail _ (List.Mem.head _))))), (by simp only [List.mem_cons, List.not_mem_nil, or_false, not_or]; exact (Heap.ne hH 6 4 (by decide) rfl rfl).symm)⟩
                    have hlt_b6 : b6 < mb ∧ b6 ∉ ([b3] : List Nat) := ⟨hlt b6 _ (List.Mem.tail _ (List.Mem.tail _ (List.Mem.tail _ (List.Mem.tail _ (List.Mem.tail _ (List.Mem.head _)))))), (by simp only [List.mem_cons, List.not_mem_nil, or_false, not_or]; exact (Heap.ne hH 6 5 (by decide) rfl rfl).symm)⟩
                    have hlt_b2 : b2 < mb ∧ b2 ∉ ([b3] : List Nat) := ⟨hlt b2 _ (List.Mem.tail _ (List.Mem.tail _ (List.Mem.tail _ (List.Mem.tail _ (List.Mem.tail _ (List.Mem.tail _ (List.Mem.tail _ (List.Mem.head _)))))))), (by simp only [List.mem_cons, List.not_mem_nil, or_false, not_or]; exact (Heap.ne hH 7 6 (by decide) rfl rfl))⟩
                    refine q_seg 3 [(0, .ptr hb3 hb3e (y5.toNat * Enc.w DFile) (Enc.w DFile)), (2, .ptr b3 0 0 1), (23, .ptr hb3 hb3e (y5.toNat * Enc.w DFile + 1) 1)] hS (by kernel_rfl) ?_; intro s hS
                    have hH : Heap σ0 σ [.own true 4 t7 (Sl.t (y4.Files : Sl DFile)), .box b4 [.bool (decide (y12.At < (y12.Lines.l.length : Int)))], .box b10 [.str y9.Name, t10, .int .i64 y9.Mode, .int .i64 y9.At], .box b8 [T.fn 73 [] []], .box b7 [t5, .int .i64 y4.At, t6, t7, t8], .box b6 [(Sl.t (⟨true, []⟩ : Sl ByteArray)), .int .i64 0, (Sl.t (⟨true, []⟩ : Sl ByteArray)), (Sl.t (⟨true, []⟩ : Sl DFile)), (Sl.t (⟨true, []⟩ : Sl ByteArray))], .box b3 [.str ⟨#[]⟩], .box b2 [(Sl.t (⟨true, []⟩ : Sl ByteArray)), .int .i64 0, (Sl.t (⟨true, []⟩ : Sl ByteArray)), (Sl.t (⟨true, []⟩ : Sl DFile)), (Sl.t (⟨true, []⟩ : Sl ByteArray))], .own true 1 t5 (Sl.t (y4.Input : Sl ByteArray)), .own true 1 t6 (Sl.t (y4.Output : Sl ByteArray)), .own true 1 t8 (Sl.t (y4.Trace : Sl ByteArray))] := hH.sel [1, 0, 2, 3, 4, 5, 6, 7, 8, 9, 10] rfl (by kernel_rfl)
                    refine q_hlens (a := y4.Files) (j := y5) (y := y12) (off := 1) (c := [.str y12.Name, (Sl.t (y12.Lines : Sl ByteArray)), .int .i64 y12.Mode, .int .i64 y12.At]) (q := (y12.Lines : Sl ByteArray)) (by kernel_rfl) rfl hS hH hl_hb3 rfl hy12 rfl (by kernel_rfl) rfl rfl ?_; intro F4 σk4 t12 s ht12 hH hcl4 hcl4s hcl4k hcl4f hS
                    refine q_seg 3 [(0, .ptr hb3 hb3e (y5.toNat * Enc.w DFile) (Enc.w DFile)), (2, .ptr b3 0 0 1), (24, t12), (27, .ptr hb3 hb3e (y5.toNat * Enc.w DFile + 3) 1)] hS (by kernel_rfl) ?_; intro s hS
                    refine q_hloadK (a := y4.Files) (j := y5) (y := y12) (off := 3) (c := [.str y12.Name, (Sl.t (y12.Lines : Sl ByteArray)), .int .i64 y12.Mode, .int .i64 y12.At]) (v := .int .i64 y12.At) (by kernel_rfl) 1 rfl hS hcl4k hcl4f hH rfl hl_hb3 rfl hy12 rfl (by kernel_rfl) rfl rfl leaf_int ?_; intro s hS
                    obtain ⟨y14, hy14, h⟩ := bind_some h
                    refine q_hidx (a := y12.Lines) (e := 9) (by kernel_rfl) rfl hS hH rfl rfl (by kernel_rfl) (by kernel_rfl) hy14 ?_; intro hb4 hb4e s hl_hb4 hS
                    refine q_hload (a := y12.Lines) (j := y12.At) (y := y14) (off := 0) (c := [.str y14]) (v := .str y14) (by kernel_rfl) rfl hS hH hl_hb4 rfl hy14 rfl (by kernel_rfl) rfl rfl leaf_str ?_; intro s hS
                    have hH := hcl4s _ _ hH
                    have hH : Heap σ0 σ [.own true 4 t7 (Sl.t (y4.Files : Sl DFile)), .box b4 [.bool (decide (y12.At < (y12.Lines.l.length : Int)))], .box b10 [.str y9.Name, t10, .int .i64 y9.Mode, .int .i64 y9.At], .box b8 [T.fn 73 [] []], .box b7 [t5, .int .i64 y4.At, t6, t7, t8], .box b6 [(Sl.t (⟨true, []⟩ : Sl ByteArray)), .int .i64 0, (Sl.t (⟨true, []⟩ : Sl ByteArray)), (Sl.t (⟨true, []⟩ : Sl DFile)), (Sl.t (⟨true, []⟩ : Sl ByteArray))], .box b3 [.str ⟨#[]⟩], .box b2 [(Sl.t (⟨true, []⟩ : Sl ByteArray)), .int .i64 0, (Sl.t (⟨true, []⟩ : Sl ByteArray)), (Sl.t (⟨true, []⟩ : Sl DFile)), (Sl.t (⟨true, []⟩ : Sl ByteArray))], .own true 1 t5 (Sl.t (y4.Input : Sl ByteArray)), .own true 1 t6 (Sl.t (y4.Output : Sl ByteArray)), .own true 1 t8 (Sl.t (y4.Trace : Sl ByteArray))] := hH
                    have hH : Heap σ0 σ [.box b3 [.str ⟨#[]⟩], .own true 4 t7 (Sl.t (y4.Files : Sl DFile)), .box b4 [.bool (decide (y12.At < (y12.Lines.l.length : Int)))], .box b10 [.str y9.Name, t10, .int .i64 y9.Mode, .int .i64 y9.At], .box b8 [T.fn 73 [] []], .box b7 [t5, .int .i64 y4.At, t6, t7, t8], .box b6 [(Sl.t (⟨true, []⟩ : Sl ByteArray)), .int .i64 0, (Sl.t (⟨true, []⟩ : Sl ByteArray)), (Sl.t (⟨true, []⟩ : Sl DFile)), (Sl.t (⟨true, []⟩ : Sl ByteArray))], .box b2 [(Sl.t (⟨true, []⟩ : Sl ByteArray)), .int .i64 0, (Sl.t (⟨true, []⟩ : Sl ByteArray)), (Sl.t (⟨true, []⟩ : Sl DFile)), (Sl.t (⟨true, []⟩ : Sl ByteArray))], .own true 1 t5 (Sl.t (y4.Input : Sl ByteArray)), .own true 1 t6 (Sl.t (y4.Output : Sl ByteArray)), .own true 1 t8 (Sl.t (y4.Trace : Sl ByteArray))] := hH.sel [6, 0, 1, 2, 3, 4, 5, 7, 8, 9, 10] rfl (by kernel_rfl)
                    refine q_storeC rfl (v := .str y14) (cs := [.str y14]) (cells' := [.str y14]) (by exact Or.inr (by simp)) rfl hS hH rfl rfl rfl (by kernel_rfl) (by kernel_rfl) ?_; intro σ s hH hS
                    refine x_nil ?_
                    refine sq_n ?_
                    refine c_region ?_
                    refine q_seg 3 [(31, .ptr hb3 hb3e (y5.toNat * Enc.w DFile) (Enc.w DFile)), (33, .ptr hb3 hb3e (y5.toNat * Enc.w DFile + 3) 1)] hS (by kernel_rfl) ?_; intro s hS
                    have hH : Heap σ0 σ [.own true 4 t7 (Sl.t (y4.Files : Sl DFile)), .box b3 [.str y14], .box b4 [.bool (decide (y12.At < (y12.Lines.l.length : Int)))], .box b10 [.str y9.Name, t10, .int .i64 y9.Mode, .int .i64 y9.At], .box b8 [T.fn 73 [] []], .box b7 [t5, .int .i64 y4.At, t6, t7, t8], .box b6 [(Sl.t (⟨true, []⟩ : Sl ByteArray)), .int .i64 0, (Sl.t (⟨true, []⟩ : Sl ByteArray)), (Sl.t (⟨true, []⟩ : Sl DFile)), (Sl.t (⟨true, []⟩ : Sl ByteArray))], .box b2 [(Sl.t (⟨true, []⟩ : Sl ByteArray)), .int .i64 0, (Sl.t (⟨true, []⟩ : Sl ByteArray)), (Sl.t (⟨true, []⟩ : Sl DFile)), (Sl.t (⟨true, []⟩ : Sl ByteArray))], .own true 1 t5 (Sl.t (y4.Input : Sl ByteArray)), .own true 1 t6 (Sl.t (y4.Output : Sl ByteArray)), .own true 1 t8 (Sl.t (y4.Trace : Sl ByteArray))] := hH.sel [1, 0, 2, 3, 4, 5, 6, 7, 8, 9, 10] rfl (by kernel_rfl)
                    refine q_hload (a := y4.Files) (j := y5) (y := y12) (off := 3) (c := [.str y12.Name, (Sl.t (y12.Lines : Sl ByteArray)), .int .i64 y12.Mode, .int .i64 y12.At]) (v := .int .i64 y12.At) rfl rfl hS hH hl_hb3 rfl hy12 rfl (by kernel_rfl) rfl rfl leaf_int ?_; intro s hS
                    refine q_seg 3 [(35, .int .i64 (IntKind.i64.wrap (y12.At + 1))), (37, .ptr hb3 hb3e (y5.toNat * Enc.w DFile + 3) 1)] hS (by kernel_rfl) ?_; intro s hS
                    refine q_hstore (ents := []) (a := y4.Files) (j := y5) (y := y12) (y' := ((⟨y12.Name, y12.Lines, y12.Mode, (IntKind.i64.wrap (y12.At + 1))⟩ : DFile) : DFile)) (off := 3) (c := [.str y12.Name, (Sl.t (y12.Lines : Sl ByteArray)), .int .i64 y12.Mode, .int .i64 y12.At]) (us := [.int .i64 (IntKind.i64.wrap (y12.At + 1))]) (vs := [.int .i64 (IntKind.i64.wrap (y12.At + 1))]) (v := .int .i64 (IntKind.i64.wrap (y12.At + 1))) rfl hS hH hl_hb3 rfl rfl rfl (by kernel_rfl) (by kernel_rfl) rfl hy12 rfl (HL.leaf (fun σ d => hold_int _ σ d _ _) HL.nil) rfl (by kernel_rfl) ?_; intro σ s hH hS
                    refine x_nil ?_
                    refine sq_n ?_
                    refine c_seq ?_
                    refine c_region ?_
                    refine q_seg 1 [(4, .int .i64 0)] hS (by kernel_rfl) ?_; intro s hS
                    refine x_nil ?_
                    refine sq_n ?_
                    refine c_ret ?_
                    refine end_I (v := .int .i64 0) (r_tmp (v := .int .i64 0) hS rfl r_nil) rfl ?_; intro s hS
                    injection h with h; subst h
                    exact And.intro (sub_to hS (by kernel_rfl)) (Heap.sel hH [5, 6, 2, 1, 7, 8, 9, 0, 10] rfl (by kernel_rfl))
                  · have h := it_neg hc8 h
                    refine c_cond hS rfl (fun hf => tt_absurd hc8 hf) (fun _ => ?_)
                    refine c_skip ?_
                    refine sq_n ?_
                    refine c_seq ?_
                    refine c_region ?_
                    refine q_seg 1 [(4, .int .i64 0)] hS (by kernel_rfl) ?_; intro s hS
                    refine x_nil ?_
                    refine sq_n ?_
                    refine c_ret ?_
                    refine end_I (v := .int .i64 0) (r_tmp (v := .int .i64 0) hS rfl r_nil) rfl ?_; intro s hS
                    injection h with h; subst h
                    exact And.intro (sub_to hS (by kernel_rfl)) (Heap.sel hH [4, 5, 0, 6, 7, 8, 9, 1, 10] rfl (by kernel_rfl))
              · intro s σ HF; obtain ⟨hS, hH⟩ := HF
                refine q_seg 1 [(6, .ptr b6 0 0 5), (8, .ptr b7 0 0 5), (11, .int .i64 y13.1)] hS (by kernel_rfl) ?_; intro s hS
                refine x_nil ?_
                refine sq_n ?_
                refine c_seq ?_
                refine c_region ?_
                refine q_seg 2 [(6, .ptr b6 0 0 5), (8, .ptr b7 0 0 5), (11, .int .i64 y13.1), (40, .bool (!decide (y13.1 = 0)))] hS (by kernel_rfl) ?_; intro s hS
                refine x_nil ?_
                refine sq_n ?_
                by_cases hc9 : (!decide (y13.1 = 0)) = true
                · have h := it_pos hc9 h
                  refine c_cond hS rfl (fun _ => ?_) (fun hf => ff_absurd hc9 hf)
                  refine c_seq ?_
                  refine c_region ?_
                  refine q_seg 2 [(6, .ptr b6 0 0 5), (41, .agg [(Sl.t (⟨true, []⟩ : Sl ByteArray)), .int .i64 0, (Sl.t (⟨true, []⟩ : Sl ByteArray)), (Sl.t (⟨true, []⟩ : Sl DFile)), (Sl.t (⟨true, []⟩ : Sl ByteArray))]), (42, .int .i64 y13.1)] hS (by kernel_rfl) ?_; intro s hS
                  have hH : Heap σ0 σ [.box b6 [(Sl.t (⟨true, []⟩ : Sl ByteArray)), .int .i64 0, (Sl.t (⟨true, []⟩ : Sl ByteArray)), (Sl.t (⟨true, []⟩ : Sl DFile)), (Sl.t (⟨true, []⟩ : Sl ByteArray))], .box b7 [t5, .int .i64 y4.At, t6, t7, t8], .box b4 [.bool y13.2.1], .box b3 [.str y13.2.2.1], .box b2 [(Sl.t (⟨true, []⟩ : Sl ByteArray)), .int .i64 0, (Sl.t (⟨true, []⟩ : Sl ByteArray)), (Sl.t (⟨true, []⟩ : Sl DFile)), (Sl.t (⟨true, []⟩ : Sl ByteArray))], .own true 1 t5 (Sl.t (y4.Input : Sl ByteArray)), .own true 1 t6 (Sl.t (y4.Output : Sl ByteArray)), .own true 4 t7 (Sl.t (y13.2.2.2 : Sl DFile)), .own true 1 t8 (Sl.t (y4.Trace : Sl ByteArray))] := hH.sel [1, 0, 2, 3, 4, 5, 6, 7, 8] rfl (by kernel_rfl)
                  refine q_store (v := .agg [(Sl.t (⟨true, []⟩ : Sl ByteArray)), .int .i64 0, (Sl.t (⟨true, []⟩ : Sl ByteArray)), (Sl.t (⟨true, []⟩ : Sl DFile)), (Sl.t (⟨true, []⟩ : Sl ByteArray))]) (cs := [(Sl.t (⟨true, []⟩ : Sl ByteArray)), .int .i64 0, (Sl.t (⟨true, []⟩ : Sl ByteArray)), (Sl.t (⟨true, []⟩ : Sl DFile)), (Sl.t (⟨true, []⟩ : Sl ByteArray))]) (cells' := [(Sl.t (⟨true, []⟩ : Sl ByteArray)), .int .i64 0, (Sl.t (⟨true, []⟩ : Sl ByteArray)), (Sl.t (⟨true, []⟩ : Sl DFile)), (Sl.t (⟨true, []⟩ : Sl ByteArray))]) rfl hS hH rfl rfl rfl (by kernel_rfl) (by kernel_rfl) ?_; intro σ s hH hS
                  refine q_seg 1 [(6, .ptr b6 0 0 5), (7, .int .i64 y13.1)] hS (by kernel_rfl) ?_; intro s hS
                  refine x_nil ?_
                  refine sq_n ?_
                  refine c_ret ?_
                  refine sq_r ?_
                  refine end_I (v := .tup [.agg [(Sl.t (⟨true, []⟩ : Sl ByteArray)), .int .i64 0, (Sl.t (⟨true, []⟩ : Sl ByteArray)), (Sl.t (⟨true, []⟩ : Sl DFile)), (Sl.t (⟨true, []⟩ : Sl ByteArray))], .int .i64 y13.1]) (r_cell (v := .agg [(Sl.t (⟨true, []⟩ : Sl ByteArray)), .int .i64 0, (Sl.t (⟨true, []⟩ : Sl ByteArray)), (Sl.t (⟨true, []⟩ : Sl DFile)), (Sl.t (⟨true, []⟩ : Sl ByteArray))]) hS hH rfl (by kernel_rfl) (r_tmp (v := .int .i64 y13.1) hS rfl r_nil)) rfl ?_; intro s hS
                  injection h with h; subst h
                  have hH := Heap.addNil hH true 1
                  have hH := Heap.addNil hH true 1
                  have hH := Heap.addNil hH true 4
                  have hH := Heap.addNil hH true 1
                  exact Exists.intro (T.row true 0 []) (And.intro ⟨rfl, rfl⟩ (Exists.intro (T.row true 0 []) (And.intro ⟨rfl, rfl⟩ (Exists.intro (T.row true 0 []) (And.intro ⟨rfl, rfl⟩ (Exists.intro (T.row true 0 []) (And.intro ⟨rfl, rfl⟩ (And.intro (sub_to hS (by kernel_rfl)) (Heap.sel hH [6, 7, 8, 3, 2, 1, 0] rfl (by kernel_rfl))))))))))
                · have h := it_neg hc9 h
                  refine c_cond hS rfl (fun hf => tt_absurd hc9 hf) (fun _ => ?_)
                  refine c_skip ?_
                  refine sq_n ?_
                  refine c_seq ?_
                  refine c_region ?_
                  refine q_load (v := .agg [t5, .int .i64 y4.At, t6, t7, t8]) 0 trivial rfl hS hH rfl rfl (by kernel_rfl) ?_; intro s hS
                  have hH : Heap σ0 σ [.box b6 [(Sl.t (⟨true, []⟩ : Sl ByteArray)), .int .i64 0, (Sl.t (⟨true, []⟩ : Sl ByteArray)), (Sl.t (⟨true, []⟩ : Sl DFile)), (Sl.t (⟨true, []⟩ : Sl ByteArray))], .box b7 [t5, .int .i64 y4.At, t6, t7, t8], .box b4 [.bool y13.2.1], .box b3 [.str y13.2.2.1], .box b2 [(Sl.t (⟨true, []⟩ : Sl ByteArray)), .int .i64 0, (Sl.t (⟨true, []⟩ : Sl ByteArray)), (Sl.t (⟨true, []⟩ : Sl DFile)), (Sl.t (⟨true, []⟩ : Sl ByteArray))], .own true 1 t5 (Sl.t (y4.Input : Sl ByteArray)), .own true 1 t6 (Sl.t (y4.Output : Sl ByteArray)), .own true 4 t7 (Sl.t (y13.2.2.2 : Sl DFile)), .own true 1 t8 (Sl.t (y4.Trace : Sl ByteArray))] := hH.sel [1, 0, 2, 3, 4, 5, 6, 7, 8] rfl (by kernel_rfl)
                  refine q_store (v := .agg [t5, .int .i64 y4.At, t6, t7, t8]) (cs := [t5, .int .i64 y4.At, t6, t7, t8]) (cells' := [t5, .int .i64 y4.At, t6, t7, t8]) rfl hS hH rfl rfl rfl (by simp [ht5.1, ht5.2, ht6.1, ht6.2, ht7.1, ht7.2, ht8.1, ht8.2]) (by kernel_rfl) ?_; intro σ s hH hS
                  refine q_seg 1 [(6, .ptr b6 0 0 5), (7, .int .i64 0)] hS (by kernel_rfl) ?_; intro s hS
                  refine x_nil ?_
                  refine sq_n ?_
                  refine c_ret ?_
                  refine end_I (v := .tup [.agg [t5, .int .i64 y4.At, t6, t7, t8], .int .i64 0]) (r_cell (v := .agg [t5, .int .i64 y4.At, t6, t7, t8]) hS hH rfl (by kernel_rfl) (r_tmp (v := .int .i64 0) hS rfl r_nil)) rfl ?_; intro s hS
                  injection h with h; subst h
                  exact Exists.intro t5 (And.intro ht5 (Exists.intro t6 (And.intro ht6 (Exists.intro t7 (And.intro ht7 (Exists.intro t8 (And.intro ht8 (And.intro (sub_to hS (by kernel_rfl)) (Heap.sel hH [2, 3, 4, 5, 6, 7, 8] rfl (by kernel_rfl))))))))))
          · have h := it_neg hc5 h
            have hS := sub_bt hS (tt_of hc5)
            refine q_seg 11 [(6, .int .i64 y5), (7, .bool false)] hS (by kernel_rfl) ?_; intro s hS
            refine x_nil ?_
            refine sq_n ?_
            refine c_ret ?_
            refine end_I (v := .tup [.int .i64 y5, .bool false]) (r_tmp (v := .int .i64 y5) hS rfl (r_tmp (v := .bool false) hS rfl r_nil)) rfl ?_; intro s hS
            refine q_seg 4 [(6, .int .i64 y5), (7, .bool false)] hS (by kernel_rfl) ?_; intro s hS
            refine x_nil ?_
            refine sq_n ?_
            refine c_ret ?_
            refine end_I (v := .tup [.int .i64 y5, .bool false]) (r_tmp (v := .int .i64 y5) hS rfl (r_tmp (v := .bool false) hS rfl r_nil)) rfl ?_; intro s hS
            refine q_seg 5 [(2, T.fn 63 [] [.ptr b4 0 0 1, .ptr b3 0 0 1]), (6, .ptr b6 0 0 5), (8, .ptr b7 0 0 5), (9, .int .i64 y5), (10, .bool false)] hS (by kernel_rfl) ?_; intro s hS
            refine x_nil ?_
            refine sq_n ?_
            refine c_seq ?_
            refine c_seq ?_
            refine c_region ?_
            refine q_seg 2 [(2, T.fn 63 [] [.ptr b4 0 0 1, .ptr b3 0 0 1]), (6, .ptr b6 0 0 5), (8, .ptr b7 0 0 5), (9, .int .i64 y5), (31, .bool true)] hS (by kernel_rfl) ?_; intro s hS
            refine x_nil ?_
            refine sq_n ?_
            refine c_cond (t := true) hS rfl (fun _ => ?_) (fun hf => by cases hf)
            refine c_seq ?_
            refine c_region ?_
            refine q_seg 1 [(6, .ptr b6 0 0 5), (32, .agg [(Sl.t (⟨true, []⟩ : Sl ByteArray)), .int .i64 0, (Sl.t (⟨true, []⟩ : Sl ByteArray)), (Sl.t (⟨true, []⟩ : Sl DFile)), (Sl.t (⟨true, []⟩ : Sl ByteArray))])] hS (by kernel_rfl) ?_; intro s hS
            have hH : Heap σ0 σ [.box b6 [(Sl.t (⟨true, []⟩ : Sl ByteArray)), .int .i64 0, (Sl.t (⟨true, []⟩ : Sl ByteArray)), (Sl.t (⟨true, []⟩ : Sl DFile)), (Sl.t (⟨true, []⟩ : Sl ByteArray))], .box b8 [T.fn 73 [] []], .box b7 [t5, .int .i64 y4.At, t6, t7, t8], .box b4 [.bool false], .box b3 [.str ⟨#[]⟩], .box b2 [(Sl.t (⟨true, []⟩ : Sl ByteArray)), .int .i64 0, (Sl.t (⟨true, []⟩ : Sl ByteArray)), (Sl.t (⟨true, []⟩ : Sl DFile)), (Sl.t (⟨true, []⟩ : Sl ByteArray))], .own true 4 t7 (Sl.t (y4.Files : Sl DFile)), .own true 1 t5 (Sl.t (y4.Input : Sl ByteArray)), .own true 1 t6 (Sl.t (y4.Output : Sl ByteArray)), .own true 1 t8 (Sl.t (y4.Trace : Sl ByteArray))] := hH.sel [2, 0, 1, 3, 4, 5, 6, 7, 8, 9] rfl (by kernel_rfl)
            refine q_store (v := .agg [(Sl.t (⟨true, []⟩ : Sl ByteArray)), .int .i64 0, (Sl.t (⟨true, []⟩ : Sl ByteArray)), (Sl.t (⟨true, []⟩ : Sl DFile)), (Sl.t (⟨true, []⟩ : Sl ByteArray))]) (cs := [(Sl.t (⟨true, []⟩ : Sl ByteArray)), .int .i64 0, (Sl.t (⟨true, []⟩ : Sl ByteArray)), (Sl.t (⟨true, []⟩ : Sl DFile)), (Sl.t (⟨true, []⟩ : Sl ByteArray))]) (cells' := [(Sl.t (⟨true, []⟩ : Sl ByteArray)), .int .i64 0, (Sl.t (⟨true, []⟩ : Sl ByteArray)), (Sl.t (⟨true, []⟩ : Sl DFile)), (Sl.t (⟨true, []⟩ : Sl ByteArray))]) rfl hS hH rfl rfl rfl (by kernel_rfl) (by kernel_rfl) ?_; intro σ s hH hS
            refine q_seg 1 [(6, .ptr b6 0 0 5), (7, .int .i64 11)] hS (by kernel_rfl) ?_; intro s hS
            refine x_nil ?_
            refine sq_n ?_
            refine c_ret ?_
            refine sq_r ?_
            refine end_I (v := .tup [.agg [(Sl.t (⟨true, []⟩ : Sl ByteArray)), .int .i64 0, (Sl.t (⟨true, []⟩ : Sl ByteArray)), (Sl.t (⟨true, []⟩ : Sl DFile)), (Sl.t (⟨true, []⟩ : Sl ByteArray))], .int .i64 11]) (r_cell (v := .agg [(Sl.t (⟨true, []⟩ : Sl ByteArray)), .int .i64 0, (Sl.t (⟨true, []⟩ : Sl ByteArray)), (Sl.t (⟨true, []⟩ : Sl DFile)), (Sl.t (⟨true, []⟩ : Sl ByteArray))]) hS hH rfl (by kernel_rfl) (r_tmp (v := .int .i64 11) hS rfl r_nil)) rfl ?_; intro s hS
            injection h with h; subst h
            have hH := Heap.addNil hH true 1
            have hH := Heap.addNil hH true 1
            have hH := Heap.addNil hH true 4
            have hH := Heap.addNil hH true 1
            exact Exists.intro (T.row true 0 []) (And.intro ⟨rfl, rfl⟩ (Exists.intro (T.row true 0 []) (And.intro ⟨rfl, rfl⟩ (Exists.intro (T.row true 0 []) (And.intro ⟨rfl, rfl⟩ (Exists.intro (T.row true 0 []) (And.intro ⟨rfl, rfl⟩ (And.intro (sub_to hS (by kernel_rfl)) (Heap.sel hH [7, 8, 9, 3, 2, 1, 0] rfl (by kernel_rfl))))))))))
  · intro s σ HF; obtain ⟨t1, ht1, ⟨t2, ht2, ⟨t3, ht3, ⟨t4, ht4, ⟨hS, hH⟩⟩⟩⟩⟩ := HF
    refine q_seg 3 [(4, .ptr b2 0 0 5), (8, .ptr b3 0 0 1), (9, .ptr b4 0 0 1), (17, .agg [t1, .int .i64 y1.1, t2, t3, t4]), (18, .int .i64 y1.2.1)] hS (by kernel_rfl) ?_; intro s hS
    refine q_alloc (z := [(Sl.t (⟨true, []⟩ : Sl ByteArray)), .int .i64 0, (Sl.t (⟨true, []⟩ : Sl ByteArray)), (Sl.t (⟨true, []⟩ : Sl DFile)), (Sl.t (⟨true, []⟩ : Sl ByteArray))]) rfl hS hH (by kernel_rfl) ?_; intro b11 σ s hH hS
    refine q_store (v := .agg [t1, .int .i64 y1.1, t2, t3, t4]) (cs := [t1, .int .i64 y1.1, t2, t3, t4]) (cells' := [t1, .int .i64 y1.1, t2, t3, t4]) rfl hS hH rfl rfl rfl (by simp [ht1.1, ht1.2, ht2.1, ht2.2, ht3.1, ht3.2, ht4.1, ht4.2]) (by kernel_rfl) ?_; intro σ s hH hS
    refine q_seg 1 [(4, .ptr b2 0 0 5), (8, .ptr b3 0 0 1), (9, .ptr b4 0 0 1), (10, .ptr b11 0 0 5), (11, .int .i64 y1.2.1)] hS (by kernel_rfl) ?_; intro s hS
    refine x_nil ?_
    refine sq_n ?_
    refine c_seq ?_
    refine c_chain [b2] (fun _ => rfl) (by kernel_rfl) (by kernel_rfl) hH ?_; intro mb σs σ hn0 hlt hH
    have hlt_b11 : b11 < mb ∧ b11 ∉ ([b2] : List Nat) := ⟨hlt b11 _ (List.Mem.head _), (by simp only [List.mem_cons, List.not_mem_nil, or_false, not_or]; exact (Heap.ne hH 3 0 (by decide) rfl rfl).symm)⟩
    have hlt_b4 : b4 < mb ∧ b4 ∉ ([b2] : List Nat) := ⟨hlt b4 _ (List.Mem.tail _ (List.Mem.head _)), (by simp only [List.mem_cons, List.not_mem_nil, or_false, not_or]; exact (Heap.ne hH 3 1 (by decide) rfl rfl).symm)⟩
    have hlt_b3 : b3 < mb ∧ b3 ∉ ([b2] : List Nat) := ⟨hlt b3 _ (List.Mem.tail _ (List.Mem.tail _ (List.Mem.head _))), (by simp only [List.mem_cons, List.not_mem_nil, or_false, not_or]; exact (Heap.ne hH 3 2 (by decide) rfl rfl).symm)⟩
    refine q_load (v := .agg [t1, .int .i64 y1.1, t2, t3, t4]) 0 (Or.inl (by kernel_rfl)) rfl hS hH rfl rfl (by kernel_rfl) ?_; intro s hS
    refine q_load (v := .str y1.2.2.2.1) 2 (Or.inr hlt_b3) rfl hS hH rfl rfl (by kernel_rfl) ?_; intro s hS
    refine q_load (v := .bool y1.2.2.1) 1 (Or.inr hlt_b4) rfl hS hH rfl rfl (by kernel_rfl) ?_; intro s hS
    refine q_seg 1 [(4, .ptr b2 0 0 5), (19, .agg [t1, .int .i64 y1.1, t2, t3, t4]), (20, .str y1.2.2.2.1), (21, .bool y1.2.2.1), (22, .int .i64 y1.2.1)] hS (by kernel_rfl) ?_; intro s hS
    have hH : Heap σ0 σ [.box b2 [(Sl.t (⟨true, []⟩ : Sl ByteArray)), .int .i64 0, (Sl.t (⟨true, []⟩ : Sl ByteArray)), (Sl.t (⟨true, []⟩ : Sl DFile)), (Sl.t (⟨true, []⟩ : Sl ByteArray))], .box b11 [t1, .int .i64 y1.1, t2, t3, t4], .box b4 [.bool y1.2.2.1], .box b3 [.str y1.2.2.2.1], .own true 1 t1 (Sl.t (y1.2.2.2.2.1 : Sl ByteArray)), .own true 1 t2 (Sl.t (y1.2.2.2.2.2.1 : Sl ByteArray)), .own true 4 t3 (Sl.t (y1.2.2.2.2.2.2.1 : Sl DFile)), .own true 1 t4 (Sl.t (y1.2.2.2.2.2.2.2 : Sl ByteArray))] := hH.sel [3, 0, 1, 2, 4, 5, 6, 7] rfl (by kernel_rfl)
    refine q_storeC rfl (v := .agg [t1, .int .i64 y1.1, t2, t3, t4]) (cs := [t1, .int .i64 y1.1, t2, t3, t4]) (cells' := [t1, .int .i64 y1.1, t2, t3, t4]) (by exact Or.inr (by simp)) rfl hS hH rfl rfl rfl (by simp [ht1.1, ht1.2, ht2.1, ht2.2, ht3.1, ht3.2, ht4.1, ht4.2]) (by kernel_rfl) ?_; intro σ s hH hS
    refine q_seg 3 [(4, .ptr b2 0 0 5), (5, .str y1.2.2.2.1), (6, .bool y1.2.2.1), (7, .int .i64 y1.2.1)] hS (by kernel_rfl) ?_; intro s hS
    refine x_nil ?_
    refine sq_n ?_
    refine c_ret ?_
    injection h with h; subst h
    have hH : Heap σ0 σ [.own true 1 t1 (Sl.t (y1.2.2.2.2.1 : Sl ByteArray)), .own true 1 t2 (Sl.t (y1.2.2.2.2.2.1 : Sl ByteArray)), .own true 4 t3 (Sl.t (y1.2.2.2.2.2.2.1 : Sl DFile)), .own true 1 t4 (Sl.t (y1.2.2.2.2.2.2.2 : Sl ByteArray)), .box b2 [t1, .int .i64 y1.1, t2, t3, t4], .box b11 [t1, .int .i64 y1.1, t2, t3, t4], .box b4 [.bool y1.2.2.1], .box b3 [.str y1.2.2.2.1]] := hH.sel [4, 5, 6, 7, 0, 1, 2, 3] rfl (by kernel_rfl)
    exact end_Ow [t1, t2, t3, t4] [.box b2 [t1, .int .i64 y1.1, t2, t3, t4], .box b11 [t1, .int .i64 y1.1, t2, t3, t4], .box b4 [.bool y1.2.2.1], .box b3 [.str y1.2.2.2.1]] (r_cell (v := .agg [t1, .int .i64 y1.1, t2, t3, t4]) hS (hH.at 4 rfl) rfl (by kernel_rfl) (r_tmp (v := .str y1.2.2.2.1) hS rfl (r_tmp (v := .bool y1.2.2.1) hS rfl (r_tmp (v := .int .i64 y1.2.1) hS rfl r_nil)))) (by kernel_rfl) rfl hH (by kernel_rfl)
end Go.Am
end
