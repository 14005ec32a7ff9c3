/- Functions of the program. -/
import Derived.Test.YtibhahlikgiegaaAd0
section
set_option maxRecDepth 100000
set_option maxHeartbeats 4000000
set_option linter.unusedVariables false
set_option linter.unusedSimpArgs false
namespace Go.Am
open Go.Proofs
noncomputable def B_impl_WriteFile (a0 : DConsole) (a1 : ByteArray) (a2 : ByteArray) : Option (DConsole × Int) := ((F_impl_isShort a2).bind fun y1 => (if (!y1) = true then (some ((⟨⟨true, []⟩, 0, ⟨true, []⟩, ⟨true, []⟩, ⟨true, []⟩⟩ : DConsole), 1)) else ((((F_impl_ValidConsole a0).bind fun y3 => (if (!y3) = true then (some (0, 1, (⟨true, []⟩ : Sl ByteArray), (⟨true, []⟩ : Sl ByteArray), (⟨true, []⟩ : Sl DFile), (⟨true, []⟩ : Sl ByteArray))) else ((F_impl_IsName a1).bind fun y4 => (if (!y4) = true then (some (0, 1, (⟨true, []⟩ : Sl ByteArray), (⟨true, []⟩ : Sl ByteArray), (⟨true, []⟩ : Sl DFile), (⟨true, []⟩ : Sl ByteArray))) else ((F_impl_Console_copied a0).bind fun y5 => ((loopO (S := (Int × Int)) (R := Int) (fun st1 => (if (decide (st1.1 < st1.2)) = true then ((elt y5.Files ((IntKind.i64.wrap (((IntKind.u64.wrap (IntKind.i64.wrap (st1.1 + st1.2))).fdiv (2 ^ 1)))))).bind fun y7 => ((F_impl_nameOfFile y7).bind fun y8 => ((F_cmp_Compare_string y8 a1).bind fun y9 => (if (decide (y9 < 0)) = true then (some (.inl ((IntKind.i64.wrap ((IntKind.i64.wrap (((IntKind.u64.wrap (IntKind.i64.wrap (st1.1 + st1.2))).fdiv (2 ^ 1)))) + 1)), st1.2))) else (some (.inl (st1.1, (IntKind.i64.wrap (((IntKind.u64.wrap (IntKind.i64.wrap (st1.1 + st1.2))).fdiv (2 ^ 1))))))))))) else (some (.inr st1.1)))) (0, (y5.Files.l.length : Int))).bind fun y6 => (if (decide (y6 < (y5.Files.l.length : Int))) = true then ((elt y5.Files y6).bind fun y10 => ((F_impl_nameOfFile y10).bind fun y11 => ((F_cmp_Compare_string y11 a1).bind fun y12 => (if (!(decide (y12 = 0))) = true then (some (0, 11, (⟨true, []⟩ : Sl ByteArray), (⟨true, []⟩ : Sl ByteArray), (⟨true, []⟩ : Sl DFile), (⟨true, []⟩ : Sl ByteArray))) else ((elt y5.Files y6).bind fun y13 => (((((if (decide (y13.Mode = 2)) = true then (some true) else (some (decide (y13.Mode = 3)))) : Option Bool).bind fun y15 => ((F_impl_unless y15 10).bind fun y16 => ((F_impl_unless (decide ((y13.Lines.l.length : Int) < 40)) 6).bind fun y17 => ((F_impl_first (⟨false, [⟨y16⟩, ⟨y17⟩]⟩)).bind fun y18 => (if (!decide (y18 = 0)) = true then (some (y18, y5.Files)) else ((appS 16 y13.Lines (⟨false, [a2]⟩ : Sl ByteArray)).bind fun y19 => (some (0, (setS y5.Files y6 ((⟨y13.Name, y19, y13.Mode, y13.At⟩ : DFile) : DFile)))))))))) : Option (Int × (Sl DFile))).bind fun y14 => (if (!decide (y14.1 = 0)) = true then (some (0, y14.1, (⟨true, []⟩ : Sl ByteArray), (⟨true, []⟩ : Sl ByteArray), (⟨true, []⟩ : Sl DFile), (⟨true, []⟩ : Sl ByteArray))) else (some (y5.At, 0, y5.Input, y5.Output, y14.2, y5.Trace))))))))) else (some (0, 11, (⟨true, []⟩ : Sl ByteArray), (⟨true, []⟩ : Sl ByteArray), (⟨true, []⟩ : Sl DFile), (⟨true, []⟩ : Sl ByteArray)))))))))) : Option ((Int × Int × (Sl ByteArray) × (Sl ByteArray) × (Sl DFile) × (Sl ByteArray)))).bind fun y2 => (some ((⟨y2.2.2.1, y2.1, y2.2.2.2.1, y2.2.2.2.2.1, y2.2.2.2.2.2⟩ : DConsole), y2.2.1)))))
theorem u_impl_WriteFile (a0 : DConsole) (a1 : ByteArray) (a2 : ByteArray) (r : (DConsole × Int)) (h : B_impl_WriteFile a0 a1 a2 = some r) : F_impl_WriteFile a0 a1 a2 = some r := by
  unfold B_impl_WriteFile at h
  refine semO_of rfl rfl ok_33 rfl (all_cons (by kernel_rfl) (all_cons (by kernel_rfl) (all_cons (by kernel_rfl) all_nil))) ?_
  intro σ0 s hS hH
  have hS := sub_to (L' := [(0, .agg (DConsole.cells a0)), (1, .str a1), (2, .str a2)]) hS (by kernel_rfl)
  refine c_seq ?_
  refine c_region ?_
  refine q_box (v := .agg (DConsole.cells a0)) (cs := [(Sl.t (a0.Input : Sl ByteArray)), .int .i64 a0.At, (Sl.t (a0.Output : Sl ByteArray)), (Sl.t (a0.Files : Sl DFile)), (Sl.t (a0.Trace : Sl ByteArray))]) rfl hS hH rfl rfl (by kernel_rfl) ?_; intro b1 σ s hH hS
  refine q_box (v := .str a2) (cs := [.str a2]) rfl hS hH rfl rfl (by kernel_rfl) ?_; intro b2 σ s hH hS
  refine q_alloc (z := [(Sl.t (⟨true, []⟩ : Sl ByteArray)), .int .i64 0, (Sl.t (⟨true, []⟩ : Sl ByteArray)), (Sl.t (⟨true, []⟩ : Sl DFile)), (Sl.t (⟨true, []⟩ : Sl ByteArray))]) rfl hS hH (by kernel_rfl) ?_; intro b3 σ s hH hS
  refine q_seg 1 [(1, .str a1), (3, .ptr b1 0 0 5), (5, .ptr b2 0 0 1), (6, .ptr b3 0 0 5)] hS (by kernel_rfl) ?_; intro s hS
  refine x_nil ?_
  refine sq_n ?_
  refine c_seq ?_
  refine c_seq ?_
  refine c_region ?_
  refine q_load (v := .str a2) 1 trivial rfl hS hH rfl rfl (by kernel_rfl) ?_; intro s hS
  obtain ⟨y1, hy1, h⟩ := bind_some h
  refine q_callF (a := []) (b := []) (xs := [.str a2]) rfl hS rfl rfl hy1 ?_; intro s hS
  refine q_seg 1 [(1, .str a1), (3, .ptr b1 0 0 5), (5, .ptr b2 0 0 1), (6, .ptr b3 0 0 5), (10, .bool (!y1))] hS (by kernel_rfl) ?_; intro s hS
  refine x_nil ?_
  refine sq_n ?_
  by_cases hc1 : (!y1) = true
  · have h := it_pos hc1 h
    refine c_cond hS rfl (fun _ => ?_) (fun hf => ff_absurd hc1 hf)
    refine c_seq ?_
    refine c_region ?_
    refine q_seg 1 [(6, .ptr b3 0 0 5), (11, .agg [(Sl.t (⟨true, []⟩ : Sl ByteArray)), .int .i64 0, (Sl.t (⟨true, []⟩ : Sl ByteArray)), (Sl.t (⟨true, []⟩ : Sl DFile)), (Sl.t (⟨true, []⟩ : Sl ByteArray))])] hS (by kernel_rfl) ?_; intro s hS
    refine q_store (v := .agg [(Sl.t (⟨true, []⟩ : Sl ByteArray)), .int .i64 0, (Sl.t (⟨true, []⟩ : Sl ByteArray)), (Sl.t (⟨true, []⟩ : Sl DFile)), (Sl.t (⟨true, []⟩ : Sl ByteArray))]) (cs := [(Sl.t (⟨true, []⟩ : Sl ByteArray)), .int .i64 0, (Sl.t (⟨true, []⟩ : Sl ByteArray)), (Sl.t (⟨true, []⟩ : Sl DFile)), (Sl.t (⟨true, []⟩ : Sl ByteArray))]) (cells' := [(Sl.t (⟨true, []⟩ : Sl ByteArray)), .int .i64 0, (Sl.t (⟨true, []⟩ : Sl ByteArray)), (Sl.t (⟨true, []⟩ : Sl DFile)), (Sl.t (⟨true, []⟩ : Sl ByteArray))]) rfl hS hH rfl rfl rfl (by kernel_rfl) (by kernel_rfl) ?_; intro σ s hH hS
    refine q_seg 1 [(6, .ptr b3 0 0 5), (7, .int .i64 1)] hS (by kernel_rfl) ?_; intro s hS
    refine x_nil ?_
    refine sq_n ?_
    refine c_ret ?_
    refine sq_r ?_
    injection h with h; subst h
    have hH := Heap.addNil hH true 1
    have hH := Heap.addNil hH true 1
    have hH := Heap.addNil hH true 4
    have hH := Heap.addNil hH true 1
    have hH : Heap σ0 σ [.own true 1 (T.row true 0 []) (Sl.t (⟨true, []⟩ : Sl ByteArray)), .own true 1 (T.row true 0 []) (Sl.t (⟨true, []⟩ : Sl ByteArray)), .own true 4 (T.row true 0 []) (Sl.t (⟨true, []⟩ : Sl DFile)), .own true 1 (T.row true 0 []) (Sl.t (⟨true, []⟩ : Sl ByteArray)), .box b3 [(Sl.t (⟨true, []⟩ : Sl ByteArray)), .int .i64 0, (Sl.t (⟨true, []⟩ : Sl ByteArray)), (Sl.t (⟨true, []⟩ : Sl DFile)), (Sl.t (⟨true, []⟩ : Sl ByteArray))], .box b2 [.str a2], .box b1 [(Sl.t (a0.Input : Sl ByteArray)), .int .i64 a0.At, (Sl.t (a0.Output : Sl ByteArray)), (Sl.t (a0.Files : Sl DFile)), (Sl.t (a0.Trace : Sl ByteArray))]] := hH.sel [3, 2, 1, 0, 4, 5, 6] rfl (by kernel_rfl)
    exact end_Ow [(T.row true 0 []), (T.row true 0 []), (T.row true 0 []), (T.row true 0 [])] [.box b3 [(Sl.t (⟨true, []⟩ : Sl ByteArray)), .int .i64 0, (Sl.t (⟨true, []⟩ : Sl ByteArray)), (Sl.t (⟨true, []⟩ : Sl DFile)), (Sl.t (⟨true, []⟩ : Sl ByteArray))], .box b2 [.str a2], .box b1 [(Sl.t (a0.Input : Sl ByteArray)), .int .i64 a0.At, (Sl.t (a0.Output : Sl ByteArray)), (Sl.t (a0.Files : Sl DFile)), (Sl.t (a0.Trace : Sl ByteArray))]] (r_cell (v := .agg [(Sl.t (⟨true, []⟩ : Sl ByteArray)), .int .i64 0, (Sl.t (⟨true, []⟩ : Sl ByteArray)), (Sl.t (⟨true, []⟩ : Sl DFile)), (Sl.t (⟨true, []⟩ : Sl ByteArray))]) hS (hH.at 4 rfl) rfl (by kernel_rfl) (r_tmp (v := .int .i64 1) hS rfl r_nil)) (by kernel_rfl) rfl hH (by kernel_rfl)
  · have h := it_neg hc1 h
    refine c_cond hS rfl (fun hf => tt_absurd hc1 hf) (fun _ => ?_)
    refine c_skip ?_
    refine sq_n ?_
    refine c_seq ?_
    refine c_region ?_
    refine q_load (v := .agg (DConsole.cells a0)) 2 trivial rfl hS hH rfl rfl (by kernel_rfl) ?_; intro s hS
    refine q_seg 2 [(6, .ptr b3 0 0 5), (12, .agg (DConsole.cells a0)), (13, .str a1), (14, T.fn 64 [] [.ptr b2 0 0 1])] hS (by kernel_rfl) ?_; intro s hS
    obtain ⟨y2, hy2, h⟩ := bind_some h
    refine q_inlC (HF := fun s σ => ∃ t1, IsOne t1 ∧ ∃ t2, IsOne t2 ∧ ∃ t3, IsOne t3 ∧ ∃ t4, IsOne t4 ∧ Sub [(6, .ptr b3 0 0 5), (15, .tup [.agg [t1, .int .i64 y2.1, t2, t3, t4], .int .i64 y2.2.1])] s ∧ Heap σ0 σ [.box b3 [(Sl.t (⟨true, []⟩ : Sl ByteArray)), .int .i64 0, (Sl.t (⟨true, []⟩ : Sl ByteArray)), (Sl.t (⟨true, []⟩ : Sl DFile)), (Sl.t (⟨true, []⟩ : Sl ByteArray))], .own true 1 t1 (Sl.t (y2.2.2.1 : Sl ByteArray)), .own true 1 t2 (Sl.t (y2.2.2.2.1 : Sl ByteArray)), .own true 4 t3 (Sl.t (y2.2.2.2.2.1 : Sl DFile)), .own true 1 t4 (Sl.t (y2.2.2.2.2.2 : Sl ByteArray))]) [.agg (DConsole.cells a0), .str a1, T.fn 64 [] [.ptr b2 0 0 1]] rfl hS rfl rfl rfl rfl rfl ok_59 rfl ?_ ?_
    · clear h; have h := hy2; intro s hS
      have hS := sub_to (L' := [(0, .agg (DConsole.cells a0)), (1, .str a1), (2, T.fn 64 [] [.ptr b2 0 0 1])]) hS (by kernel_rfl)
      refine c_seq ?_
      refine c_region ?_
      refine q_box (v := .agg (DConsole.cells a0)) (cs := [(Sl.t (a0.Input : Sl ByteArray)), .int .i64 a0.At, (Sl.t (a0.Output : Sl ByteArray)), (Sl.t (a0.Files : Sl DFile)), (Sl.t (a0.Trace : Sl ByteArray))]) rfl hS hH rfl rfl (by kernel_rfl) ?_; intro b4 σ s hH hS
      refine q_alloc (z := [(Sl.t (⟨true, []⟩ : Sl ByteArray)), .int .i64 0, (Sl.t (⟨true, []⟩ : Sl ByteArray)), (Sl.t (⟨true, []⟩ : Sl DFile)), (Sl.t (⟨true, []⟩ : Sl ByteArray))]) rfl hS hH (by kernel_rfl) ?_; intro b5 σ s hH hS
      refine q_seg 1 [(1, .str a1), (2, T.fn 64 [] [.ptr b2 0 0 1]), (3, .ptr b4 0 0 5), (6, .ptr b5 0 0 5)] hS (by kernel_rfl) ?_; intro s hS
      refine x_nil ?_
      refine sq_n ?_
      refine c_seq ?_
      refine c_seq ?_
      refine c_region ?_
      refine q_load (v := .agg (DConsole.cells a0)) 1 trivial rfl hS hH rfl rfl (by kernel_rfl) ?_; intro s hS
      obtain ⟨y3, hy3, h⟩ := bind_some h
      refine q_callF (a := []) (b := []) (xs := [.agg (DConsole.cells a0)]) rfl hS rfl rfl hy3 ?_; intro s hS
      refine q_seg 2 [(15, .bool (!y3)), (1, .str a1), (2, T.fn 64 [] [.ptr b2 0 0 1]), (3, .ptr b4 0 0 5), (6, .ptr b5 0 0 5)] hS (by kernel_rfl) ?_; intro s hS
      by_cases hc2 : (!y3) = true
      · have h := it_pos hc2 h
        have hS := sub_bt hS hc2
        refine q_seg 4 [(1, .str a1), (2, T.fn 64 [] [.ptr b2 0 0 1]), (3, .ptr b4 0 0 5), (6, .ptr b5 0 0 5), (19, .bool true)] hS (by kernel_rfl) ?_; intro s hS
        refine x_nil ?_
        refine sq_n ?_
        refine c_cond (t := true) hS rfl (fun _ => ?_) (fun hf => by cases hf)
        refine c_seq ?_
        refine c_region ?_
        refine q_seg 1 [(6, .ptr b5 0 0 5), (20, .agg [(Sl.t (⟨true, []⟩ : Sl ByteArray)), .int .i64 0, (Sl.t (⟨true, []⟩ : Sl ByteArray)), (Sl.t (⟨true, []⟩ : Sl DFile)), (Sl.t (⟨true, []⟩ : Sl ByteArray))])] hS (by kernel_rfl) ?_; intro s hS
        refine q_store (v := .agg [(Sl.t (⟨true, []⟩ : Sl ByteArray)), .int .i64 0, (Sl.t (⟨true, []⟩ : Sl ByteArray)), (Sl.t (⟨true, []⟩ : Sl DFile)), (Sl.t (⟨true, []⟩ : Sl ByteArray))]) (cs := [(Sl.t (⟨true, []⟩ : Sl ByteArray)), .int .i64 0, (Sl.t (⟨true, []⟩ : Sl ByteArray)), (Sl.t (⟨true, []⟩ : Sl DFile)), (Sl.t (⟨true, []⟩ : Sl ByteArray))]) (cells' := [(Sl.t (⟨true, []⟩ : Sl ByteArray)), .int .i64 0, (Sl.t (⟨true, []⟩ : Sl ByteArray)), (Sl.t (⟨true, []⟩ : Sl DFile)), (Sl.t (⟨true, []⟩ : Sl ByteArray))]) rfl hS hH rfl rfl rfl (by kernel_rfl) (by kernel_rfl) ?_; intro σ s hH hS
        refine q_seg 1 [(6, .ptr b5 0 0 5), (7, .int .i64 1)] hS (by kernel_rfl) ?_; intro s hS
        refine x_nil ?_
        refine sq_n ?_
        refine c_ret ?_
        refine sq_r ?_
        refine end_I (v := .tup [.agg [(Sl.t (⟨true, []⟩ : Sl ByteArray)), .int .i64 0, (Sl.t (⟨true, []⟩ : Sl ByteArray)), (Sl.t (⟨true, []⟩ : Sl DFile)), (Sl.t (⟨true, []⟩ : Sl ByteArray))], .int .i64 1]) (r_cell (v := .agg [(Sl.t (⟨true, []⟩ : Sl ByteArray)), .int .i64 0, (Sl.t (⟨true, []⟩ : Sl ByteArray)), (Sl.t (⟨true, []⟩ : Sl DFile)), (Sl.t (⟨true, []⟩ : Sl ByteArray))]) hS hH rfl (by kernel_rfl) (r_tmp (v := .int .i64 1) hS rfl r_nil)) rfl ?_; intro s hS
        injection h with h; subst h
        have hH := Heap.addNil hH true 1
        have hH := Heap.addNil hH true 1
        have hH := Heap.addNil hH true 4
        have hH := Heap.addNil hH true 1
        exact Exists.intro (T.row true 0 []) (And.intro ⟨rfl, rfl⟩ (Exists.intro (T.row true 0 []) (And.intro ⟨rfl, rfl⟩ (Exists.intro (T.row true 0 []) (And.intro ⟨rfl, rfl⟩ (Exists.intro (T.row true 0 []) (And.intro ⟨rfl, rfl⟩ (And.intro (sub_to hS (by kernel_rfl)) (Heap.sel hH [6, 3, 2, 1, 0] rfl (by kernel_rfl))))))))))
      · have h := it_neg hc2 h
        have hS := sub_bt hS (tt_of hc2)
        refine q_seg 1 [(1, .str a1), (2, T.fn 64 [] [.ptr b2 0 0 1]), (3, .ptr b4 0 0 5), (6, .ptr b5 0 0 5), (15, .bool false), (16, .str a1)] hS (by kernel_rfl) ?_; intro s hS
        obtain ⟨y4, hy4, h⟩ := bind_some h
        refine q_callF (a := []) (b := []) (xs := [.str a1]) rfl hS rfl rfl hy4 ?_; intro s hS
        refine q_seg 2 [(1, .str a1), (2, T.fn 64 [] [.ptr b2 0 0 1]), (3, .ptr b4 0 0 5), (6, .ptr b5 0 0 5), (19, .bool (!y4))] hS (by kernel_rfl) ?_; intro s hS
        refine x_nil ?_
        refine sq_n ?_
        by_cases hc3 : (!y4) = true
        · have h := it_pos hc3 h
          refine c_cond hS rfl (fun _ => ?_) (fun hf => ff_absurd hc3 hf)
          refine c_seq ?_
          refine c_region ?_
          refine q_seg 1 [(6, .ptr b5 0 0 5), (20, .agg [(Sl.t (⟨true, []⟩ : Sl ByteArray)), .int .i64 0, (Sl.t (⟨true, []⟩ : Sl ByteArray)), (Sl.t (⟨true, []⟩ : Sl DFile)), (Sl.t (⟨true, []⟩ : Sl ByteArray))])] hS (by kernel_rfl) ?_; intro s hS
          refine q_store (v := .agg [(Sl.t (⟨true, []⟩ : Sl ByteArray)), .int .i64 0, (Sl.t (⟨true, []⟩ : Sl ByteArray)), (Sl.t (⟨true, []⟩ : Sl DFile)), (Sl.t (⟨true, []⟩ : Sl ByteArray))]) (cs := [(Sl.t (⟨true, []⟩ : Sl ByteArray)), .int .i64 0, (Sl.t (⟨true, []⟩ : Sl ByteArray)), (Sl.t (⟨true, []⟩ : Sl DFile)), (Sl.t (⟨true, []⟩ : Sl ByteArray))]) (cells' := [(Sl.t (⟨true, []⟩ : Sl ByteArray)), .int .i64 0, (Sl.t (⟨true, []⟩ : Sl ByteArray)), (Sl.t (⟨true, []⟩ : Sl DFile)), (Sl.t (⟨true, []⟩ : Sl ByteArray))]) rfl hS hH rfl rfl rfl (by kernel_rfl) (by kernel_rfl) ?_; intro σ s hH hS
          refine q_seg 1 [(6, .ptr b5 0 0 5), (7, .int .i64 1)] hS (by kernel_rfl) ?_; intro s hS
          refine x_nil ?_
          refine sq_n ?_
          refine c_ret ?_
          refine sq_r ?_
          refine end_I (v := .tup [.agg [(Sl.t (⟨true, []⟩ : Sl ByteArray)), .int .i64 0, (Sl.t (⟨true, []⟩ : Sl ByteArray)), (Sl.t (⟨true, []⟩ : Sl DFile)), (Sl.t (⟨true, []⟩ : Sl ByteArray))], .int .i64 1]) (r_cell (v := .agg [(Sl.t (⟨true, []⟩ : Sl ByteArray)), .int .i64 0, (Sl.t (⟨true, []⟩ : Sl ByteArray)), (Sl.t (⟨true, []⟩ : Sl DFile)), (Sl.t (⟨true, []⟩ : Sl ByteArray))]) hS hH rfl (by kernel_rfl) (r_tmp (v := .int .i64 1) hS rfl r_nil)) rfl ?_; intro s hS
          injection h with h; subst h
          have hH := Heap.addNil hH true 1
          have hH := Heap.addNil hH true 1
          have hH := Heap.addNil hH true 4
          have hH := Heap.addNil hH true 1
          exact Exists.intro (T.row true 0 []) (And.intro ⟨rfl, rfl⟩ (Exists.intro (T.row true 0 []) (And.intro ⟨rfl, rfl⟩ (Exists.intro (T.row true 0 []) (And.intro ⟨rfl, rfl⟩ (Exists.intro (T.row true 0 []) (And.intro ⟨rfl, rfl⟩ (And.intro (sub_to hS (by kernel_rfl)) (Heap.sel hH [6, 3, 2, 1, 0] rfl (by kernel_rfl))))))))))
        · have h := it_neg hc3 h
          refine c_cond hS rfl (fun hf => tt_absurd hc3 hf) (fun _ => ?_)
          refine c_skip ?_
          refine sq_n ?_
          refine c_seq ?_
          refine c_region ?_
          refine q_load (v := .agg (DConsole.cells a0)) 1 trivial rfl hS hH rfl rfl (by kernel_rfl) ?_; intro s hS
          obtain ⟨y5, hy5, h⟩ := bind_some h
          refine q_callO (ents := []) (z := false) (ts := [.agg (DConsole.cells a0)]) (vs := [.agg (DConsole.cells a0)]) rfl rfl hS rfl rfl rfl hH (HL.agg (es1 := []) (es2 := []) (HL.leaf (fun σ d => hold_pure σ d _) (HL.leaf (fun σ d => hold_int _ σ d _ _) (HL.leaf (fun σ d => hold_pure σ d _) (HL.leaf (fun σ d => hold_pure σ d _) (HL.leaf (fun σ d => hold_pure σ d _) HL.nil))))) HL.nil) hy5 ?_; intro hs σ s hl hH hS
          obtain ⟨t5, t6, t7, t8, rfl⟩ := len4 hl
          have hH : Heap σ0 σ [.own true 1 t5 (Sl.t (y5.Input : Sl ByteArray)), .own true 1 t6 (Sl.t (y5.Output : Sl ByteArray)), .own true 4 t7 (Sl.t (y5.Files : Sl DFile)), .own true 1 t8 (Sl.t (y5.Trace : Sl ByteArray)), .box b5 [(Sl.t (⟨true, []⟩ : Sl ByteArray)), .int .i64 0, (Sl.t (⟨true, []⟩ : Sl ByteArray)), (Sl.t (⟨true, []⟩ : Sl DFile)), (Sl.t (⟨true, []⟩ : Sl ByteArray))], .box b4 [(Sl.t (a0.Input : Sl ByteArray)), .int .i64 a0.At, (Sl.t (a0.Output : Sl ByteArray)), (Sl.t (a0.Files : Sl DFile)), (Sl.t (a0.Trace : Sl ByteArray))], .box b3 [(Sl.t (⟨true, []⟩ : Sl ByteArray)), .int .i64 0, (Sl.t (⟨true, []⟩ : Sl ByteArray)), (Sl.t (⟨true, []⟩ : Sl DFile)), (Sl.t (⟨true, []⟩ : Sl ByteArray))], .box b2 [.str a2], .box b1 [(Sl.t (a0.Input : Sl ByteArray)), .int .i64 a0.At, (Sl.t (a0.Output : Sl ByteArray)), (Sl.t (a0.Files : Sl DFile)), (Sl.t (a0.Trace : Sl ByteArray))]] := hH
          have ht5 : IsOne t5 := Heap.one hH
          have ht6 : IsOne t6 := Heap.one (hH.at 1 rfl)
          have ht7 : IsOne t7 := Heap.one (hH.at 2 rfl)
          have ht8 : IsOne t8 := Heap.one (hH.at 3 rfl)
          refine q_alloc (z := [(Sl.t (⟨true, []⟩ : Sl ByteArray)), .int .i64 0, (Sl.t (⟨true, []⟩ : Sl ByteArray)), (Sl.t (⟨true, []⟩ : Sl DFile)), (Sl.t (⟨true, []⟩ : Sl ByteArray))]) rfl hS hH (by kernel_rfl) ?_; intro b6 σ s hH hS
          refine q_store (v := .agg [t5, .int .i64 y5.At, t6, t7, t8]) (cs := [t5, .int .i64 y5.At, t6, t7, t8]) (cells' := [t5, .int .i64 y5.At, t6, t7, t8]) rfl hS hH rfl rfl rfl (by simp [ht5.1, ht5.2, ht6.1, ht6.2, ht7.1, ht7.2, ht8.1, ht8.2]) (by kernel_rfl) ?_; intro σ s hH hS
          refine x_nil ?_
          refine sq_n ?_
          refine c_seq ?_
          refine c_region ?_
          refine q_seg 1 [(1, .str a1), (2, T.fn 64 [] [.ptr b2 0 0 1]), (6, .ptr b5 0 0 5), (8, .ptr b6 0 0 5), (24, .ptr b6 0 3 1)] hS (by kernel_rfl) ?_; intro s hS
          refine q_load (v := t7) 0 trivial rfl hS hH rfl rfl (by kernel_rfl) ?_; intro s hS
          refine q_seg 1 [(2, T.fn 64 [] [.ptr b2 0 0 1]), (6, .ptr b5 0 0 5), (8, .ptr b6 0 0 5), (25, t7), (26, .str a1)] hS (by kernel_rfl) ?_; intro s hS
          refine q_inl [t7, .str a1, T.fn 73 [] []] rfl hS rfl rfl rfl rfl rfl ok_72 rfl ?_; intro s hS
          have hS := sub_to (L' := [(0, t7), (1, .str a1), (2, T.fn 73 [] [])]) hS (by kernel_rfl)
          refine c_seq ?_
          refine c_region ?_
          refine q_box (v := T.fn 73 [] []) (cs := [T.fn 73 [] []]) rfl hS hH rfl rfl (by kernel_rfl) ?_; intro b7 σ s hH hS
          refine q_seg 2 [(0, t7), (1, .str a1), (5, .ptr b7 0 0 1)] hS (by kernel_rfl) ?_; intro s hS
          refine x_nil ?_
          refine sq_n ?_
          refine c_seq ?_
          refine c_region ?_
          refine q_seg 3 [(8, t7), (9, .str a1), (10, T.fn 105 [] [.ptr b7 0 0 1])] hS (by kernel_rfl) ?_; intro s hS
          refine q_inl [t7, .str a1, T.fn 105 [] [.ptr b7 0 0 1]] rfl hS rfl rfl rfl rfl rfl ok_104 rfl ?_; intro s hS
          have hS := sub_to (L' := [(0, t7), (1, .str a1), (2, T.fn 105 [] [.ptr b7 0 0 1])]) hS (by kernel_rfl)
          refine c_seq ?_
          refine c_region ?_
          refine q_seg 2 [(0, t7), (1, .str a1), (2, T.fn 105 [] [.ptr b7 0 0 1])] hS (by kernel_rfl) ?_; intro s hS
          refine x_nil ?_
          refine sq_n ?_
          refine c_seq ?_
          refine c_region ?_
          refine q_seg 1 [(0, t7), (1, .str a1), (2, T.fn 105 [] [.ptr b7 0 0 1]), (12, t7)] hS (by kernel_rfl) ?_; intro s hS
          have hH : Heap σ0 σ [.own true 4 t7 (Sl.t (y5.Files : Sl DFile)), .box b7 [T.fn 73 [] []], .box b6 [t5, .int .i64 y5.At, t6, t7, t8], .own true 1 t5 (Sl.t (y5.Input : Sl ByteArray)), .own true 1 t6 (Sl.t (y5.Output : Sl ByteArray)), .own true 1 t8 (Sl.t (y5.Trace : Sl ByteArray)), .box b5 [(Sl.t (⟨true, []⟩ : Sl ByteArray)), .int .i64 0, (Sl.t (⟨true, []⟩ : Sl ByteArray)), (Sl.t (⟨true, []⟩ : Sl DFile)), (Sl.t (⟨true, []⟩ : Sl ByteArray))], .box b4 [(Sl.t (a0.Input : Sl ByteArray)), .int .i64 a0.At, (Sl.t (a0.Output : Sl ByteArray)), (Sl.t (a0.Files : Sl DFile)), (Sl.t (a0.Trace : Sl ByteArray))], .box b3 [(Sl.t (⟨true, []⟩ : Sl ByteArray)), .int .i64 0, (Sl.t (⟨true, []⟩ : Sl ByteArray)), (Sl.t (⟨true, []⟩ : Sl DFile)), (Sl.t (⟨true, []⟩ : Sl ByteArray))], .box b2 [.str a2], .box b1 [(Sl.t (a0.Input : Sl ByteArray)), .int .i64 a0.At, (Sl.t (a0.Output : Sl ByteArray)), (Sl.t (a0.Files : Sl DFile)), (Sl.t (a0.Trace : Sl ByteArray))]] := hH.sel [4, 0, 1, 2, 3, 5, 6, 7, 8, 9, 10] rfl (by kernel_rfl)
          refine q_lenH (a := y5.Files) rfl hS hH rfl (by kernel_rfl) ?_; intro s hS
          refine q_seg 1 [(0, t7), (1, .str a1), (2, T.fn 105 [] [.ptr b7 0 0 1]), (8, .int .i64 (y5.Files.l.length : Int))] hS (by kernel_rfl) ?_; intro s hS
          refine x_nil ?_
          refine sq_n ?_
          refine c_seq ?_
          refine c_region ?_
          refine q_seg 3 [(0, t7), (1, .str a1), (2, T.fn 105 [] [.ptr b7 0 0 1]), (8, .int .i64 (y5.Files.l.length : Int)), (9, .int .i64 0), (10, .int .i64 (y5.Files.l.length : Int))] hS (by kernel_rfl) ?_; intro s hS
          refine x_nil ?_
          refine sq_n ?_
          refine c_seq ?_
          refine c_block ?_
          obtain ⟨y6, hy6, h⟩ := bind_some h
          refine c_loop (fun (st1 : (Int × Int)) (fr : Fr) => Sub [(0, t7), (1, .str a1), (2, T.fn 105 [] [.ptr b7 0 0 1]), (8, .int .i64 (y5.Files.l.length : Int)), (9, .int .i64 st1.1), (10, .int .i64 st1.2)] fr.s ∧ Heap σ0 fr.σ [.box b7 [T.fn 73 [] []], .box b6 [t5, .int .i64 y5.At, t6, t7, t8], .box b5 [(Sl.t (⟨true, []⟩ : Sl ByteArray)), .int .i64 0, (Sl.t (⟨true, []⟩ : Sl ByteArray)), (Sl.t (⟨true, []⟩ : Sl DFile)), (Sl.t (⟨true, []⟩ : Sl ByteArray))], .box b3 [(Sl.t (⟨true, []⟩ : Sl ByteArray)), .int .i64 0, (Sl.t (⟨true, []⟩ : Sl ByteArray)), (Sl.t (⟨true, []⟩ : Sl DFile)), (Sl.t (⟨true, []⟩ : Sl ByteArray))], .box b2 [.str a2], .own true 4 t7 (Sl.t (y5.Files : Sl DFile)), .own true 1 t5 (Sl.t (y5.Input : Sl ByteArray)), .own true 1 t6 (Sl.t (y5.Output : Sl ByteArray)), .own true 1 t8 (Sl.t (y5.Trace : Sl ByteArray))]) (fun (y6 : Int) (e : AExit) (fr : Fr) => e = (.exit 0) ∧ Sub [(0, t7), (1, .str a1), (2, T.fn 105 [] [.ptr b7 0 0 1]), (8, .int .i64 (y5.Files.l.length : Int)), (9, .int .i64 y6)] fr.s ∧ Heap σ0 fr.σ [.box b7 [T.fn 73 [] []], .box b6 [t5, .int .i64 y5.At, t6, t7, t8], .box b5 [(Sl.t (⟨true, []⟩ : Sl ByteArray)), .int .i64 0, (Sl.t (⟨true, []⟩ : Sl ByteArray)), (Sl.t (⟨true, []⟩ : Sl DFile)), (Sl.t (⟨true, []⟩ : Sl ByteArray))], .box b3 [(Sl.t (⟨true, []⟩ : Sl ByteArray)), .int .i64 0, (Sl.t (⟨true, []⟩ : Sl ByteArray)), (Sl.t (⟨true, []⟩ : Sl DFile)), (Sl.t (⟨true, []⟩ : Sl ByteArray))], .box b2 [.str a2], .own true 4 t7 (Sl.t (y5.Files : Sl DFile)), .own true 1 t5 (Sl.t (y5.Input : Sl ByteArray)), .own true 1 t6 (Sl.t (y5.Output : Sl ByteArray)), .own true 1 t8 (Sl.t (y5.Trace : Sl ByteArray))]) hy6 (And.intro (sub_to hS (by kernel_rfl)) (Heap.sel hH [1, 2, 6, 8, 9, 0, 3, 4, 5] rfl (by kernel_rfl))) ?_ ?_
          · clear h hy6 hS hH; clear y6; intro st1 x fr h HI; obtain ⟨s, σ⟩ := fr; obtain ⟨hS, hH⟩ := HI
            refine c_seq ?_
            refine c_seq ?_
            refine c_region ?_
            refine q_seg 3 [(0, t7), (1, .str a1), (2, T.fn 105 [] [.ptr b7 0 0 1]), (8, .int .i64 (y5.Files.l.length : Int)), (9, .int .i64 st1.1), (10, .int .i64 st1.2), (17, .bool (decide (st1.1 < st1.2)))] hS (by kernel_rfl) ?_; intro s hS
            refine x_nil ?_
            refine sq_n ?_
            by_cases hc4 : (decide (st1.1 < st1.2)) = true
            · have h := it_pos hc4 h
              refine c_cond hS rfl (fun _ => ?_) (fun hf => ff_absurd hc4 hf)
              refine c_skip ?_
              refine sq_n ?_
              refine c_block ?_
              refine c_seq ?_
              refine c_region ?_
              refine q_seg 7 [(0, t7), (1, .str a1), (2, T.fn 105 [] [.ptr b7 0 0 1]), (8, .int .i64 (y5.Files.l.length : Int)), (9, .int .i64 st1.1), (10, .int .i64 st1.2), (11, .int .i64 ((IntKind.i64.wrap (((IntKind.u64.wrap (IntKind.i64.wrap (st1.1 + st1.2))).fdiv (2 ^ 1))))))] hS (by kernel_rfl) ?_; intro s hS
              refine x_nil ?_
              refine sq_n ?_
              refine c_seq ?_
              refine c_region ?_
              refine q_seg 3 [(0, t7), (1, .str a1), (2, T.fn 105 [] [.ptr b7 0 0 1]), (8, .int .i64 (y5.Files.l.length : Int)), (9, .int .i64 st1.1), (10, .int .i64 st1.2), (11, .int .i64 ((IntKind.i64.wrap (((IntKind.u64.wrap (IntKind.i64.wrap (st1.1 + st1.2))).fdiv (2 ^ 1)))))), (24, T.fn 105 [] [.ptr b7 0 0 1]), (25, t7), (26, .int .i64 ((IntKind.i64.wrap (((IntKind.u64.wrap (IntKind.i64.wrap (st1.1 + st1.2))).fdiv (2 ^ 1))))))] hS (by kernel_rfl) ?_; intro s hS
              have hH : Heap σ0 σ [.own true 4 t7 (Sl.t (y5.Files : Sl DFile)), .box b7 [T.fn 73 [] []], .box b6 [t5, .int .i64 y5.At, t6, t7, t8], .box b5 [(Sl.t (⟨true, []⟩ : Sl ByteArray)), .int .i64 0, (Sl.t (⟨true, []⟩ : Sl ByteArray)), (Sl.t (⟨true, []⟩ : Sl DFile)), (Sl.t (⟨true, []⟩ : Sl ByteArray))], .box b3 [(Sl.t (⟨true, []⟩ : Sl ByteArray)), .int .i64 0, (Sl.t (⟨true, []⟩ : Sl ByteArray)), (Sl.t (⟨true, []⟩ : Sl DFile)), (Sl.t (⟨true, []⟩ : Sl ByteArray))], .box b2 [.str a2], .own true 1 t5 (Sl.t (y5.Input : Sl ByteArray)), .own true 1 t6 (Sl.t (y5.Output : Sl ByteArray)), .own true 1 t8 (Sl.t (y5.Trace : Sl ByteArray))] := hH.sel [5, 0, 1, 2, 3, 4, 6, 7, 8] rfl (by kernel_rfl)
              obtain ⟨y7, hy7, h⟩ := bind_some h
              refine q_hidx (a := y5.Files) (e := 52) (fun _ _ _ _ _ => trivial) rfl hS hH rfl rfl (by kernel_rfl) (by kernel_rfl) hy7 ?_; intro hb1 hb1e s hl_hb1 hS
              refine q_hlensS (a := y5.Files) (j := (IntKind.i64.wrap (((IntKind.u64.wrap (IntKind.i64.wrap (st1.1 + st1.2))).fdiv (2 ^ 1))))) (y := y7) (off := 1) (c := [.str y7.Name, (Sl.t (y7.Lines : Sl ByteArray)), .int .i64 y7.Mode, .int .i64 y7.At]) (q := (y7.Lines : Sl ByteArray)) (fun _ _ _ _ _ => trivial) rfl hS hH hl_hb1 rfl hy7 rfl (by kernel_rfl) (by kernel_rfl) rfl (by kernel_rfl) (by kernel_rfl) (by kernel_rfl) ?_; intro F1 σk1 t9 s ht9 hH hcl1 hcl1s hcl1p hcl1k hcl1f hS
              refine q_seg 1 [(0, t7), (1, .str a1), (2, T.fn 105 [] [.ptr b7 0 0 1]), (8, .int .i64 (y5.Files.l.length : Int)), (9, .int .i64 st1.1), (10, .int .i64 st1.2), (11, .int .i64 ((IntKind.i64.wrap (((IntKind.u64.wrap (IntKind.i64.wrap (st1.1 + st1.2))).fdiv (2 ^ 1)))))), (24, T.fn 105 [] [.ptr b7 0 0 1]), (28, .agg [.str y7.Name, t9, .int .i64 y7.Mode, .int .i64 y7.At]), (29, .str a1)] hS (by kernel_rfl) ?_; intro s hS
              refine q_inl [.agg [.str y7.Name, t9, .int .i64 y7.Mode, .int .i64 y7.At], .str a1, .ptr b7 0 0 1] rfl hS rfl rfl rfl rfl rfl ok_105 rfl ?_; intro s hS
              have hS := sub_to (L' := [(0, .agg [.str y7.Name, t9, .int .i64 y7.Mode, .int .i64 y7.At]), (1, .str a1), (2, .ptr b7 0 0 1)]) hS (by kernel_rfl)
              refine c_seq ?_
              refine c_region ?_
              refine q_box (v := .agg [.str y7.Name, t9, .int .i64 y7.Mode, .int .i64 y7.At]) (cs := [.str y7.Name, t9, .int .i64 y7.Mode, .int .i64 y7.At]) rfl hS hH rfl rfl (by simp [ht9.1, ht9.2]) ?_; intro b8 σ s hH hS
              refine q_seg 1 [(1, .str a1), (2, .ptr b7 0 0 1), (3, .ptr b8 0 0 4)] hS (by kernel_rfl) ?_; intro s hS
              refine x_nil ?_
              refine sq_n ?_
              refine c_seq ?_
              refine c_region ?_
              refine q_load (v := T.fn 73 [] []) 3 trivial rfl hS hH rfl rfl (by kernel_rfl) ?_; intro s hS
              refine q_load (v := .agg [.str y7.Name, t9, .int .i64 y7.Mode, .int .i64 y7.At]) 0 trivial rfl hS hH rfl rfl (by kernel_rfl) ?_; intro s hS
              obtain ⟨y8, hy8, h⟩ := bind_some h
              have hH : Heap σ0 σ [.own true 0 t9 (Sl.t (y7.Lines : Sl ByteArray)), .box b8 [.str y7.Name, t9, .int .i64 y7.Mode, .int .i64 y7.At], .keep F1 σk1, .box b7 [T.fn 73 [] []], .box b6 [t5, .int .i64 y5.At, t6, t7, t8], .box b5 [(Sl.t (⟨true, []⟩ : Sl ByteArray)), .int .i64 0, (Sl.t (⟨true, []⟩ : Sl ByteArray)), (Sl.t (⟨true, []⟩ : Sl DFile)), (Sl.t (⟨true, []⟩ : Sl ByteArray))], .box b3 [(Sl.t (⟨true, []⟩ : Sl ByteArray)), .int .i64 0, (Sl.t (⟨true, []⟩ : Sl ByteArray)), (Sl.t (⟨true, []⟩ : Sl DFile)), (Sl.t (⟨true, []⟩ : Sl ByteArray))], .box b2 [.str a2], .own true 1 t5 (Sl.t (y5.Input : Sl ByteArray)), .own true 1 t6 (Sl.t (y5.Output : Sl ByteArray)), .own true 1 t8 (Sl.t (y5.Trace : Sl ByteArray))] := hH.sel [1, 0, 2, 3, 4, 5, 6, 7, 8, 9, 10] rfl (by kernel_rfl)
              refine q_callH (ents := [.own true 0 t9 (Sl.t (y7.Lines : Sl ByteArray))]) (z := false) (ts := [.agg [.str y7.Name, t9, .int .i64 y7.Mode, .int .i64 y7.At]]) (vs := [.agg (DFile.cells y7)]) rfl hS rfl rfl rfl hH (HL.agg (es1 := [.own true 0 t9 (Sl.t (y7.Lines : Sl ByteArray))]) (es2 := []) (HL.leaf (fun σ d => hold_str _ σ d _) (HL.own rfl (HL.leaf (fun σ d => hold_int _ σ d _ _) (HL.leaf (fun σ d => hold_int _ σ d _ _) HL.nil)))) HL.nil) hy8 (by kernel_rfl) ?_; intro s hS
              refine q_seg 1 [(8, .str y8), (9, .str a1)] hS (by kernel_rfl) ?_; intro s hS
              obtain ⟨y9, hy9, h⟩ := bind_some h
              refine q_callF (a := []) (b := []) (xs := [.str y8, .str a1]) rfl hS rfl rfl hy9 ?_; intro s hS
              refine q_seg 1 [(5, .int .i64 y9)] hS (by kernel_rfl) ?_; intro s hS
              refine x_nil ?_
              refine sq_n ?_
              refine c_ret ?_
              refine end_I (v := .int .i64 y9) (r_tmp (v := .int .i64 y9) hS rfl r_nil) rfl ?_; intro s hS
              refine q_seg 1 [(0, t7), (1, .str a1), (2, T.fn 105 [] [.ptr b7 0 0 1]), (8, .int .i64 (y5.Files.l.length : Int)), (9, .int .i64 st1.1), (10, .int .i64 st1.2), (11, .int .i64 ((IntKind.i64.wrap (((IntKind.u64.wrap (IntKind.i64.wrap (st1.1 + st1.2))).fdiv (2 ^ 1)))))), (31, .bool (decide (y9 < 0)))] hS (by kernel_rfl) ?_; intro s hS
              have hH : Heap σ0 σ [.own true 0 t9 (Sl.t (y7.Lines : Sl ByteArray)), .keep F1 σk1, .box b8 [.str y7.Name, t9, .int .i64 y7.Mode, .int .i64 y7.At], .box b7 [T.fn 73 [] []], .box b6 [t5, .int .i64 y5.At, t6, t7, t8], .box b5 [(Sl.t (⟨true, []⟩ : Sl ByteArray)), .int .i64 0, (Sl.t (⟨true, []⟩ : Sl ByteArray)), (Sl.t (⟨true, []⟩ : Sl DFile)), (Sl.t (⟨true, []⟩ : Sl ByteArray))], .box b3 [(Sl.t (⟨true, []⟩ : Sl ByteArray)), .int .i64 0, (Sl.t (⟨true, []⟩ : Sl ByteArray)), (Sl.t (⟨true, []⟩ : Sl DFile)), (Sl.t (⟨true, []⟩ : Sl ByteArray))], .box b2 [.str a2], .own true 1 t5 (Sl.t (y5.Input : Sl ByteArray)), .own true 1 t6 (Sl.t (y5.Output : Sl ByteArray)), .own true 1 t8 (Sl.t (y5.Trace : Sl ByteArray))] := hH.sel [0, 2, 1, 3, 4, 5, 6, 7, 8, 9, 10] rfl (by kernel_rfl)
              have hH := hcl1s _ _ hH
              have hH : Heap σ0 σ [.own true 4 t7 (Sl.t (y5.Files : Sl DFile)), .box b8 [.str y7.Name, t9, .int .i64 y7.Mode, .int .i64 y7.At], .box b7 [T.fn 73 [] []], .box b6 [t5, .int .i64 y5.At, t6, t7, t8], .box b5 [(Sl.t (⟨true, []⟩ : Sl ByteArray)), .int .i64 0, (Sl.t (⟨true, []⟩ : Sl ByteArray)), (Sl.t (⟨true, []⟩ : Sl DFile)), (Sl.t (⟨true, []⟩ : Sl ByteArray))], .box b3 [(Sl.t (⟨true, []⟩ : Sl ByteArray)), .int .i64 0, (Sl.t (⟨true, []⟩ : Sl ByteArray)), (Sl.t (⟨true, []⟩ : Sl DFile)), (Sl.t (⟨true, []⟩ : Sl ByteArray))], .box b2 [.str a2], .own true 1 t5 (Sl.t (y5.Input : Sl ByteArray)), .own true 1 t6 (Sl.t (y5.Output : Sl ByteArray)), .own true 1 t8 (Sl.t (y5.Trace : Sl ByteArray))] := hH
              refine x_nil ?_
              refine sq_n ?_
              by_cases hc5 : (decide (y9 < 0)) = true
              · have h := it_pos hc5 h
                refine c_cond hS rfl (fun _ => ?_) (fun hf => ff_absurd hc5 hf)
                refine c_region ?_
                refine q_seg 3 [(0, t7), (1, .str a1), (2, T.fn 105 [] [.ptr b7 0 0 1]), (8, .int .i64 (y5.Files.l.length : Int)), (9, .int .i64 ((IntKind.i64.wrap ((IntKind.i64.wrap (((IntKind.u64.wrap (IntKind.i64.wrap (st1.1 + st1.2))).fdiv (2 ^ 1)))) + 1)))), (10, .int .i64 st1.2)] hS (by kernel_rfl) ?_; intro s hS
                refine x_nil ?_
                refine bk_n ?_
                injection h with h; subst h
                exact And.intro (sub_to hS (by kernel_rfl)) (Heap.sel hH [2, 3, 4, 5, 6, 0, 7, 8, 9] rfl (by kernel_rfl))
              · have h := it_neg hc5 h
                refine c_cond hS rfl (fun hf => tt_absurd hc5 hf) (fun _ => ?_)
                refine c_region ?_
                refine q_seg 2 [(0, t7), (1, .str a1), (2, T.fn 105 [] [.ptr b7 0 0 1]), (8, .int .i64 (y5.Files.l.length : Int)), (9, .int .i64 st1.1), (10, .int .i64 ((IntKind.i64.wrap (((IntKind.u64.wrap (IntKind.i64.wrap (st1.1 + st1.2))).fdiv (2 ^ 1))))))] hS (by kernel_rfl) ?_; intro s hS
                refine x_nil ?_
                refine bk_n ?_
                injection h with h; subst h
                exact And.intro (sub_to hS (by kernel_rfl)) (Heap.sel hH [2, 3, 4, 5, 6, 0, 7, 8, 9] rfl (by kernel_rfl))
            · have h := it_neg hc4 h
              refine c_cond hS rfl (fun hf => tt_absurd hc4 hf) (fun _ => ?_)
              refine c_exit ?_
              refine sq_x ?_
              injection h with h; subst h
              exact And.intro rfl (And.intro (sub_to hS (by kernel_rfl)) hH)
          · clear hS hH; intro e fr HF; obtain ⟨s, σ⟩ := fr
            obtain ⟨rfl, hS, hH⟩ := HF
            refine bk_e ?_
            refine sq_n ?_
            refine c_seq ?_
            refine c_region ?_
            refine q_seg 5 [(39, .bool (decide (y6 < (y5.Files.l.length : Int)))), (0, t7), (1, .str a1), (2, T.fn 105 [] [.ptr b7 0 0 1]), (9, .int .i64 y6), (35, .int .i64 y6)] hS (by kernel_rfl) ?_; intro s hS
            by_cases hc6 : (decide (y6 < (y5.Files.l.length : Int))) = true
            · have h := it_pos hc6 h
              have hS := sub_bt hS hc6
              refine q_seg 3 [(1, .str a1), (35, .int .i64 y6), (39, .bool true), (40, T.fn 105 [] [.ptr b7 0 0 1]), (41, t7), (42, .int .i64 y6)] hS (by kernel_rfl) ?_; intro s hS
              have hH : Heap σ0 σ [.own true 4 t7 (Sl.t (y5.Files : Sl DFile)), .box b7 [T.fn 73 [] []], .box b6 [t5, .int .i64 y5.At, t6, t7, t8], .box b5 [(Sl.t (⟨true, []⟩ : Sl ByteArray)), .int .i64 0, (Sl.t (⟨true, []⟩ : Sl ByteArray)), (Sl.t (⟨true, []⟩ : Sl DFile)), (Sl.t (⟨true, []⟩ : Sl ByteArray))], .box b3 [(Sl.t (⟨true, []⟩ : Sl ByteArray)), .int .i64 0, (Sl.t (⟨true, []⟩ : Sl ByteArray)), (Sl.t (⟨true, []⟩ : Sl DFile)), (Sl.t (⟨true, []⟩ : Sl ByteArray))], .box b2 [.str a2], .own true 1 t5 (Sl.t (y5.Input : Sl ByteArray)), .own true 1 t6 (Sl.t (y5.Output : Sl ByteArray)), .own true 1 t8 (Sl.t (y5.Trace : Sl ByteArray))] := hH.sel [5, 0, 1, 2, 3, 4, 6, 7, 8] rfl (by kernel_rfl)
              obtain ⟨y10, hy10, h⟩ := bind_some h
              refine q_hidx (a := y5.Files) (e := 52) (fun _ _ _ _ _ => trivial) rfl hS hH rfl rfl (by kernel_rfl) (by kernel_rfl) hy10 ?_; intro hb2 hb2e s hl_hb2 hS
              refine q_hlensS (a := y5.Files) (j := y6) (y := y10) (off := 1) (c := [.str y10.Name, (Sl.t (y10.Lines : Sl ByteArray)), .int .i64 y10.Mode, .int .i64 y10.At]) (q := (y10.Lines : Sl ByteArray)) (fun _ _ _ _ _ => trivial) rfl hS hH hl_hb2 rfl hy10 rfl (by kernel_rfl) (by kernel_rfl) rfl (by kernel_rfl) (by kernel_rfl) (by kernel_rfl) ?_; intro F2 σk2 t10 s ht10 hH hcl2 hcl2s hcl2p hcl2k hcl2f hS
              refine q_seg 1 [(35, .int .i64 y6), (39, .bool true), (40, T.fn 105 [] [.ptr b7 0 0 1]), (44, .agg [.str y10.Name, t10, .int .i64 y10.Mode, .int .i64 y10.At]), (45, .str a1)] hS (by kernel_rfl) ?_; intro s hS
              refine q_inl [.agg [.str y10.Name, t10, .int .i64 y10.Mode, .int .i64 y10.At], .str a1, .ptr b7 0 0 1] rfl hS rfl rfl rfl rfl rfl ok_105 rfl ?_; intro s hS
              have hS := sub_to (L' := [(0, .agg [.str y10.Name, t10, .int .i64 y10.Mode, .int .i64 y10.At]), (1, .str a1), (2, .ptr b7 0 0 1)]) hS (by kernel_rfl)
              refine c_seq ?_
              refine c_region ?_
              refine q_box (v := .agg [.str y10.Name, t10, .int .i64 y10.Mode, .int .i64 y10.At]) (cs := [.str y10.Name, t10, .int .i64 y10.Mode, .int .i64 y10.At]) rfl hS hH rfl rfl (by simp [ht10.1, ht10.2]) ?_; intro b9 σ s hH hS
              refine q_seg 1 [(1, .str a1), (2, .ptr b7 0 0 1), (3, .ptr b9 0 0 4)] hS (by kernel_rfl) ?_; intro s hS
              refine x_nil ?_
              refine sq_n ?_
              refine c_seq ?_
              refine c_region ?_
              refine q_load (v := T.fn 73 [] []) 3 trivial rfl hS hH rfl rfl (by kernel_rfl) ?_; intro s hS
              refine q_load (v := .agg [.str y10.Name, t10, .int .i64 y10.Mode, .int .i64 y10.At]) 0 trivial rfl hS hH rfl rfl (by kernel_rfl) ?_; intro s hS
              obtain ⟨y11, hy11, h⟩ := bind_some h
              have hH : Heap σ0 σ [.own true 0 t10 (Sl.t (y10.Lines : Sl ByteArray)), .box b9 [.str y10.Name, t10, .int .i64 y10.Mode, .int .i64 y10.At], .keep F2 σk2, .box b7 [T.fn 73 [] []], .box b6 [t5, .int .i64 y5.At, t6, t7, t8], .box b5 [(Sl.t (⟨true, []⟩ : Sl ByteArray)), .int .i64 0, (Sl.t (⟨true, []⟩ : Sl ByteArray)), (Sl.t (⟨true, []⟩ : Sl DFile)), (Sl.t (⟨true, []⟩ : Sl ByteArray))], .box b3 [(Sl.t (⟨true, []⟩ : Sl ByteArray)), .int .i64 0, (Sl.t (⟨true, []⟩ : Sl ByteArray)), (Sl.t (⟨true, []⟩ : Sl DFile)), (Sl.t (⟨true, []⟩ : Sl ByteArray))], .box b2 [.str a2], .own true 1 t5 (Sl.t (y5.Input : Sl ByteArray)), .own true 1 t6 (Sl.t (y5.Output : Sl ByteArray)), .own true 1 t8 (Sl.t (y5.Trace : Sl ByteArray))] := hH.sel [1, 0, 2, 3, 4, 5, 6, 7, 8, 9, 10] rfl (by kernel_rfl)
              refine q_callH (ents := [.own true 0 t10 (Sl.t (y10.Lines : Sl ByteArray))]) (z := false) (ts := [.agg [.str y10.Name, t10, .int .i64 y10.Mode, .int .i64 y10.At]]) (vs := [.agg (DFile.cells y10)]) rfl hS rfl rfl rfl hH (HL.agg (es1 := [.own true 0 t10 (Sl.t (y10.Lines : Sl ByteArray))]) (es2 := []) (HL.leaf (fun σ d => hold_str _ σ d _) (HL.own rfl (HL.leaf (fun σ d => hold_int _ σ d _ _) (HL.leaf (fun σ d => hold_int _ σ d _ _) HL.nil)))) HL.nil) hy11 (by kernel_rfl) ?_; intro s hS
              refine q_seg 1 [(8, .str y11), (9, .str a1)] hS (by kernel_rfl) ?_; intro s hS
              obtain ⟨y12, hy12, h⟩ := bind_some h
              refine q_callF (a := []) (b := []) (xs := [.str y11, .str a1]) rfl hS rfl rfl hy12 ?_; intro s hS
              refine q_seg 1 [(5, .int .i64 y12)] hS (by kernel_rfl) ?_; intro s hS
              refine x_nil ?_
              refine sq_n ?_
              refine c_ret ?_
              refine end_I (v := .int .i64 y12) (r_tmp (v := .int .i64 y12) hS rfl r_nil) rfl ?_; intro s hS
              refine q_seg 4 [(6, .int .i64 y6), (7, .bool (decide (y12 = 0)))] hS (by kernel_rfl) ?_; intro s hS
              have hH : Heap σ0 σ [.own true 0 t10 (Sl.t (y10.Lines : Sl ByteArray)), .keep F2 σk2, .box b9 [.str y10.Name, t10, .int .i64 y10.Mode, .int .i64 y10.At], .box b7 [T.fn 73 [] []], .box b6 [t5, .int .i64 y5.At, t6, t7, t8], .box b5 [(Sl.t (⟨true, []⟩ : Sl ByteArray)), .int .i64 0, (Sl.t (⟨true, []⟩ : Sl ByteArray)), (Sl.t (⟨true, []⟩ : Sl DFile)), (Sl.t (⟨true, []⟩ : Sl ByteArray))], .box b3 [(Sl.t (⟨true, []⟩ : Sl ByteArray)), .int .i64 0, (Sl.t (⟨true, []⟩ : Sl ByteArray)), (Sl.t (⟨true, []⟩ : Sl DFile)), (Sl.t (⟨true, []⟩ : Sl ByteArray))], .box b2 [.str a2], .own true 1 t5 (Sl.t (y5.Input : Sl ByteArray)), .own true 1 t6 (Sl.t (y5.Output : Sl ByteArray)), .own true 1 t8 (Sl.t (y5.Trace : Sl ByteArray))] := hH.sel [0, 2, 1, 3, 4, 5, 6, 7, 8, 9, 10] rfl (by kernel_rfl)
              have hH := hcl2s _ _ hH
              have hH : Heap σ0 σ [.own true 4 t7 (Sl.t (y5.Files : Sl DFile)), .box b9 [.str y10.Name, t10, .int .i64 y10.Mode, .int .i64 y10.At], .box b7 [T.fn 73 [] []], .box b6 [t5, .int .i64 y5.At, t6, t7, t8], .box b5 [(Sl.t (⟨true, []⟩ : Sl ByteArray)), .int .i64 0, (Sl.t (⟨true, []⟩ : Sl ByteArray)), (Sl.t (⟨true, []⟩ : Sl DFile)), (Sl.t (⟨true, []⟩ : Sl ByteArray))], .box b3 [(Sl.t (⟨true, []⟩ : Sl ByteArray)), .int .i64 0, (Sl.t (⟨true, []⟩ : Sl ByteArray)), (Sl.t (⟨true, []⟩ : Sl DFile)), (Sl.t (⟨true, []⟩ : Sl ByteArray))], .box b2 [.str a2], .own true 1 t5 (Sl.t (y5.Input : Sl ByteArray)), .own true 1 t6 (Sl.t (y5.Output : Sl ByteArray)), .own true 1 t8 (Sl.t (y5.Trace : Sl ByteArray))] := hH
              refine x_nil ?_
              refine sq_n ?_
              refine c_ret ?_
              refine end_I (v := .tup [.int .i64 y6, .bool (decide (y12 = 0))]) (r_tmp (v := .int .i64 y6) hS rfl (r_tmp (v := .bool (decide (y12 = 0))) hS rfl r_nil)) rfl ?_; intro s hS
              refine q_seg 4 [(6, .int .i64 y6), (7, .bool (decide (y12 = 0)))] hS (by kernel_rfl) ?_; intro s hS
              refine x_nil ?_
              refine sq_n ?_
              refine c_ret ?_
              refine end_I (v := .tup [.int .i64 y6, .bool (decide (y12 = 0))]) (r_tmp (v := .int .i64 y6) hS rfl (r_tmp (v := .bool (decide (y12 = 0))) hS rfl r_nil)) rfl ?_; intro s hS
              refine q_seg 5 [(2, T.fn 64 [] [.ptr b2 0 0 1]), (6, .ptr b5 0 0 5), (8, .ptr b6 0 0 5), (9, .int .i64 y6), (10, .bool (decide (y12 = 0)))] hS (by kernel_rfl) ?_; intro s hS
              refine x_nil ?_
              refine sq_n ?_
              refine c_seq ?_
              refine c_seq ?_
              refine c_region ?_
              refine q_seg 2 [(2, T.fn 64 [] [.ptr b2 0 0 1]), (6, .ptr b5 0 0 5), (8, .ptr b6 0 0 5), (9, .int .i64 y6), (31, .bool (!(decide (y12 = 0))))] hS (by kernel_rfl) ?_; intro s hS
              refine x_nil ?_
              refine sq_n ?_
              by_cases hc7 : (!(decide (y12 = 0))) = true
              · have h := it_pos hc7 h
                refine c_cond hS rfl (fun _ => ?_) (fun hf => ff_absurd hc7 hf)
                refine c_seq ?_
                refine c_region ?_
                refine q_seg 1 [(6, .ptr b5 0 0 5), (32, .agg [(Sl.t (⟨true, []⟩ : Sl ByteArray)), .int .i64 0, (Sl.t (⟨true, []⟩ : Sl ByteArray)), (Sl.t (⟨true, []⟩ : Sl DFile)), (Sl.t (⟨true, []⟩ : Sl ByteArray))])] hS (by kernel_rfl) ?_; intro s hS
                have hH : Heap σ0 σ [.box b5 [(Sl.t (⟨true, []⟩ : Sl ByteArray)), .int .i64 0, (Sl.t (⟨true, []⟩ : Sl ByteArray)), (Sl.t (⟨true, []⟩ : Sl DFile)), (Sl.t (⟨true, []⟩ : Sl ByteArray))], .own true 4 t7 (Sl.t (y5.Files : Sl DFile)), .box b9 [.str y10.Name, t10, .int .i64 y10.Mode, .int .i64 y10.At], .box b7 [T.fn 73 [] []], .box b6 [t5, .int .i64 y5.At, t6, t7, t8], .box b3 [(Sl.t (⟨true, []⟩ : Sl ByteArray)), .int .i64 0, (Sl.t (⟨true, []⟩ : Sl ByteArray)), (Sl.t (⟨true, []⟩ : Sl DFile)), (Sl.t (⟨true, []⟩ : Sl ByteArray))], .box b2 [.str a2], .own true 1 t5 (Sl.t (y5.Input : Sl ByteArray)), .own true 1 t6 (Sl.t (y5.Output : Sl ByteArray)), .own true 1 t8 (Sl.t (y5.Trace : Sl ByteArray))] := hH.sel [4, 0, 1, 2, 3, 5, 6, 7, 8, 9] rfl (by kernel_rfl)
                refine q_store (v := .agg [(Sl.t (⟨true, []⟩ : Sl ByteArray)), .int .i64 0, (Sl.t (⟨true, []⟩ : Sl ByteArray)), (Sl.t (⟨true, []⟩ : Sl DFile)), (Sl.t (⟨true, []⟩ : Sl ByteArray))]) (cs := [(Sl.t (⟨true, []⟩ : Sl ByteArray)), .int .i64 0, (Sl.t (⟨true, []⟩ : Sl ByteArray)), (Sl.t (⟨true, []⟩ : Sl DFile)), (Sl.t (⟨true, []⟩ : Sl ByteArray))]) (cells' := [(Sl.t (⟨true, []⟩ : Sl ByteArray)), .int .i64 0, (Sl.t (⟨true, []⟩ : Sl ByteArray)), (Sl.t (⟨true, []⟩ : Sl DFile)), (Sl.t (⟨true, []⟩ : Sl ByteArray))]) rfl hS hH rfl rfl rfl (by kernel_rfl) (by kernel_rfl) ?_; intro σ s hH hS
                refine q_seg 1 [(6, .ptr b5 0 0 5), (7, .int .i64 11)] hS (by kernel_rfl) ?_; intro s hS
                refine x_nil ?_
                refine sq_n ?_
                refine c_ret ?_
                refine sq_r ?_
                refine end_I (v := .tup [.agg [(Sl.t (⟨true, []⟩ : Sl ByteArray)), .int .i64 0, (Sl.t (⟨true, []⟩ : Sl ByteArray)), (Sl.t (⟨true, []⟩ : Sl DFile)), (Sl.t (⟨true, []⟩ : Sl ByteArray))], .int .i64 11]) (r_cell (v := .agg [(Sl.t (⟨true, []⟩ : Sl ByteArray)), .int .i64 0, (Sl.t (⟨true, []⟩ : Sl ByteArray)), (Sl.t (⟨true, []⟩ : Sl DFile)), (Sl.t (⟨true, []⟩ : Sl ByteArray))]) hS hH rfl (by kernel_rfl) (r_tmp (v := .int .i64 11) hS rfl r_nil)) rfl ?_; intro s hS
                injection h with h; subst h
                have hH := Heap.addNil hH true 1
                have hH := Heap.addNil hH true 1
                have hH := Heap.addNil hH true 4
                have hH := Heap.addNil hH true 1
                exact Exists.intro (T.row true 0 []) (And.intro ⟨rfl, rfl⟩ (Exists.intro (T.row true 0 []) (And.intro ⟨rfl, rfl⟩ (Exists.intro (T.row true 0 []) (And.intro ⟨rfl, rfl⟩ (Exists.intro (T.row true 0 []) (And.intro ⟨rfl, rfl⟩ (And.intro (sub_to hS (by kernel_rfl)) (Heap.sel hH [9, 3, 2, 1, 0] rfl (by kernel_rfl))))))))))
              · have h := it_neg hc7 h
                refine c_cond hS rfl (fun hf => tt_absurd hc7 hf) (fun _ => ?_)
                refine c_skip ?_
                refine sq_n ?_
                refine c_seq ?_
                refine c_seq ?_
                refine c_region ?_
                refine q_seg 2 [(6, .ptr b5 0 0 5), (8, .ptr b6 0 0 5), (9, .int .i64 y6), (33, T.fn 64 [] [.ptr b2 0 0 1]), (34, .ptr b6 0 3 1)] hS (by kernel_rfl) ?_; intro s hS
                refine q_load (v := t7) 3 trivial rfl hS hH rfl rfl (by kernel_rfl) ?_; intro s hS
                refine q_seg 1 [(6, .ptr b5 0 0 5), (8, .ptr b6 0 0 5), (33, T.fn 64 [] [.ptr b2 0 0 1]), (35, t7), (36, .int .i64 y6)] hS (by kernel_rfl) ?_; intro s hS
                obtain ⟨y13, hy13, h⟩ := bind_some h
                refine q_hidx (a := y5.Files) (e := 52) (fun _ _ _ _ _ => trivial) rfl hS hH rfl rfl (by kernel_rfl) (by kernel_rfl) hy13 ?_; intro hb3 hb3e s hl_hb3 hS
                obtain ⟨y14, hy14, h⟩ := bind_some h
                refine q_inlC (HF := fun s σ => Sub [(6, .ptr b5 0 0 5), (8, .ptr b6 0 0 5), (38, .int .i64 y14.1)] s ∧ Heap σ0 σ [.box b6 [t5, .int .i64 y5.At, t6, t7, t8], .box b5 [(Sl.t (⟨true, []⟩ : Sl ByteArray)), .int .i64 0, (Sl.t (⟨true, []⟩ : Sl ByteArray)), (Sl.t (⟨true, []⟩ : Sl DFile)), (Sl.t (⟨true, []⟩ : Sl ByteArray))], .box b3 [(Sl.t (⟨true, []⟩ : Sl ByteArray)), .int .i64 0, (Sl.t (⟨true, []⟩ : Sl ByteArray)), (Sl.t (⟨true, []⟩ : Sl DFile)), (Sl.t (⟨true, []⟩ : Sl ByteArray))], .own true 1 t5 (Sl.t (y5.Input : Sl ByteArray)), .own true 1 t6 (Sl.t (y5.Output : Sl ByteArray)), .own true 4 t7 (Sl.t (y14.2 : Sl DFile)), .own true 1 t8 (Sl.t (y5.Trace : Sl ByteArray))]) [.ptr hb3 hb3e (y6.toNat * Enc.w DFile) (Enc.w DFile), .ptr b2 0 0 1] rfl hS rfl rfl rfl rfl rfl ok_64 rfl ?_ ?_
                · clear h; have h := hy14; intro s hS
                  have hS := sub_to (L' := [(0, .ptr hb3 hb3e (y6.toNat * Enc.w DFile) (Enc.w DFile)), (1, .ptr b2 0 0 1)]) hS (by kernel_rfl)
                  refine c_seq ?_
                  refine c_region ?_
                  refine q_seg 1 [(0, .ptr hb3 hb3e (y6.toNat * Enc.w DFile) (Enc.w DFile)), (1, .ptr b2 0 0 1)] hS (by kernel_rfl) ?_; intro s hS
                  refine x_nil ?_
                  refine sq_n ?_
                  refine c_seq ?_
                  obtain ⟨y15, hy15, h⟩ := bind_some h
                  refine codeQ_mono (Q := fun e fr => e = .normal ∧ Sub [(0, .ptr hb3 hb3e (y6.toNat * Enc.w DFile) (Enc.w DFile)), (1, .ptr b2 0 0 1), (4, .bool y15)] fr.s ∧ Heap σ0 fr.σ [.box b6 [t5, .int .i64 y5.At, t6, t7, t8], .box b5 [(Sl.t (⟨true, []⟩ : Sl ByteArray)), .int .i64 0, (Sl.t (⟨true, []⟩ : Sl ByteArray)), (Sl.t (⟨true, []⟩ : Sl DFile)), (Sl.t (⟨true, []⟩ : Sl ByteArray))], .box b3 [(Sl.t (⟨true, []⟩ : Sl ByteArray)), .int .i64 0, (Sl.t (⟨true, []⟩ : Sl ByteArray)), (Sl.t (⟨true, []⟩ : Sl DFile)), (Sl.t (⟨true, []⟩ : Sl ByteArray))], .box b2 [.str a2], .own true 1 t5 (Sl.t (y5.Input : Sl ByteArray)), .own true 1 t6 (Sl.t (y5.Output : Sl ByteArray)), .own true 4 t7 (Sl.t (y5.Files : Sl DFile)), .own true 1 t8 (Sl.t (y5.Trace : Sl ByteArray))]) ?_ ?_
                  · intro e fr HF; obtain ⟨s, σ⟩ := fr
                    obtain ⟨rfl, hS, hH⟩ := HF
                    refine sq_n ?_
                    refine c_seq ?_
                    refine c_seq ?_
                    refine c_chain (fun _ => False) (fun _ => rfl) (by kernel_rfl) (by kernel_rfl) hH ?_; intro mb σs σ hn0 hlt hlto hH
                    have hlt_t7 : ∀ b e o n, t7 = .ref b e o n → b < mb ∧ ¬ (fun _ => False) b := fun b e o n h => ⟨hlto _ _ _ _ (List.Mem.tail _ (List.Mem.tail _ (List.Mem.tail _ (List.Mem.tail _ (List.Mem.tail _ (List.Mem.tail _ (List.Mem.head _))))))) b e o n h, fun h => h⟩
                    refine q_seg 1 [(0, .ptr hb3 hb3e (y6.toNat * Enc.w DFile) (Enc.w DFile)), (1, .ptr b2 0 0 1), (18, .bool y15)] hS (by kernel_rfl) ?_; intro s hS
                    obtain ⟨y16, hy16, h⟩ := bind_some h
                    refine q_callF (a := []) (b := []) (xs := [.bool y15, .int .i64 10]) rfl hS rfl rfl hy16 ?_; intro s hS
                    refine q_seg 3 [(0, .ptr hb3 hb3e (y6.toNat * Enc.w DFile) (Enc.w DFile)), (1, .ptr b2 0 0 1), (19, .int .i64 y16), (22, .ptr hb3 hb3e (y6.toNat * Enc.w DFile + 1) 1)] hS (by kernel_rfl) ?_; intro s hS
                    have hH : Heap σ0 σ [.own true 4 t7 (Sl.t (y5.Files : Sl DFile)), .box b6 [t5, .int .i64 y5.At, t6, t7, t8], .box b5 [(Sl.t (⟨true, []⟩ : Sl ByteArray)), .int .i64 0, (Sl.t (⟨true, []⟩ : Sl ByteArray)), (Sl.t (⟨true, []⟩ : Sl DFile)), (Sl.t (⟨true, []⟩ : Sl ByteArray))], .box b3 [(Sl.t (⟨true, []⟩ : Sl ByteArray)), .int .i64 0, (Sl.t (⟨true, []⟩ : Sl ByteArray)), (Sl.t (⟨true, []⟩ : Sl DFile)), (Sl.t (⟨true, []⟩ : Sl ByteArray))], .box b2 [.str a2], .own true 1 t5 (Sl.t (y5.Input : Sl ByteArray)), .own true 1 t6 (Sl.t (y5.Output : Sl ByteArray)), .own true 1 t8 (Sl.t (y5.Trace : Sl ByteArray))] := hH.sel [6, 0, 1, 2, 3, 4, 5, 7] rfl (by kernel_rfl)
                    refine q_hlens (a := y5.Files) (j := y6) (y := y13) (off := 1) (c := [.str y13.Name, (Sl.t (y13.Lines : Sl ByteArray)), .int .i64 y13.Mode, .int .i64 y13.At]) (q := (y13.Lines : Sl ByteArray)) (fun b e o n h => Or.inr (hlt_t7 b e o n h)) rfl hS hH hl_hb3 rfl hy13 rfl (by kernel_rfl) rfl rfl ?_; intro F3 σk3 t11 s ht11 hH hcl3 hcl3s hcl3p hcl3k hcl3f hS
                    refine q_lenH (a := y13.Lines) rfl hS hH rfl (by kernel_rfl) ?_; intro s hS
                    refine q_seg 1 [(0, .ptr hb3 hb3e (y6.toNat * Enc.w DFile) (Enc.w DFile)), (1, .ptr b2 0 0 1), (19, .int .i64 y16), (25, .bool (decide ((y13.Lines.l.length : Int) < 40)))] hS (by kernel_rfl) ?_; intro s hS
                    have hH := hcl3s _ _ hH
                    have hH : Heap σ0 σ [.own true 4 t7 (Sl.t (y5.Files : Sl DFile)), .box b6 [t5, .int .i64 y5.At, t6, t7, t8], .box b5 [(Sl.t (⟨true, []⟩ : Sl ByteArray)), .int .i64 0, (Sl.t (⟨true, []⟩ : Sl ByteArray)), (Sl.t (⟨true, []⟩ : Sl DFile)), (Sl.t (⟨true, []⟩ : Sl ByteArray))], .box b3 [(Sl.t (⟨true, []⟩ : Sl ByteArray)), .int .i64 0, (Sl.t (⟨true, []⟩ : Sl ByteArray)), (Sl.t (⟨true, []⟩ : Sl DFile)), (Sl.t (⟨true, []⟩ : Sl ByteArray))], .box b2 [.str a2], .own true 1 t5 (Sl.t (y5.Input : Sl ByteArray)), .own true 1 t6 (Sl.t (y5.Output : Sl ByteArray)), .own true 1 t8 (Sl.t (y5.Trace : Sl ByteArray))] := hH
                    obtain ⟨y17, hy17, h⟩ := bind_some h
                    refine q_callF (a := []) (b := []) (xs := [.bool (decide ((y13.Lines.l.length : Int) < 40)), .int .i64 6]) rfl hS rfl rfl hy17 ?_; intro s hS
                    refine q_bsC rfl (by exact hn0) (ents := []) (e := 2) (sz := 1) (z := true) (vs := [.int .i64 y16, .int .i64 y17]) (zc := [.int .i64 0]) (cs := [.int .i64 y16, .int .i64 y17]) (us := [.int .i64 y16, .int .i64 y17]) (v := Sl.t (⟨false, [⟨y16⟩, ⟨y17⟩]⟩ : Sl (Iv .i64))) rfl hS hH (by kernel_rfl) (by kernel_rfl) (by kernel_rfl) (by kernel_rfl) (by kernel_rfl) (And.intro (by kernel_rfl) (And.intro (by kernel_rfl) (And.intro (by kernel_rfl) (And.intro (by kernel_rfl) trivial)))) (by kernel_rfl) (HL.leaf (fun σ d => hold_int _ σ d _ _) (HL.leaf (fun σ d => hold_int _ σ d _ _) HL.nil)) (by kernel_rfl) ?_; intro t12 σ s ht12 hH hS
                    obtain ⟨y18, hy18, h⟩ := bind_some h
                    refine q_callH (ents := [.own true 1 t12 (Sl.t (⟨false, [⟨y16⟩, ⟨y17⟩]⟩ : Sl (Iv .i64)))]) (z := false) (ts := [t12]) (vs := [(Sl.t (⟨false, [⟨y16⟩, ⟨y17⟩]⟩ : Sl (Iv .i64)))]) rfl hS rfl rfl rfl hH (HL.own rfl HL.nil) hy18 (by kernel_rfl) ?_; intro s hS
                    refine q_seg 1 [(0, .ptr hb3 hb3e (y6.toNat * Enc.w DFile) (Enc.w DFile)), (1, .ptr b2 0 0 1), (5, .int .i64 y18)] hS (by kernel_rfl) ?_; intro s hS
                    refine x_nil ?_
                    refine sq_n ?_
                    refine c_seq ?_
                    refine c_region ?_
                    refine q_seg 2 [(0, .ptr hb3 hb3e (y6.toNat * Enc.w DFile) (Enc.w DFile)), (1, .ptr b2 0 0 1), (5, .int .i64 y18), (30, .bool (!decide (y18 = 0)))] hS (by kernel_rfl) ?_; intro s hS
                    refine x_nil ?_
                    refine sq_n ?_
                    by_cases hc8 : (!decide (y18 = 0)) = true
                    · have h := it_pos hc8 h
                      refine c_cond hS rfl (fun _ => ?_) (fun hf => ff_absurd hc8 hf)
                      refine c_seq ?_
                      refine c_region ?_
                      refine q_seg 2 [(3, .int .i64 y18)] hS (by kernel_rfl) ?_; intro s hS
                      refine x_nil ?_
                      refine sq_n ?_
                      refine c_ret ?_
                      refine sq_r ?_
                      refine end_I (v := .int .i64 y18) (r_tmp (v := .int .i64 y18) hS rfl r_nil) rfl ?_; intro s hS
                      injection h with h; subst h
                      exact And.intro (sub_to hS (by kernel_rfl)) (Heap.sel hH [2, 3, 4, 6, 7, 1, 8] rfl (by kernel_rfl))
                    · have h := it_neg hc8 h
                      refine c_cond hS rfl (fun hf => tt_absurd hc8 hf) (fun _ => ?_)
                      refine c_skip ?_
                      refine sq_n ?_
                      refine c_seq ?_
                      refine c_chain (fun _ => True) (fun _ => rfl) (by kernel_rfl) (by kernel_rfl) hH ?_; intro mb σs σ hn0 hlt hlto hH
                      refine q_seg 4 [(1, .ptr b2 0 0 1), (32, .ptr hb3 hb3e (y6.toNat * Enc.w DFile) (Enc.w DFile)), (35, .ptr hb3 hb3e (y6.toNat * Enc.w DFile + 1) 1)] hS (by kernel_rfl) ?_; intro s hS
                      have hH : Heap σ0 σ [.own true 4 t7 (Sl.t (y5.Files : Sl DFile)), .own true 1 t12 (Sl.t (⟨false, [⟨y16⟩, ⟨y17⟩]⟩ : Sl (Iv .i64))), .box b6 [t5, .int .i64 y5.At, t6, t7, t8], .box b5 [(Sl.t (⟨true, []⟩ : Sl ByteArray)), .int .i64 0, (Sl.t (⟨true, []⟩ : Sl ByteArray)), (Sl.t (⟨true, []⟩ : Sl DFile)), (Sl.t (⟨true, []⟩ : Sl ByteArray))], .box b3 [(Sl.t (⟨true, []⟩ : Sl ByteArray)), .int .i64 0, (Sl.t (⟨true, []⟩ : Sl ByteArray)), (Sl.t (⟨true, []⟩ : Sl DFile)), (Sl.t (⟨true, []⟩ : Sl ByteArray))], .box b2 [.str a2], .own true 1 t5 (Sl.t (y5.Input : Sl ByteArray)), .own true 1 t6 (Sl.t (y5.Output : Sl ByteArray)), .own true 1 t8 (Sl.t (y5.Trace : Sl ByteArray))] := hH.sel [1, 0, 2, 3, 4, 5, 6, 7, 8] rfl (by kernel_rfl)
                      refine q_hlens (a := y5.Files) (j := y6) (y := y13) (off := 1) (c := [.str y13.Name, (Sl.t (y13.Lines : Sl ByteArray)), .int .i64 y13.Mode, .int .i64 y13.At]) (q := (y13.Lines : Sl ByteArray)) (fun _ _ _ _ _ => Or.inl (by kernel_rfl)) rfl hS hH hl_hb3 rfl hy13 rfl (by kernel_rfl) rfl rfl ?_; intro F4 σk4 t13 s ht13 hH hcl4 hcl4s hcl4p hcl4k hcl4f hS
                      refine q_load (v := .str a2) 6 (Or.inl (by kernel_rfl)) rfl hS hH rfl rfl (by kernel_rfl) ?_; intro s hS
                      refine q_bsC rfl (by exact hn0) (ents := []) (e := 9) (sz := 1) (z := true) (vs := [.str a2]) (zc := [.str ⟨#[]⟩]) (cs := [.str a2]) (us := [.str a2]) (v := Sl.t (⟨false, [a2]⟩ : Sl ByteArray)) rfl hS hH (by kernel_rfl) (by kernel_rfl) (by kernel_rfl) (by kernel_rfl) (by kernel_rfl) (And.intro (by kernel_rfl) (And.intro (by kernel_rfl) trivial)) (by kernel_rfl) (HL.leaf (fun σ d => hold_str _ σ d _) HL.nil) (by kernel_rfl) ?_; intro t14 σ s ht14 hH hS
                      have hH : Heap σ0 σ [.own true 0 t13 (Sl.t (y13.Lines : Sl ByteArray)), .own true 1 t14 (Sl.t (⟨false, [a2]⟩ : Sl ByteArray)), .keep F4 σk4, .own true 1 t12 (Sl.t (⟨false, [⟨y16⟩, ⟨y17⟩]⟩ : Sl (Iv .i64))), .box b6 [t5, .int .i64 y5.At, t6, t7, t8], .box b5 [(Sl.t (⟨true, []⟩ : Sl ByteArray)), .int .i64 0, (Sl.t (⟨true, []⟩ : Sl ByteArray)), (Sl.t (⟨true, []⟩ : Sl DFile)), (Sl.t (⟨true, []⟩ : Sl ByteArray))], .box b3 [(Sl.t (⟨true, []⟩ : Sl ByteArray)), .int .i64 0, (Sl.t (⟨true, []⟩ : Sl ByteArray)), (Sl.t (⟨true, []⟩ : Sl DFile)), (Sl.t (⟨true, []⟩ : Sl ByteArray))], .box b2 [.str a2], .own true 1 t5 (Sl.t (y5.Input : Sl ByteArray)), .own true 1 t6 (Sl.t (y5.Output : Sl ByteArray)), .own true 1 t8 (Sl.t (y5.Trace : Sl ByteArray))] := hH.sel [1, 0, 2, 3, 4, 5, 6, 7, 8, 9, 10] rfl (by kernel_rfl)
                      have hH := Heap.width (a := y13.Lines) hH
                      have hH : Heap σ0 σ [.own true 1 t13 (Sl.t (y13.Lines : Sl ByteArray)), .own true 1 t14 (Sl.t (⟨false, [a2]⟩ : Sl ByteArray)), .keep F4 σk4, .own true 1 t12 (Sl.t (⟨false, [⟨y16⟩, ⟨y17⟩]⟩ : Sl (Iv .i64))), .box b6 [t5, .int .i64 y5.At, t6, t7, t8], .box b5 [(Sl.t (⟨true, []⟩ : Sl ByteArray)), .int .i64 0, (Sl.t (⟨true, []⟩ : Sl ByteArray)), (Sl.t (⟨true, []⟩ : Sl DFile)), (Sl.t (⟨true, []⟩ : Sl ByteArray))], .box b3 [(Sl.t (⟨true, []⟩ : Sl ByteArray)), .int .i64 0, (Sl.t (⟨true, []⟩ : Sl ByteArray)), (Sl.t (⟨true, []⟩ : Sl DFile)), (Sl.t (⟨true, []⟩ : Sl ByteArray))], .box b2 [.str a2], .own true 1 t5 (Sl.t (y5.Input : Sl ByteArray)), .own true 1 t6 (Sl.t (y5.Output : Sl ByteArray)), .own true 1 t8 (Sl.t (y5.Trace : Sl ByteArray))] := hH
                      obtain ⟨y19, hy19, h⟩ := bind_some h
                      refine q_appC rfl (by exact hn0) (z := true) (t1 := t13) (a := y13.Lines) (b := (⟨false, [a2]⟩ : Sl ByteArray)) (e := 9) (by_ := 16) (zc := [.str ⟨#[]⟩]) (by exact fun _ _ _ _ _ => Or.inr trivial) rfl hS hH rfl rfl (by kernel_rfl) (by kernel_rfl) (by kernel_rfl) (by kernel_rfl) (by kernel_rfl) (by kernel_rfl) hy19 ?_; intro t15 σ s ht15 hH hS
                      refine q_seg 2 [(39, t15), (41, .ptr hb3 hb3e (y6.toNat * Enc.w DFile + 1) 1)] hS (by kernel_rfl) ?_; intro s hS
                      refine q_hlstore (a := y5.Files) (j := y6) (off := 1) (c := [.str y13.Name, (Sl.t (y13.Lines : Sl ByteArray)), .int .i64 y13.Mode, .int .i64 y13.At]) (q2 := y19) rfl ((⟨y13.Name, y19, y13.Mode, y13.At⟩ : DFile) : DFile) (by exact Or.inr trivial) rfl hS hcl4p hH rfl rfl ht15 (by kernel_rfl) (by kernel_rfl) rfl ?_; intro σ s hH hS
                      have hH : Heap σ0 σ [.own true 4 t7 (Sl.t ((setS y5.Files y6 ((⟨y13.Name, y19, y13.Mode, y13.At⟩ : DFile) : DFile)) : Sl DFile)), .own true 1 t12 (Sl.t (⟨false, [⟨y16⟩, ⟨y17⟩]⟩ : Sl (Iv .i64))), .box b6 [t5, .int .i64 y5.At, t6, t7, t8], .box b5 [(Sl.t (⟨true, []⟩ : Sl ByteArray)), .int .i64 0, (Sl.t (⟨true, []⟩ : Sl ByteArray)), (Sl.t (⟨true, []⟩ : Sl DFile)), (Sl.t (⟨true, []⟩ : Sl ByteArray))], .box b3 [(Sl.t (⟨true, []⟩ : Sl ByteArray)), .int .i64 0, (Sl.t (⟨true, []⟩ : Sl ByteArray)), (Sl.t (⟨true, []⟩ : Sl DFile)), (Sl.t (⟨true, []⟩ : Sl ByteArray))], .box b2 [.str a2], .own true 1 t5 (Sl.t (y5.Input : Sl ByteArray)), .own true 1 t6 (Sl.t (y5.Output : Sl ByteArray)), .own true 1 t8 (Sl.t (y5.Trace : Sl ByteArray))] := hH
                      refine x_nil ?_
                      refine sq_n ?_
                      refine c_seq ?_
                      refine c_region ?_
                      refine q_seg 1 [(3, .int .i64 0)] hS (by kernel_rfl) ?_; intro s hS
                      refine x_nil ?_
                      refine sq_n ?_
                      refine c_ret ?_
                      refine end_I (v := .int .i64 0) (r_tmp (v := .int .i64 0) hS rfl r_nil) rfl ?_; intro s hS
                      injection h with h; subst h
                      exact And.intro (sub_to hS (by kernel_rfl)) (Heap.sel hH [2, 3, 4, 6, 7, 0, 8] rfl (by kernel_rfl))
                  · clear h; have h := hy15
                    refine c_region ?_
                    refine q_seg 3 [(0, .ptr hb3 hb3e (y6.toNat * Enc.w DFile) (Enc.w DFile)), (1, .ptr b2 0 0 1), (8, .ptr hb3 hb3e (y6.toNat * Enc.w DFile + 2) 1)] hS (by kernel_rfl) ?_; intro s hS
                    refine q_hload (a := y5.Files) (j := y6) (y := y13) (off := 2) (c := [.str y13.Name, (Sl.t (y13.Lines : Sl ByteArray)), .int .i64 y13.Mode, .int .i64 y13.At]) (v := .int .i64 y13.Mode) (fun _ _ _ _ _ => trivial) rfl hS hH hl_hb3 rfl hy13 rfl (by kernel_rfl) rfl rfl leaf_int ?_; intro s hS
                    refine q_seg 2 [(11, .bool (decide (y13.Mode = 2))), (0, .ptr hb3 hb3e (y6.toNat * Enc.w DFile) (Enc.w DFile)), (1, .ptr b2 0 0 1)] hS (by kernel_rfl) ?_; intro s hS
                    by_cases hc9 : (decide (y13.Mode = 2)) = true
                    · have h := it_pos hc9 h
                      have hS := sub_bt hS hc9
                      refine q_seg 7 [(0, .ptr hb3 hb3e (y6.toNat * Enc.w DFile) (Enc.w DFile)), (1, .ptr b2 0 0 1), (4, .bool true)] hS (by kernel_rfl) ?_; intro s hS
                      refine x_nil ?_
                      injection h with h; subst h
                      exact And.intro rfl (And.intro (sub_to hS (by kernel_rfl)) (Heap.sel hH [3, 4, 5, 6, 7, 8, 0, 9] rfl (by kernel_rfl)))
                    · have h := it_neg hc9 h
                      have hS := sub_bt hS (tt_of hc9)
                      refine q_seg 3 [(0, .ptr hb3 hb3e (y6.toNat * Enc.w DFile) (Enc.w DFile)), (1, .ptr b2 0 0 1), (11, .bool false), (14, .ptr hb3 hb3e (y6.toNat * Enc.w DFile + 2) 1)] hS (by kernel_rfl) ?_; intro s hS
                      refine q_hload (a := y5.Files) (j := y6) (y := y13) (off := 2) (c := [.str y13.Name, (Sl.t (y13.Lines : Sl ByteArray)), .int .i64 y13.Mode, .int .i64 y13.At]) (v := .int .i64 y13.Mode) (fun _ _ _ _ _ => trivial) rfl hS hH hl_hb3 rfl hy13 rfl (by kernel_rfl) rfl rfl leaf_int ?_; intro s hS
                      refine q_seg 3 [(0, .ptr hb3 hb3e (y6.toNat * Enc.w DFile) (Enc.w DFile)), (1, .ptr b2 0 0 1), (4, .bool (decide (y13.Mode = 3)))] hS (by kernel_rfl) ?_; intro s hS
                      refine x_nil ?_
                      injection h with h; subst h
                      exact And.intro rfl (And.intro (sub_to hS (by kernel_rfl)) (Heap.sel hH [3, 4, 5, 6, 7, 8, 0, 9] rfl (by kernel_rfl)))
                · intro s σ HF; obtain ⟨hS, hH⟩ := HF
                  refine q_seg 1 [(6, .ptr b5 0 0 5), (8, .ptr b6 0 0 5), (11, .int .i64 y14.1)] hS (by kernel_rfl) ?_; intro s hS
                  refine x_nil ?_
                  refine sq_n ?_
                  refine c_seq ?_
                  refine c_region ?_
                  refine q_seg 2 [(6, .ptr b5 0 0 5), (8, .ptr b6 0 0 5), (11, .int .i64 y14.1), (40, .bool (!decide (y14.1 = 0)))] hS (by kernel_rfl) ?_; intro s hS
                  refine x_nil ?_
                  refine sq_n ?_
                  by_cases hc10 : (!decide (y14.1 = 0)) = true
                  · have h := it_pos hc10 h
                    refine c_cond hS rfl (fun _ => ?_) (fun hf => ff_absurd hc10 hf)
                    refine c_seq ?_
                    refine c_region ?_
                    refine q_seg 2 [(6, .ptr b5 0 0 5), (41, .agg [(Sl.t (⟨true, []⟩ : Sl ByteArray)), .int .i64 0, (Sl.t (⟨true, []⟩ : Sl ByteArray)), (Sl.t (⟨true, []⟩ : Sl DFile)), (Sl.t (⟨true, []⟩ : Sl ByteArray))]), (42, .int .i64 y14.1)] hS (by kernel_rfl) ?_; intro s hS
                    have hH : Heap σ0 σ [.box b5 [(Sl.t (⟨true, []⟩ : Sl ByteArray)), .int .i64 0, (Sl.t (⟨true, []⟩ : Sl ByteArray)), (Sl.t (⟨true, []⟩ : Sl DFile)), (Sl.t (⟨true, []⟩ : Sl ByteArray))], .box b6 [t5, .int .i64 y5.At, t6, t7, t8], .box b3 [(Sl.t (⟨true, []⟩ : Sl ByteArray)), .int .i64 0, (Sl.t (⟨true, []⟩ : Sl ByteArray)), (Sl.t (⟨true, []⟩ : Sl DFile)), (Sl.t (⟨true, []⟩ : Sl ByteArray))], .own true 1 t5 (Sl.t (y5.Input : Sl ByteArray)), .own true 1 t6 (Sl.t (y5.Output : Sl ByteArray)), .own true 4 t7 (Sl.t (y14.2 : Sl DFile)), .own true 1 t8 (Sl.t (y5.Trace : Sl ByteArray))] := hH.sel [1, 0, 2, 3, 4, 5, 6] rfl (by kernel_rfl)
                    refine q_store (v := .agg [(Sl.t (⟨true, []⟩ : Sl ByteArray)), .int .i64 0, (Sl.t (⟨true, []⟩ : Sl ByteArray)), (Sl.t (⟨true, []⟩ : Sl DFile)), (Sl.t (⟨true, []⟩ : Sl ByteArray))]) (cs := [(Sl.t (⟨true, []⟩ : Sl ByteArray)), .int .i64 0, (Sl.t (⟨true, []⟩ : Sl ByteArray)), (Sl.t (⟨true, []⟩ : Sl DFile)), (Sl.t (⟨true, []⟩ : Sl ByteArray))]) (cells' := [(Sl.t (⟨true, []⟩ : Sl ByteArray)), .int .i64 0, (Sl.t (⟨true, []⟩ : Sl ByteArray)), (Sl.t (⟨true, []⟩ : Sl DFile)), (Sl.t (⟨true, []⟩ : Sl ByteArray))]) rfl hS hH rfl rfl rfl (by kernel_rfl) (by kernel_rfl) ?_; intro σ s hH hS
                    refine q_seg 1 [(6, .ptr b5 0 0 5), (7, .int .i64 y14.1)] hS (by kernel_rfl) ?_; intro s hS
                    refine x_nil ?_
                    refine sq_n ?_
                    refine c_ret ?_
                    refine sq_r ?_
                    refine end_I (v := .tup [.agg [(Sl.t (⟨true, []⟩ : Sl ByteArray)), .int .i64 0, (Sl.t (⟨true, []⟩ : Sl ByteArray)), (Sl.t (⟨true, []⟩ : Sl DFile)), (Sl.t (⟨true, []⟩ : Sl ByteArray))], .int .i64 y14.1]) (r_cell (v := .agg [(Sl.t (⟨true, []⟩ : Sl ByteArray)), .int .i64 0, (Sl.t (⟨true, []⟩ : Sl ByteArray)), (Sl.t (⟨true, []⟩ : Sl DFile)), (Sl.t (⟨true, []⟩ : Sl ByteArray))]) hS hH rfl (by kernel_rfl) (r_tmp (v := .int .i64 y14.1) hS rfl r_nil)) rfl ?_; intro s hS
                    injection h with h; subst h
                    have hH := Heap.addNil hH true 1
                    have hH := Heap.addNil hH true 1
                    have hH := Heap.addNil hH true 4
                    have hH := Heap.addNil hH true 1
                    exact Exists.intro (T.row true 0 []) (And.intro ⟨rfl, rfl⟩ (Exists.intro (T.row true 0 []) (And.intro ⟨rfl, rfl⟩ (Exists.intro (T.row true 0 []) (And.intro ⟨rfl, rfl⟩ (Exists.intro (T.row true 0 []) (And.intro ⟨rfl, rfl⟩ (And.intro (sub_to hS (by kernel_rfl)) (Heap.sel hH [6, 3, 2, 1, 0] rfl (by kernel_rfl))))))))))
                  · have h := it_neg hc10 h
                    refine c_cond hS rfl (fun hf => tt_absurd hc10 hf) (fun _ => ?_)
                    refine c_skip ?_
                    refine sq_n ?_
                    refine c_seq ?_
                    refine c_region ?_
                    refine q_load (v := .agg [t5, .int .i64 y5.At, t6, t7, t8]) 0 trivial rfl hS hH rfl rfl (by kernel_rfl) ?_; intro s hS
                    have hH : Heap σ0 σ [.box b5 [(Sl.t (⟨true, []⟩ : Sl ByteArray)), .int .i64 0, (Sl.t (⟨true, []⟩ : Sl ByteArray)), (Sl.t (⟨true, []⟩ : Sl DFile)), (Sl.t (⟨true, []⟩ : Sl ByteArray))], .box b6 [t5, .int .i64 y5.At, t6, t7, t8], .box b3 [(Sl.t (⟨true, []⟩ : Sl ByteArray)), .int .i64 0, (Sl.t (⟨true, []⟩ : Sl ByteArray)), (Sl.t (⟨true, []⟩ : Sl DFile)), (Sl.t (⟨true, []⟩ : Sl ByteArray))], .own true 1 t5 (Sl.t (y5.Input : Sl ByteArray)), .own true 1 t6 (Sl.t (y5.Output : Sl ByteArray)), .own true 4 t7 (Sl.t (y14.2 : Sl DFile)), .own true 1 t8 (Sl.t (y5.Trace : Sl ByteArray))] := hH.sel [1, 0, 2, 3, 4, 5, 6] rfl (by kernel_rfl)
                    refine q_store (v := .agg [t5, .int .i64 y5.At, t6, t7, t8]) (cs := [t5, .int .i64 y5.At, t6, t7, t8]) (cells' := [t5, .int .i64 y5.At, t6, t7, t8]) rfl hS hH rfl rfl rfl (by simp [ht5.1, ht5.2, ht6.1, ht6.2, ht7.1, ht7.2, ht8.1, ht8.2]) (by kernel_rfl) ?_; intro σ s hH hS
                    refine q_seg 1 [(6, .ptr b5 0 0 5), (7, .int .i64 0)] hS (by kernel_rfl) ?_; intro s hS
                    refine x_nil ?_
                    refine sq_n ?_
                    refine c_ret ?_
                    refine end_I (v := .tup [.agg [t5, .int .i64 y5.At, t6, t7, t8], .int .i64 0]) (r_cell (v := .agg [t5, .int .i64 y5.At, t6, t7, t8]) hS hH rfl (by kernel_rfl) (r_tmp (v := .int .i64 0) hS rfl r_nil)) rfl ?_; intro s hS
                    injection h with h; subst h
                    exact Exists.intro t5 (And.intro ht5 (Exists.intro t6 (And.intro ht6 (Exists.intro t7 (And.intro ht7 (Exists.intro t8 (And.intro ht8 (And.intro (sub_to hS (by kernel_rfl)) (Heap.sel hH [2, 3, 4, 5, 6] rfl (by kernel_rfl))))))))))
            · have h := it_neg hc6 h
              have hS := sub_bt hS (tt_of hc6)
              refine q_seg 11 [(6, .int .i64 y6), (7, .bool false)] hS (by kernel_rfl) ?_; intro s hS
              refine x_nil ?_
              refine sq_n ?_
              refine c_ret ?_
              refine end_I (v := .tup [.int .i64 y6, .bool false]) (r_tmp (v := .int .i64 y6) hS rfl (r_tmp (v := .bool false) hS rfl r_nil)) rfl ?_; intro s hS
              refine q_seg 4 [(6, .int .i64 y6), (7, .bool false)] hS (by kernel_rfl) ?_; intro s hS
              refine x_nil ?_
              refine sq_n ?_
              refine c_ret ?_
              refine end_I (v := .tup [.int .i64 y6, .bool false]) (r_tmp (v := .int .i64 y6) hS rfl (r_tmp (v := .bool false) hS rfl r_nil)) rfl ?_; intro s hS
              refine q_seg 5 [(2, T.fn 64 [] [.ptr b2 0 0 1]), (6, .ptr b5 0 0 5), (8, .ptr b6 0 0 5), (9, .int .i64 y6), (10, .bool false)] hS (by kernel_rfl) ?_; intro s hS
              refine x_nil ?_
              refine sq_n ?_
              refine c_seq ?_
              refine c_seq ?_
              refine c_region ?_
              refine q_seg 2 [(2, T.fn 64 [] [.ptr b2 0 0 1]), (6, .ptr b5 0 0 5), (8, .ptr b6 0 0 5), (9, .int .i64 y6), (31, .bool true)] hS (by kernel_rfl) ?_; intro s hS
              refine x_nil ?_
              refine sq_n ?_
              refine c_cond (t := true) hS rfl (fun _ => ?_) (fun hf => by cases hf)
              refine c_seq ?_
              refine c_region ?_
              refine q_seg 1 [(6, .ptr b5 0 0 5), (32, .agg [(Sl.t (⟨true, []⟩ : Sl ByteArray)), .int .i64 0, (Sl.t (⟨true, []⟩ : Sl ByteArray)), (Sl.t (⟨true, []⟩ : Sl DFile)), (Sl.t (⟨true, []⟩ : Sl ByteArray))])] hS (by kernel_rfl) ?_; intro s hS
              have hH : Heap σ0 σ [.box b5 [(Sl.t (⟨true, []⟩ : Sl ByteArray)), .int .i64 0, (Sl.t (⟨true, []⟩ : Sl ByteArray)), (Sl.t (⟨true, []⟩ : Sl DFile)), (Sl.t (⟨true, []⟩ : Sl ByteArray))], .box b7 [T.fn 73 [] []], .box b6 [t5, .int .i64 y5.At, t6, t7, t8], .box b3 [(Sl.t (⟨true, []⟩ : Sl ByteArray)), .int .i64 0, (Sl.t (⟨true, []⟩ : Sl ByteArray)), (Sl.t (⟨true, []⟩ : Sl DFile)), (Sl.t (⟨true, []⟩ : Sl ByteArray))], .box b2 [.str a2], .own true 4 t7 (Sl.t (y5.Files : Sl DFile)), .own true 1 t5 (Sl.t (y5.Input : Sl ByteArray)), .own true 1 t6 (Sl.t (y5.Output : Sl ByteArray)), .own true 1 t8 (Sl.t (y5.Trace : Sl ByteArray))] := hH.sel [2, 0, 1, 3, 4, 5, 6, 7, 8] rfl (by kernel_rfl)
              refine q_store (v := .agg [(Sl.t (⟨true, []⟩ : Sl ByteArray)), .int .i64 0, (Sl.t (⟨true, []⟩ : Sl ByteArray)), (Sl.t (⟨true, []⟩ : Sl DFile)), (Sl.t (⟨true, []⟩ : Sl ByteArray))]) (cs := [(Sl.t (⟨true, []⟩ : Sl ByteArray)), .int .i64 0, (Sl.t (⟨true, []⟩ : Sl ByteArray)), (Sl.t (⟨true, []⟩ : Sl DFile)), (Sl.t (⟨true, []⟩ : Sl ByteArray))]) (cells' := [(Sl.t (⟨true, []⟩ : Sl ByteArray)), .int .i64 0, (Sl.t (⟨true, []⟩ : Sl ByteArray)), (Sl.t (⟨true, []⟩ : Sl DFile)), (Sl.t (⟨true, []⟩ : Sl ByteArray))]) rfl hS hH rfl rfl rfl (by kernel_rfl) (by kernel_rfl) ?_; intro σ s hH hS
              refine q_seg 1 [(6, .ptr b5 0 0 5), (7, .int .i64 11)] hS (by kernel_rfl) ?_; intro s hS
              refine x_nil ?_
              refine sq_n ?_
              refine c_ret ?_
              refine sq_r ?_
              refine end_I (v := .tup [.agg [(Sl.t (⟨true, []⟩ : Sl ByteArray)), .int .i64 0, (Sl.t (⟨true, []⟩ : Sl ByteArray)), (Sl.t (⟨true, []⟩ : Sl DFile)), (Sl.t (⟨true, []⟩ : Sl ByteArray))], .int .i64 11]) (r_cell (v := .agg [(Sl.t (⟨true, []⟩ : Sl ByteArray)), .int .i64 0, (Sl.t (⟨true, []⟩ : Sl ByteArray)), (Sl.t (⟨true, []⟩ : Sl DFile)), (Sl.t (⟨true, []⟩ : Sl ByteArray))]) hS hH rfl (by kernel_rfl) (r_tmp (v := .int .i64 11) hS rfl r_nil)) rfl ?_; intro s hS
              injection h with h; subst h
              have hH := Heap.addNil hH true 1
              have hH := Heap.addNil hH true 1
              have hH := Heap.addNil hH true 4
              have hH := Heap.addNil hH true 1
              exact Exists.intro (T.row true 0 []) (And.intro ⟨rfl, rfl⟩ (Exists.intro (T.row true 0 []) (And.intro ⟨rfl, rfl⟩ (Exists.intro (T.row true 0 []) (And.intro ⟨rfl, rfl⟩ (Exists.intro (T.row true 0 []) (And.intro ⟨rfl, rfl⟩ (And.intro (sub_to hS (by kernel_rfl)) (Heap.sel hH [7, 3, 2, 1, 0] rfl (by kernel_rfl))))))))))
    · intro s σ HF; obtain ⟨t1, ht1, ⟨t2, ht2, ⟨t3, ht3, ⟨t4, ht4, ⟨hS, hH⟩⟩⟩⟩⟩ := HF
      refine q_seg 2 [(6, .ptr b3 0 0 5), (16, .agg [t1, .int .i64 y2.1, t2, t3, t4]), (17, .int .i64 y2.2.1)] hS (by kernel_rfl) ?_; intro s hS
      refine q_store (v := .agg [t1, .int .i64 y2.1, t2, t3, t4]) (cs := [t1, .int .i64 y2.1, t2, t3, t4]) (cells' := [t1, .int .i64 y2.1, t2, t3, t4]) rfl hS hH rfl rfl rfl (by simp [ht1.1, ht1.2, ht2.1, ht2.2, ht3.1, ht3.2, ht4.1, ht4.2]) (by kernel_rfl) ?_; intro σ s hH hS
      refine q_seg 1 [(6, .ptr b3 0 0 5), (7, .int .i64 y2.2.1)] hS (by kernel_rfl) ?_; intro s hS
      refine x_nil ?_
      refine sq_n ?_
      refine c_ret ?_
      injection h with h; subst h
      have hH : Heap σ0 σ [.own true 1 t1 (Sl.t (y2.2.2.1 : Sl ByteArray)), .own true 1 t2 (Sl.t (y2.2.2.2.1 : Sl ByteArray)), .own true 4 t3 (Sl.t (y2.2.2.2.2.1 : Sl DFile)), .own true 1 t4 (Sl.t (y2.2.2.2.2.2 : Sl ByteArray)), .box b3 [t1, .int .i64 y2.1, t2, t3, t4]] := hH.sel [1, 2, 3, 4, 0] rfl (by kernel_rfl)
      exact end_Ow [t1, t2, t3, t4] [.box b3 [t1, .int .i64 y2.1, t2, t3, t4]] (r_cell (v := .agg [t1, .int .i64 y2.1, t2, t3, t4]) hS (hH.at 4 rfl) rfl (by kernel_rfl) (r_tmp (v := .int .i64 y2.2.1) hS rfl r_nil)) (by kernel_rfl) rfl hH (by kernel_rfl)
end Go.Am
end
