/- Functions of the program. -/
import Derived.Test.YtibhahlikgiegaaAd0
import Derived.Test.YtibhahlikgiegaaAg0
section
set_option maxRecDepth 100000
set_option maxHeartbeats 4000000
set_option linter.unusedVariables false
set_option linter.unusedSimpArgs false
namespace Go.Am
open Go.Proofs
noncomputable def B_laws_FnExactWriteFile (a0 : DConsole) (a1 : ByteArray) (a2 : ByteArray) : Option Bool := (if (decide (1048576 < (a1.size : Int))) = true then (some true) else (if (decide (1048576 < (a2.size : Int))) = true then (some true) else ((F_laws_szConsole a0 1048576).bind fun y1 => (if (decide (y1 < 0)) = true then (some true) else ((F_laws_toConsole a0).bind fun y2 => ((F_spec_WriteFile y2 a1 a2).bind fun y3 => ((F_laws_toConsole a0).bind fun y4 => ((F_impl_WriteFile y4 a1 a2).bind fun y5 => ((F_laws_eqConsole y5.1 y3.1).bind fun y6 => (if (!y6) = true then (some false) else (if (!decide (y5.2 = y3.2)) = true then (some false) else ((F_laws_toConsole a0).bind fun y7 => ((F_laws_eqConsole y4 y7).bind fun y8 => (if (!y8) = true then (some false) else ((B_laws_markConsole y4 1).bind fun y9 => (if (decide (y9.1 < 0)) = true then (some false) else ((F_laws_eqConsole y5.1 y3.1).bind fun y10 => (if (!y10) = true then (some false) else ((B_laws_markConsole y5.1 1).bind fun y11 => ((F_laws_heldConsole (⟨y11.2.Input, y5.1.At, y11.2.Output, y11.2.Files, y11.2.Trace⟩ : DConsole) 1).bind fun y12 => (if (decide (y12 < 0)) = true then (some false) else (if (!decide (y12 = y11.1)) = true then (some false) else ((F_laws_toConsole a0).bind fun y13 => ((F_impl_WriteFile y13 a1 a2).bind fun y14 => ((F_laws_eqConsole y14.1 y3.1).bind fun y15 => (if (!y15) = true then (some false) else (if (!decide (y14.2 = y3.2)) = true then (some false) else ((F_laws_heldConsole (⟨y11.2.Input, y5.1.At, y11.2.Output, y11.2.Files, y11.2.Trace⟩ : DConsole) 1).bind fun y16 => (if (decide (y16 < 0)) = true then (some false) else (if (!decide (y16 = y11.1)) = true then (some false) else (some true)))))))))))))))))))))))))))))))
theorem u_laws_FnExactWriteFile (a0 : DConsole) (a1 : ByteArray) (a2 : ByteArray) (r : Bool) (h : B_laws_FnExactWriteFile a0 a1 a2 = some r) : F_laws_FnExactWriteFile a0 a1 a2 = some r := by
  unfold B_laws_FnExactWriteFile at h
  refine semW_of E_bool_inj rfl rfl ok_9 rfl (all_cons (by kernel_rfl) (all_cons (by kernel_rfl) (all_cons (by kernel_rfl) all_nil))) ?_
  intro σ0 s hS hH
  have hS := sub_to (L' := [(0, .agg (DConsole.cells a0)), (1, .str a1), (2, .str a2)]) hS (by kernel_rfl)
  refine c_seq ?_
  refine c_region ?_
  refine q_box (v := .agg (DConsole.cells a0)) (cs := [(Sl.t (a0.Input : Sl ByteArray)), .int .i64 a0.At, (Sl.t (a0.Output : Sl ByteArray)), (Sl.t (a0.Files : Sl DFile)), (Sl.t (a0.Trace : Sl ByteArray))]) rfl hS hH rfl rfl (by kernel_rfl) ?_; intro b1 σ s hH hS
  refine q_seg 1 [(1, .str a1), (2, .str a2), (3, .ptr b1 0 0 5)] hS (by kernel_rfl) ?_; intro s hS
  refine x_nil ?_
  refine sq_n ?_
  refine c_seq ?_
  refine c_seq ?_
  refine c_region ?_
  refine q_seg 3 [(1, .str a1), (2, .str a2), (3, .ptr b1 0 0 5), (20, .bool (decide (1048576 < (a1.size : Int))))] hS (by kernel_rfl) ?_; intro s hS
  refine x_nil ?_
  refine sq_n ?_
  by_cases hc1 : (decide (1048576 < (a1.size : Int))) = true
  · have h := it_pos hc1 h
    refine c_cond hS rfl (fun _ => ?_) (fun hf => ff_absurd hc1 hf)
    refine c_seq ?_
    refine c_region ?_
    refine q_seg 1 [(6, .bool true)] hS (by kernel_rfl) ?_; intro s hS
    refine x_nil ?_
    refine sq_n ?_
    refine c_ret ?_
    refine sq_r ?_
    injection h with h; subst h
    exact end_W hH (r_tmp (v := .bool true) hS rfl r_nil) rfl (by kernel_rfl) (by simp [pureT, pureL, E_bool])
  · have h := it_neg hc1 h
    refine c_cond hS rfl (fun hf => tt_absurd hc1 hf) (fun _ => ?_)
    refine c_skip ?_
    refine sq_n ?_
    refine c_seq ?_
    refine c_seq ?_
    refine c_region ?_
    refine q_seg 3 [(1, .str a1), (2, .str a2), (3, .ptr b1 0 0 5), (23, .bool (decide (1048576 < (a2.size : Int))))] hS (by kernel_rfl) ?_; intro s hS
    refine x_nil ?_
    refine sq_n ?_
    by_cases hc2 : (decide (1048576 < (a2.size : Int))) = true
    · have h := it_pos hc2 h
      refine c_cond hS rfl (fun _ => ?_) (fun hf => ff_absurd hc2 hf)
      refine c_seq ?_
      refine c_region ?_
      refine q_seg 1 [(6, .bool true)] hS (by kernel_rfl) ?_; intro s hS
      refine x_nil ?_
      refine sq_n ?_
      refine c_ret ?_
      refine sq_r ?_
      injection h with h; subst h
      exact end_W hH (r_tmp (v := .bool true) hS rfl r_nil) rfl (by kernel_rfl) (by simp [pureT, pureL, E_bool])
    · have h := it_neg hc2 h
      refine c_cond hS rfl (fun hf => tt_absurd hc2 hf) (fun _ => ?_)
      refine c_skip ?_
      refine sq_n ?_
      refine c_seq ?_
      refine c_region ?_
      refine q_seg 1 [(1, .str a1), (2, .str a2), (3, .ptr b1 0 0 5), (7, .int .i64 1048576)] hS (by kernel_rfl) ?_; intro s hS
      refine x_nil ?_
      refine sq_n ?_
      refine c_seq ?_
      refine c_region ?_
      refine q_load (v := .agg (DConsole.cells a0)) 0 trivial rfl hS hH rfl rfl (by kernel_rfl) ?_; intro s hS
      refine q_seg 1 [(1, .str a1), (2, .str a2), (3, .ptr b1 0 0 5), (24, .agg (DConsole.cells a0)), (25, .int .i64 1048576)] hS (by kernel_rfl) ?_; intro s hS
      obtain ⟨y1, hy1, h⟩ := bind_some h
      refine q_callF (a := []) (b := []) (xs := [.agg (DConsole.cells a0), .int .i64 1048576]) rfl hS rfl rfl hy1 ?_; intro s hS
      refine q_seg 1 [(1, .str a1), (2, .str a2), (3, .ptr b1 0 0 5), (7, .int .i64 y1)] hS (by kernel_rfl) ?_; intro s hS
      refine x_nil ?_
      refine sq_n ?_
      refine c_seq ?_
      refine c_seq ?_
      refine c_region ?_
      refine q_seg 2 [(1, .str a1), (2, .str a2), (3, .ptr b1 0 0 5), (28, .bool (decide (y1 < 0)))] hS (by kernel_rfl) ?_; intro s hS
      refine x_nil ?_
      refine sq_n ?_
      by_cases hc3 : (decide (y1 < 0)) = true
      · have h := it_pos hc3 h
        refine c_cond hS rfl (fun _ => ?_) (fun hf => ff_absurd hc3 hf)
        refine c_seq ?_
        refine c_region ?_
        refine q_seg 1 [(6, .bool true)] hS (by kernel_rfl) ?_; intro s hS
        refine x_nil ?_
        refine sq_n ?_
        refine c_ret ?_
        refine sq_r ?_
        injection h with h; subst h
        exact end_W hH (r_tmp (v := .bool true) hS rfl r_nil) rfl (by kernel_rfl) (by simp [pureT, pureL, E_bool])
      · have h := it_neg hc3 h
        refine c_cond hS rfl (fun hf => tt_absurd hc3 hf) (fun _ => ?_)
        refine c_skip ?_
        refine sq_n ?_
        refine c_seq ?_
        refine c_region ?_
        refine q_load (v := .agg (DConsole.cells a0)) 0 trivial rfl hS hH rfl rfl (by kernel_rfl) ?_; intro s hS
        obtain ⟨y2, hy2, h⟩ := bind_some h
        refine q_callO (ents := []) (z := false) (ts := [.agg (DConsole.cells a0)]) (vs := [.agg (DConsole.cells a0)]) rfl rfl hS rfl rfl rfl hH (HL.agg (es1 := []) (es2 := []) (HL.leaf (fun σ d => hold_pure σ d _) (HL.leaf (fun σ d => hold_int _ σ d _ _) (HL.leaf (fun σ d => hold_pure σ d _) (HL.leaf (fun σ d => hold_pure σ d _) (HL.leaf (fun σ d => hold_pure σ d _) HL.nil))))) HL.nil) hy2 ?_; intro hs σ s hl hH hS
        obtain ⟨t1, t2, t3, t4, rfl⟩ := len4 hl
        have hH : Heap σ0 σ [.own true 1 t1 (Sl.t (y2.Input : Sl ByteArray)), .own true 1 t2 (Sl.t (y2.Output : Sl ByteArray)), .own true 4 t3 (Sl.t (y2.Files : Sl DFile)), .own true 1 t4 (Sl.t (y2.Trace : Sl ByteArray)), .box b1 [(Sl.t (a0.Input : Sl ByteArray)), .int .i64 a0.At, (Sl.t (a0.Output : Sl ByteArray)), (Sl.t (a0.Files : Sl DFile)), (Sl.t (a0.Trace : Sl ByteArray))]] := hH
        have ht1 : IsOne t1 := Heap.one hH
        have ht2 : IsOne t2 := Heap.one (hH.at 1 rfl)
        have ht3 : IsOne t3 := Heap.one (hH.at 2 rfl)
        have ht4 : IsOne t4 := Heap.one (hH.at 3 rfl)
        refine q_seg 2 [(1, .str a1), (2, .str a2), (3, .ptr b1 0 0 5), (31, .agg [t1, .int .i64 y2.At, t2, t3, t4]), (32, .str a1), (33, .str a2)] hS (by kernel_rfl) ?_; intro s hS
        obtain ⟨y3, hy3, h⟩ := bind_some h
        refine q_callO (ents := [.own true 1 t1 (Sl.t (y2.Input : Sl ByteArray)), .own true 1 t2 (Sl.t (y2.Output : Sl ByteArray)), .own true 4 t3 (Sl.t (y2.Files : Sl DFile)), .own true 1 t4 (Sl.t (y2.Trace : Sl ByteArray))]) (z := false) (ts := [.agg [t1, .int .i64 y2.At, t2, t3, t4], .str a1, .str a2]) (vs := [.agg (DConsole.cells y2), .str a1, .str a2]) rfl rfl hS rfl rfl rfl hH (HL.agg (es1 := [.own true 1 t1 (Sl.t (y2.Input : Sl ByteArray)), .own true 1 t2 (Sl.t (y2.Output : Sl ByteArray)), .own true 4 t3 (Sl.t (y2.Files : Sl DFile)), .own true 1 t4 (Sl.t (y2.Trace : Sl ByteArray))]) (es2 := []) (HL.own rfl (HL.leaf (fun σ d => hold_int _ σ d _ _) (HL.own rfl (HL.own rfl (HL.own rfl HL.nil))))) (HL.leaf (fun σ d => hold_str _ σ d _) (HL.leaf (fun σ d => hold_str _ σ d _) HL.nil))) hy3 ?_; intro hs σ s hl hH hS
        obtain ⟨t5, t6, t7, t8, rfl⟩ := len4 hl
        have hH : Heap σ0 σ [.own true 1 t5 (Sl.t (y3.1.Input : Sl ByteArray)), .own true 1 t6 (Sl.t (y3.1.Output : Sl ByteArray)), .own true 4 t7 (Sl.t (y3.1.Files : Sl DFile)), .own true 1 t8 (Sl.t (y3.1.Trace : Sl ByteArray)), .own true 1 t1 (Sl.t (y2.Input : Sl ByteArray)), .own true 1 t2 (Sl.t (y2.Output : Sl ByteArray)), .own true 4 t3 (Sl.t (y2.Files : Sl DFile)), .own true 1 t4 (Sl.t (y2.Trace : Sl ByteArray)), .box b1 [(Sl.t (a0.Input : Sl ByteArray)), .int .i64 a0.At, (Sl.t (a0.Output : Sl ByteArray)), (Sl.t (a0.Files : Sl DFile)), (Sl.t (a0.Trace : Sl ByteArray))]] := hH
        have ht5 : IsOne t5 := Heap.one hH
        have ht6 : IsOne t6 := Heap.one (hH.at 1 rfl)
        have ht7 : IsOne t7 := Heap.one (hH.at 2 rfl)
        have ht8 : IsOne t8 := Heap.one (hH.at 3 rfl)
        refine q_seg 3 [(1, .str a1), (2, .str a2), (3, .ptr b1 0 0 5), (35, .agg [t5, .int .i64 y3.1.At, t6, t7, t8]), (36, .int .i64 y3.2)] hS (by kernel_rfl) ?_; intro s hS
        refine q_alloc (z := [(Sl.t (⟨true, []⟩ : Sl ByteArray)), .int .i64 0, (Sl.t (⟨true, []⟩ : Sl ByteArray)), (Sl.t (⟨true, []⟩ : Sl DFile)), (Sl.t (⟨true, []⟩ : Sl ByteArray))]) rfl hS hH (by kernel_rfl) ?_; intro b2 σ s hH hS
        refine q_store (v := .agg [t5, .int .i64 y3.1.At, t6, t7, t8]) (cs := [t5, .int .i64 y3.1.At, t6, t7, t8]) (cells' := [t5, .int .i64 y3.1.At, t6, t7, t8]) rfl hS hH rfl rfl rfl (by simp [ht5.1, ht5.2, ht6.1, ht6.2, ht7.1, ht7.2, ht8.1, ht8.2]) (by kernel_rfl) ?_; intro σ s hH hS
        refine q_seg 1 [(1, .str a1), (2, .str a2), (3, .ptr b1 0 0 5), (8, .ptr b2 0 0 5), (9, .int .i64 y3.2)] hS (by kernel_rfl) ?_; intro s hS
        refine x_nil ?_
        refine sq_n ?_
        refine c_seq ?_
        refine c_region ?_
        refine q_load (v := .agg (DConsole.cells a0)) 9 trivial rfl hS hH rfl rfl (by kernel_rfl) ?_; intro s hS
        obtain ⟨y4, hy4, h⟩ := bind_some h
        refine q_callO (ents := []) (z := false) (ts := [.agg (DConsole.cells a0)]) (vs := [.agg (DConsole.cells a0)]) rfl rfl hS rfl rfl rfl hH (HL.agg (es1 := []) (es2 := []) (HL.leaf (fun σ d => hold_pure σ d _) (HL.leaf (fun σ d => hold_int _ σ d _ _) (HL.leaf (fun σ d => hold_pure σ d _) (HL.leaf (fun σ d => hold_pure σ d _) (HL.leaf (fun σ d => hold_pure σ d _) HL.nil))))) HL.nil) hy4 ?_; intro hs σ s hl hH hS
        obtain ⟨t9, t10, t11, t12, rfl⟩ := len4 hl
        have hH : Heap σ0 σ [.own true 1 t9 (Sl.t (y4.Input : Sl ByteArray)), .own true 1 t10 (Sl.t (y4.Output : Sl ByteArray)), .own true 4 t11 (Sl.t (y4.Files : Sl DFile)), .own true 1 t12 (Sl.t (y4.Trace : Sl ByteArray)), .box b2 [t5, .int .i64 y3.1.At, t6, t7, t8], .own true 1 t5 (Sl.t (y3.1.Input : Sl ByteArray)), .own true 1 t6 (Sl.t (y3.1.Output : Sl ByteArray)), .own true 4 t7 (Sl.t (y3.1.Files : Sl DFile)), .own true 1 t8 (Sl.t (y3.1.Trace : Sl ByteArray)), .own true 1 t1 (Sl.t (y2.Input : Sl ByteArray)), .own true 1 t2 (Sl.t (y2.Output : Sl ByteArray)), .own true 4 t3 (Sl.t (y2.Files : Sl DFile)), .own true 1 t4 (Sl.t (y2.Trace : Sl ByteArray)), .box b1 [(Sl.t (a0.Input : Sl ByteArray)), .int .i64 a0.At, (Sl.t (a0.Output : Sl ByteArray)), (Sl.t (a0.Files : Sl DFile)), (Sl.t (a0.Trace : Sl ByteArray))]] := hH
        have ht9 : IsOne t9 := Heap.one hH
        have ht10 : IsOne t10 := Heap.one (hH.at 1 rfl)
        have ht11 : IsOne t11 := Heap.one (hH.at 2 rfl)
        have ht12 : IsOne t12 := Heap.one (hH.at 3 rfl)
        refine q_alloc (z := [(Sl.t (⟨true, []⟩ : Sl ByteArray)), .int .i64 0, (Sl.t (⟨true, []⟩ : Sl ByteArray)), (Sl.t (⟨true, []⟩ : Sl DFile)), (Sl.t (⟨true, []⟩ : Sl ByteArray))]) rfl hS hH (by kernel_rfl) ?_; intro b3 σ s hH hS
        refine q_store (v := .agg [t9, .int .i64 y4.At, t10, t11, t12]) (cs := [t9, .int .i64 y4.At, t10, t11, t12]) (cells' := [t9, .int .i64 y4.At, t10, t11, t12]) rfl hS hH rfl rfl rfl (by simp [ht10.1, ht10.2, ht11.1, ht11.2, ht12.1, ht12.2, ht9.1, ht9.2]) (by kernel_rfl) ?_; intro σ s hH hS
        refine x_nil ?_
        refine sq_n ?_
        refine c_seq ?_
        refine c_region ?_
        refine q_load (v := .agg [t9, .int .i64 y4.At, t10, t11, t12]) 0 trivial rfl hS hH rfl rfl (by kernel_rfl) ?_; intro s hS
        refine q_seg 2 [(1, .str a1), (2, .str a2), (3, .ptr b1 0 0 5), (8, .ptr b2 0 0 5), (9, .int .i64 y3.2), (10, .ptr b3 0 0 5), (40, .agg [t9, .int .i64 y4.At, t10, t11, t12]), (41, .str a1), (42, .str a2)] hS (by kernel_rfl) ?_; intro s hS
        obtain ⟨y5, hy5, h⟩ := bind_some h
        have hH : Heap σ0 σ [.own true 1 t9 (Sl.t (y4.Input : Sl ByteArray)), .own true 1 t10 (Sl.t (y4.Output : Sl ByteArray)), .own true 4 t11 (Sl.t (y4.Files : Sl DFile)), .own true 1 t12 (Sl.t (y4.Trace : Sl ByteArray)), .box b3 [t9, .int .i64 y4.At, t10, t11, t12], .box b2 [t5, .int .i64 y3.1.At, t6, t7, t8], .own true 1 t5 (Sl.t (y3.1.Input : Sl ByteArray)), .own true 1 t6 (Sl.t (y3.1.Output : Sl ByteArray)), .own true 4 t7 (Sl.t (y3.1.Files : Sl DFile)), .own true 1 t8 (Sl.t (y3.1.Trace : Sl ByteArray)), .own true 1 t1 (Sl.t (y2.Input : Sl ByteArray)), .own true 1 t2 (Sl.t (y2.Output : Sl ByteArray)), .own true 4 t3 (Sl.t (y2.Files : Sl DFile)), .own true 1 t4 (Sl.t (y2.Trace : Sl ByteArray)), .box b1 [(Sl.t (a0.Input : Sl ByteArray)), .int .i64 a0.At, (Sl.t (a0.Output : Sl ByteArray)), (Sl.t (a0.Files : Sl DFile)), (Sl.t (a0.Trace : Sl ByteArray))]] := hH.sel [1, 2, 3, 4, 0, 5, 6, 7, 8, 9, 10, 11, 12, 13, 14] rfl (by kernel_rfl)
        refine q_callO (ents := [.own true 1 t9 (Sl.t (y4.Input : Sl ByteArray)), .own true 1 t10 (Sl.t (y4.Output : Sl ByteArray)), .own true 4 t11 (Sl.t (y4.Files : Sl DFile)), .own true 1 t12 (Sl.t (y4.Trace : Sl ByteArray))]) (z := false) (ts := [.agg [t9, .int .i64 y4.At, t10, t11, t12], .str a1, .str a2]) (vs := [.agg (DConsole.cells y4), .str a1, .str a2]) rfl rfl hS rfl rfl rfl hH (HL.agg (es1 := [.own true 1 t9 (Sl.t (y4.Input : Sl ByteArray)), .own true 1 t10 (Sl.t (y4.Output : Sl ByteArray)), .own true 4 t11 (Sl.t (y4.Files : Sl DFile)), .own true 1 t12 (Sl.t (y4.Trace : Sl ByteArray))]) (es2 := []) (HL.own rfl (HL.leaf (fun σ d => hold_int _ σ d _ _) (HL.own rfl (HL.own rfl (HL.own rfl HL.nil))))) (HL.leaf (fun σ d => hold_str _ σ d _) (HL.leaf (fun σ d => hold_str _ σ d _) HL.nil))) hy5 ?_; intro hs σ s hl hH hS
        obtain ⟨t13, t14, t15, t16, rfl⟩ := len4 hl
        have hH : Heap σ0 σ [.own true 1 t13 (Sl.t (y5.1.Input : Sl ByteArray)), .own true 1 t14 (Sl.t (y5.1.Output : Sl ByteArray)), .own true 4 t15 (Sl.t (y5.1.Files : Sl DFile)), .own true 1 t16 (Sl.t (y5.1.Trace : Sl ByteArray)), .own true 1 t9 (Sl.t (y4.Input : Sl ByteArray)), .own true 1 t10 (Sl.t (y4.Output : Sl ByteArray)), .own true 4 t11 (Sl.t (y4.Files : Sl DFile)), .own true 1 t12 (Sl.t (y4.Trace : Sl ByteArray)), .box b3 [t9, .int .i64 y4.At, t10, t11, t12], .box b2 [t5, .int .i64 y3.1.At, t6, t7, t8], .own true 1 t5 (Sl.t (y3.1.Input : Sl ByteArray)), .own true 1 t6 (Sl.t (y3.1.Output : Sl ByteArray)), .own true 4 t7 (Sl.t (y3.1.Files : Sl DFile)), .own true 1 t8 (Sl.t (y3.1.Trace : Sl ByteArray)), .own true 1 t1 (Sl.t (y2.Input : Sl ByteArray)), .own true 1 t2 (Sl.t (y2.Output : Sl ByteArray)), .own true 4 t3 (Sl.t (y2.Files : Sl DFile)), .own true 1 t4 (Sl.t (y2.Trace : Sl ByteArray)), .box b1 [(Sl.t (a0.Input : Sl ByteArray)), .int .i64 a0.At, (Sl.t (a0.Output : Sl ByteArray)), (Sl.t (a0.Files : Sl DFile)), (Sl.t (a0.Trace : Sl ByteArray))]] := hH
        have ht13 : IsOne t13 := Heap.one hH
        have ht14 : IsOne t14 := Heap.one (hH.at 1 rfl)
        have ht15 : IsOne t15 := Heap.one (hH.at 2 rfl)
        have ht16 : IsOne t16 := Heap.one (hH.at 3 rfl)
        refine q_seg 3 [(1, .str a1), (2, .str a2), (3, .ptr b1 0 0 5), (8, .ptr b2 0 0 5), (9, .int .i64 y3.2), (10, .ptr b3 0 0 5), (44, .agg [t13, .int .i64 y5.1.At, t14, t15, t16]), (45, .int .i64 y5.2)] hS (by kernel_rfl) ?_; intro s hS
        refine q_alloc (z := [(Sl.t (⟨true, []⟩ : Sl ByteArray)), .int .i64 0, (Sl.t (⟨true, []⟩ : Sl ByteArray)), (Sl.t (⟨true, []⟩ : Sl DFile)), (Sl.t (⟨true, []⟩ : Sl ByteArray))]) rfl hS hH (by kernel_rfl) ?_; intro b4 σ s hH hS
        refine q_store (v := .agg [t13, .int .i64 y5.1.At, t14, t15, t16]) (cs := [t13, .int .i64 y5.1.At, t14, t15, t16]) (cells' := [t13, .int .i64 y5.1.At, t14, t15, t16]) rfl hS hH rfl rfl rfl (by simp [ht13.1, ht13.2, ht14.1, ht14.2, ht15.1, ht15.2, ht16.1, ht16.2]) (by kernel_rfl) ?_; intro σ s hH hS
        refine q_seg 1 [(1, .str a1), (2, .str a2), (3, .ptr b1 0 0 5), (8, .ptr b2 0 0 5), (9, .int .i64 y3.2), (10, .ptr b3 0 0 5), (11, .ptr b4 0 0 5), (12, .int .i64 y5.2)] hS (by kernel_rfl) ?_; intro s hS
        refine x_nil ?_
        refine sq_n ?_
        refine c_seq ?_
        refine c_seq ?_
        refine c_region ?_
        refine q_load (v := .agg [t13, .int .i64 y5.1.At, t14, t15, t16]) 0 trivial rfl hS hH rfl rfl (by kernel_rfl) ?_; intro s hS
        refine q_load (v := .agg [t5, .int .i64 y3.1.At, t6, t7, t8]) 10 trivial rfl hS hH rfl rfl (by kernel_rfl) ?_; intro s hS
        obtain ⟨y6, hy6, h⟩ := bind_some h
        have hH : Heap σ0 σ [.own true 1 t13 (Sl.t (y5.1.Input : Sl ByteArray)), .own true 1 t14 (Sl.t (y5.1.Output : Sl ByteArray)), .own true 4 t15 (Sl.t (y5.1.Files : Sl DFile)), .own true 1 t16 (Sl.t (y5.1.Trace : Sl ByteArray)), .own true 1 t5 (Sl.t (y3.1.Input : Sl ByteArray)), .own true 1 t6 (Sl.t (y3.1.Output : Sl ByteArray)), .own true 4 t7 (Sl.t (y3.1.Files : Sl DFile)), .own true 1 t8 (Sl.t (y3.1.Trace : Sl ByteArray)), .box b4 [t13, .int .i64 y5.1.At, t14, t15, t16], .own true 1 t9 (Sl.t (y4.Input : Sl ByteArray)), .own true 1 t10 (Sl.t (y4.Output : Sl ByteArray)), .own true 4 t11 (Sl.t (y4.Files : Sl DFile)), .own true 1 t12 (Sl.t (y4.Trace : Sl ByteArray)), .box b3 [t9, .int .i64 y4.At, t10, t11, t12], .box b2 [t5, .int .i64 y3.1.At, t6, t7, t8], .own true 1 t1 (Sl.t (y2.Input : Sl ByteArray)), .own true 1 t2 (Sl.t (y2.Output : Sl ByteArray)), .own true 4 t3 (Sl.t (y2.Files : Sl DFile)), .own true 1 t4 (Sl.t (y2.Trace : Sl ByteArray)), .box b1 [(Sl.t (a0.Input : Sl ByteArray)), .int .i64 a0.At, (Sl.t (a0.Output : Sl ByteArray)), (Sl.t (a0.Files : Sl DFile)), (Sl.t (a0.Trace : Sl ByteArray))]] := hH.sel [1, 2, 3, 4, 11, 12, 13, 14, 0, 5, 6, 7, 8, 9, 10, 15, 16, 17, 18, 19] rfl (by kernel_rfl)
        refine q_callH (ents := [.own true 1 t13 (Sl.t (y5.1.Input : Sl ByteArray)), .own true 1 t14 (Sl.t (y5.1.Output : Sl ByteArray)), .own true 4 t15 (Sl.t (y5.1.Files : Sl DFile)), .own true 1 t16 (Sl.t (y5.1.Trace : Sl ByteArray)), .own true 1 t5 (Sl.t (y3.1.Input : Sl ByteArray)), .own true 1 t6 (Sl.t (y3.1.Output : Sl ByteArray)), .own true 4 t7 (Sl.t (y3.1.Files : Sl DFile)), .own true 1 t8 (Sl.t (y3.1.Trace : Sl ByteArray))]) (z := false) (ts := [.agg [t13, .int .i64 y5.1.At, t14, t15, t16], .agg [t5, .int .i64 y3.1.At, t6, t7, t8]]) (vs := [.agg (DConsole.cells y5.1), .agg (DConsole.cells y3.1)]) rfl hS rfl rfl rfl hH (HL.agg (es1 := [.own true 1 t13 (Sl.t (y5.1.Input : Sl ByteArray)), .own true 1 t14 (Sl.t (y5.1.Output : Sl ByteArray)), .own true 4 t15 (Sl.t (y5.1.Files : Sl DFile)), .own true 1 t16 (Sl.t (y5.1.Trace : Sl ByteArray))]) (es2 := [.own true 1 t5 (Sl.t (y3.1.Input : Sl ByteArray)), .own true 1 t6 (Sl.t (y3.1.Output : Sl ByteArray)), .own true 4 t7 (Sl.t (y3.1.Files : Sl DFile)), .own true 1 t8 (Sl.t (y3.1.Trace : Sl ByteArray))]) (HL.own rfl (HL.leaf (fun σ d => hold_int _ σ d _ _) (HL.own rfl (HL.own rfl (HL.own rfl HL.nil))))) (HL.agg (es1 := [.own true 1 t5 (Sl.t (y3.1.Input : Sl ByteArray)), .own true 1 t6 (Sl.t (y3.1.Output : Sl ByteArray)), .own true 4 t7 (Sl.t (y3.1.Files : Sl DFile)), .own true 1 t8 (Sl.t (y3.1.Trace : Sl ByteArray))]) (es2 := []) (HL.own rfl (HL.leaf (fun σ d => hold_int _ σ d _ _) (HL.own rfl (HL.own rfl (HL.own rfl HL.nil))))) HL.nil)) hy6 (by kernel_rfl) ?_; intro s hS
        refine q_seg 2 [(50, .bool (!y6)), (1, .str a1), (2, .str a2), (3, .ptr b1 0 0 5), (8, .ptr b2 0 0 5), (9, .int .i64 y3.2), (10, .ptr b3 0 0 5), (11, .ptr b4 0 0 5), (12, .int .i64 y5.2)] hS (by kernel_rfl) ?_; intro s hS
        by_cases hc4 : (!y6) = true
        · have h := it_pos hc4 h
          have hS := sub_bt hS hc4
          refine q_seg 4 [(1, .str a1), (2, .str a2), (3, .ptr b1 0 0 5), (8, .ptr b2 0 0 5), (9, .int .i64 y3.2), (10, .ptr b3 0 0 5), (11, .ptr b4 0 0 5), (12, .int .i64 y5.2), (54, .bool true)] hS (by kernel_rfl) ?_; intro s hS
          refine x_nil ?_
          refine sq_n ?_
          refine c_cond (t := true) hS rfl (fun _ => ?_) (fun hf => by cases hf)
          refine c_seq ?_
          refine c_region ?_
          refine q_seg 1 [(6, .bool false)] hS (by kernel_rfl) ?_; intro s hS
          refine x_nil ?_
          refine sq_n ?_
          refine c_ret ?_
          refine sq_r ?_
          injection h with h; subst h
          exact end_W hH (r_tmp (v := .bool false) hS rfl r_nil) rfl (by kernel_rfl) (by simp [pureT, pureL, E_bool])
        · have h := it_neg hc4 h
          have hS := sub_bt hS (tt_of hc4)
          refine q_seg 4 [(1, .str a1), (2, .str a2), (3, .ptr b1 0 0 5), (8, .ptr b2 0 0 5), (9, .int .i64 y3.2), (10, .ptr b3 0 0 5), (11, .ptr b4 0 0 5), (12, .int .i64 y5.2), (54, .bool (!decide (y5.2 = y3.2)))] hS (by kernel_rfl) ?_; intro s hS
          refine x_nil ?_
          refine sq_n ?_
          by_cases hc5 : (!decide (y5.2 = y3.2)) = true
          · have h := it_pos hc5 h
            refine c_cond hS rfl (fun _ => ?_) (fun hf => ff_absurd hc5 hf)
            refine c_seq ?_
            refine c_region ?_
            refine q_seg 1 [(6, .bool false)] hS (by kernel_rfl) ?_; intro s hS
            refine x_nil ?_
            refine sq_n ?_
            refine c_ret ?_
            refine sq_r ?_
            injection h with h; subst h
            exact end_W hH (r_tmp (v := .bool false) hS rfl r_nil) rfl (by kernel_rfl) (by simp [pureT, pureL, E_bool])
          · have h := it_neg hc5 h
            refine c_cond hS rfl (fun hf => tt_absurd hc5 hf) (fun _ => ?_)
            refine c_skip ?_
            refine sq_n ?_
            refine c_seq ?_
            refine c_seq ?_
            refine c_chain (fun _ => False) (fun _ => rfl) (by kernel_rfl) (by kernel_rfl) hH ?_; intro mb σs σ hn0 hlt hlto hH
            have hlt_b3 : b3 < mb ∧ ¬ (fun _ => False) b3 := ⟨hlt b3 _ (List.Mem.tail _ (List.Mem.tail _ (List.Mem.tail _ (List.Mem.tail _ (List.Mem.tail _ (List.Mem.tail _ (List.Mem.tail _ (List.Mem.tail _ (List.Mem.tail _ (List.Mem.tail _ (List.Mem.tail _ (List.Mem.tail _ (List.Mem.tail _ (List.Mem.head _)))))))))))))), fun h => h⟩
            refine q_load (v := .agg [t9, .int .i64 y4.At, t10, t11, t12]) 13 (Or.inr hlt_b3) rfl hS hH rfl rfl (by kernel_rfl) ?_; intro s hS
            refine q_load (v := .agg (DConsole.cells a0)) 19 (Or.inl (by kernel_rfl)) rfl hS hH rfl rfl (by kernel_rfl) ?_; intro s hS
            obtain ⟨y7, hy7, h⟩ := bind_some h
            refine q_callO (ents := []) (z := false) (ts := [.agg (DConsole.cells a0)]) (vs := [.agg (DConsole.cells a0)]) rfl rfl hS rfl rfl rfl hH (HL.agg (es1 := []) (es2 := []) (HL.leaf (fun σ d => hold_pure σ d _) (HL.leaf (fun σ d => hold_int _ σ d _ _) (HL.leaf (fun σ d => hold_pure σ d _) (HL.leaf (fun σ d => hold_pure σ d _) (HL.leaf (fun σ d => hold_pure σ d _) HL.nil))))) HL.nil) hy7 ?_; intro hs σ s hl hH hS
            obtain ⟨t17, t18, t19, t20, rfl⟩ := len4 hl
            have hH : Heap σ0 σ [.own true 1 t17 (Sl.t (y7.Input : Sl ByteArray)), .own true 1 t18 (Sl.t (y7.Output : Sl ByteArray)), .own true 4 t19 (Sl.t (y7.Files : Sl DFile)), .own true 1 t20 (Sl.t (y7.Trace : Sl ByteArray)), .own true 1 t13 (Sl.t (y5.1.Input : Sl ByteArray)), .own true 1 t14 (Sl.t (y5.1.Output : Sl ByteArray)), .own true 4 t15 (Sl.t (y5.1.Files : Sl DFile)), .own true 1 t16 (Sl.t (y5.1.Trace : Sl ByteArray)), .own true 1 t5 (Sl.t (y3.1.Input : Sl ByteArray)), .own true 1 t6 (Sl.t (y3.1.Output : Sl ByteArray)), .own true 4 t7 (Sl.t (y3.1.Files : Sl DFile)), .own true 1 t8 (Sl.t (y3.1.Trace : Sl ByteArray)), .box b4 [t13, .int .i64 y5.1.At, t14, t15, t16], .own true 1 t9 (Sl.t (y4.Input : Sl ByteArray)), .own true 1 t10 (Sl.t (y4.Output : Sl ByteArray)), .own true 4 t11 (Sl.t (y4.Files : Sl DFile)), .own true 1 t12 (Sl.t (y4.Trace : Sl ByteArray)), .box b3 [t9, .int .i64 y4.At, t10, t11, t12], .box b2 [t5, .int .i64 y3.1.At, t6, t7, t8], .own true 1 t1 (Sl.t (y2.Input : Sl ByteArray)), .own true 1 t2 (Sl.t (y2.Output : Sl ByteArray)), .own true 4 t3 (Sl.t (y2.Files : Sl DFile)), .own true 1 t4 (Sl.t (y2.Trace : Sl ByteArray)), .box b1 [(Sl.t (a0.Input : Sl ByteArray)), .int .i64 a0.At, (Sl.t (a0.Output : Sl ByteArray)), (Sl.t (a0.Files : Sl DFile)), (Sl.t (a0.Trace : Sl ByteArray))]] := hH
            have ht17 : IsOne t17 := Heap.one hH
            have ht18 : IsOne t18 := Heap.one (hH.at 1 rfl)
            have ht19 : IsOne t19 := Heap.one (hH.at 2 rfl)
            have ht20 : IsOne t20 := Heap.one (hH.at 3 rfl)
            obtain ⟨y8, hy8, h⟩ := bind_some h
            have hH : Heap σ0 σ [.own true 1 t9 (Sl.t (y4.Input : Sl ByteArray)), .own true 1 t10 (Sl.t (y4.Output : Sl ByteArray)), .own true 4 t11 (Sl.t (y4.Files : Sl DFile)), .own true 1 t12 (Sl.t (y4.Trace : Sl ByteArray)), .own true 1 t17 (Sl.t (y7.Input : Sl ByteArray)), .own true 1 t18 (Sl.t (y7.Output : Sl ByteArray)), .own true 4 t19 (Sl.t (y7.Files : Sl DFile)), .own true 1 t20 (Sl.t (y7.Trace : Sl ByteArray)), .own true 1 t13 (Sl.t (y5.1.Input : Sl ByteArray)), .own true 1 t14 (Sl.t (y5.1.Output : Sl ByteArray)), .own true 4 t15 (Sl.t (y5.1.Files : Sl DFile)), .own true 1 t16 (Sl.t (y5.1.Trace : Sl ByteArray)), .own true 1 t5 (Sl.t (y3.1.Input : Sl ByteArray)), .own true 1 t6 (Sl.t (y3.1.Output : Sl ByteArray)), .own true 4 t7 (Sl.t (y3.1.Files : Sl DFile)), .own true 1 t8 (Sl.t (y3.1.Trace : Sl ByteArray)), .box b4 [t13, .int .i64 y5.1.At, t14, t15, t16], .box b3 [t9, .int .i64 y4.At, t10, t11, t12], .box b2 [t5, .int .i64 y3.1.At, t6, t7, t8], .own true 1 t1 (Sl.t (y2.Input : Sl ByteArray)), .own true 1 t2 (Sl.t (y2.Output : Sl ByteArray)), .own true 4 t3 (Sl.t (y2.Files : Sl DFile)), .own true 1 t4 (Sl.t (y2.Trace : Sl ByteArray)), .box b1 [(Sl.t (a0.Input : Sl ByteArray)), .int .i64 a0.At, (Sl.t (a0.Output : Sl ByteArray)), (Sl.t (a0.Files : Sl DFile)), (Sl.t (a0.Trace : Sl ByteArray))]] := hH.sel [13, 14, 15, 16, 0, 1, 2, 3, 4, 5, 6, 7, 8, 9, 10, 11, 12, 17, 18, 19, 20, 21, 22, 23] rfl (by kernel_rfl)
            refine q_callH (ents := [.own true 1 t9 (Sl.t (y4.Input : Sl ByteArray)), .own true 1 t10 (Sl.t (y4.Output : Sl ByteArray)), .own true 4 t11 (Sl.t (y4.Files : Sl DFile)), .own true 1 t12 (Sl.t (y4.Trace : Sl ByteArray)), .own true 1 t17 (Sl.t (y7.Input : Sl ByteArray)), .own true 1 t18 (Sl.t (y7.Output : Sl ByteArray)), .own true 4 t19 (Sl.t (y7.Files : Sl DFile)), .own true 1 t20 (Sl.t (y7.Trace : Sl ByteArray))]) (z := false) (ts := [.agg [t9, .int .i64 y4.At, t10, t11, t12], .agg [t17, .int .i64 y7.At, t18, t19, t20]]) (vs := [.agg (DConsole.cells y4), .agg (DConsole.cells y7)]) rfl hS rfl rfl rfl hH (HL.agg (es1 := [.own true 1 t9 (Sl.t (y4.Input : Sl ByteArray)), .own true 1 t10 (Sl.t (y4.Output : Sl ByteArray)), .own true 4 t11 (Sl.t (y4.Files : Sl DFile)), .own true 1 t12 (Sl.t (y4.Trace : Sl ByteArray))]) (es2 := [.own true 1 t17 (Sl.t (y7.Input : Sl ByteArray)), .own true 1 t18 (Sl.t (y7.Output : Sl ByteArray)), .own true 4 t19 (Sl.t (y7.Files : Sl DFile)), .own true 1 t20 (Sl.t (y7.Trace : Sl ByteArray))]) (HL.own rfl (HL.leaf (fun σ d => hold_int _ σ d _ _) (HL.own rfl (HL.own rfl (HL.own rfl HL.nil))))) (HL.agg (es1 := [.own true 1 t17 (Sl.t (y7.Input : Sl ByteArray)), .own true 1 t18 (Sl.t (y7.Output : Sl ByteArray)), .own true 4 t19 (Sl.t (y7.Files : Sl DFile)), .own true 1 t20 (Sl.t (y7.Trace : Sl ByteArray))]) (es2 := []) (HL.own rfl (HL.leaf (fun σ d => hold_int _ σ d _ _) (HL.own rfl (HL.own rfl (HL.own rfl HL.nil))))) HL.nil)) hy8 (by kernel_rfl) ?_; intro s hS
            refine q_seg 1 [(1, .str a1), (2, .str a2), (3, .ptr b1 0 0 5), (8, .ptr b2 0 0 5), (9, .int .i64 y3.2), (10, .ptr b3 0 0 5), (11, .ptr b4 0 0 5), (12, .int .i64 y5.2), (59, .bool (!y8))] hS (by kernel_rfl) ?_; intro s hS
            refine x_nil ?_
            refine sq_n ?_
            by_cases hc6 : (!y8) = true
            · have h := it_pos hc6 h
              refine c_cond hS rfl (fun _ => ?_) (fun hf => ff_absurd hc6 hf)
              refine c_seq ?_
              refine c_region ?_
              refine q_seg 1 [(6, .bool false)] hS (by kernel_rfl) ?_; intro s hS
              refine x_nil ?_
              refine sq_n ?_
              refine c_ret ?_
              refine sq_r ?_
              injection h with h; subst h
              exact end_W hH (r_tmp (v := .bool false) hS rfl r_nil) rfl (by kernel_rfl) (by simp [pureT, pureL, E_bool])
            · have h := it_neg hc6 h
              refine c_cond hS rfl (fun hf => tt_absurd hc6 hf) (fun _ => ?_)
              refine c_skip ?_
              refine sq_n ?_
              refine c_seq ?_
              refine c_region ?_
              refine q_seg 1 [(1, .str a1), (2, .str a2), (3, .ptr b1 0 0 5), (8, .ptr b2 0 0 5), (9, .int .i64 y3.2), (10, .ptr b3 0 0 5), (11, .ptr b4 0 0 5), (12, .int .i64 y5.2), (13, .int .i64 1)] hS (by kernel_rfl) ?_; intro s hS
              refine x_nil ?_
              refine sq_n ?_
              refine c_seq ?_
              refine c_region ?_
              refine q_load (v := .agg [t9, .int .i64 y4.At, t10, t11, t12]) 17 trivial rfl hS hH rfl rfl (by kernel_rfl) ?_; intro s hS
              refine q_seg 1 [(1, .str a1), (2, .str a2), (3, .ptr b1 0 0 5), (8, .ptr b2 0 0 5), (9, .int .i64 y3.2), (11, .ptr b4 0 0 5), (12, .int .i64 y5.2), (60, .agg [t9, .int .i64 y4.At, t10, t11, t12]), (61, .int .i64 1)] hS (by kernel_rfl) ?_; intro s hS
              obtain ⟨y9, hy9, h⟩ := bind_some h
              refine q_callR (a := []) (b := []) (xs := [.agg [t9, .int .i64 y4.At, t10, t11, t12], .int .i64 1]) (ents := [.own true 1 t9 (Sl.t (y4.Input : Sl ByteArray)), .own true 1 t10 (Sl.t (y4.Output : Sl ByteArray)), .own true 4 t11 (Sl.t (y4.Files : Sl DFile)), .own true 1 t12 (Sl.t (y4.Trace : Sl ByteArray))]) rfl hS rfl rfl hH (u_laws_markConsole y4 1 y9 hy9 1 t9 1 t10 4 t11 1 t12) ?_; intro hs σ s hl hH hS
              have hH : Heap σ0 σ [.own true 1 t9 (Sl.t (y9.2.Input : Sl ByteArray)), .own true 1 t10 (Sl.t (y9.2.Output : Sl ByteArray)), .own true 4 t11 (Sl.t (y9.2.Files : Sl DFile)), .own true 1 t12 (Sl.t (y9.2.Trace : Sl ByteArray)), .own true 1 t17 (Sl.t (y7.Input : Sl ByteArray)), .own true 1 t18 (Sl.t (y7.Output : Sl ByteArray)), .own true 4 t19 (Sl.t (y7.Files : Sl DFile)), .own true 1 t20 (Sl.t (y7.Trace : Sl ByteArray)), .own true 1 t13 (Sl.t (y5.1.Input : Sl ByteArray)), .own true 1 t14 (Sl.t (y5.1.Output : Sl ByteArray)), .own true 4 t15 (Sl.t (y5.1.Files : Sl DFile)), .own true 1 t16 (Sl.t (y5.1.Trace : Sl ByteArray)), .own true 1 t5 (Sl.t (y3.1.Input : Sl ByteArray)), .own true 1 t6 (Sl.t (y3.1.Output : Sl ByteArray)), .own true 4 t7 (Sl.t (y3.1.Files : Sl DFile)), .own true 1 t8 (Sl.t (y3.1.Trace : Sl ByteArray)), .box b4 [t13, .int .i64 y5.1.At, t14, t15, t16], .box b3 [t9, .int .i64 y4.At, t10, t11, t12], .box b2 [t5, .int .i64 y3.1.At, t6, t7, t8], .own true 1 t1 (Sl.t (y2.Input : Sl ByteArray)), .own true 1 t2 (Sl.t (y2.Output : Sl ByteArray)), .own true 4 t3 (Sl.t (y2.Files : Sl DFile)), .own true 1 t4 (Sl.t (y2.Trace : Sl ByteArray)), .box b1 [(Sl.t (a0.Input : Sl ByteArray)), .int .i64 a0.At, (Sl.t (a0.Output : Sl ByteArray)), (Sl.t (a0.Files : Sl DFile)), (Sl.t (a0.Trace : Sl ByteArray))]] := hH
              refine q_seg 1 [(1, .str a1), (2, .str a2), (3, .ptr b1 0 0 5), (8, .ptr b2 0 0 5), (9, .int .i64 y3.2), (11, .ptr b4 0 0 5), (12, .int .i64 y5.2), (13, .int .i64 y9.1)] hS (by kernel_rfl) ?_; intro s hS
              refine x_nil ?_
              refine sq_n ?_
              refine c_seq ?_
              refine c_seq ?_
              refine c_region ?_
              refine q_seg 3 [(65, .bool (decide (y9.1 < 0))), (1, .str a1), (2, .str a2), (3, .ptr b1 0 0 5), (8, .ptr b2 0 0 5), (9, .int .i64 y3.2), (11, .ptr b4 0 0 5), (12, .int .i64 y5.2)] hS (by kernel_rfl) ?_; intro s hS
              by_cases hc7 : (decide (y9.1 < 0)) = true
              · have h := it_pos hc7 h
                have hS := sub_bt hS hc7
                refine q_seg 10 [(1, .str a1), (2, .str a2), (3, .ptr b1 0 0 5), (8, .ptr b2 0 0 5), (9, .int .i64 y3.2), (11, .ptr b4 0 0 5), (75, .bool true)] hS (by kernel_rfl) ?_; intro s hS
                refine x_nil ?_
                refine sq_n ?_
                refine c_cond (t := true) hS rfl (fun _ => ?_) (fun hf => by cases hf)
                refine c_seq ?_
                refine c_region ?_
                refine q_seg 1 [(6, .bool false)] hS (by kernel_rfl) ?_; intro s hS
                refine x_nil ?_
                refine sq_n ?_
                refine c_ret ?_
                refine sq_r ?_
                injection h with h; subst h
                exact end_W hH (r_tmp (v := .bool false) hS rfl r_nil) rfl (by kernel_rfl) (by simp [pureT, pureL, E_bool])
              · have h := it_neg hc7 h
                have hS := sub_bt hS (tt_of hc7)
                refine q_load (v := .agg [t13, .int .i64 y5.1.At, t14, t15, t16]) 16 trivial rfl hS hH rfl rfl (by kernel_rfl) ?_; intro s hS
                refine q_load (v := .agg [t5, .int .i64 y3.1.At, t6, t7, t8]) 18 trivial rfl hS hH rfl rfl (by kernel_rfl) ?_; intro s hS
                obtain ⟨y10, hy10, h⟩ := bind_some h
                have hH : Heap σ0 σ [.own true 1 t13 (Sl.t (y5.1.Input : Sl ByteArray)), .own true 1 t14 (Sl.t (y5.1.Output : Sl ByteArray)), .own true 4 t15 (Sl.t (y5.1.Files : Sl DFile)), .own true 1 t16 (Sl.t (y5.1.Trace : Sl ByteArray)), .own true 1 t5 (Sl.t (y3.1.Input : Sl ByteArray)), .own true 1 t6 (Sl.t (y3.1.Output : Sl ByteArray)), .own true 4 t7 (Sl.t (y3.1.Files : Sl DFile)), .own true 1 t8 (Sl.t (y3.1.Trace : Sl ByteArray)), .own true 1 t9 (Sl.t (y9.2.Input : Sl ByteArray)), .own true 1 t10 (Sl.t (y9.2.Output : Sl ByteArray)), .own true 4 t11 (Sl.t (y9.2.Files : Sl DFile)), .own true 1 t12 (Sl.t (y9.2.Trace : Sl ByteArray)), .own true 1 t17 (Sl.t (y7.Input : Sl ByteArray)), .own true 1 t18 (Sl.t (y7.Output : Sl ByteArray)), .own true 4 t19 (Sl.t (y7.Files : Sl DFile)), .own true 1 t20 (Sl.t (y7.Trace : Sl ByteArray)), .box b4 [t13, .int .i64 y5.1.At, t14, t15, t16], .box b3 [t9, .int .i64 y4.At, t10, t11, t12], .box b2 [t5, .int .i64 y3.1.At, t6, t7, t8], .own true 1 t1 (Sl.t (y2.Input : Sl ByteArray)), .own true 1 t2 (Sl.t (y2.Output : Sl ByteArray)), .own true 4 t3 (Sl.t (y2.Files : Sl DFile)), .own true 1 t4 (Sl.t (y2.Trace : Sl ByteArray)), .box b1 [(Sl.t (a0.Input : Sl ByteArray)), .int .i64 a0.At, (Sl.t (a0.Output : Sl ByteArray)), (Sl.t (a0.Files : Sl DFile)), (Sl.t (a0.Trace : Sl ByteArray))]] := hH.sel [8, 9, 10, 11, 12, 13, 14, 15, 0, 1, 2, 3, 4, 5, 6, 7, 16, 17, 18, 19, 20, 21, 22, 23] rfl (by kernel_rfl)
                refine q_callH (ents := [.own true 1 t13 (Sl.t (y5.1.Input : Sl ByteArray)), .own true 1 t14 (Sl.t (y5.1.Output : Sl ByteArray)), .own true 4 t15 (Sl.t (y5.1.Files : Sl DFile)), .own true 1 t16 (Sl.t (y5.1.Trace : Sl ByteArray)), .own true 1 t5 (Sl.t (y3.1.Input : Sl ByteArray)), .own true 1 t6 (Sl.t (y3.1.Output : Sl ByteArray)), .own true 4 t7 (Sl.t (y3.1.Files : Sl DFile)), .own true 1 t8 (Sl.t (y3.1.Trace : Sl ByteArray))]) (z := false) (ts := [.agg [t13, .int .i64 y5.1.At, t14, t15, t16], .agg [t5, .int .i64 y3.1.At, t6, t7, t8]]) (vs := [.agg (DConsole.cells y5.1), .agg (DConsole.cells y3.1)]) rfl hS rfl rfl rfl hH (HL.agg (es1 := [.own true 1 t13 (Sl.t (y5.1.Input : Sl ByteArray)), .own true 1 t14 (Sl.t (y5.1.Output : Sl ByteArray)), .own true 4 t15 (Sl.t (y5.1.Files : Sl DFile)), .own true 1 t16 (Sl.t (y5.1.Trace : Sl ByteArray))]) (es2 := [.own true 1 t5 (Sl.t (y3.1.Input : Sl ByteArray)), .own true 1 t6 (Sl.t (y3.1.Output : Sl ByteArray)), .own true 4 t7 (Sl.t (y3.1.Files : Sl DFile)), .own true 1 t8 (Sl.t (y3.1.Trace : Sl ByteArray))]) (HL.own rfl (HL.leaf (fun σ d => hold_int _ σ d _ _) (HL.own rfl (HL.own rfl (HL.own rfl HL.nil))))) (HL.agg (es1 := [.own true 1 t5 (Sl.t (y3.1.Input : Sl ByteArray)), .own true 1 t6 (Sl.t (y3.1.Output : Sl ByteArray)), .own true 4 t7 (Sl.t (y3.1.Files : Sl DFile)), .own true 1 t8 (Sl.t (y3.1.Trace : Sl ByteArray))]) (es2 := []) (HL.own rfl (HL.leaf (fun σ d => hold_int _ σ d _ _) (HL.own rfl (HL.own rfl (HL.own rfl HL.nil))))) HL.nil)) hy10 (by kernel_rfl) ?_; intro s hS
                refine q_seg 3 [(71, .bool (!y10)), (1, .str a1), (2, .str a2), (3, .ptr b1 0 0 5), (8, .ptr b2 0 0 5), (9, .int .i64 y3.2), (11, .ptr b4 0 0 5), (12, .int .i64 y5.2)] hS (by kernel_rfl) ?_; intro s hS
                by_cases hc8 : (!y10) = true
                · have h := it_pos hc8 h
                  have hS := sub_bt hS hc8
                  refine q_seg 4 [(1, .str a1), (2, .str a2), (3, .ptr b1 0 0 5), (8, .ptr b2 0 0 5), (9, .int .i64 y3.2), (11, .ptr b4 0 0 5), (75, .bool true)] hS (by kernel_rfl) ?_; intro s hS
                  refine x_nil ?_
                  refine sq_n ?_
                  refine c_cond (t := true) hS rfl (fun _ => ?_) (fun hf => by cases hf)
                  refine c_seq ?_
                  refine c_region ?_
                  refine q_seg 1 [(6, .bool false)] hS (by kernel_rfl) ?_; intro s hS
                  refine x_nil ?_
                  refine sq_n ?_
                  refine c_ret ?_
                  refine sq_r ?_
                  injection h with h; subst h
                  exact end_W hH (r_tmp (v := .bool false) hS rfl r_nil) rfl (by kernel_rfl) (by simp [pureT, pureL, E_bool])
                · have h := it_neg hc8 h
                  have hS := sub_bt hS (tt_of hc8)
                  refine q_seg 4 [(1, .str a1), (2, .str a2), (3, .ptr b1 0 0 5), (8, .ptr b2 0 0 5), (9, .int .i64 y3.2), (11, .ptr b4 0 0 5), (75, .bool (!decide (y5.2 = y3.2)))] hS (by kernel_rfl) ?_; intro s hS
                  refine x_nil ?_
                  refine sq_n ?_
                  refine c_cond hS rfl (fun hf => tt_absurd hc5 hf) (fun _ => ?_)
                  refine c_skip ?_
                  refine sq_n ?_
                  refine c_seq ?_
                  refine c_region ?_
                  refine q_seg 1 [(1, .str a1), (2, .str a2), (3, .ptr b1 0 0 5), (8, .ptr b2 0 0 5), (9, .int .i64 y3.2), (11, .ptr b4 0 0 5), (14, .int .i64 1)] hS (by kernel_rfl) ?_; intro s hS
                  refine x_nil ?_
                  refine sq_n ?_
                  refine c_seq ?_
                  refine c_region ?_
                  refine q_load (v := .agg [t13, .int .i64 y5.1.At, t14, t15, t16]) 16 trivial rfl hS hH rfl rfl (by kernel_rfl) ?_; intro s hS
                  refine q_seg 1 [(1, .str a1), (2, .str a2), (3, .ptr b1 0 0 5), (8, .ptr b2 0 0 5), (9, .int .i64 y3.2), (11, .ptr b4 0 0 5), (76, .agg [t13, .int .i64 y5.1.At, t14, t15, t16]), (77, .int .i64 1)] hS (by kernel_rfl) ?_; intro s hS
                  obtain ⟨y11, hy11, h⟩ := bind_some h
                  refine q_callR (a := []) (b := []) (xs := [.agg [t13, .int .i64 y5.1.At, t14, t15, t16], .int .i64 1]) (ents := [.own true 1 t13 (Sl.t (y5.1.Input : Sl ByteArray)), .own true 1 t14 (Sl.t (y5.1.Output : Sl ByteArray)), .own true 4 t15 (Sl.t (y5.1.Files : Sl DFile)), .own true 1 t16 (Sl.t (y5.1.Trace : Sl ByteArray))]) rfl hS rfl rfl hH (u_laws_markConsole y5.1 1 y11 hy11 1 t13 1 t14 4 t15 1 t16) ?_; intro hs σ s hl hH hS
                  have hH : Heap σ0 σ [.own true 1 t13 (Sl.t (y11.2.Input : Sl ByteArray)), .own true 1 t14 (Sl.t (y11.2.Output : Sl ByteArray)), .own true 4 t15 (Sl.t (y11.2.Files : Sl DFile)), .own true 1 t16 (Sl.t (y11.2.Trace : Sl ByteArray)), .own true 1 t5 (Sl.t (y3.1.Input : Sl ByteArray)), .own true 1 t6 (Sl.t (y3.1.Output : Sl ByteArray)), .own true 4 t7 (Sl.t (y3.1.Files : Sl DFile)), .own true 1 t8 (Sl.t (y3.1.Trace : Sl ByteArray)), .own true 1 t9 (Sl.t (y9.2.Input : Sl ByteArray)), .own true 1 t10 (Sl.t (y9.2.Output : Sl ByteArray)), .own true 4 t11 (Sl.t (y9.2.Files : Sl DFile)), .own true 1 t12 (Sl.t (y9.2.Trace : Sl ByteArray)), .own true 1 t17 (Sl.t (y7.Input : Sl ByteArray)), .own true 1 t18 (Sl.t (y7.Output : Sl ByteArray)), .own true 4 t19 (Sl.t (y7.Files : Sl DFile)), .own true 1 t20 (Sl.t (y7.Trace : Sl ByteArray)), .box b4 [t13, .int .i64 y5.1.At, t14, t15, t16], .box b3 [t9, .int .i64 y4.At, t10, t11, t12], .box b2 [t5, .int .i64 y3.1.At, t6, t7, t8], .own true 1 t1 (Sl.t (y2.Input : Sl ByteArray)), .own true 1 t2 (Sl.t (y2.Output : Sl ByteArray)), .own true 4 t3 (Sl.t (y2.Files : Sl DFile)), .own true 1 t4 (Sl.t (y2.Trace : Sl ByteArray)), .box b1 [(Sl.t (a0.Input : Sl ByteArray)), .int .i64 a0.At, (Sl.t (a0.Output : Sl ByteArray)), (Sl.t (a0.Files : Sl DFile)), (Sl.t (a0.Trace : Sl ByteArray))]] := hH
                  refine q_seg 1 [(1, .str a1), (2, .str a2), (3, .ptr b1 0 0 5), (8, .ptr b2 0 0 5), (9, .int .i64 y3.2), (11, .ptr b4 0 0 5), (14, .int .i64 y11.1)] hS (by kernel_rfl) ?_; intro s hS
                  refine x_nil ?_
                  refine sq_n ?_
                  refine c_seq ?_
                  refine c_region ?_
                  refine q_seg 1 [(1, .str a1), (2, .str a2), (3, .ptr b1 0 0 5), (8, .ptr b2 0 0 5), (9, .int .i64 y3.2), (11, .ptr b4 0 0 5), (14, .int .i64 y11.1), (15, .int .i64 1)] hS (by kernel_rfl) ?_; intro s hS
                  refine x_nil ?_
                  refine sq_n ?_
                  refine c_seq ?_
                  refine c_region ?_
                  refine q_load (v := .agg [t13, .int .i64 y5.1.At, t14, t15, t16]) 16 trivial rfl hS hH rfl rfl (by kernel_rfl) ?_; intro s hS
                  refine q_seg 1 [(1, .str a1), (2, .str a2), (3, .ptr b1 0 0 5), (8, .ptr b2 0 0 5), (9, .int .i64 y3.2), (11, .ptr b4 0 0 5), (14, .int .i64 y11.1), (79, .agg [t13, .int .i64 y5.1.At, t14, t15, t16]), (80, .int .i64 1)] hS (by kernel_rfl) ?_; intro s hS
                  obtain ⟨y12, hy12, h⟩ := bind_some h
                  refine q_callH (ents := [.own true 1 t13 (Sl.t (y11.2.Input : Sl ByteArray)), .own true 1 t14 (Sl.t (y11.2.Output : Sl ByteArray)), .own true 4 t15 (Sl.t (y11.2.Files : Sl DFile)), .own true 1 t16 (Sl.t (y11.2.Trace : Sl ByteArray))]) (z := false) (ts := [.agg [t13, .int .i64 y5.1.At, t14, t15, t16], .int .i64 1]) (vs := [.agg [(Sl.t (y11.2.Input : Sl ByteArray)), .int .i64 y5.1.At, (Sl.t (y11.2.Output : Sl ByteArray)), (Sl.t (y11.2.Files : Sl DFile)), (Sl.t (y11.2.Trace : Sl ByteArray))], .int .i64 1]) rfl hS rfl rfl rfl hH (HL.agg (es1 := [.own true 1 t13 (Sl.t (y11.2.Input : Sl ByteArray)), .own true 1 t14 (Sl.t (y11.2.Output : Sl ByteArray)), .own true 4 t15 (Sl.t (y11.2.Files : Sl DFile)), .own true 1 t16 (Sl.t (y11.2.Trace : Sl ByteArray))]) (es2 := []) (HL.own rfl (HL.leaf (fun σ d => hold_int _ σ d _ _) (HL.own rfl (HL.own rfl (HL.own rfl HL.nil))))) (HL.leaf (fun σ d => hold_int _ σ d _ _) HL.nil)) hy12 (by kernel_rfl) ?_; intro s hS
                  refine q_seg 1 [(1, .str a1), (2, .str a2), (3, .ptr b1 0 0 5), (8, .ptr b2 0 0 5), (9, .int .i64 y3.2), (11, .ptr b4 0 0 5), (14, .int .i64 y11.1), (15, .int .i64 y12)] hS (by kernel_rfl) ?_; intro s hS
                  refine x_nil ?_
                  refine sq_n ?_
                  refine c_seq ?_
                  refine c_seq ?_
                  refine c_region ?_
                  refine q_seg 2 [(1, .str a1), (2, .str a2), (3, .ptr b1 0 0 5), (8, .ptr b2 0 0 5), (9, .int .i64 y3.2), (11, .ptr b4 0 0 5), (14, .int .i64 y11.1), (15, .int .i64 y12), (83, .bool (decide (y12 < 0)))] hS (by kernel_rfl) ?_; intro s hS
                  refine x_nil ?_
                  refine sq_n ?_
                  by_cases hc9 : (decide (y12 < 0)) = true
                  · have h := it_pos hc9 h
                    refine c_cond hS rfl (fun _ => ?_) (fun hf => ff_absurd hc9 hf)
                    refine c_seq ?_
                    refine c_region ?_
                    refine q_seg 1 [(6, .bool false)] hS (by kernel_rfl) ?_; intro s hS
                    refine x_nil ?_
                    refine sq_n ?_
                    refine c_ret ?_
                    refine sq_r ?_
                    injection h with h; subst h
                    exact end_W hH (r_tmp (v := .bool false) hS rfl r_nil) rfl (by kernel_rfl) (by simp [pureT, pureL, E_bool])
                  · have h := it_neg hc9 h
                    refine c_cond hS rfl (fun hf => tt_absurd hc9 hf) (fun _ => ?_)
                    refine c_skip ?_
                    refine sq_n ?_
                    refine c_seq ?_
                    refine c_seq ?_
                    refine c_region ?_
                    refine q_seg 3 [(1, .str a1), (2, .str a2), (3, .ptr b1 0 0 5), (8, .ptr b2 0 0 5), (9, .int .i64 y3.2), (11, .ptr b4 0 0 5), (14, .int .i64 y11.1), (86, .bool (!decide (y12 = y11.1)))] hS (by kernel_rfl) ?_; intro s hS
                    refine x_nil ?_
                    refine sq_n ?_
                    by_cases hc10 : (!decide (y12 = y11.1)) = true
                    · have h := it_pos hc10 h
                      refine c_cond hS rfl (fun _ => ?_) (fun hf => ff_absurd hc10 hf)
                      refine c_seq ?_
                      refine c_region ?_
                      refine q_seg 1 [(6, .bool false)] hS (by kernel_rfl) ?_; intro s hS
                      refine x_nil ?_
                      refine sq_n ?_
                      refine c_ret ?_
                      refine sq_r ?_
                      injection h with h; subst h
                      exact end_W hH (r_tmp (v := .bool false) hS rfl r_nil) rfl (by kernel_rfl) (by simp [pureT, pureL, E_bool])
                    · have h := it_neg hc10 h
                      refine c_cond hS rfl (fun hf => tt_absurd hc10 hf) (fun _ => ?_)
                      refine c_skip ?_
                      refine sq_n ?_
                      refine c_seq ?_
                      refine c_region ?_
                      refine q_load (v := .agg (DConsole.cells a0)) 23 trivial rfl hS hH rfl rfl (by kernel_rfl) ?_; intro s hS
                      obtain ⟨y13, hy13, h⟩ := bind_some h
                      refine q_callO (ents := []) (z := false) (ts := [.agg (DConsole.cells a0)]) (vs := [.agg (DConsole.cells a0)]) rfl rfl hS rfl rfl rfl hH (HL.agg (es1 := []) (es2 := []) (HL.leaf (fun σ d => hold_pure σ d _) (HL.leaf (fun σ d => hold_int _ σ d _ _) (HL.leaf (fun σ d => hold_pure σ d _) (HL.leaf (fun σ d => hold_pure σ d _) (HL.leaf (fun σ d => hold_pure σ d _) HL.nil))))) HL.nil) hy13 ?_; intro hs σ s hl hH hS
                      obtain ⟨t21, t22, t23, t24, rfl⟩ := len4 hl
                      have hH : Heap σ0 σ [.own true 1 t21 (Sl.t (y13.Input : Sl ByteArray)), .own true 1 t22 (Sl.t (y13.Output : Sl ByteArray)), .own true 4 t23 (Sl.t (y13.Files : Sl DFile)), .own true 1 t24 (Sl.t (y13.Trace : Sl ByteArray)), .own true 1 t13 (Sl.t (y11.2.Input : Sl ByteArray)), .own true 1 t14 (Sl.t (y11.2.Output : Sl ByteArray)), .own true 4 t15 (Sl.t (y11.2.Files : Sl DFile)), .own true 1 t16 (Sl.t (y11.2.Trace : Sl ByteArray)), .own true 1 t5 (Sl.t (y3.1.Input : Sl ByteArray)), .own true 1 t6 (Sl.t (y3.1.Output : Sl ByteArray)), .own true 4 t7 (Sl.t (y3.1.Files : Sl DFile)), .own true 1 t8 (Sl.t (y3.1.Trace : Sl ByteArray)), .own true 1 t9 (Sl.t (y9.2.Input : Sl ByteArray)), .own true 1 t10 (Sl.t (y9.2.Output : Sl ByteArray)), .own true 4 t11 (Sl.t (y9.2.Files : Sl DFile)), .own true 1 t12 (Sl.t (y9.2.Trace : Sl ByteArray)), .own true 1 t17 (Sl.t (y7.Input : Sl ByteArray)), .own true 1 t18 (Sl.t (y7.Output : Sl ByteArray)), .own true 4 t19 (Sl.t (y7.Files : Sl DFile)), .own true 1 t20 (Sl.t (y7.Trace : Sl ByteArray)), .box b4 [t13, .int .i64 y5.1.At, t14, t15, t16], .box b3 [t9, .int .i64 y4.At, t10, t11, t12], .box b2 [t5, .int .i64 y3.1.At, t6, t7, t8], .own true 1 t1 (Sl.t (y2.Input : Sl ByteArray)), .own true 1 t2 (Sl.t (y2.Output : Sl ByteArray)), .own true 4 t3 (Sl.t (y2.Files : Sl DFile)), .own true 1 t4 (Sl.t (y2.Trace : Sl ByteArray)), .box b1 [(Sl.t (a0.Input : Sl ByteArray)), .int .i64 a0.At, (Sl.t (a0.Output : Sl ByteArray)), (Sl.t (a0.Files : Sl DFile)), (Sl.t (a0.Trace : Sl ByteArray))]] := hH
                      have ht21 : IsOne t21 := Heap.one hH
                      have ht22 : IsOne t22 := Heap.one (hH.at 1 rfl)
                      have ht23 : IsOne t23 := Heap.one (hH.at 2 rfl)
                      have ht24 : IsOne t24 := Heap.one (hH.at 3 rfl)
                      refine q_seg 2 [(8, .ptr b2 0 0 5), (9, .int .i64 y3.2), (11, .ptr b4 0 0 5), (14, .int .i64 y11.1), (89, .agg [t21, .int .i64 y13.At, t22, t23, t24]), (90, .str a1), (91, .str a2)] hS (by kernel_rfl) ?_; intro s hS
                      obtain ⟨y14, hy14, h⟩ := bind_some h
                      refine q_callO (ents := [.own true 1 t21 (Sl.t (y13.Input : Sl ByteArray)), .own true 1 t22 (Sl.t (y13.Output : Sl ByteArray)), .own true 4 t23 (Sl.t (y13.Files : Sl DFile)), .own true 1 t24 (Sl.t (y13.Trace : Sl ByteArray))]) (z := false) (ts := [.agg [t21, .int .i64 y13.At, t22, t23, t24], .str a1, .str a2]) (vs := [.agg (DConsole.cells y13), .str a1, .str a2]) rfl rfl hS rfl rfl rfl hH (HL.agg (es1 := [.own true 1 t21 (Sl.t (y13.Input : Sl ByteArray)), .own true 1 t22 (Sl.t (y13.Output : Sl ByteArray)), .own true 4 t23 (Sl.t (y13.Files : Sl DFile)), .own true 1 t24 (Sl.t (y13.Trace : Sl ByteArray))]) (es2 := []) (HL.own rfl (HL.leaf (fun σ d => hold_int _ σ d _ _) (HL.own rfl (HL.own rfl (HL.own rfl HL.nil))))) (HL.leaf (fun σ d => hold_str _ σ d _) (HL.leaf (fun σ d => hold_str _ σ d _) HL.nil))) hy14 ?_; intro hs σ s hl hH hS
                      obtain ⟨t25, t26, t27, t28, rfl⟩ := len4 hl
                      have hH : Heap σ0 σ [.own true 1 t25 (Sl.t (y14.1.Input : Sl ByteArray)), .own true 1 t26 (Sl.t (y14.1.Output : Sl ByteArray)), .own true 4 t27 (Sl.t (y14.1.Files : Sl DFile)), .own true 1 t28 (Sl.t (y14.1.Trace : Sl ByteArray)), .own true 1 t21 (Sl.t (y13.Input : Sl ByteArray)), .own true 1 t22 (Sl.t (y13.Output : Sl ByteArray)), .own true 4 t23 (Sl.t (y13.Files : Sl DFile)), .own true 1 t24 (Sl.t (y13.Trace : Sl ByteArray)), .own true 1 t13 (Sl.t (y11.2.Input : Sl ByteArray)), .own true 1 t14 (Sl.t (y11.2.Output : Sl ByteArray)), .own true 4 t15 (Sl.t (y11.2.Files : Sl DFile)), .own true 1 t16 (Sl.t (y11.2.Trace : Sl ByteArray)), .own true 1 t5 (Sl.t (y3.1.Input : Sl ByteArray)), .own true 1 t6 (Sl.t (y3.1.Output : Sl ByteArray)), .own true 4 t7 (Sl.t (y3.1.Files : Sl DFile)), .own true 1 t8 (Sl.t (y3.1.Trace : Sl ByteArray)), .own true 1 t9 (Sl.t (y9.2.Input : Sl ByteArray)), .own true 1 t10 (Sl.t (y9.2.Output : Sl ByteArray)), .own true 4 t11 (Sl.t (y9.2.Files : Sl DFile)), .own true 1 t12 (Sl.t (y9.2.Trace : Sl ByteArray)), .own true 1 t17 (Sl.t (y7.Input : Sl ByteArray)), .own true 1 t18 (Sl.t (y7.Output : Sl ByteArray)), .own true 4 t19 (Sl.t (y7.Files : Sl DFile)), .own true 1 t20 (Sl.t (y7.Trace : Sl ByteArray)), .box b4 [t13, .int .i64 y5.1.At, t14, t15, t16], .box b3 [t9, .int .i64 y4.At, t10, t11, t12], .box b2 [t5, .int .i64 y3.1.At, t6, t7, t8], .own true 1 t1 (Sl.t (y2.Input : Sl ByteArray)), .own true 1 t2 (Sl.t (y2.Output : Sl ByteArray)), .own true 4 t3 (Sl.t (y2.Files : Sl DFile)), .own true 1 t4 (Sl.t (y2.Trace : Sl ByteArray)), .box b1 [(Sl.t (a0.Input : Sl ByteArray)), .int .i64 a0.At, (Sl.t (a0.Output : Sl ByteArray)), (Sl.t (a0.Files : Sl DFile)), (Sl.t (a0.Trace : Sl ByteArray))]] := hH
                      have ht25 : IsOne t25 := Heap.one hH
                      have ht26 : IsOne t26 := Heap.one (hH.at 1 rfl)
                      have ht27 : IsOne t27 := Heap.one (hH.at 2 rfl)
                      have ht28 : IsOne t28 := Heap.one (hH.at 3 rfl)
                      refine q_seg 3 [(8, .ptr b2 0 0 5), (9, .int .i64 y3.2), (11, .ptr b4 0 0 5), (14, .int .i64 y11.1), (93, .agg [t25, .int .i64 y14.1.At, t26, t27, t28]), (94, .int .i64 y14.2)] hS (by kernel_rfl) ?_; intro s hS
                      refine q_alloc (z := [(Sl.t (⟨true, []⟩ : Sl ByteArray)), .int .i64 0, (Sl.t (⟨true, []⟩ : Sl ByteArray)), (Sl.t (⟨true, []⟩ : Sl DFile)), (Sl.t (⟨true, []⟩ : Sl ByteArray))]) rfl hS hH (by kernel_rfl) ?_; intro b5 σ s hH hS
                      refine q_store (v := .agg [t25, .int .i64 y14.1.At, t26, t27, t28]) (cs := [t25, .int .i64 y14.1.At, t26, t27, t28]) (cells' := [t25, .int .i64 y14.1.At, t26, t27, t28]) rfl hS hH rfl rfl rfl (by simp [ht25.1, ht25.2, ht26.1, ht26.2, ht27.1, ht27.2, ht28.1, ht28.2]) (by kernel_rfl) ?_; intro σ s hH hS
                      refine q_seg 1 [(8, .ptr b2 0 0 5), (9, .int .i64 y3.2), (11, .ptr b4 0 0 5), (14, .int .i64 y11.1), (16, .ptr b5 0 0 5), (17, .int .i64 y14.2)] hS (by kernel_rfl) ?_; intro s hS
                      refine x_nil ?_
                      refine sq_n ?_
                      refine c_seq ?_
                      refine c_seq ?_
                      refine c_region ?_
                      refine q_load (v := .agg [t25, .int .i64 y14.1.At, t26, t27, t28]) 0 trivial rfl hS hH rfl rfl (by kernel_rfl) ?_; intro s hS
                      refine q_load (v := .agg [t5, .int .i64 y3.1.At, t6, t7, t8]) 27 trivial rfl hS hH rfl rfl (by kernel_rfl) ?_; intro s hS
                      obtain ⟨y15, hy15, h⟩ := bind_some h
                      have hH : Heap σ0 σ [.own true 1 t25 (Sl.t (y14.1.Input : Sl ByteArray)), .own true 1 t26 (Sl.t (y14.1.Output : Sl ByteArray)), .own true 4 t27 (Sl.t (y14.1.Files : Sl DFile)), .own true 1 t28 (Sl.t (y14.1.Trace : Sl ByteArray)), .own true 1 t5 (Sl.t (y3.1.Input : Sl ByteArray)), .own true 1 t6 (Sl.t (y3.1.Output : Sl ByteArray)), .own true 4 t7 (Sl.t (y3.1.Files : Sl DFile)), .own true 1 t8 (Sl.t (y3.1.Trace : Sl ByteArray)), .box b5 [t25, .int .i64 y14.1.At, t26, t27, t28], .own true 1 t21 (Sl.t (y13.Input : Sl ByteArray)), .own true 1 t22 (Sl.t (y13.Output : Sl ByteArray)), .own true 4 t23 (Sl.t (y13.Files : Sl DFile)), .own true 1 t24 (Sl.t (y13.Trace : Sl ByteArray)), .own true 1 t13 (Sl.t (y11.2.Input : Sl ByteArray)), .own true 1 t14 (Sl.t (y11.2.Output : Sl ByteArray)), .own true 4 t15 (Sl.t (y11.2.Files : Sl DFile)), .own true 1 t16 (Sl.t (y11.2.Trace : Sl ByteArray)), .own true 1 t9 (Sl.t (y9.2.Input : Sl ByteArray)), .own true 1 t10 (Sl.t (y9.2.Output : Sl ByteArray)), .own true 4 t11 (Sl.t (y9.2.Files : Sl DFile)), .own true 1 t12 (Sl.t (y9.2.Trace : Sl ByteArray)), .own true 1 t17 (Sl.t (y7.Input : Sl ByteArray)), .own true 1 t18 (Sl.t (y7.Output : Sl ByteArray)), .own true 4 t19 (Sl.t (y7.Files : Sl DFile)), .own true 1 t20 (Sl.t (y7.Trace : Sl ByteArray)), .box b4 [t13, .int .i64 y5.1.At, t14, t15, t16], .box b3 [t9, .int .i64 y4.At, t10, t11, t12], .box b2 [t5, .int .i64 y3.1.At, t6, t7, t8], .own true 1 t1 (Sl.t (y2.Input : Sl ByteArray)), .own true 1 t2 (Sl.t (y2.Output : Sl ByteArray)), .own true 4 t3 (Sl.t (y2.Files : Sl DFile)), .own true 1 t4 (Sl.t (y2.Trace : Sl ByteArray)), .box b1 [(Sl.t (a0.Input : Sl ByteArray)), .int .i64 a0.At, (Sl.t (a0.Output : Sl ByteArray)), (Sl.t (a0.Files : Sl DFile)), (Sl.t (a0.Trace : Sl ByteArray))]] := hH.sel [1, 2, 3, 4, 13, 14, 15, 16, 0, 5, 6, 7, 8, 9, 10, 11, 12, 17, 18, 19, 20, 21, 22, 23, 24, 25, 26, 27, 28, 29, 30, 31, 32] rfl (by kernel_rfl)
                      refine q_callH (ents := [.own true 1 t25 (Sl.t (y14.1.Input : Sl ByteArray)), .own true 1 t26 (Sl.t (y14.1.Output : Sl ByteArray)), .own true 4 t27 (Sl.t (y14.1.Files : Sl DFile)), .own true 1 t28 (Sl.t (y14.1.Trace : Sl ByteArray)), .own true 1 t5 (Sl.t (y3.1.Input : Sl ByteArray)), .own true 1 t6 (Sl.t (y3.1.Output : Sl ByteArray)), .own true 4 t7 (Sl.t (y3.1.Files : Sl DFile)), .own true 1 t8 (Sl.t (y3.1.Trace : Sl ByteArray))]) (z := false) (ts := [.agg [t25, .int .i64 y14.1.At, t26, t27, t28], .agg [t5, .int .i64 y3.1.At, t6, t7, t8]]) (vs := [.agg (DConsole.cells y14.1), .agg (DConsole.cells y3.1)]) rfl hS rfl rfl rfl hH (HL.agg (es1 := [.own true 1 t25 (Sl.t (y14.1.Input : Sl ByteArray)), .own true 1 t26 (Sl.t (y14.1.Output : Sl ByteArray)), .own true 4 t27 (Sl.t (y14.1.Files : Sl DFile)), .own true 1 t28 (Sl.t (y14.1.Trace : Sl ByteArray))]) (es2 := [.own true 1 t5 (Sl.t (y3.1.Input : Sl ByteArray)), .own true 1 t6 (Sl.t (y3.1.Output : Sl ByteArray)), .own true 4 t7 (Sl.t (y3.1.Files : Sl DFile)), .own true 1 t8 (Sl.t (y3.1.Trace : Sl ByteArray))]) (HL.own rfl (HL.leaf (fun σ d => hold_int _ σ d _ _) (HL.own rfl (HL.own rfl (HL.own rfl HL.nil))))) (HL.agg (es1 := [.own true 1 t5 (Sl.t (y3.1.Input : Sl ByteArray)), .own true 1 t6 (Sl.t (y3.1.Output : Sl ByteArray)), .own true 4 t7 (Sl.t (y3.1.Files : Sl DFile)), .own true 1 t8 (Sl.t (y3.1.Trace : Sl ByteArray))]) (es2 := []) (HL.own rfl (HL.leaf (fun σ d => hold_int _ σ d _ _) (HL.own rfl (HL.own rfl (HL.own rfl HL.nil))))) HL.nil)) hy15 (by kernel_rfl) ?_; intro s hS
                      refine q_seg 2 [(99, .bool (!y15)), (9, .int .i64 y3.2), (11, .ptr b4 0 0 5), (14, .int .i64 y11.1), (17, .int .i64 y14.2)] hS (by kernel_rfl) ?_; intro s hS
                      by_cases hc11 : (!y15) = true
                      · have h := it_pos hc11 h
                        have hS := sub_bt hS hc11
                        refine q_seg 4 [(11, .ptr b4 0 0 5), (14, .int .i64 y11.1), (103, .bool true)] hS (by kernel_rfl) ?_; intro s hS
                        refine x_nil ?_
                        refine sq_n ?_
                        refine c_cond (t := true) hS rfl (fun _ => ?_) (fun hf => by cases hf)
                        refine c_seq ?_
                        refine c_region ?_
                        refine q_seg 1 [(6, .bool false)] hS (by kernel_rfl) ?_; intro s hS
                        refine x_nil ?_
                        refine sq_n ?_
                        refine c_ret ?_
                        refine sq_r ?_
                        injection h with h; subst h
                        exact end_W hH (r_tmp (v := .bool false) hS rfl r_nil) rfl (by kernel_rfl) (by simp [pureT, pureL, E_bool])
                      · have h := it_neg hc11 h
                        have hS := sub_bt hS (tt_of hc11)
                        refine q_seg 4 [(11, .ptr b4 0 0 5), (14, .int .i64 y11.1), (103, .bool (!decide (y14.2 = y3.2)))] hS (by kernel_rfl) ?_; intro s hS
                        refine x_nil ?_
                        refine sq_n ?_
                        by_cases hc12 : (!decide (y14.2 = y3.2)) = true
                        · have h := it_pos hc12 h
                          refine c_cond hS rfl (fun _ => ?_) (fun hf => ff_absurd hc12 hf)
                          refine c_seq ?_
                          refine c_region ?_
                          refine q_seg 1 [(6, .bool false)] hS (by kernel_rfl) ?_; intro s hS
                          refine x_nil ?_
                          refine sq_n ?_
                          refine c_ret ?_
                          refine sq_r ?_
                          injection h with h; subst h
                          exact end_W hH (r_tmp (v := .bool false) hS rfl r_nil) rfl (by kernel_rfl) (by simp [pureT, pureL, E_bool])
                        · have h := it_neg hc12 h
                          refine c_cond hS rfl (fun hf => tt_absurd hc12 hf) (fun _ => ?_)
                          refine c_skip ?_
                          refine sq_n ?_
                          refine c_seq ?_
                          refine c_region ?_
                          refine q_seg 1 [(11, .ptr b4 0 0 5), (14, .int .i64 y11.1), (15, .int .i64 1)] hS (by kernel_rfl) ?_; intro s hS
                          refine x_nil ?_
                          refine sq_n ?_
                          refine c_seq ?_
                          refine c_region ?_
                          refine q_load (v := .agg [t13, .int .i64 y5.1.At, t14, t15, t16]) 25 trivial rfl hS hH rfl rfl (by kernel_rfl) ?_; intro s hS
                          refine q_seg 1 [(14, .int .i64 y11.1), (104, .agg [t13, .int .i64 y5.1.At, t14, t15, t16]), (105, .int .i64 1)] hS (by kernel_rfl) ?_; intro s hS
                          obtain ⟨y16, hy16, h⟩ := bind_some h
                          have hH : Heap σ0 σ [.own true 1 t13 (Sl.t (y11.2.Input : Sl ByteArray)), .own true 1 t14 (Sl.t (y11.2.Output : Sl ByteArray)), .own true 4 t15 (Sl.t (y11.2.Files : Sl DFile)), .own true 1 t16 (Sl.t (y11.2.Trace : Sl ByteArray)), .own true 1 t25 (Sl.t (y14.1.Input : Sl ByteArray)), .own true 1 t26 (Sl.t (y14.1.Output : Sl ByteArray)), .own true 4 t27 (Sl.t (y14.1.Files : Sl DFile)), .own true 1 t28 (Sl.t (y14.1.Trace : Sl ByteArray)), .own true 1 t5 (Sl.t (y3.1.Input : Sl ByteArray)), .own true 1 t6 (Sl.t (y3.1.Output : Sl ByteArray)), .own true 4 t7 (Sl.t (y3.1.Files : Sl DFile)), .own true 1 t8 (Sl.t (y3.1.Trace : Sl ByteArray)), .box b5 [t25, .int .i64 y14.1.At, t26, t27, t28], .own true 1 t21 (Sl.t (y13.Input : Sl ByteArray)), .own true 1 t22 (Sl.t (y13.Output : Sl ByteArray)), .own true 4 t23 (Sl.t (y13.Files : Sl DFile)), .own true 1 t24 (Sl.t (y13.Trace : Sl ByteArray)), .own true 1 t9 (Sl.t (y9.2.Input : Sl ByteArray)), .own true 1 t10 (Sl.t (y9.2.Output : Sl ByteArray)), .own true 4 t11 (Sl.t (y9.2.Files : Sl DFile)), .own true 1 t12 (Sl.t (y9.2.Trace : Sl ByteArray)), .own true 1 t17 (Sl.t (y7.Input : Sl ByteArray)), .own true 1 t18 (Sl.t (y7.Output : Sl ByteArray)), .own true 4 t19 (Sl.t (y7.Files : Sl DFile)), .own true 1 t20 (Sl.t (y7.Trace : Sl ByteArray)), .box b4 [t13, .int .i64 y5.1.At, t14, t15, t16], .box b3 [t9, .int .i64 y4.At, t10, t11, t12], .box b2 [t5, .int .i64 y3.1.At, t6, t7, t8], .own true 1 t1 (Sl.t (y2.Input : Sl ByteArray)), .own true 1 t2 (Sl.t (y2.Output : Sl ByteArray)), .own true 4 t3 (Sl.t (y2.Files : Sl DFile)), .own true 1 t4 (Sl.t (y2.Trace : Sl ByteArray)), .box b1 [(Sl.t (a0.Input : Sl ByteArray)), .int .i64 a0.At, (Sl.t (a0.Output : Sl ByteArray)), (Sl.t (a0.Files : Sl DFile)), (Sl.t (a0.Trace : Sl ByteArray))]] := hH.sel [13, 14, 15, 16, 0, 1, 2, 3, 4, 5, 6, 7, 8, 9, 10, 11, 12, 17, 18, 19, 20, 21, 22, 23, 24, 25, 26, 27, 28, 29, 30, 31, 32] rfl (by kernel_rfl)
                          refine q_callH (ents := [.own true 1 t13 (Sl.t (y11.2.Input : Sl ByteArray)), .own true 1 t14 (Sl.t (y11.2.Output : Sl ByteArray)), .own true 4 t15 (Sl.t (y11.2.Files : Sl DFile)), .own true 1 t16 (Sl.t (y11.2.Trace : Sl ByteArray))]) (z := false) (ts := [.agg [t13, .int .i64 y5.1.At, t14, t15, t16], .int .i64 1]) (vs := [.agg [(Sl.t (y11.2.Input : Sl ByteArray)), .int .i64 y5.1.At, (Sl.t (y11.2.Output : Sl ByteArray)), (Sl.t (y11.2.Files : Sl DFile)), (Sl.t (y11.2.Trace : Sl ByteArray))], .int .i64 1]) rfl hS rfl rfl rfl hH (HL.agg (es1 := [.own true 1 t13 (Sl.t (y11.2.Input : Sl ByteArray)), .own true 1 t14 (Sl.t (y11.2.Output : Sl ByteArray)), .own true 4 t15 (Sl.t (y11.2.Files : Sl DFile)), .own true 1 t16 (Sl.t (y11.2.Trace : Sl ByteArray))]) (es2 := []) (HL.own rfl (HL.leaf (fun σ d => hold_int _ σ d _ _) (HL.own rfl (HL.own rfl (HL.own rfl HL.nil))))) (HL.leaf (fun σ d => hold_int _ σ d _ _) HL.nil)) hy16 (by kernel_rfl) ?_; intro s hS
                          refine q_seg 1 [(14, .int .i64 y11.1), (15, .int .i64 y16)] hS (by kernel_rfl) ?_; intro s hS
                          refine x_nil ?_
                          refine sq_n ?_
                          refine c_seq ?_
                          refine c_seq ?_
                          refine c_region ?_
                          refine q_seg 2 [(14, .int .i64 y11.1), (15, .int .i64 y16), (108, .bool (decide (y16 < 0)))] hS (by kernel_rfl) ?_; intro s hS
                          refine x_nil ?_
                          refine sq_n ?_
                          by_cases hc13 : (decide (y16 < 0)) = true
                          · have h := it_pos hc13 h
                            refine c_cond hS rfl (fun _ => ?_) (fun hf => ff_absurd hc13 hf)
                            refine c_seq ?_
                            refine c_region ?_
                            refine q_seg 1 [(6, .bool false)] hS (by kernel_rfl) ?_; intro s hS
                            refine x_nil ?_
                            refine sq_n ?_
                            refine c_ret ?_
                            refine sq_r ?_
                            injection h with h; subst h
                            exact end_W hH (r_tmp (v := .bool false) hS rfl r_nil) rfl (by kernel_rfl) (by simp [pureT, pureL, E_bool])
                          · have h := it_neg hc13 h
                            refine c_cond hS rfl (fun hf => tt_absurd hc13 hf) (fun _ => ?_)
                            refine c_skip ?_
                            refine sq_n ?_
                            refine c_seq ?_
                            refine c_seq ?_
                            refine c_region ?_
                            refine q_seg 3 [(111, .bool (!decide (y16 = y11.1)))] hS (by kernel_rfl) ?_; intro s hS
                            refine x_nil ?_
                            refine sq_n ?_
                            by_cases hc14 : (!decide (y16 = y11.1)) = true
                            · have h := it_pos hc14 h
                              refine c_cond hS rfl (fun _ => ?_) (fun hf => ff_absurd hc14 hf)
                              refine c_seq ?_
                              refine c_region ?_
                              refine q_seg 1 [(6, .bool false)] hS (by kernel_rfl) ?_; intro s hS
                              refine x_nil ?_
                              refine sq_n ?_
                              refine c_ret ?_
                              refine sq_r ?_
                              injection h with h; subst h
                              exact end_W hH (r_tmp (v := .bool false) hS rfl r_nil) rfl (by kernel_rfl) (by simp [pureT, pureL, E_bool])
                            · have h := it_neg hc14 h
                              refine c_cond hS rfl (fun hf => tt_absurd hc14 hf) (fun _ => ?_)
                              refine c_skip ?_
                              refine sq_n ?_
                              refine c_seq ?_
                              refine c_region ?_
                              refine q_seg 1 [(6, .bool true)] hS (by kernel_rfl) ?_; intro s hS
                              refine x_nil ?_
                              refine sq_n ?_
                              refine c_ret ?_
                              injection h with h; subst h
                              exact end_W hH (r_tmp (v := .bool true) hS rfl r_nil) rfl (by kernel_rfl) (by simp [pureT, pureL, E_bool])
end Go.Am
end
section
set_option maxRecDepth 100000
set_option maxHeartbeats 4000000
set_option linter.unusedVariables false
set_option linter.unusedSimpArgs false
namespace Go.Am
open Go.Proofs
noncomputable def B_laws_szConsole (a0 : DConsole) (a1 : Int) : Option Int := ((F_laws_szStringS a0.Input a1).bind fun y1 => (if (decide (y1 < 0)) = true then (some (-1)) else ((F_laws_szStringS a0.Output y1).bind fun y2 => (if (decide (y2 < 0)) = true then (some (-1)) else ((F_laws_szFileS a0.Files y2).bind fun y3 => (if (decide (y3 < 0)) = true then (some (-1)) else ((F_laws_szStringS a0.Trace y3).bind fun y4 => (if (decide (y4 < 0)) = true then (some (-1)) else (some y4)))))))))
theorem u_laws_szConsole (a0 : DConsole) (a1 : Int) (r : Int) (h : B_laws_szConsole a0 a1 = some r) : F_laws_szConsole a0 a1 = some r := by
  unfold B_laws_szConsole at h
  refine semW_of E_i64_inj rfl rfl ok_19 rfl (all_cons (by kernel_rfl) (all_cons (by kernel_rfl) all_nil)) ?_
  intro σ0 s hS hH
  have hS := sub_to (L' := [(0, .agg (DConsole.cells a0)), (1, .int .i64 a1)]) hS (by kernel_rfl)
  refine c_seq ?_
  refine c_region ?_
  refine q_box (v := .agg (DConsole.cells a0)) (cs := [(Sl.t (a0.Input : Sl ByteArray)), .int .i64 a0.At, (Sl.t (a0.Output : Sl ByteArray)), (Sl.t (a0.Files : Sl DFile)), (Sl.t (a0.Trace : Sl ByteArray))]) rfl hS hH rfl rfl (by kernel_rfl) ?_; intro b1 σ s hH hS
  refine q_seg 1 [(1, .int .i64 a1), (2, .ptr b1 0 0 5)] hS (by kernel_rfl) ?_; intro s hS
  refine x_nil ?_
  refine sq_n ?_
  refine c_seq ?_
  refine c_region ?_
  refine q_seg 1 [(1, .int .i64 a1), (2, .ptr b1 0 0 5), (5, .ptr b1 0 0 1)] hS (by kernel_rfl) ?_; intro s hS
  refine q_load (v := (Sl.t (a0.Input : Sl ByteArray))) 0 trivial rfl hS hH rfl rfl (by kernel_rfl) ?_; intro s hS
  refine q_seg 1 [(2, .ptr b1 0 0 5), (6, (Sl.t (a0.Input : Sl ByteArray))), (7, .int .i64 a1)] hS (by kernel_rfl) ?_; intro s hS
  obtain ⟨y1, hy1, h⟩ := bind_some h
  refine q_callF (a := []) (b := []) (xs := [(Sl.t (a0.Input : Sl ByteArray)), .int .i64 a1]) rfl hS rfl rfl hy1 ?_; intro s hS
  refine q_seg 1 [(1, .int .i64 y1), (2, .ptr b1 0 0 5)] hS (by kernel_rfl) ?_; intro s hS
  refine x_nil ?_
  refine sq_n ?_
  refine c_seq ?_
  refine c_seq ?_
  refine c_region ?_
  refine q_seg 2 [(1, .int .i64 y1), (2, .ptr b1 0 0 5), (10, .bool (decide (y1 < 0)))] hS (by kernel_rfl) ?_; intro s hS
  refine x_nil ?_
  refine sq_n ?_
  by_cases hc1 : (decide (y1 < 0)) = true
  · have h := it_pos hc1 h
    refine c_cond hS rfl (fun _ => ?_) (fun hf => ff_absurd hc1 hf)
    refine c_seq ?_
    refine c_region ?_
    refine q_seg 1 [(4, .int .i64 (-1))] hS (by kernel_rfl) ?_; intro s hS
    refine x_nil ?_
    refine sq_n ?_
    refine c_ret ?_
    refine sq_r ?_
    injection h with h; subst h
    exact end_W hH (r_tmp (v := .int .i64 (-1)) hS rfl r_nil) rfl (by kernel_rfl) (by simp [pureT, pureL, E_i64])
  · have h := it_neg hc1 h
    refine c_cond hS rfl (fun hf => tt_absurd hc1 hf) (fun _ => ?_)
    refine c_skip ?_
    refine sq_n ?_
    refine c_seq ?_
    refine c_region ?_
    refine q_seg 1 [(1, .int .i64 y1), (2, .ptr b1 0 0 5), (11, .ptr b1 0 2 1)] hS (by kernel_rfl) ?_; intro s hS
    refine q_load (v := (Sl.t (a0.Output : Sl ByteArray))) 0 trivial rfl hS hH rfl rfl (by kernel_rfl) ?_; intro s hS
    refine q_seg 1 [(2, .ptr b1 0 0 5), (12, (Sl.t (a0.Output : Sl ByteArray))), (13, .int .i64 y1)] hS (by kernel_rfl) ?_; intro s hS
    obtain ⟨y2, hy2, h⟩ := bind_some h
    refine q_callF (a := []) (b := []) (xs := [(Sl.t (a0.Output : Sl ByteArray)), .int .i64 y1]) rfl hS rfl rfl hy2 ?_; intro s hS
    refine q_seg 1 [(1, .int .i64 y2), (2, .ptr b1 0 0 5)] hS (by kernel_rfl) ?_; intro s hS
    refine x_nil ?_
    refine sq_n ?_
    refine c_seq ?_
    refine c_seq ?_
    refine c_region ?_
    refine q_seg 2 [(1, .int .i64 y2), (2, .ptr b1 0 0 5), (16, .bool (decide (y2 < 0)))] hS (by kernel_rfl) ?_; intro s hS
    refine x_nil ?_
    refine sq_n ?_
    by_cases hc2 : (decide (y2 < 0)) = true
    · have h := it_pos hc2 h
      refine c_cond hS rfl (fun _ => ?_) (fun hf => ff_absurd hc2 hf)
      refine c_seq ?_
      refine c_region ?_
      refine q_seg 1 [(4, .int .i64 (-1))] hS (by kernel_rfl) ?_; intro s hS
      refine x_nil ?_
      refine sq_n ?_
      refine c_ret ?_
      refine sq_r ?_
      injection h with h; subst h
      exact end_W hH (r_tmp (v := .int .i64 (-1)) hS rfl r_nil) rfl (by kernel_rfl) (by simp [pureT, pureL, E_i64])
    · have h := it_neg hc2 h
      refine c_cond hS rfl (fun hf => tt_absurd hc2 hf) (fun _ => ?_)
      refine c_skip ?_
      refine sq_n ?_
      refine c_seq ?_
      refine c_region ?_
      refine q_seg 1 [(1, .int .i64 y2), (2, .ptr b1 0 0 5), (17, .ptr b1 0 3 1)] hS (by kernel_rfl) ?_; intro s hS
      refine q_load (v := (Sl.t (a0.Files : Sl DFile))) 0 trivial rfl hS hH rfl rfl (by kernel_rfl) ?_; intro s hS
      refine q_seg 1 [(2, .ptr b1 0 0 5), (18, (Sl.t (a0.Files : Sl DFile))), (19, .int .i64 y2)] hS (by kernel_rfl) ?_; intro s hS
      obtain ⟨y3, hy3, h⟩ := bind_some h
      refine q_callF (a := []) (b := []) (xs := [(Sl.t (a0.Files : Sl DFile)), .int .i64 y2]) rfl hS rfl rfl hy3 ?_; intro s hS
      refine q_seg 1 [(1, .int .i64 y3), (2, .ptr b1 0 0 5)] hS (by kernel_rfl) ?_; intro s hS
      refine x_nil ?_
      refine sq_n ?_
      refine c_seq ?_
      refine c_seq ?_
      refine c_region ?_
      refine q_seg 2 [(1, .int .i64 y3), (2, .ptr b1 0 0 5), (22, .bool (decide (y3 < 0)))] hS (by kernel_rfl) ?_; intro s hS
      refine x_nil ?_
      refine sq_n ?_
      by_cases hc3 : (decide (y3 < 0)) = true
      · have h := it_pos hc3 h
        refine c_cond hS rfl (fun _ => ?_) (fun hf => ff_absurd hc3 hf)
        refine c_seq ?_
        refine c_region ?_
        refine q_seg 1 [(4, .int .i64 (-1))] hS (by kernel_rfl) ?_; intro s hS
        refine x_nil ?_
        refine sq_n ?_
        refine c_ret ?_
        refine sq_r ?_
        injection h with h; subst h
        exact end_W hH (r_tmp (v := .int .i64 (-1)) hS rfl r_nil) rfl (by kernel_rfl) (by simp [pureT, pureL, E_i64])
      · have h := it_neg hc3 h
        refine c_cond hS rfl (fun hf => tt_absurd hc3 hf) (fun _ => ?_)
        refine c_skip ?_
        refine sq_n ?_
        refine c_seq ?_
        refine c_region ?_
        refine q_seg 1 [(1, .int .i64 y3), (23, .ptr b1 0 4 1)] hS (by kernel_rfl) ?_; intro s hS
        refine q_load (v := (Sl.t (a0.Trace : Sl ByteArray))) 0 trivial rfl hS hH rfl rfl (by kernel_rfl) ?_; intro s hS
        refine q_seg 1 [(24, (Sl.t (a0.Trace : Sl ByteArray))), (25, .int .i64 y3)] hS (by kernel_rfl) ?_; intro s hS
        obtain ⟨y4, hy4, h⟩ := bind_some h
        refine q_callF (a := []) (b := []) (xs := [(Sl.t (a0.Trace : Sl ByteArray)), .int .i64 y3]) rfl hS rfl rfl hy4 ?_; intro s hS
        refine q_seg 1 [(1, .int .i64 y4)] hS (by kernel_rfl) ?_; intro s hS
        refine x_nil ?_
        refine sq_n ?_
        refine c_seq ?_
        refine c_seq ?_
        refine c_region ?_
        refine q_seg 2 [(1, .int .i64 y4), (28, .bool (decide (y4 < 0)))] hS (by kernel_rfl) ?_; intro s hS
        refine x_nil ?_
        refine sq_n ?_
        by_cases hc4 : (decide (y4 < 0)) = true
        · have h := it_pos hc4 h
          refine c_cond hS rfl (fun _ => ?_) (fun hf => ff_absurd hc4 hf)
          refine c_seq ?_
          refine c_region ?_
          refine q_seg 1 [(4, .int .i64 (-1))] hS (by kernel_rfl) ?_; intro s hS
          refine x_nil ?_
          refine sq_n ?_
          refine c_ret ?_
          refine sq_r ?_
          injection h with h; subst h
          exact end_W hH (r_tmp (v := .int .i64 (-1)) hS rfl r_nil) rfl (by kernel_rfl) (by simp [pureT, pureL, E_i64])
        · have h := it_neg hc4 h
          refine c_cond hS rfl (fun hf => tt_absurd hc4 hf) (fun _ => ?_)
          refine c_skip ?_
          refine sq_n ?_
          refine c_seq ?_
          refine c_region ?_
          refine q_seg 2 [(4, .int .i64 y4)] hS (by kernel_rfl) ?_; intro s hS
          refine x_nil ?_
          refine sq_n ?_
          refine c_ret ?_
          injection h with h; subst h
          exact end_W hH (r_tmp (v := .int .i64 y4) hS rfl r_nil) rfl (by kernel_rfl) (by simp [pureT, pureL, E_i64])
end Go.Am
end
section
set_option maxRecDepth 100000
set_option maxHeartbeats 4000000
set_option linter.unusedVariables false
set_option linter.unusedSimpArgs false
namespace Go.Am
open Go.Proofs
noncomputable def B_laws_toConsole (a0 : DConsole) : Option DConsole := ((F_laws_toStringS a0.Input).bind fun y1 => ((F_laws_toStringS a0.Output).bind fun y2 => ((F_laws_toFileS a0.Files).bind fun y3 => ((F_laws_toStringS a0.Trace).bind fun y4 => (some (⟨y1, a0.At, y2, y3, y4⟩ : DConsole))))))
theorem u_laws_toConsole (a0 : DConsole) (r : DConsole) (h : B_laws_toConsole a0 = some r) : F_laws_toConsole a0 = some r := by
  unfold B_laws_toConsole at h
  refine semO_of rfl rfl ok_21 rfl (all_cons (by kernel_rfl) all_nil) ?_
  intro σ0 s hS hH
  have hS := sub_to (L' := [(0, .agg (DConsole.cells a0))]) hS (by kernel_rfl)
  refine c_seq ?_
  refine c_region ?_
  refine q_box (v := .agg (DConsole.cells a0)) (cs := [(Sl.t (a0.Input : Sl ByteArray)), .int .i64 a0.At, (Sl.t (a0.Output : Sl ByteArray)), (Sl.t (a0.Files : Sl DFile)), (Sl.t (a0.Trace : Sl ByteArray))]) rfl hS hH rfl rfl (by kernel_rfl) ?_; intro b1 σ s hH hS
  refine q_alloc (z := [(Sl.t (⟨true, []⟩ : Sl ByteArray)), .int .i64 0, (Sl.t (⟨true, []⟩ : Sl ByteArray)), (Sl.t (⟨true, []⟩ : Sl DFile)), (Sl.t (⟨true, []⟩ : Sl ByteArray))]) rfl hS hH (by kernel_rfl) ?_; intro b2 σ s hH hS
  refine x_nil ?_
  refine sq_n ?_
  refine c_seq ?_
  refine c_region ?_
  refine q_alloc (z := [(Sl.t (⟨true, []⟩ : Sl ByteArray)), .int .i64 0, (Sl.t (⟨true, []⟩ : Sl ByteArray)), (Sl.t (⟨true, []⟩ : Sl DFile)), (Sl.t (⟨true, []⟩ : Sl ByteArray))]) rfl hS hH (by kernel_rfl) ?_; intro b3 σ s hH hS
  refine x_nil ?_
  refine sq_n ?_
  refine c_seq ?_
  refine c_region ?_
  refine q_seg 1 [(1, .ptr b1 0 0 5), (2, .ptr b2 0 0 5), (3, .ptr b3 0 0 5), (4, .ptr b1 0 0 1)] hS (by kernel_rfl) ?_; intro s hS
  refine q_load (v := (Sl.t (a0.Input : Sl ByteArray))) 2 trivial rfl hS hH rfl rfl (by kernel_rfl) ?_; intro s hS
  obtain ⟨y1, hy1, h⟩ := bind_some h
  refine q_callO (ents := []) (z := false) (ts := [(Sl.t (a0.Input : Sl ByteArray))]) (vs := [(Sl.t (a0.Input : Sl ByteArray))]) rfl rfl hS rfl rfl rfl hH (HL.leaf (fun σ d => hold_pure σ d _) HL.nil) hy1 ?_; intro hs σ s hl hH hS
  obtain ⟨t1, rfl⟩ := len1 hl
  have hH : Heap σ0 σ [.own true 1 t1 (Sl.t (y1 : Sl ByteArray)), .box b3 [(Sl.t (⟨true, []⟩ : Sl ByteArray)), .int .i64 0, (Sl.t (⟨true, []⟩ : Sl ByteArray)), (Sl.t (⟨true, []⟩ : Sl DFile)), (Sl.t (⟨true, []⟩ : Sl ByteArray))], .box b2 [(Sl.t (⟨true, []⟩ : Sl ByteArray)), .int .i64 0, (Sl.t (⟨true, []⟩ : Sl ByteArray)), (Sl.t (⟨true, []⟩ : Sl DFile)), (Sl.t (⟨true, []⟩ : Sl ByteArray))], .box b1 [(Sl.t (a0.Input : Sl ByteArray)), .int .i64 a0.At, (Sl.t (a0.Output : Sl ByteArray)), (Sl.t (a0.Files : Sl DFile)), (Sl.t (a0.Trace : Sl ByteArray))]] := hH
  have ht1 : IsOne t1 := Heap.one hH
  refine q_seg 1 [(1, .ptr b1 0 0 5), (2, .ptr b2 0 0 5), (3, .ptr b3 0 0 5), (6, t1), (7, .ptr b3 0 0 1)] hS (by kernel_rfl) ?_; intro s hS
  have hH : Heap σ0 σ [.box b3 [(Sl.t (⟨true, []⟩ : Sl ByteArray)), .int .i64 0, (Sl.t (⟨true, []⟩ : Sl ByteArray)), (Sl.t (⟨true, []⟩ : Sl DFile)), (Sl.t (⟨true, []⟩ : Sl ByteArray))], .own true 1 t1 (Sl.t (y1 : Sl ByteArray)), .box b2 [(Sl.t (⟨true, []⟩ : Sl ByteArray)), .int .i64 0, (Sl.t (⟨true, []⟩ : Sl ByteArray)), (Sl.t (⟨true, []⟩ : Sl DFile)), (Sl.t (⟨true, []⟩ : Sl ByteArray))], .box b1 [(Sl.t (a0.Input : Sl ByteArray)), .int .i64 a0.At, (Sl.t (a0.Output : Sl ByteArray)), (Sl.t (a0.Files : Sl DFile)), (Sl.t (a0.Trace : Sl ByteArray))]] := hH.sel [1, 0, 2, 3] rfl (by kernel_rfl)
  refine q_store (v := t1) (cs := [t1]) (cells' := [t1, .int .i64 0, (Sl.t (⟨true, []⟩ : Sl ByteArray)), (Sl.t (⟨true, []⟩ : Sl DFile)), (Sl.t (⟨true, []⟩ : Sl ByteArray))]) rfl hS hH rfl rfl (by simp [ht1.1, ht1.2]) (by simp [ht1.1, ht1.2]) (by kernel_rfl) ?_; intro σ s hH hS
  refine x_nil ?_
  refine sq_n ?_
  refine c_seq ?_
  refine c_region ?_
  refine q_seg 1 [(1, .ptr b1 0 0 5), (2, .ptr b2 0 0 5), (3, .ptr b3 0 0 5), (8, .ptr b1 0 1 1)] hS (by kernel_rfl) ?_; intro s hS
  refine q_load (v := .int .i64 a0.At) 3 trivial rfl hS hH rfl rfl (by kernel_rfl) ?_; intro s hS
  refine q_seg 1 [(1, .ptr b1 0 0 5), (2, .ptr b2 0 0 5), (3, .ptr b3 0 0 5), (9, .int .i64 a0.At), (10, .ptr b3 0 1 1)] hS (by kernel_rfl) ?_; intro s hS
  refine q_store (v := .int .i64 a0.At) (cs := [.int .i64 a0.At]) (cells' := [t1, .int .i64 a0.At, (Sl.t (⟨true, []⟩ : Sl ByteArray)), (Sl.t (⟨true, []⟩ : Sl DFile)), (Sl.t (⟨true, []⟩ : Sl ByteArray))]) rfl hS hH rfl rfl rfl (by kernel_rfl) (by kernel_rfl) ?_; intro σ s hH hS
  refine x_nil ?_
  refine sq_n ?_
  refine c_seq ?_
  refine c_region ?_
  refine q_seg 1 [(1, .ptr b1 0 0 5), (2, .ptr b2 0 0 5), (3, .ptr b3 0 0 5), (11, .ptr b1 0 2 1)] hS (by kernel_rfl) ?_; intro s hS
  refine q_load (v := (Sl.t (a0.Output : Sl ByteArray))) 3 trivial rfl hS hH rfl rfl (by kernel_rfl) ?_; intro s hS
  obtain ⟨y2, hy2, h⟩ := bind_some h
  refine q_callO (ents := []) (z := false) (ts := [(Sl.t (a0.Output : Sl ByteArray))]) (vs := [(Sl.t (a0.Output : Sl ByteArray))]) rfl rfl hS rfl rfl rfl hH (HL.leaf (fun σ d => hold_pure σ d _) HL.nil) hy2 ?_; intro hs σ s hl hH hS
  obtain ⟨t2, rfl⟩ := len1 hl
  have hH : Heap σ0 σ [.own true 1 t2 (Sl.t (y2 : Sl ByteArray)), .box b3 [t1, .int .i64 a0.At, (Sl.t (⟨true, []⟩ : Sl ByteArray)), (Sl.t (⟨true, []⟩ : Sl DFile)), (Sl.t (⟨true, []⟩ : Sl ByteArray))], .own true 1 t1 (Sl.t (y1 : Sl ByteArray)), .box b2 [(Sl.t (⟨true, []⟩ : Sl ByteArray)), .int .i64 0, (Sl.t (⟨true, []⟩ : Sl ByteArray)), (Sl.t (⟨true, []⟩ : Sl DFile)), (Sl.t (⟨true, []⟩ : Sl ByteArray))], .box b1 [(Sl.t (a0.Input : Sl ByteArray)), .int .i64 a0.At, (Sl.t (a0.Output : Sl ByteArray)), (Sl.t (a0.Files : Sl DFile)), (Sl.t (a0.Trace : Sl ByteArray))]] := hH
  have ht2 : IsOne t2 := Heap.one hH
  refine q_seg 1 [(1, .ptr b1 0 0 5), (2, .ptr b2 0 0 5), (3, .ptr b3 0 0 5), (13, t2), (14, .ptr b3 0 2 1)] hS (by kernel_rfl) ?_; intro s hS
  have hH : Heap σ0 σ [.box b3 [t1, .int .i64 a0.At, (Sl.t (⟨true, []⟩ : Sl ByteArray)), (Sl.t (⟨true, []⟩ : Sl DFile)), (Sl.t (⟨true, []⟩ : Sl ByteArray))], .own true 1 t2 (Sl.t (y2 : Sl ByteArray)), .own true 1 t1 (Sl.t (y1 : Sl ByteArray)), .box b2 [(Sl.t (⟨true, []⟩ : Sl ByteArray)), .int .i64 0, (Sl.t (⟨true, []⟩ : Sl ByteArray)), (Sl.t (⟨true, []⟩ : Sl DFile)), (Sl.t (⟨true, []⟩ : Sl ByteArray))], .box b1 [(Sl.t (a0.Input : Sl ByteArray)), .int .i64 a0.At, (Sl.t (a0.Output : Sl ByteArray)), (Sl.t (a0.Files : Sl DFile)), (Sl.t (a0.Trace : Sl ByteArray))]] := hH.sel [1, 0, 2, 3, 4] rfl (by kernel_rfl)
  refine q_store (v := t2) (cs := [t2]) (cells' := [t1, .int .i64 a0.At, t2, (Sl.t (⟨true, []⟩ : Sl DFile)), (Sl.t (⟨true, []⟩ : Sl ByteArray))]) rfl hS hH rfl rfl (by simp [ht2.1, ht2.2]) (by simp [ht2.1, ht2.2]) (by kernel_rfl) ?_; intro σ s hH hS
  refine x_nil ?_
  refine sq_n ?_
  refine c_seq ?_
  refine c_region ?_
  refine q_seg 1 [(1, .ptr b1 0 0 5), (2, .ptr b2 0 0 5), (3, .ptr b3 0 0 5), (15, .ptr b1 0 3 1)] hS (by kernel_rfl) ?_; intro s hS
  refine q_load (v := (Sl.t (a0.Files : Sl DFile))) 4 trivial rfl hS hH rfl rfl (by kernel_rfl) ?_; intro s hS
  obtain ⟨y3, hy3, h⟩ := bind_some h
  refine q_callO (ents := []) (z := false) (ts := [(Sl.t (a0.Files : Sl DFile))]) (vs := [(Sl.t (a0.Files : Sl DFile))]) rfl rfl hS rfl rfl rfl hH (HL.leaf (fun σ d => hold_pure σ d _) HL.nil) hy3 ?_; intro hs σ s hl hH hS
  obtain ⟨t3, rfl⟩ := len1 hl
  have hH : Heap σ0 σ [.own true 4 t3 (Sl.t (y3 : Sl DFile)), .box b3 [t1, .int .i64 a0.At, t2, (Sl.t (⟨true, []⟩ : Sl DFile)), (Sl.t (⟨true, []⟩ : Sl ByteArray))], .own true 1 t2 (Sl.t (y2 : Sl ByteArray)), .own true 1 t1 (Sl.t (y1 : Sl ByteArray)), .box b2 [(Sl.t (⟨true, []⟩ : Sl ByteArray)), .int .i64 0, (Sl.t (⟨true, []⟩ : Sl ByteArray)), (Sl.t (⟨true, []⟩ : Sl DFile)), (Sl.t (⟨true, []⟩ : Sl ByteArray))], .box b1 [(Sl.t (a0.Input : Sl ByteArray)), .int .i64 a0.At, (Sl.t (a0.Output : Sl ByteArray)), (Sl.t (a0.Files : Sl DFile)), (Sl.t (a0.Trace : Sl ByteArray))]] := hH
  have ht3 : IsOne t3 := Heap.one hH
  refine q_seg 1 [(1, .ptr b1 0 0 5), (2, .ptr b2 0 0 5), (3, .ptr b3 0 0 5), (17, t3), (18, .ptr b3 0 3 1)] hS (by kernel_rfl) ?_; intro s hS
  have hH : Heap σ0 σ [.box b3 [t1, .int .i64 a0.At, t2, (Sl.t (⟨true, []⟩ : Sl DFile)), (Sl.t (⟨true, []⟩ : Sl ByteArray))], .own true 4 t3 (Sl.t (y3 : Sl DFile)), .own true 1 t2 (Sl.t (y2 : Sl ByteArray)), .own true 1 t1 (Sl.t (y1 : Sl ByteArray)), .box b2 [(Sl.t (⟨true, []⟩ : Sl ByteArray)), .int .i64 0, (Sl.t (⟨true, []⟩ : Sl ByteArray)), (Sl.t (⟨true, []⟩ : Sl DFile)), (Sl.t (⟨true, []⟩ : Sl ByteArray))], .box b1 [(Sl.t (a0.Input : Sl ByteArray)), .int .i64 a0.At, (Sl.t (a0.Output : Sl ByteArray)), (Sl.t (a0.Files : Sl DFile)), (Sl.t (a0.Trace : Sl ByteArray))]] := hH.sel [1, 0, 2, 3, 4, 5] rfl (by kernel_rfl)
  refine q_store (v := t3) (cs := [t3]) (cells' := [t1, .int .i64 a0.At, t2, t3, (Sl.t (⟨true, []⟩ : Sl ByteArray))]) rfl hS hH rfl rfl (by simp [ht3.1, ht3.2]) (by simp [ht3.1, ht3.2]) (by kernel_rfl) ?_; intro σ s hH hS
  refine x_nil ?_
  refine sq_n ?_
  refine c_seq ?_
  refine c_region ?_
  refine q_seg 1 [(2, .ptr b2 0 0 5), (3, .ptr b3 0 0 5), (19, .ptr b1 0 4 1)] hS (by kernel_rfl) ?_; intro s hS
  refine q_load (v := (Sl.t (a0.Trace : Sl ByteArray))) 5 trivial rfl hS hH rfl rfl (by kernel_rfl) ?_; intro s hS
  obtain ⟨y4, hy4, h⟩ := bind_some h
  refine q_callO (ents := []) (z := false) (ts := [(Sl.t (a0.Trace : Sl ByteArray))]) (vs := [(Sl.t (a0.Trace : Sl ByteArray))]) rfl rfl hS rfl rfl rfl hH (HL.leaf (fun σ d => hold_pure σ d _) HL.nil) hy4 ?_; intro hs σ s hl hH hS
  obtain ⟨t4, rfl⟩ := len1 hl
  have hH : Heap σ0 σ [.own true 1 t4 (Sl.t (y4 : Sl ByteArray)), .box b3 [t1, .int .i64 a0.At, t2, t3, (Sl.t (⟨true, []⟩ : Sl ByteArray))], .own true 4 t3 (Sl.t (y3 : Sl DFile)), .own true 1 t2 (Sl.t (y2 : Sl ByteArray)), .own true 1 t1 (Sl.t (y1 : Sl ByteArray)), .box b2 [(Sl.t (⟨true, []⟩ : Sl ByteArray)), .int .i64 0, (Sl.t (⟨true, []⟩ : Sl ByteArray)), (Sl.t (⟨true, []⟩ : Sl DFile)), (Sl.t (⟨true, []⟩ : Sl ByteArray))], .box b1 [(Sl.t (a0.Input : Sl ByteArray)), .int .i64 a0.At, (Sl.t (a0.Output : Sl ByteArray)), (Sl.t (a0.Files : Sl DFile)), (Sl.t (a0.Trace : Sl ByteArray))]] := hH
  have ht4 : IsOne t4 := Heap.one hH
  refine q_seg 1 [(2, .ptr b2 0 0 5), (3, .ptr b3 0 0 5), (21, t4), (22, .ptr b3 0 4 1)] hS (by kernel_rfl) ?_; intro s hS
  have hH : Heap σ0 σ [.box b3 [t1, .int .i64 a0.At, t2, t3, (Sl.t (⟨true, []⟩ : Sl ByteArray))], .own true 1 t4 (Sl.t (y4 : Sl ByteArray)), .own true 4 t3 (Sl.t (y3 : Sl DFile)), .own true 1 t2 (Sl.t (y2 : Sl ByteArray)), .own true 1 t1 (Sl.t (y1 : Sl ByteArray)), .box b2 [(Sl.t (⟨true, []⟩ : Sl ByteArray)), .int .i64 0, (Sl.t (⟨true, []⟩ : Sl ByteArray)), (Sl.t (⟨true, []⟩ : Sl DFile)), (Sl.t (⟨true, []⟩ : Sl ByteArray))], .box b1 [(Sl.t (a0.Input : Sl ByteArray)), .int .i64 a0.At, (Sl.t (a0.Output : Sl ByteArray)), (Sl.t (a0.Files : Sl DFile)), (Sl.t (a0.Trace : Sl ByteArray))]] := hH.sel [1, 0, 2, 3, 4, 5, 6] rfl (by kernel_rfl)
  refine q_store (v := t4) (cs := [t4]) (cells' := [t1, .int .i64 a0.At, t2, t3, t4]) rfl hS hH rfl rfl (by simp [ht4.1, ht4.2]) (by simp [ht4.1, ht4.2]) (by kernel_rfl) ?_; intro σ s hH hS
  refine x_nil ?_
  refine sq_n ?_
  refine c_seq ?_
  refine c_region ?_
  refine q_load (v := .agg [t1, .int .i64 a0.At, t2, t3, t4]) 0 trivial rfl hS hH rfl rfl (by kernel_rfl) ?_; intro s hS
  have hH : Heap σ0 σ [.box b2 [(Sl.t (⟨true, []⟩ : Sl ByteArray)), .int .i64 0, (Sl.t (⟨true, []⟩ : Sl ByteArray)), (Sl.t (⟨true, []⟩ : Sl DFile)), (Sl.t (⟨true, []⟩ : Sl ByteArray))], .box b3 [t1, .int .i64 a0.At, t2, t3, t4], .own true 1 t4 (Sl.t (y4 : Sl ByteArray)), .own true 4 t3 (Sl.t (y3 : Sl DFile)), .own true 1 t2 (Sl.t (y2 : Sl ByteArray)), .own true 1 t1 (Sl.t (y1 : Sl ByteArray)), .box b1 [(Sl.t (a0.Input : Sl ByteArray)), .int .i64 a0.At, (Sl.t (a0.Output : Sl ByteArray)), (Sl.t (a0.Files : Sl DFile)), (Sl.t (a0.Trace : Sl ByteArray))]] := hH.sel [5, 0, 1, 2, 3, 4, 6] rfl (by kernel_rfl)
  refine q_store (v := .agg [t1, .int .i64 a0.At, t2, t3, t4]) (cs := [t1, .int .i64 a0.At, t2, t3, t4]) (cells' := [t1, .int .i64 a0.At, t2, t3, t4]) rfl hS hH rfl rfl rfl (by simp [ht1.1, ht1.2, ht2.1, ht2.2, ht3.1, ht3.2, ht4.1, ht4.2]) (by kernel_rfl) ?_; intro σ s hH hS
  refine x_nil ?_
  refine sq_n ?_
  refine c_ret ?_
  injection h with h; subst h
  have hH : Heap σ0 σ [.own true 1 t1 (Sl.t (y1 : Sl ByteArray)), .own true 1 t2 (Sl.t (y2 : Sl ByteArray)), .own true 4 t3 (Sl.t (y3 : Sl DFile)), .own true 1 t4 (Sl.t (y4 : Sl ByteArray)), .box b2 [t1, .int .i64 a0.At, t2, t3, t4], .box b3 [t1, .int .i64 a0.At, t2, t3, t4], .box b1 [(Sl.t (a0.Input : Sl ByteArray)), .int .i64 a0.At, (Sl.t (a0.Output : Sl ByteArray)), (Sl.t (a0.Files : Sl DFile)), (Sl.t (a0.Trace : Sl ByteArray))]] := hH.sel [5, 4, 3, 2, 0, 1, 6] rfl (by kernel_rfl)
  exact end_Ow [t1, t2, t3, t4] [.box b2 [t1, .int .i64 a0.At, t2, t3, t4], .box b3 [t1, .int .i64 a0.At, t2, t3, t4], .box b1 [(Sl.t (a0.Input : Sl ByteArray)), .int .i64 a0.At, (Sl.t (a0.Output : Sl ByteArray)), (Sl.t (a0.Files : Sl DFile)), (Sl.t (a0.Trace : Sl ByteArray))]] (r_cell (v := .agg [t1, .int .i64 a0.At, t2, t3, t4]) hS (hH.at 4 rfl) rfl (by kernel_rfl) r_nil) (by kernel_rfl) rfl hH (by kernel_rfl)
end Go.Am
end
