/- Functions of the program. -/
import Derived.Test.YtnabmjlpdcpaeaaAd0
section
set_option maxRecDepth 100000
set_option maxHeartbeats 4000000
set_option linter.unusedVariables false
set_option linter.unusedSimpArgs false
namespace Go.Am
open Go.Proofs
noncomputable def B_laws_FnExactNewDesk  : Option Bool := ((F_spec_NewDesk ).bind fun y1 => ((F_impl_NewDesk ).bind fun y2 => ((F_laws_eqDesk y2 y1).bind fun y3 => (if (!y3) = true then (some false) else ((F_laws_markDesk y2 1).bind fun y4 => ((F_laws_heldDesk y2 1).bind fun y5 => (if (decide (y5 < 0)) = true then (some false) else (if (!decide (y5 = y4)) = true then (some false) else ((F_impl_NewDesk ).bind fun y6 => ((F_laws_eqDesk y6 y1).bind fun y7 => (if (!y7) = true then (some false) else ((F_laws_heldDesk y2 1).bind fun y8 => (if (decide (y8 < 0)) = true then (some false) else (if (!decide (y8 = y4)) = true then (some false) else (some true)))))))))))))))
theorem u_laws_FnExactNewDesk  (r : Bool) (h : B_laws_FnExactNewDesk  = some r) : F_laws_FnExactNewDesk  = some r := by
  unfold B_laws_FnExactNewDesk at h
  refine semW_of E_bool_inj rfl rfl ok_3 rfl all_nil ?_
  intro σ0 s hS hH
  have hS := sub_to (L' := []) hS (by kernel_rfl)
  refine c_seq ?_
  refine c_region ?_
  refine q_seg 1 [] hS (by kernel_rfl) ?_; intro s hS
  refine x_nil ?_
  refine sq_n ?_
  refine c_seq ?_
  refine c_region ?_
  obtain ⟨y1, hy1, h⟩ := bind_some h
  refine q_callO (ents := []) (z := false) (ts := []) (vs := []) rfl rfl hS rfl rfl rfl hH HL.nil hy1 ?_; intro hs σ s hl hH hS
  obtain ⟨t1, t2, t3, t4, t5, t6, t7, t8, t9, t10, rfl⟩ := len10 hl
  have hH : Heap σ0 σ [.own true 1 t1 (Sl.t (y1.Source : Sl ByteArray)), .own true 1 t2 (Sl.t (y1.Input : Sl ByteArray)), .own true 10 t3 (Sl.t (y1.Memory.Heap.Objects : Sl DObject)), .own true 5 t4 (Sl.t (y1.Memory.Scope.Vars : Sl DBinding)), .own true 4 t5 (Sl.t (y1.Memory.Scope.Functions : Sl DFunction)), .own true 2 t6 (Sl.t (y1.Memory.Scope.Types : Sl DRecordType)), .own true 1 t7 (Sl.t (y1.Memory.Console.Input : Sl ByteArray)), .own true 1 t8 (Sl.t (y1.Memory.Console.Output : Sl ByteArray)), .own true 4 t9 (Sl.t (y1.Memory.Console.Files : Sl DFile)), .own true 1 t10 (Sl.t (y1.Memory.Console.Trace : Sl ByteArray))] := hH
  have ht1 : IsOne t1 := Heap.one hH
  have ht2 : IsOne t2 := Heap.one (hH.at 1 rfl)
  have ht3 : IsOne t3 := Heap.one (hH.at 2 rfl)
  have ht4 : IsOne t4 := Heap.one (hH.at 3 rfl)
  have ht5 : IsOne t5 := Heap.one (hH.at 4 rfl)
  have ht6 : IsOne t6 := Heap.one (hH.at 5 rfl)
  have ht7 : IsOne t7 := Heap.one (hH.at 6 rfl)
  have ht8 : IsOne t8 := Heap.one (hH.at 7 rfl)
  have ht9 : IsOne t9 := Heap.one (hH.at 8 rfl)
  have ht10 : IsOne t10 := Heap.one (hH.at 9 rfl)
  refine q_alloc (z := [(Sl.t (⟨true, []⟩ : Sl ByteArray)), (Sl.t (⟨true, []⟩ : Sl ByteArray)), .int .i64 0, (Sl.t (⟨true, []⟩ : Sl DObject)), (Sl.t (⟨true, []⟩ : Sl DBinding)), (Sl.t (⟨true, []⟩ : Sl DFunction)), (Sl.t (⟨true, []⟩ : Sl DRecordType)), (Sl.t (⟨true, []⟩ : Sl ByteArray)), .int .i64 0, (Sl.t (⟨true, []⟩ : Sl ByteArray)), (Sl.t (⟨true, []⟩ : Sl DFile)), (Sl.t (⟨true, []⟩ : Sl ByteArray)), .int .i64 0, .int .i64 0, .str ⟨#[]⟩, .int .i64 0]) rfl hS hH (by kernel_rfl) ?_; intro b1 σ s hH hS
  refine q_store (v := .agg [t1, t2, .int .i64 y1.Memory.Heap.Next, t3, t4, t5, t6, t7, .int .i64 y1.Memory.Console.At, t8, t9, t10, .int .i64 y1.At, .int .i64 y1.Steps, .str y1.Image, .int .i64 y1.Saved]) (cs := [t1, t2, .int .i64 y1.Memory.Heap.Next, t3, t4, t5, t6, t7, .int .i64 y1.Memory.Console.At, t8, t9, t10, .int .i64 y1.At, .int .i64 y1.Steps, .str y1.Image, .int .i64 y1.Saved]) (cells' := [t1, t2, .int .i64 y1.Memory.Heap.Next, t3, t4, t5, t6, t7, .int .i64 y1.Memory.Console.At, t8, t9, t10, .int .i64 y1.At, .int .i64 y1.Steps, .str y1.Image, .int .i64 y1.Saved]) rfl hS hH rfl rfl rfl (by simp [ht1.1, ht1.2, ht10.1, ht10.2, ht2.1, ht2.2, ht3.1, ht3.2, ht4.1, ht4.2, ht5.1, ht5.2, ht6.1, ht6.2, ht7.1, ht7.2, ht8.1, ht8.2, ht9.1, ht9.2]) (by kernel_rfl) ?_; intro σ s hH hS
  refine x_nil ?_
  refine sq_n ?_
  refine c_seq ?_
  refine c_region ?_
  obtain ⟨y2, hy2, h⟩ := bind_some h
  refine q_callO (ents := []) (z := false) (ts := []) (vs := []) rfl rfl hS rfl rfl rfl hH HL.nil hy2 ?_; intro hs σ s hl hH hS
  obtain ⟨t11, t12, t13, t14, t15, t16, t17, t18, t19, t20, rfl⟩ := len10 hl
  have hH : Heap σ0 σ [.own true 1 t11 (Sl.t (y2.Source : Sl ByteArray)), .own true 1 t12 (Sl.t (y2.Input : Sl ByteArray)), .own true 10 t13 (Sl.t (y2.Memory.Heap.Objects : Sl DObject)), .own true 5 t14 (Sl.t (y2.Memory.Scope.Vars : Sl DBinding)), .own true 4 t15 (Sl.t (y2.Memory.Scope.Functions : Sl DFunction)), .own true 2 t16 (Sl.t (y2.Memory.Scope.Types : Sl DRecordType)), .own true 1 t17 (Sl.t (y2.Memory.Console.Input : Sl ByteArray)), .own true 1 t18 (Sl.t (y2.Memory.Console.Output : Sl ByteArray)), .own true 4 t19 (Sl.t (y2.Memory.Console.Files : Sl DFile)), .own true 1 t20 (Sl.t (y2.Memory.Console.Trace : Sl ByteArray)), .box b1 [t1, t2, .int .i64 y1.Memory.Heap.Next, t3, t4, t5, t6, t7, .int .i64 y1.Memory.Console.At, t8, t9, t10, .int .i64 y1.At, .int .i64 y1.Steps, .str y1.Image, .int .i64 y1.Saved], .own true 1 t1 (Sl.t (y1.Source : Sl ByteArray)), .own true 1 t2 (Sl.t (y1.Input : Sl ByteArray)), .own true 10 t3 (Sl.t (y1.Memory.Heap.Objects : Sl DObject)), .own true 5 t4 (Sl.t (y1.Memory.Scope.Vars : Sl DBinding)), .own true 4 t5 (Sl.t (y1.Memory.Scope.Functions : Sl DFunction)), .own true 2 t6 (Sl.t (y1.Memory.Scope.Types : Sl DRecordType)), .own true 1 t7 (Sl.t (y1.Memory.Console.Input : Sl ByteArray)), .own true 1 t8 (Sl.t (y1.Memory.Console.Output : Sl ByteArray)), .own true 4 t9 (Sl.t (y1.Memory.Console.Files : Sl DFile)), .own true 1 t10 (Sl.t (y1.Memory.Console.Trace : Sl ByteArray))] := hH
  have ht11 : IsOne t11 := Heap.one hH
  have ht12 : IsOne t12 := Heap.one (hH.at 1 rfl)
  have ht13 : IsOne t13 := Heap.one (hH.at 2 rfl)
  have ht14 : IsOne t14 := Heap.one (hH.at 3 rfl)
  have ht15 : IsOne t15 := Heap.one (hH.at 4 rfl)
  have ht16 : IsOne t16 := Heap.one (hH.at 5 rfl)
  have ht17 : IsOne t17 := Heap.one (hH.at 6 rfl)
  have ht18 : IsOne t18 := Heap.one (hH.at 7 rfl)
  have ht19 : IsOne t19 := Heap.one (hH.at 8 rfl)
  have ht20 : IsOne t20 := Heap.one (hH.at 9 rfl)
  refine q_alloc (z := [(Sl.t (⟨true, []⟩ : Sl ByteArray)), (Sl.t (⟨true, []⟩ : Sl ByteArray)), .int .i64 0, (Sl.t (⟨true, []⟩ : Sl DObject)), (Sl.t (⟨true, []⟩ : Sl DBinding)), (Sl.t (⟨true, []⟩ : Sl DFunction)), (Sl.t (⟨true, []⟩ : Sl DRecordType)), (Sl.t (⟨true, []⟩ : Sl ByteArray)), .int .i64 0, (Sl.t (⟨true, []⟩ : Sl ByteArray)), (Sl.t (⟨true, []⟩ : Sl DFile)), (Sl.t (⟨true, []⟩ : Sl ByteArray)), .int .i64 0, .int .i64 0, .str ⟨#[]⟩, .int .i64 0]) rfl hS hH (by kernel_rfl) ?_; intro b2 σ s hH hS
  refine q_store (v := .agg [t11, t12, .int .i64 y2.Memory.Heap.Next, t13, t14, t15, t16, t17, .int .i64 y2.Memory.Console.At, t18, t19, t20, .int .i64 y2.At, .int .i64 y2.Steps, .str y2.Image, .int .i64 y2.Saved]) (cs := [t11, t12, .int .i64 y2.Memory.Heap.Next, t13, t14, t15, t16, t17, .int .i64 y2.Memory.Console.At, t18, t19, t20, .int .i64 y2.At, .int .i64 y2.Steps, .str y2.Image, .int .i64 y2.Saved]) (cells' := [t11, t12, .int .i64 y2.Memory.Heap.Next, t13, t14, t15, t16, t17, .int .i64 y2.Memory.Console.At, t18, t19, t20, .int .i64 y2.At, .int .i64 y2.Steps, .str y2.Image, .int .i64 y2.Saved]) rfl hS hH rfl rfl rfl (by simp [ht11.1, ht11.2, ht12.1, ht12.2, ht13.1, ht13.2, ht14.1, ht14.2, ht15.1, ht15.2, ht16.1, ht16.2, ht17.1, ht17.2, ht18.1, ht18.2, ht19.1, ht19.2, ht20.1, ht20.2]) (by kernel_rfl) ?_; intro σ s hH hS
  refine x_nil ?_
  refine sq_n ?_
  refine c_seq ?_
  refine c_seq ?_
  refine c_region ?_
  refine q_load (v := .agg [t11, t12, .int .i64 y2.Memory.Heap.Next, t13, t14, t15, t16, t17, .int .i64 y2.Memory.Console.At, t18, t19, t20, .int .i64 y2.At, .int .i64 y2.Steps, .str y2.Image, .int .i64 y2.Saved]) 0 trivial rfl hS hH rfl rfl (by kernel_rfl) ?_; intro s hS
  refine q_load (v := .agg [t1, t2, .int .i64 y1.Memory.Heap.Next, t3, t4, t5, t6, t7, .int .i64 y1.Memory.Console.At, t8, t9, t10, .int .i64 y1.At, .int .i64 y1.Steps, .str y1.Image, .int .i64 y1.Saved]) 11 trivial rfl hS hH rfl rfl (by kernel_rfl) ?_; intro s hS
  obtain ⟨y3, hy3, h⟩ := bind_some h
  have hH : Heap σ0 σ [.own true 1 t11 (Sl.t (y2.Source : Sl ByteArray)), .own true 1 t12 (Sl.t (y2.Input : Sl ByteArray)), .own true 10 t13 (Sl.t (y2.Memory.Heap.Objects : Sl DObject)), .own true 5 t14 (Sl.t (y2.Memory.Scope.Vars : Sl DBinding)), .own true 4 t15 (Sl.t (y2.Memory.Scope.Functions : Sl DFunction)), .own true 2 t16 (Sl.t (y2.Memory.Scope.Types : Sl DRecordType)), .own true 1 t17 (Sl.t (y2.Memory.Console.Input : Sl ByteArray)), .own true 1 t18 (Sl.t (y2.Memory.Console.Output : Sl ByteArray)), .own true 4 t19 (Sl.t (y2.Memory.Console.Files : Sl DFile)), .own true 1 t20 (Sl.t (y2.Memory.Console.Trace : Sl ByteArray)), .own true 1 t1 (Sl.t (y1.Source : Sl ByteArray)), .own true 1 t2 (Sl.t (y1.Input : Sl ByteArray)), .own true 10 t3 (Sl.t (y1.Memory.Heap.Objects : Sl DObject)), .own true 5 t4 (Sl.t (y1.Memory.Scope.Vars : Sl DBinding)), .own true 4 t5 (Sl.t (y1.Memory.Scope.Functions : Sl DFunction)), .own true 2 t6 (Sl.t (y1.Memory.Scope.Types : Sl DRecordType)), .own true 1 t7 (Sl.t (y1.Memory.Console.Input : Sl ByteArray)), .own true 1 t8 (Sl.t (y1.Memory.Console.Output : Sl ByteArray)), .own true 4 t9 (Sl.t (y1.Memory.Console.Files : Sl DFile)), .own true 1 t10 (Sl.t (y1.Memory.Console.Trace : Sl ByteArray)), .box b2 [t11, t12, .int .i64 y2.Memory.Heap.Next, t13, t14, t15, t16, t17, .int .i64 y2.Memory.Console.At, t18, t19, t20, .int .i64 y2.At, .int .i64 y2.Steps, .str y2.Image, .int .i64 y2.Saved], .box b1 [t1, t2, .int .i64 y1.Memory.Heap.Next, t3, t4, t5, t6, t7, .int .i64 y1.Memory.Console.At, t8, t9, t10, .int .i64 y1.At, .int .i64 y1.Steps, .str y1.Image, .int .i64 y1.Saved]] := hH.sel [1, 2, 3, 4, 5, 6, 7, 8, 9, 10, 12, 13, 14, 15, 16, 17, 18, 19, 20, 21, 0, 11] rfl (by kernel_rfl)
  refine q_callH (ents := [.own true 1 t11 (Sl.t (y2.Source : Sl ByteArray)), .own true 1 t12 (Sl.t (y2.Input : Sl ByteArray)), .own true 10 t13 (Sl.t (y2.Memory.Heap.Objects : Sl DObject)), .own true 5 t14 (Sl.t (y2.Memory.Scope.Vars : Sl DBinding)), .own true 4 t15 (Sl.t (y2.Memory.Scope.Functions : Sl DFunction)), .own true 2 t16 (Sl.t (y2.Memory.Scope.Types : Sl DRecordType)), .own true 1 t17 (Sl.t (y2.Memory.Console.Input : Sl ByteArray)), .own true 1 t18 (Sl.t (y2.Memory.Console.Output : Sl ByteArray)), .own true 4 t19 (Sl.t (y2.Memory.Console.Files : Sl DFile)), .own true 1 t20 (Sl.t (y2.Memory.Console.Trace : Sl ByteArray)), .own true 1 t1 (Sl.t (y1.Source : Sl ByteArray)), .own true 1 t2 (Sl.t (y1.Input : Sl ByteArray)), .own true 10 t3 (Sl.t (y1.Memory.Heap.Objects : Sl DObject)), .own true 5 t4 (Sl.t (y1.Memory.Scope.Vars : Sl DBinding)), .own true 4 t5 (Sl.t (y1.Memory.Scope.Functions : Sl DFunction)), .own true 2 t6 (Sl.t (y1.Memory.Scope.Types : Sl DRecordType)), .own true 1 t7 (Sl.t (y1.Memory.Console.Input : Sl ByteArray)), .own true 1 t8 (Sl.t (y1.Memory.Console.Output : Sl ByteArray)), .own true 4 t9 (Sl.t (y1.Memory.Console.Files : Sl DFile)), .own true 1 t10 (Sl.t (y1.Memory.Console.Trace : Sl ByteArray))]) (z := false) (ts := [.agg [t11, t12, .int .i64 y2.Memory.Heap.Next, t13, t14, t15, t16, t17, .int .i64 y2.Memory.Console.At, t18, t19, t20, .int .i64 y2.At, .int .i64 y2.Steps, .str y2.Image, .int .i64 y2.Saved], .agg [t1, t2, .int .i64 y1.Memory.Heap.Next, t3, t4, t5, t6, t7, .int .i64 y1.Memory.Console.At, t8, t9, t10, .int .i64 y1.At, .int .i64 y1.Steps, .str y1.Image, .int .i64 y1.Saved]]) (vs := [.agg (DDesk.cells y2), .agg (DDesk.cells y1)]) rfl hS rfl rfl rfl hH (HL.agg (es1 := [.own true 1 t11 (Sl.t (y2.Source : Sl ByteArray)), .own true 1 t12 (Sl.t (y2.Input : Sl ByteArray)), .own true 10 t13 (Sl.t (y2.Memory.Heap.Objects : Sl DObject)), .own true 5 t14 (Sl.t (y2.Memory.Scope.Vars : Sl DBinding)), .own true 4 t15 (Sl.t (y2.Memory.Scope.Functions : Sl DFunction)), .own true 2 t16 (Sl.t (y2.Memory.Scope.Types : Sl DRecordType)), .own true 1 t17 (Sl.t (y2.Memory.Console.Input : Sl ByteArray)), .own true 1 t18 (Sl.t (y2.Memory.Console.Output : Sl ByteArray)), .own true 4 t19 (Sl.t (y2.Memory.Console.Files : Sl DFile)), .own true 1 t20 (Sl.t (y2.Memory.Console.Trace : Sl ByteArray))]) (es2 := [.own true 1 t1 (Sl.t (y1.Source : Sl ByteArray)), .own true 1 t2 (Sl.t (y1.Input : Sl ByteArray)), .own true 10 t3 (Sl.t (y1.Memory.Heap.Objects : Sl DObject)), .own true 5 t4 (Sl.t (y1.Memory.Scope.Vars : Sl DBinding)), .own true 4 t5 (Sl.t (y1.Memory.Scope.Functions : Sl DFunction)), .own true 2 t6 (Sl.t (y1.Memory.Scope.Types : Sl DRecordType)), .own true 1 t7 (Sl.t (y1.Memory.Console.Input : Sl ByteArray)), .own true 1 t8 (Sl.t (y1.Memory.Console.Output : Sl ByteArray)), .own true 4 t9 (Sl.t (y1.Memory.Console.Files : Sl DFile)), .own true 1 t10 (Sl.t (y1.Memory.Console.Trace : Sl ByteArray))]) (HL.own rfl (HL.own rfl (HL.leaf (fun σ d => hold_int _ σ d _ _) (HL.own rfl (HL.own rfl (HL.own rfl (HL.own rfl (HL.own rfl (HL.leaf (fun σ d => hold_int _ σ d _ _) (HL.own rfl (HL.own rfl (HL.own rfl (HL.leaf (fun σ d => hold_int _ σ d _ _) (HL.leaf (fun σ d => hold_int _ σ d _ _) (HL.leaf (fun σ d => hold_str _ σ d _) (HL.leaf (fun σ d => hold_int _ σ d _ _) HL.nil)))))))))))))))) (HL.agg (es1 := [.own true 1 t1 (Sl.t (y1.Source : Sl ByteArray)), .own true 1 t2 (Sl.t (y1.Input : Sl ByteArray)), .own true 10 t3 (Sl.t (y1.Memory.Heap.Objects : Sl DObject)), .own true 5 t4 (Sl.t (y1.Memory.Scope.Vars : Sl DBinding)), .own true 4 t5 (Sl.t (y1.Memory.Scope.Functions : Sl DFunction)), .own true 2 t6 (Sl.t (y1.Memory.Scope.Types : Sl DRecordType)), .own true 1 t7 (Sl.t (y1.Memory.Console.Input : Sl ByteArray)), .own true 1 t8 (Sl.t (y1.Memory.Console.Output : Sl ByteArray)), .own true 4 t9 (Sl.t (y1.Memory.Console.Files : Sl DFile)), .own true 1 t10 (Sl.t (y1.Memory.Console.Trace : Sl ByteArray))]) (es2 := []) (HL.own rfl (HL.own rfl (HL.leaf (fun σ d => hold_int _ σ d _ _) (HL.own rfl (HL.own rfl (HL.own rfl (HL.own rfl (HL.own rfl (HL.leaf (fun σ d => hold_int _ σ d _ _) (HL.own rfl (HL.own rfl (HL.own rfl (HL.leaf (fun σ d => hold_int _ σ d _ _) (HL.leaf (fun σ d => hold_int _ σ d _ _) (HL.leaf (fun σ d => hold_str _ σ d _) (HL.leaf (fun σ d => hold_int _ σ d _ _) HL.nil)))))))))))))))) HL.nil)) hy3 (by kernel_rfl) ?_; intro s hS
  refine q_seg 1 [(1, .ptr b1 0 0 16), (2, .ptr b2 0 0 16), (11, .bool (!y3))] hS (by kernel_rfl) ?_; intro s hS
  refine x_nil ?_
  refine sq_n ?_
  by_cases hc1 : (!y3) = true
  · have h := it_pos hc1 h
    refine c_cond hS rfl (fun _ => ?_) (fun hf => ff_absurd hc1 hf)
    refine c_seq ?_
    refine c_region ?_
    refine q_seg 1 [(0, .bool false)] hS (by kernel_rfl) ?_; intro s hS
    refine x_nil ?_
    refine sq_n ?_
    refine c_ret ?_
    refine sq_r ?_
    injection h with h; subst h
    exact end_W hH (r_tmp (v := .bool false) hS rfl r_nil) rfl (by kernel_rfl) (by simp [pureT, pureL, E_bool])
  · have h := it_neg hc1 h
    refine c_cond hS rfl (fun hf => tt_absurd hc1 hf) (fun _ => ?_)
    refine c_skip ?_
    refine sq_n ?_
    refine c_seq ?_
    refine c_region ?_
    refine q_seg 1 [(1, .ptr b1 0 0 16), (2, .ptr b2 0 0 16), (3, .int .i64 1)] hS (by kernel_rfl) ?_; intro s hS
    refine x_nil ?_
    refine sq_n ?_
    refine c_seq ?_
    refine c_region ?_
    refine q_load (v := .agg [t11, t12, .int .i64 y2.Memory.Heap.Next, t13, t14, t15, t16, t17, .int .i64 y2.Memory.Console.At, t18, t19, t20, .int .i64 y2.At, .int .i64 y2.Steps, .str y2.Image, .int .i64 y2.Saved]) 20 trivial rfl hS hH rfl rfl (by kernel_rfl) ?_; intro s hS
    refine q_seg 1 [(1, .ptr b1 0 0 16), (2, .ptr b2 0 0 16), (12, .agg [t11, t12, .int .i64 y2.Memory.Heap.Next, t13, t14, t15, t16, t17, .int .i64 y2.Memory.Console.At, t18, t19, t20, .int .i64 y2.At, .int .i64 y2.Steps, .str y2.Image, .int .i64 y2.Saved]), (13, .int .i64 1)] hS (by kernel_rfl) ?_; intro s hS
    obtain ⟨y4, hy4, h⟩ := bind_some h
    refine q_callH (ents := [.own true 1 t11 (Sl.t (y2.Source : Sl ByteArray)), .own true 1 t12 (Sl.t (y2.Input : Sl ByteArray)), .own true 10 t13 (Sl.t (y2.Memory.Heap.Objects : Sl DObject)), .own true 5 t14 (Sl.t (y2.Memory.Scope.Vars : Sl DBinding)), .own true 4 t15 (Sl.t (y2.Memory.Scope.Functions : Sl DFunction)), .own true 2 t16 (Sl.t (y2.Memory.Scope.Types : Sl DRecordType)), .own true 1 t17 (Sl.t (y2.Memory.Console.Input : Sl ByteArray)), .own true 1 t18 (Sl.t (y2.Memory.Console.Output : Sl ByteArray)), .own true 4 t19 (Sl.t (y2.Memory.Console.Files : Sl DFile)), .own true 1 t20 (Sl.t (y2.Memory.Console.Trace : Sl ByteArray))]) (z := false) (ts := [.agg [t11, t12, .int .i64 y2.Memory.Heap.Next, t13, t14, t15, t16, t17, .int .i64 y2.Memory.Console.At, t18, t19, t20, .int .i64 y2.At, .int .i64 y2.Steps, .str y2.Image, .int .i64 y2.Saved], .int .i64 1]) (vs := [.agg (DDesk.cells y2), .int .i64 1]) rfl hS rfl rfl rfl hH (HL.agg (es1 := [.own true 1 t11 (Sl.t (y2.Source : Sl ByteArray)), .own true 1 t12 (Sl.t (y2.Input : Sl ByteArray)), .own true 10 t13 (Sl.t (y2.Memory.Heap.Objects : Sl DObject)), .own true 5 t14 (Sl.t (y2.Memory.Scope.Vars : Sl DBinding)), .own true 4 t15 (Sl.t (y2.Memory.Scope.Functions : Sl DFunction)), .own true 2 t16 (Sl.t (y2.Memory.Scope.Types : Sl DRecordType)), .own true 1 t17 (Sl.t (y2.Memory.Console.Input : Sl ByteArray)), .own true 1 t18 (Sl.t (y2.Memory.Console.Output : Sl ByteArray)), .own true 4 t19 (Sl.t (y2.Memory.Console.Files : Sl DFile)), .own true 1 t20 (Sl.t (y2.Memory.Console.Trace : Sl ByteArray))]) (es2 := []) (HL.own rfl (HL.own rfl (HL.leaf (fun σ d => hold_int _ σ d _ _) (HL.own rfl (HL.own rfl (HL.own rfl (HL.own rfl (HL.own rfl (HL.leaf (fun σ d => hold_int _ σ d _ _) (HL.own rfl (HL.own rfl (HL.own rfl (HL.leaf (fun σ d => hold_int _ σ d _ _) (HL.leaf (fun σ d => hold_int _ σ d _ _) (HL.leaf (fun σ d => hold_str _ σ d _) (HL.leaf (fun σ d => hold_int _ σ d _ _) HL.nil)))))))))))))))) (HL.leaf (fun σ d => hold_int _ σ d _ _) HL.nil)) hy4 (by kernel_rfl) ?_; intro s hS
    refine q_seg 1 [(1, .ptr b1 0 0 16), (2, .ptr b2 0 0 16), (3, .int .i64 y4)] hS (by kernel_rfl) ?_; intro s hS
    refine x_nil ?_
    refine sq_n ?_
    refine c_seq ?_
    refine c_region ?_
    refine q_seg 1 [(1, .ptr b1 0 0 16), (2, .ptr b2 0 0 16), (3, .int .i64 y4), (4, .int .i64 1)] hS (by kernel_rfl) ?_; intro s hS
    refine x_nil ?_
    refine sq_n ?_
    refine c_seq ?_
    refine c_region ?_
    refine q_load (v := .agg [t11, t12, .int .i64 y2.Memory.Heap.Next, t13, t14, t15, t16, t17, .int .i64 y2.Memory.Console.At, t18, t19, t20, .int .i64 y2.At, .int .i64 y2.Steps, .str y2.Image, .int .i64 y2.Saved]) 20 trivial rfl hS hH rfl rfl (by kernel_rfl) ?_; intro s hS
    refine q_seg 1 [(1, .ptr b1 0 0 16), (2, .ptr b2 0 0 16), (3, .int .i64 y4), (15, .agg [t11, t12, .int .i64 y2.Memory.Heap.Next, t13, t14, t15, t16, t17, .int .i64 y2.Memory.Console.At, t18, t19, t20, .int .i64 y2.At, .int .i64 y2.Steps, .str y2.Image, .int .i64 y2.Saved]), (16, .int .i64 1)] hS (by kernel_rfl) ?_; intro s hS
    obtain ⟨y5, hy5, h⟩ := bind_some h
    refine q_callH (ents := [.own true 1 t11 (Sl.t (y2.Source : Sl ByteArray)), .own true 1 t12 (Sl.t (y2.Input : Sl ByteArray)), .own true 10 t13 (Sl.t (y2.Memory.Heap.Objects : Sl DObject)), .own true 5 t14 (Sl.t (y2.Memory.Scope.Vars : Sl DBinding)), .own true 4 t15 (Sl.t (y2.Memory.Scope.Functions : Sl DFunction)), .own true 2 t16 (Sl.t (y2.Memory.Scope.Types : Sl DRecordType)), .own true 1 t17 (Sl.t (y2.Memory.Console.Input : Sl ByteArray)), .own true 1 t18 (Sl.t (y2.Memory.Console.Output : Sl ByteArray)), .own true 4 t19 (Sl.t (y2.Memory.Console.Files : Sl DFile)), .own true 1 t20 (Sl.t (y2.Memory.Console.Trace : Sl ByteArray))]) (z := false) (ts := [.agg [t11, t12, .int .i64 y2.Memory.Heap.Next, t13, t14, t15, t16, t17, .int .i64 y2.Memory.Console.At, t18, t19, t20, .int .i64 y2.At, .int .i64 y2.Steps, .str y2.Image, .int .i64 y2.Saved], .int .i64 1]) (vs := [.agg (DDesk.cells y2), .int .i64 1]) rfl hS rfl rfl rfl hH (HL.agg (es1 := [.own true 1 t11 (Sl.t (y2.Source : Sl ByteArray)), .own true 1 t12 (Sl.t (y2.Input : Sl ByteArray)), .own true 10 t13 (Sl.t (y2.Memory.Heap.Objects : Sl DObject)), .own true 5 t14 (Sl.t (y2.Memory.Scope.Vars : Sl DBinding)), .own true 4 t15 (Sl.t (y2.Memory.Scope.Functions : Sl DFunction)), .own true 2 t16 (Sl.t (y2.Memory.Scope.Types : Sl DRecordType)), .own true 1 t17 (Sl.t (y2.Memory.Console.Input : Sl ByteArray)), .own true 1 t18 (Sl.t (y2.Memory.Console.Output : Sl ByteArray)), .own true 4 t19 (Sl.t (y2.Memory.Console.Files : Sl DFile)), .own true 1 t20 (Sl.t (y2.Memory.Console.Trace : Sl ByteArray))]) (es2 := []) (HL.own rfl (HL.own rfl (HL.leaf (fun σ d => hold_int _ σ d _ _) (HL.own rfl (HL.own rfl (HL.own rfl (HL.own rfl (HL.own rfl (HL.leaf (fun σ d => hold_int _ σ d _ _) (HL.own rfl (HL.own rfl (HL.own rfl (HL.leaf (fun σ d => hold_int _ σ d _ _) (HL.leaf (fun σ d => hold_int _ σ d _ _) (HL.leaf (fun σ d => hold_str _ σ d _) (HL.leaf (fun σ d => hold_int _ σ d _ _) HL.nil)))))))))))))))) (HL.leaf (fun σ d => hold_int _ σ d _ _) HL.nil)) hy5 (by kernel_rfl) ?_; intro s hS
    refine q_seg 1 [(1, .ptr b1 0 0 16), (2, .ptr b2 0 0 16), (3, .int .i64 y4), (4, .int .i64 y5)] hS (by kernel_rfl) ?_; intro s hS
    refine x_nil ?_
    refine sq_n ?_
    refine c_seq ?_
    refine c_seq ?_
    refine c_region ?_
    refine q_seg 2 [(1, .ptr b1 0 0 16), (2, .ptr b2 0 0 16), (3, .int .i64 y4), (4, .int .i64 y5), (19, .bool (decide (y5 < 0)))] hS (by kernel_rfl) ?_; intro s hS
    refine x_nil ?_
    refine sq_n ?_
    by_cases hc2 : (decide (y5 < 0)) = true
    · have h := it_pos hc2 h
      refine c_cond hS rfl (fun _ => ?_) (fun hf => ff_absurd hc2 hf)
      refine c_seq ?_
      refine c_region ?_
      refine q_seg 1 [(0, .bool false)] hS (by kernel_rfl) ?_; intro s hS
      refine x_nil ?_
      refine sq_n ?_
      refine c_ret ?_
      refine sq_r ?_
      injection h with h; subst h
      exact end_W hH (r_tmp (v := .bool false) hS rfl r_nil) rfl (by kernel_rfl) (by simp [pureT, pureL, E_bool])
    · have h := it_neg hc2 h
      refine c_cond hS rfl (fun hf => tt_absurd hc2 hf) (fun _ => ?_)
      refine c_skip ?_
      refine sq_n ?_
      refine c_seq ?_
      refine c_seq ?_
      refine c_region ?_
      refine q_seg 3 [(1, .ptr b1 0 0 16), (2, .ptr b2 0 0 16), (3, .int .i64 y4), (22, .bool (!decide (y5 = y4)))] hS (by kernel_rfl) ?_; intro s hS
      refine x_nil ?_
      refine sq_n ?_
      by_cases hc3 : (!decide (y5 = y4)) = true
      · have h := it_pos hc3 h
        refine c_cond hS rfl (fun _ => ?_) (fun hf => ff_absurd hc3 hf)
        refine c_seq ?_
        refine c_region ?_
        refine q_seg 1 [(0, .bool false)] hS (by kernel_rfl) ?_; intro s hS
        refine x_nil ?_
        refine sq_n ?_
        refine c_ret ?_
        refine sq_r ?_
        injection h with h; subst h
        exact end_W hH (r_tmp (v := .bool false) hS rfl r_nil) rfl (by kernel_rfl) (by simp [pureT, pureL, E_bool])
      · have h := it_neg hc3 h
        refine c_cond hS rfl (fun hf => tt_absurd hc3 hf) (fun _ => ?_)
        refine c_skip ?_
        refine sq_n ?_
        refine c_seq ?_
        refine c_region ?_
        obtain ⟨y6, hy6, h⟩ := bind_some h
        refine q_callO (ents := []) (z := false) (ts := []) (vs := []) rfl rfl hS rfl rfl rfl hH HL.nil hy6 ?_; intro hs σ s hl hH hS
        obtain ⟨t21, t22, t23, t24, t25, t26, t27, t28, t29, t30, rfl⟩ := len10 hl
        have hH : Heap σ0 σ [.own true 1 t21 (Sl.t (y6.Source : Sl ByteArray)), .own true 1 t22 (Sl.t (y6.Input : Sl ByteArray)), .own true 10 t23 (Sl.t (y6.Memory.Heap.Objects : Sl DObject)), .own true 5 t24 (Sl.t (y6.Memory.Scope.Vars : Sl DBinding)), .own true 4 t25 (Sl.t (y6.Memory.Scope.Functions : Sl DFunction)), .own true 2 t26 (Sl.t (y6.Memory.Scope.Types : Sl DRecordType)), .own true 1 t27 (Sl.t (y6.Memory.Console.Input : Sl ByteArray)), .own true 1 t28 (Sl.t (y6.Memory.Console.Output : Sl ByteArray)), .own true 4 t29 (Sl.t (y6.Memory.Console.Files : Sl DFile)), .own true 1 t30 (Sl.t (y6.Memory.Console.Trace : Sl ByteArray)), .own true 1 t11 (Sl.t (y2.Source : Sl ByteArray)), .own true 1 t12 (Sl.t (y2.Input : Sl ByteArray)), .own true 10 t13 (Sl.t (y2.Memory.Heap.Objects : Sl DObject)), .own true 5 t14 (Sl.t (y2.Memory.Scope.Vars : Sl DBinding)), .own true 4 t15 (Sl.t (y2.Memory.Scope.Functions : Sl DFunction)), .own true 2 t16 (Sl.t (y2.Memory.Scope.Types : Sl DRecordType)), .own true 1 t17 (Sl.t (y2.Memory.Console.Input : Sl ByteArray)), .own true 1 t18 (Sl.t (y2.Memory.Console.Output : Sl ByteArray)), .own true 4 t19 (Sl.t (y2.Memory.Console.Files : Sl DFile)), .own true 1 t20 (Sl.t (y2.Memory.Console.Trace : Sl ByteArray)), .own true 1 t1 (Sl.t (y1.Source : Sl ByteArray)), .own true 1 t2 (Sl.t (y1.Input : Sl ByteArray)), .own true 10 t3 (Sl.t (y1.Memory.Heap.Objects : Sl DObject)), .own true 5 t4 (Sl.t (y1.Memory.Scope.Vars : Sl DBinding)), .own true 4 t5 (Sl.t (y1.Memory.Scope.Functions : Sl DFunction)), .own true 2 t6 (Sl.t (y1.Memory.Scope.Types : Sl DRecordType)), .own true 1 t7 (Sl.t (y1.Memory.Console.Input : Sl ByteArray)), .own true 1 t8 (Sl.t (y1.Memory.Console.Output : Sl ByteArray)), .own true 4 t9 (Sl.t (y1.Memory.Console.Files : Sl DFile)), .own true 1 t10 (Sl.t (y1.Memory.Console.Trace : Sl ByteArray)), .box b2 [t11, t12, .int .i64 y2.Memory.Heap.Next, t13, t14, t15, t16, t17, .int .i64 y2.Memory.Console.At, t18, t19, t20, .int .i64 y2.At, .int .i64 y2.Steps, .str y2.Image, .int .i64 y2.Saved], .box b1 [t1, t2, .int .i64 y1.Memory.Heap.Next, t3, t4, t5, t6, t7, .int .i64 y1.Memory.Console.At, t8, t9, t10, .int .i64 y1.At, .int .i64 y1.Steps, .str y1.Image, .int .i64 y1.Saved]] := hH
        have ht21 : IsOne t21 := Heap.one hH
        have ht22 : IsOne t22 := Heap.one (hH.at 1 rfl)
        have ht23 : IsOne t23 := Heap.one (hH.at 2 rfl)
        have ht24 : IsOne t24 := Heap.one (hH.at 3 rfl)
        have ht25 : IsOne t25 := Heap.one (hH.at 4 rfl)
        have ht26 : IsOne t26 := Heap.one (hH.at 5 rfl)
        have ht27 : IsOne t27 := Heap.one (hH.at 6 rfl)
        have ht28 : IsOne t28 := Heap.one (hH.at 7 rfl)
        have ht29 : IsOne t29 := Heap.one (hH.at 8 rfl)
        have ht30 : IsOne t30 := Heap.one (hH.at 9 rfl)
        refine q_alloc (z := [(Sl.t (⟨true, []⟩ : Sl ByteArray)), (Sl.t (⟨true, []⟩ : Sl ByteArray)), .int .i64 0, (Sl.t (⟨true, []⟩ : Sl DObject)), (Sl.t (⟨true, []⟩ : Sl DBinding)), (Sl.t (⟨true, []⟩ : Sl DFunction)), (Sl.t (⟨true, []⟩ : Sl DRecordType)), (Sl.t (⟨true, []⟩ : Sl ByteArray)), .int .i64 0, (Sl.t (⟨true, []⟩ : Sl ByteArray)), (Sl.t (⟨true, []⟩ : Sl DFile)), (Sl.t (⟨true, []⟩ : Sl ByteArray)), .int .i64 0, .int .i64 0, .str ⟨#[]⟩, .int .i64 0]) rfl hS hH (by kernel_rfl) ?_; intro b3 σ s hH hS
        refine q_store (v := .agg [t21, t22, .int .i64 y6.Memory.Heap.Next, t23, t24, t25, t26, t27, .int .i64 y6.Memory.Console.At, t28, t29, t30, .int .i64 y6.At, .int .i64 y6.Steps, .str y6.Image, .int .i64 y6.Saved]) (cs := [t21, t22, .int .i64 y6.Memory.Heap.Next, t23, t24, t25, t26, t27, .int .i64 y6.Memory.Console.At, t28, t29, t30, .int .i64 y6.At, .int .i64 y6.Steps, .str y6.Image, .int .i64 y6.Saved]) (cells' := [t21, t22, .int .i64 y6.Memory.Heap.Next, t23, t24, t25, t26, t27, .int .i64 y6.Memory.Console.At, t28, t29, t30, .int .i64 y6.At, .int .i64 y6.Steps, .str y6.Image, .int .i64 y6.Saved]) rfl hS hH rfl rfl rfl (by simp [ht21.1, ht21.2, ht22.1, ht22.2, ht23.1, ht23.2, ht24.1, ht24.2, ht25.1, ht25.2, ht26.1, ht26.2, ht27.1, ht27.2, ht28.1, ht28.2, ht29.1, ht29.2, ht30.1, ht30.2]) (by kernel_rfl) ?_; intro σ s hH hS
        refine x_nil ?_
        refine sq_n ?_
        refine c_seq ?_
        refine c_seq ?_
        refine c_region ?_
        refine q_load (v := .agg [t21, t22, .int .i64 y6.Memory.Heap.Next, t23, t24, t25, t26, t27, .int .i64 y6.Memory.Console.At, t28, t29, t30, .int .i64 y6.At, .int .i64 y6.Steps, .str y6.Image, .int .i64 y6.Saved]) 0 trivial rfl hS hH rfl rfl (by kernel_rfl) ?_; intro s hS
        refine q_load (v := .agg [t1, t2, .int .i64 y1.Memory.Heap.Next, t3, t4, t5, t6, t7, .int .i64 y1.Memory.Console.At, t8, t9, t10, .int .i64 y1.At, .int .i64 y1.Steps, .str y1.Image, .int .i64 y1.Saved]) 32 trivial rfl hS hH rfl rfl (by kernel_rfl) ?_; intro s hS
        obtain ⟨y7, hy7, h⟩ := bind_some h
        have hH : Heap σ0 σ [.own true 1 t21 (Sl.t (y6.Source : Sl ByteArray)), .own true 1 t22 (Sl.t (y6.Input : Sl ByteArray)), .own true 10 t23 (Sl.t (y6.Memory.Heap.Objects : Sl DObject)), .own true 5 t24 (Sl.t (y6.Memory.Scope.Vars : Sl DBinding)), .own true 4 t25 (Sl.t (y6.Memory.Scope.Functions : Sl DFunction)), .own true 2 t26 (Sl.t (y6.Memory.Scope.Types : Sl DRecordType)), .own true 1 t27 (Sl.t (y6.Memory.Console.Input : Sl ByteArray)), .own true 1 t28 (Sl.t (y6.Memory.Console.Output : Sl ByteArray)), .own true 4 t29 (Sl.t (y6.Memory.Console.Files : Sl DFile)), .own true 1 t30 (Sl.t (y6.Memory.Console.Trace : Sl ByteArray)), .own true 1 t1 (Sl.t (y1.Source : Sl ByteArray)), .own true 1 t2 (Sl.t (y1.Input : Sl ByteArray)), .own true 10 t3 (Sl.t (y1.Memory.Heap.Objects : Sl DObject)), .own true 5 t4 (Sl.t (y1.Memory.Scope.Vars : Sl DBinding)), .own true 4 t5 (Sl.t (y1.Memory.Scope.Functions : Sl DFunction)), .own true 2 t6 (Sl.t (y1.Memory.Scope.Types : Sl DRecordType)), .own true 1 t7 (Sl.t (y1.Memory.Console.Input : Sl ByteArray)), .own true 1 t8 (Sl.t (y1.Memory.Console.Output : Sl ByteArray)), .own true 4 t9 (Sl.t (y1.Memory.Console.Files : Sl DFile)), .own true 1 t10 (Sl.t (y1.Memory.Console.Trace : Sl ByteArray)), .box b3 [t21, t22, .int .i64 y6.Memory.Heap.Next, t23, t24, t25, t26, t27, .int .i64 y6.Memory.Console.At, t28, t29, t30, .int .i64 y6.At, .int .i64 y6.Steps, .str y6.Image, .int .i64 y6.Saved], .own true 1 t11 (Sl.t (y2.Source : Sl ByteArray)), .own true 1 t12 (Sl.t (y2.Input : Sl ByteArray)), .own true 10 t13 (Sl.t (y2.Memory.Heap.Objects : Sl DObject)), .own true 5 t14 (Sl.t (y2.Memory.Scope.Vars : Sl DBinding)), .own true 4 t15 (Sl.t (y2.Memory.Scope.Functions : Sl DFunction)), .own true 2 t16 (Sl.t (y2.Memory.Scope.Types : Sl DRecordType)), .own true 1 t17 (Sl.t (y2.Memory.Console.Input : Sl ByteArray)), .own true 1 t18 (Sl.t (y2.Memory.Console.Output : Sl ByteArray)), .own true 4 t19 (Sl.t (y2.Memory.Console.Files : Sl DFile)), .own true 1 t20 (Sl.t (y2.Memory.Console.Trace : Sl ByteArray)), .box b2 [t11, t12, .int .i64 y2.Memory.Heap.Next, t13, t14, t15, t16, t17, .int .i64 y2.Memory.Console.At, t18, t19, t20, .int .i64 y2.At, .int .i64 y2.Steps, .str y2.Image, .int .i64 y2.Saved], .box b1 [t1, t2, .int .i64 y1.Memory.Heap.Next, t3, t4, t5, t6, t7, .int .i64 y1.Memory.Console.At, t8, t9, t10, .int .i64 y1.At, .int .i64 y1.Steps, .str y1.Image, .int .i64 y1.Saved]] := hH.sel [1, 2, 3, 4, 5, 6, 7, 8, 9, 10, 21, 22, 23, 24, 25, 26, 27, 28, 29, 30, 0, 11, 12, 13, 14, 15, 16, 17, 18, 19, 20, 31, 32] rfl (by kernel_rfl)
        refine q_callH (ents := [.own true 1 t21 (Sl.t (y6.Source : Sl ByteArray)), .own true 1 t22 (Sl.t (y6.Input : Sl ByteArray)), .own true 10 t23 (Sl.t (y6.Memory.Heap.Objects : Sl DObject)), .own true 5 t24 (Sl.t (y6.Memory.Scope.Vars : Sl DBinding)), .own true 4 t25 (Sl.t (y6.Memory.Scope.Functions : Sl DFunction)), .own true 2 t26 (Sl.t (y6.Memory.Scope.Types : Sl DRecordType)), .own true 1 t27 (Sl.t (y6.Memory.Console.Input : Sl ByteArray)), .own true 1 t28 (Sl.t (y6.Memory.Console.Output : Sl ByteArray)), .own true 4 t29 (Sl.t (y6.Memory.Console.Files : Sl DFile)), .own true 1 t30 (Sl.t (y6.Memory.Console.Trace : Sl ByteArray)), .own true 1 t1 (Sl.t (y1.Source : Sl ByteArray)), .own true 1 t2 (Sl.t (y1.Input : Sl ByteArray)), .own true 10 t3 (Sl.t (y1.Memory.Heap.Objects : Sl DObject)), .own true 5 t4 (Sl.t (y1.Memory.Scope.Vars : Sl DBinding)), .own true 4 t5 (Sl.t (y1.Memory.Scope.Functions : Sl DFunction)), .own true 2 t6 (Sl.t (y1.Memory.Scope.Types : Sl DRecordType)), .own true 1 t7 (Sl.t (y1.Memory.Console.Input : Sl ByteArray)), .own true 1 t8 (Sl.t (y1.Memory.Console.Output : Sl ByteArray)), .own true 4 t9 (Sl.t (y1.Memory.Console.Files : Sl DFile)), .own true 1 t10 (Sl.t (y1.Memory.Console.Trace : Sl ByteArray))]) (z := false) (ts := [.agg [t21, t22, .int .i64 y6.Memory.Heap.Next, t23, t24, t25, t26, t27, .int .i64 y6.Memory.Console.At, t28, t29, t30, .int .i64 y6.At, .int .i64 y6.Steps, .str y6.Image, .int .i64 y6.Saved], .agg [t1, t2, .int .i64 y1.Memory.Heap.Next, t3, t4, t5, t6, t7, .int .i64 y1.Memory.Console.At, t8, t9, t10, .int .i64 y1.At, .int .i64 y1.Steps, .str y1.Image, .int .i64 y1.Saved]]) (vs := [.agg (DDesk.cells y6), .agg (DDesk.cells y1)]) rfl hS rfl rfl rfl hH (HL.agg (es1 := [.own true 1 t21 (Sl.t (y6.Source : Sl ByteArray)), .own true 1 t22 (Sl.t (y6.Input : Sl ByteArray)), .own true 10 t23 (Sl.t (y6.Memory.Heap.Objects : Sl DObject)), .own true 5 t24 (Sl.t (y6.Memory.Scope.Vars : Sl DBinding)), .own true 4 t25 (Sl.t (y6.Memory.Scope.Functions : Sl DFunction)), .own true 2 t26 (Sl.t (y6.Memory.Scope.Types : Sl DRecordType)), .own true 1 t27 (Sl.t (y6.Memory.Console.Input : Sl ByteArray)), .own true 1 t28 (Sl.t (y6.Memory.Console.Output : Sl ByteArray)), .own true 4 t29 (Sl.t (y6.Memory.Console.Files : Sl DFile)), .own true 1 t30 (Sl.t (y6.Memory.Console.Trace : Sl ByteArray))]) (es2 := [.own true 1 t1 (Sl.t (y1.Source : Sl ByteArray)), .own true 1 t2 (Sl.t (y1.Input : Sl ByteArray)), .own true 10 t3 (Sl.t (y1.Memory.Heap.Objects : Sl DObject)), .own true 5 t4 (Sl.t (y1.Memory.Scope.Vars : Sl DBinding)), .own true 4 t5 (Sl.t (y1.Memory.Scope.Functions : Sl DFunction)), .own true 2 t6 (Sl.t (y1.Memory.Scope.Types : Sl DRecordType)), .own true 1 t7 (Sl.t (y1.Memory.Console.Input : Sl ByteArray)), .own true 1 t8 (Sl.t (y1.Memory.Console.Output : Sl ByteArray)), .own true 4 t9 (Sl.t (y1.Memory.Console.Files : Sl DFile)), .own true 1 t10 (Sl.t (y1.Memory.Console.Trace : Sl ByteArray))]) (HL.own rfl (HL.own rfl (HL.leaf (fun σ d => hold_int _ σ d _ _) (HL.own rfl (HL.own rfl (HL.own rfl (HL.own rfl (HL.own rfl (HL.leaf (fun σ d => hold_int _ σ d _ _) (HL.own rfl (HL.own rfl (HL.own rfl (HL.leaf (fun σ d => hold_int _ σ d _ _) (HL.leaf (fun σ d => hold_int _ σ d _ _) (HL.leaf (fun σ d => hold_str _ σ d _) (HL.leaf (fun σ d => hold_int _ σ d _ _) HL.nil)))))))))))))))) (HL.agg (es1 := [.own true 1 t1 (Sl.t (y1.Source : Sl ByteArray)), .own true 1 t2 (Sl.t (y1.Input : Sl ByteArray)), .own true 10 t3 (Sl.t (y1.Memory.Heap.Objects : Sl DObject)), .own true 5 t4 (Sl.t (y1.Memory.Scope.Vars : Sl DBinding)), .own true 4 t5 (Sl.t (y1.Memory.Scope.Functions : Sl DFunction)), .own true 2 t6 (Sl.t (y1.Memory.Scope.Types : Sl DRecordType)), .own true 1 t7 (Sl.t (y1.Memory.Console.Input : Sl ByteArray)), .own true 1 t8 (Sl.t (y1.Memory.Console.Output : Sl ByteArray)), .own true 4 t9 (Sl.t (y1.Memory.Console.Files : Sl DFile)), .own true 1 t10 (Sl.t (y1.Memory.Console.Trace : Sl ByteArray))]) (es2 := []) (HL.own rfl (HL.own rfl (HL.leaf (fun σ d => hold_int _ σ d _ _) (HL.own rfl (HL.own rfl (HL.own rfl (HL.own rfl (HL.own rfl (HL.leaf (fun σ d => hold_int _ σ d _ _) (HL.own rfl (HL.own rfl (HL.own rfl (HL.leaf (fun σ d => hold_int _ σ d _ _) (HL.leaf (fun σ d => hold_int _ σ d _ _) (HL.leaf (fun σ d => hold_str _ σ d _) (HL.leaf (fun σ d => hold_int _ σ d _ _) HL.nil)))))))))))))))) HL.nil)) hy7 (by kernel_rfl) ?_; intro s hS
        refine q_seg 1 [(2, .ptr b2 0 0 16), (3, .int .i64 y4), (27, .bool (!y7))] hS (by kernel_rfl) ?_; intro s hS
        refine x_nil ?_
        refine sq_n ?_
        by_cases hc4 : (!y7) = true
        · have h := it_pos hc4 h
          refine c_cond hS rfl (fun _ => ?_) (fun hf => ff_absurd hc4 hf)
          refine c_seq ?_
          refine c_region ?_
          refine q_seg 1 [(0, .bool false)] hS (by kernel_rfl) ?_; intro s hS
          refine x_nil ?_
          refine sq_n ?_
          refine c_ret ?_
          refine sq_r ?_
          injection h with h; subst h
          exact end_W hH (r_tmp (v := .bool false) hS rfl r_nil) rfl (by kernel_rfl) (by simp [pureT, pureL, E_bool])
        · have h := it_neg hc4 h
          refine c_cond hS rfl (fun hf => tt_absurd hc4 hf) (fun _ => ?_)
          refine c_skip ?_
          refine sq_n ?_
          refine c_seq ?_
          refine c_region ?_
          refine q_seg 1 [(2, .ptr b2 0 0 16), (3, .int .i64 y4), (4, .int .i64 1)] hS (by kernel_rfl) ?_; intro s hS
          refine x_nil ?_
          refine sq_n ?_
          refine c_seq ?_
          refine c_region ?_
          refine q_load (v := .agg [t11, t12, .int .i64 y2.Memory.Heap.Next, t13, t14, t15, t16, t17, .int .i64 y2.Memory.Console.At, t18, t19, t20, .int .i64 y2.At, .int .i64 y2.Steps, .str y2.Image, .int .i64 y2.Saved]) 31 trivial rfl hS hH rfl rfl (by kernel_rfl) ?_; intro s hS
          refine q_seg 1 [(3, .int .i64 y4), (28, .agg [t11, t12, .int .i64 y2.Memory.Heap.Next, t13, t14, t15, t16, t17, .int .i64 y2.Memory.Console.At, t18, t19, t20, .int .i64 y2.At, .int .i64 y2.Steps, .str y2.Image, .int .i64 y2.Saved]), (29, .int .i64 1)] hS (by kernel_rfl) ?_; intro s hS
          obtain ⟨y8, hy8, h⟩ := bind_some h
          have hH : Heap σ0 σ [.own true 1 t11 (Sl.t (y2.Source : Sl ByteArray)), .own true 1 t12 (Sl.t (y2.Input : Sl ByteArray)), .own true 10 t13 (Sl.t (y2.Memory.Heap.Objects : Sl DObject)), .own true 5 t14 (Sl.t (y2.Memory.Scope.Vars : Sl DBinding)), .own true 4 t15 (Sl.t (y2.Memory.Scope.Functions : Sl DFunction)), .own true 2 t16 (Sl.t (y2.Memory.Scope.Types : Sl DRecordType)), .own true 1 t17 (Sl.t (y2.Memory.Console.Input : Sl ByteArray)), .own true 1 t18 (Sl.t (y2.Memory.Console.Output : Sl ByteArray)), .own true 4 t19 (Sl.t (y2.Memory.Console.Files : Sl DFile)), .own true 1 t20 (Sl.t (y2.Memory.Console.Trace : Sl ByteArray)), .own true 1 t21 (Sl.t (y6.Source : Sl ByteArray)), .own true 1 t22 (Sl.t (y6.Input : Sl ByteArray)), .own true 10 t23 (Sl.t (y6.Memory.Heap.Objects : Sl DObject)), .own true 5 t24 (Sl.t (y6.Memory.Scope.Vars : Sl DBinding)), .own true 4 t25 (Sl.t (y6.Memory.Scope.Functions : Sl DFunction)), .own true 2 t26 (Sl.t (y6.Memory.Scope.Types : Sl DRecordType)), .own true 1 t27 (Sl.t (y6.Memory.Console.Input : Sl ByteArray)), .own true 1 t28 (Sl.t (y6.Memory.Console.Output : Sl ByteArray)), .own true 4 t29 (Sl.t (y6.Memory.Console.Files : Sl DFile)), .own true 1 t30 (Sl.t (y6.Memory.Console.Trace : Sl ByteArray)), .own true 1 t1 (Sl.t (y1.Source : Sl ByteArray)), .own true 1 t2 (Sl.t (y1.Input : Sl ByteArray)), .own true 10 t3 (Sl.t (y1.Memory.Heap.Objects : Sl DObject)), .own true 5 t4 (Sl.t (y1.Memory.Scope.Vars : Sl DBinding)), .own true 4 t5 (Sl.t (y1.Memory.Scope.Functions : Sl DFunction)), .own true 2 t6 (Sl.t (y1.Memory.Scope.Types : Sl DRecordType)), .own true 1 t7 (Sl.t (y1.Memory.Console.Input : Sl ByteArray)), .own true 1 t8 (Sl.t (y1.Memory.Console.Output : Sl ByteArray)), .own true 4 t9 (Sl.t (y1.Memory.Console.Files : Sl DFile)), .own true 1 t10 (Sl.t (y1.Memory.Console.Trace : Sl ByteArray)), .box b3 [t21, t22, .int .i64 y6.Memory.Heap.Next, t23, t24, t25, t26, t27, .int .i64 y6.Memory.Console.At, t28, t29, t30, .int .i64 y6.At, .int .i64 y6.Steps, .str y6.Image, .int .i64 y6.Saved], .box b2 [t11, t12, .int .i64 y2.Memory.Heap.Next, t13, t14, t15, t16, t17, .int .i64 y2.Memory.Console.At, t18, t19, t20, .int .i64 y2.At, .int .i64 y2.Steps, .str y2.Image, .int .i64 y2.Saved], .box b1 [t1, t2, .int .i64 y1.Memory.Heap.Next, t3, t4, t5, t6, t7, .int .i64 y1.Memory.Console.At, t8, t9, t10, .int .i64 y1.At, .int .i64 y1.Steps, .str y1.Image, .int .i64 y1.Saved]] := hH.sel [21, 22, 23, 24, 25, 26, 27, 28, 29, 30, 0, 1, 2, 3, 4, 5, 6, 7, 8, 9, 10, 11, 12, 13, 14, 15, 16, 17, 18, 19, 20, 31, 32] rfl (by kernel_rfl)
          refine q_callH (ents := [.own true 1 t11 (Sl.t (y2.Source : Sl ByteArray)), .own true 1 t12 (Sl.t (y2.Input : Sl ByteArray)), .own true 10 t13 (Sl.t (y2.Memory.Heap.Objects : Sl DObject)), .own true 5 t14 (Sl.t (y2.Memory.Scope.Vars : Sl DBinding)), .own true 4 t15 (Sl.t (y2.Memory.Scope.Functions : Sl DFunction)), .own true 2 t16 (Sl.t (y2.Memory.Scope.Types : Sl DRecordType)), .own true 1 t17 (Sl.t (y2.Memory.Console.Input : Sl ByteArray)), .own true 1 t18 (Sl.t (y2.Memory.Console.Output : Sl ByteArray)), .own true 4 t19 (Sl.t (y2.Memory.Console.Files : Sl DFile)), .own true 1 t20 (Sl.t (y2.Memory.Console.Trace : Sl ByteArray))]) (z := false) (ts := [.agg [t11, t12, .int .i64 y2.Memory.Heap.Next, t13, t14, t15, t16, t17, .int .i64 y2.Memory.Console.At, t18, t19, t20, .int .i64 y2.At, .int .i64 y2.Steps, .str y2.Image, .int .i64 y2.Saved], .int .i64 1]) (vs := [.agg (DDesk.cells y2), .int .i64 1]) rfl hS rfl rfl rfl hH (HL.agg (es1 := [.own true 1 t11 (Sl.t (y2.Source : Sl ByteArray)), .own true 1 t12 (Sl.t (y2.Input : Sl ByteArray)), .own true 10 t13 (Sl.t (y2.Memory.Heap.Objects : Sl DObject)), .own true 5 t14 (Sl.t (y2.Memory.Scope.Vars : Sl DBinding)), .own true 4 t15 (Sl.t (y2.Memory.Scope.Functions : Sl DFunction)), .own true 2 t16 (Sl.t (y2.Memory.Scope.Types : Sl DRecordType)), .own true 1 t17 (Sl.t (y2.Memory.Console.Input : Sl ByteArray)), .own true 1 t18 (Sl.t (y2.Memory.Console.Output : Sl ByteArray)), .own true 4 t19 (Sl.t (y2.Memory.Console.Files : Sl DFile)), .own true 1 t20 (Sl.t (y2.Memory.Console.Trace : Sl ByteArray))]) (es2 := []) (HL.own rfl (HL.own rfl (HL.leaf (fun σ d => hold_int _ σ d _ _) (HL.own rfl (HL.own rfl (HL.own rfl (HL.own rfl (HL.own rfl (HL.leaf (fun σ d => hold_int _ σ d _ _) (HL.own rfl (HL.own rfl (HL.own rfl (HL.leaf (fun σ d => hold_int _ σ d _ _) (HL.leaf (fun σ d => hold_int _ σ d _ _) (HL.leaf (fun σ d => hold_str _ σ d _) (HL.leaf (fun σ d => hold_int _ σ d _ _) HL.nil)))))))))))))))) (HL.leaf (fun σ d => hold_int _ σ d _ _) HL.nil)) hy8 (by kernel_rfl) ?_; intro s hS
          refine q_seg 1 [(3, .int .i64 y4), (4, .int .i64 y8)] hS (by kernel_rfl) ?_; intro s hS
          refine x_nil ?_
          refine sq_n ?_
          refine c_seq ?_
          refine c_seq ?_
          refine c_region ?_
          refine q_seg 2 [(3, .int .i64 y4), (4, .int .i64 y8), (32, .bool (decide (y8 < 0)))] hS (by kernel_rfl) ?_; intro s hS
          refine x_nil ?_
          refine sq_n ?_
          by_cases hc5 : (decide (y8 < 0)) = true
          · have h := it_pos hc5 h
            refine c_cond hS rfl (fun _ => ?_) (fun hf => ff_absurd hc5 hf)
            refine c_seq ?_
            refine c_region ?_
            refine q_seg 1 [(0, .bool false)] hS (by kernel_rfl) ?_; intro s hS
            refine x_nil ?_
            refine sq_n ?_
            refine c_ret ?_
            refine sq_r ?_
            injection h with h; subst h
            exact end_W hH (r_tmp (v := .bool false) hS rfl r_nil) rfl (by kernel_rfl) (by simp [pureT, pureL, E_bool])
          · have h := it_neg hc5 h
            refine c_cond hS rfl (fun hf => tt_absurd hc5 hf) (fun _ => ?_)
            refine c_skip ?_
            refine sq_n ?_
            refine c_seq ?_
            refine c_seq ?_
            refine c_region ?_
            refine q_seg 3 [(35, .bool (!decide (y8 = y4)))] hS (by kernel_rfl) ?_; intro s hS
            refine x_nil ?_
            refine sq_n ?_
            by_cases hc6 : (!decide (y8 = y4)) = true
            · have h := it_pos hc6 h
              refine c_cond hS rfl (fun _ => ?_) (fun hf => ff_absurd hc6 hf)
              refine c_seq ?_
              refine c_region ?_
              refine q_seg 1 [(0, .bool false)] hS (by kernel_rfl) ?_; intro s hS
              refine x_nil ?_
              refine sq_n ?_
              refine c_ret ?_
              refine sq_r ?_
              injection h with h; subst h
              exact end_W hH (r_tmp (v := .bool false) hS rfl r_nil) rfl (by kernel_rfl) (by simp [pureT, pureL, E_bool])
            · have h := it_neg hc6 h
              refine c_cond hS rfl (fun hf => tt_absurd hc6 hf) (fun _ => ?_)
              refine c_skip ?_
              refine sq_n ?_
              refine c_seq ?_
              refine c_region ?_
              refine q_seg 1 [(0, .bool true)] hS (by kernel_rfl) ?_; intro s hS
              refine x_nil ?_
              refine sq_n ?_
              refine c_ret ?_
              injection h with h; subst h
              exact end_W hH (r_tmp (v := .bool true) hS rfl r_nil) rfl (by kernel_rfl) (by simp [pureT, pureL, E_bool])
end Go.Am
end
section
set_option maxRecDepth 100000
set_option maxHeartbeats 4000000
set_option linter.unusedVariables false
set_option linter.unusedSimpArgs false
namespace Go.Am
open Go.Proofs
noncomputable def B_spec_NewDesk  : Option DDesk := (some (⟨⟨true, []⟩, ⟨true, []⟩, (⟨(⟨0, ⟨true, []⟩⟩ : DHeap), (⟨⟨true, []⟩, ⟨true, []⟩, ⟨true, []⟩⟩ : DScope), (⟨⟨true, []⟩, 0, ⟨true, []⟩, ⟨true, []⟩, ⟨true, []⟩⟩ : DConsole)⟩ : DMemory), (-1), 0, ⟨#[]⟩, (-1)⟩ : DDesk))
theorem u_spec_NewDesk  (r : DDesk) (h : B_spec_NewDesk  = some r) : F_spec_NewDesk  = some r := by
  unfold B_spec_NewDesk at h
  refine semO_of rfl rfl ok_5 rfl all_nil ?_
  intro σ0 s hS hH
  have hS := sub_to (L' := []) hS (by kernel_rfl)
  refine c_seq ?_
  refine c_region ?_
  refine q_alloc (z := [(Sl.t (⟨true, []⟩ : Sl ByteArray)), (Sl.t (⟨true, []⟩ : Sl ByteArray)), .int .i64 0, (Sl.t (⟨true, []⟩ : Sl DObject)), (Sl.t (⟨true, []⟩ : Sl DBinding)), (Sl.t (⟨true, []⟩ : Sl DFunction)), (Sl.t (⟨true, []⟩ : Sl DRecordType)), (Sl.t (⟨true, []⟩ : Sl ByteArray)), .int .i64 0, (Sl.t (⟨true, []⟩ : Sl ByteArray)), (Sl.t (⟨true, []⟩ : Sl DFile)), (Sl.t (⟨true, []⟩ : Sl ByteArray)), .int .i64 0, .int .i64 0, .str ⟨#[]⟩, .int .i64 0]) rfl hS hH (by kernel_rfl) ?_; intro b1 σ s hH hS
  refine x_nil ?_
  refine sq_n ?_
  refine c_seq ?_
  refine c_region ?_
  refine q_seg 1 [(0, .ptr b1 0 0 16), (1, .agg [(Sl.t (⟨true, []⟩ : Sl ByteArray)), (Sl.t (⟨true, []⟩ : Sl ByteArray)), .int .i64 0, (Sl.t (⟨true, []⟩ : Sl DObject)), (Sl.t (⟨true, []⟩ : Sl DBinding)), (Sl.t (⟨true, []⟩ : Sl DFunction)), (Sl.t (⟨true, []⟩ : Sl DRecordType)), (Sl.t (⟨true, []⟩ : Sl ByteArray)), .int .i64 0, (Sl.t (⟨true, []⟩ : Sl ByteArray)), (Sl.t (⟨true, []⟩ : Sl DFile)), (Sl.t (⟨true, []⟩ : Sl ByteArray)), .int .i64 (-1), .int .i64 0, .str ⟨#[]⟩, .int .i64 (-1)])] hS (by kernel_rfl) ?_; intro s hS
  refine q_store (v := .agg [(Sl.t (⟨true, []⟩ : Sl ByteArray)), (Sl.t (⟨true, []⟩ : Sl ByteArray)), .int .i64 0, (Sl.t (⟨true, []⟩ : Sl DObject)), (Sl.t (⟨true, []⟩ : Sl DBinding)), (Sl.t (⟨true, []⟩ : Sl DFunction)), (Sl.t (⟨true, []⟩ : Sl DRecordType)), (Sl.t (⟨true, []⟩ : Sl ByteArray)), .int .i64 0, (Sl.t (⟨true, []⟩ : Sl ByteArray)), (Sl.t (⟨true, []⟩ : Sl DFile)), (Sl.t (⟨true, []⟩ : Sl ByteArray)), .int .i64 (-1), .int .i64 0, .str ⟨#[]⟩, .int .i64 (-1)]) (cs := [(Sl.t (⟨true, []⟩ : Sl ByteArray)), (Sl.t (⟨true, []⟩ : Sl ByteArray)), .int .i64 0, (Sl.t (⟨true, []⟩ : Sl DObject)), (Sl.t (⟨true, []⟩ : Sl DBinding)), (Sl.t (⟨true, []⟩ : Sl DFunction)), (Sl.t (⟨true, []⟩ : Sl DRecordType)), (Sl.t (⟨true, []⟩ : Sl ByteArray)), .int .i64 0, (Sl.t (⟨true, []⟩ : Sl ByteArray)), (Sl.t (⟨true, []⟩ : Sl DFile)), (Sl.t (⟨true, []⟩ : Sl ByteArray)), .int .i64 (-1), .int .i64 0, .str ⟨#[]⟩, .int .i64 (-1)]) (cells' := [(Sl.t (⟨true, []⟩ : Sl ByteArray)), (Sl.t (⟨true, []⟩ : Sl ByteArray)), .int .i64 0, (Sl.t (⟨true, []⟩ : Sl DObject)), (Sl.t (⟨true, []⟩ : Sl DBinding)), (Sl.t (⟨true, []⟩ : Sl DFunction)), (Sl.t (⟨true, []⟩ : Sl DRecordType)), (Sl.t (⟨true, []⟩ : Sl ByteArray)), .int .i64 0, (Sl.t (⟨true, []⟩ : Sl ByteArray)), (Sl.t (⟨true, []⟩ : Sl DFile)), (Sl.t (⟨true, []⟩ : Sl ByteArray)), .int .i64 (-1), .int .i64 0, .str ⟨#[]⟩, .int .i64 (-1)]) rfl hS hH rfl rfl rfl (by kernel_rfl) (by kernel_rfl) ?_; intro σ s hH hS
  refine x_nil ?_
  refine sq_n ?_
  refine c_ret ?_
  injection h with h; subst h
  have hH := Heap.addNil hH true 1
  have hH := Heap.addNil hH true 1
  have hH := Heap.addNil hH true 10
  have hH := Heap.addNil hH true 5
  have hH := Heap.addNil hH true 4
  have hH := Heap.addNil hH true 2
  have hH := Heap.addNil hH true 1
  have hH := Heap.addNil hH true 1
  have hH := Heap.addNil hH true 4
  have hH := Heap.addNil hH true 1
  have hH : Heap σ0 σ [.own true 1 (T.row true 0 []) (Sl.t (⟨true, []⟩ : Sl ByteArray)), .own true 1 (T.row true 0 []) (Sl.t (⟨true, []⟩ : Sl ByteArray)), .own true 10 (T.row true 0 []) (Sl.t (⟨true, []⟩ : Sl DObject)), .own true 5 (T.row true 0 []) (Sl.t (⟨true, []⟩ : Sl DBinding)), .own true 4 (T.row true 0 []) (Sl.t (⟨true, []⟩ : Sl DFunction)), .own true 2 (T.row true 0 []) (Sl.t (⟨true, []⟩ : Sl DRecordType)), .own true 1 (T.row true 0 []) (Sl.t (⟨true, []⟩ : Sl ByteArray)), .own true 1 (T.row true 0 []) (Sl.t (⟨true, []⟩ : Sl ByteArray)), .own true 4 (T.row true 0 []) (Sl.t (⟨true, []⟩ : Sl DFile)), .own true 1 (T.row true 0 []) (Sl.t (⟨true, []⟩ : Sl ByteArray)), .box b1 [(Sl.t (⟨true, []⟩ : Sl ByteArray)), (Sl.t (⟨true, []⟩ : Sl ByteArray)), .int .i64 0, (Sl.t (⟨true, []⟩ : Sl DObject)), (Sl.t (⟨true, []⟩ : Sl DBinding)), (Sl.t (⟨true, []⟩ : Sl DFunction)), (Sl.t (⟨true, []⟩ : Sl DRecordType)), (Sl.t (⟨true, []⟩ : Sl ByteArray)), .int .i64 0, (Sl.t (⟨true, []⟩ : Sl ByteArray)), (Sl.t (⟨true, []⟩ : Sl DFile)), (Sl.t (⟨true, []⟩ : Sl ByteArray)), .int .i64 (-1), .int .i64 0, .str ⟨#[]⟩, .int .i64 (-1)]] := hH.sel [9, 8, 7, 6, 5, 4, 3, 2, 1, 0, 10] rfl (by kernel_rfl)
  exact end_Ow [(T.row true 0 []), (T.row true 0 []), (T.row true 0 []), (T.row true 0 []), (T.row true 0 []), (T.row true 0 []), (T.row true 0 []), (T.row true 0 []), (T.row true 0 []), (T.row true 0 [])] [.box b1 [(Sl.t (⟨true, []⟩ : Sl ByteArray)), (Sl.t (⟨true, []⟩ : Sl ByteArray)), .int .i64 0, (Sl.t (⟨true, []⟩ : Sl DObject)), (Sl.t (⟨true, []⟩ : Sl DBinding)), (Sl.t (⟨true, []⟩ : Sl DFunction)), (Sl.t (⟨true, []⟩ : Sl DRecordType)), (Sl.t (⟨true, []⟩ : Sl ByteArray)), .int .i64 0, (Sl.t (⟨true, []⟩ : Sl ByteArray)), (Sl.t (⟨true, []⟩ : Sl DFile)), (Sl.t (⟨true, []⟩ : Sl ByteArray)), .int .i64 (-1), .int .i64 0, .str ⟨#[]⟩, .int .i64 (-1)]] (r_cell (v := .agg [(Sl.t (⟨true, []⟩ : Sl ByteArray)), (Sl.t (⟨true, []⟩ : Sl ByteArray)), .int .i64 0, (Sl.t (⟨true, []⟩ : Sl DObject)), (Sl.t (⟨true, []⟩ : Sl DBinding)), (Sl.t (⟨true, []⟩ : Sl DFunction)), (Sl.t (⟨true, []⟩ : Sl DRecordType)), (Sl.t (⟨true, []⟩ : Sl ByteArray)), .int .i64 0, (Sl.t (⟨true, []⟩ : Sl ByteArray)), (Sl.t (⟨true, []⟩ : Sl DFile)), (Sl.t (⟨true, []⟩ : Sl ByteArray)), .int .i64 (-1), .int .i64 0, .str ⟨#[]⟩, .int .i64 (-1)]) hS (hH.at 10 rfl) rfl (by kernel_rfl) r_nil) (by kernel_rfl) rfl hH (by kernel_rfl)
end Go.Am
end
section
set_option maxRecDepth 100000
set_option maxHeartbeats 4000000
set_option linter.unusedVariables false
set_option linter.unusedSimpArgs false
namespace Go.Am
open Go.Proofs
noncomputable def B_impl_NewDesk  : Option DDesk := (some (⟨⟨true, []⟩, ⟨true, []⟩, (⟨(⟨0, ⟨true, []⟩⟩ : DHeap), (⟨⟨true, []⟩, ⟨true, []⟩, ⟨true, []⟩⟩ : DScope), (⟨⟨true, []⟩, 0, ⟨true, []⟩, ⟨true, []⟩, ⟨true, []⟩⟩ : DConsole)⟩ : DMemory), (-1), 0, ⟨#[]⟩, (-1)⟩ : DDesk))
theorem u_impl_NewDesk  (r : DDesk) (h : B_impl_NewDesk  = some r) : F_impl_NewDesk  = some r := by
  unfold B_impl_NewDesk at h
  refine semO_of rfl rfl ok_6 rfl all_nil ?_
  intro σ0 s hS hH
  have hS := sub_to (L' := []) hS (by kernel_rfl)
  refine c_seq ?_
  refine c_region ?_
  refine q_alloc (z := [(Sl.t (⟨true, []⟩ : Sl ByteArray)), (Sl.t (⟨true, []⟩ : Sl ByteArray)), .int .i64 0, (Sl.t (⟨true, []⟩ : Sl DObject)), (Sl.t (⟨true, []⟩ : Sl DBinding)), (Sl.t (⟨true, []⟩ : Sl DFunction)), (Sl.t (⟨true, []⟩ : Sl DRecordType)), (Sl.t (⟨true, []⟩ : Sl ByteArray)), .int .i64 0, (Sl.t (⟨true, []⟩ : Sl ByteArray)), (Sl.t (⟨true, []⟩ : Sl DFile)), (Sl.t (⟨true, []⟩ : Sl ByteArray)), .int .i64 0, .int .i64 0, .str ⟨#[]⟩, .int .i64 0]) rfl hS hH (by kernel_rfl) ?_; intro b1 σ s hH hS
  refine x_nil ?_
  refine sq_n ?_
  refine c_seq ?_
  refine c_region ?_
  refine q_seg 1 [(0, .ptr b1 0 0 16), (1, .agg [(Sl.t (⟨true, []⟩ : Sl ByteArray)), (Sl.t (⟨true, []⟩ : Sl ByteArray)), .int .i64 0, (Sl.t (⟨true, []⟩ : Sl DObject)), (Sl.t (⟨true, []⟩ : Sl DBinding)), (Sl.t (⟨true, []⟩ : Sl DFunction)), (Sl.t (⟨true, []⟩ : Sl DRecordType)), (Sl.t (⟨true, []⟩ : Sl ByteArray)), .int .i64 0, (Sl.t (⟨true, []⟩ : Sl ByteArray)), (Sl.t (⟨true, []⟩ : Sl DFile)), (Sl.t (⟨true, []⟩ : Sl ByteArray)), .int .i64 (-1), .int .i64 0, .str ⟨#[]⟩, .int .i64 (-1)])] hS (by kernel_rfl) ?_; intro s hS
  refine q_store (v := .agg [(Sl.t (⟨true, []⟩ : Sl ByteArray)), (Sl.t (⟨true, []⟩ : Sl ByteArray)), .int .i64 0, (Sl.t (⟨true, []⟩ : Sl DObject)), (Sl.t (⟨true, []⟩ : Sl DBinding)), (Sl.t (⟨true, []⟩ : Sl DFunction)), (Sl.t (⟨true, []⟩ : Sl DRecordType)), (Sl.t (⟨true, []⟩ : Sl ByteArray)), .int .i64 0, (Sl.t (⟨true, []⟩ : Sl ByteArray)), (Sl.t (⟨true, []⟩ : Sl DFile)), (Sl.t (⟨true, []⟩ : Sl ByteArray)), .int .i64 (-1), .int .i64 0, .str ⟨#[]⟩, .int .i64 (-1)]) (cs := [(Sl.t (⟨true, []⟩ : Sl ByteArray)), (Sl.t (⟨true, []⟩ : Sl ByteArray)), .int .i64 0, (Sl.t (⟨true, []⟩ : Sl DObject)), (Sl.t (⟨true, []⟩ : Sl DBinding)), (Sl.t (⟨true, []⟩ : Sl DFunction)), (Sl.t (⟨true, []⟩ : Sl DRecordType)), (Sl.t (⟨true, []⟩ : Sl ByteArray)), .int .i64 0, (Sl.t (⟨true, []⟩ : Sl ByteArray)), (Sl.t (⟨true, []⟩ : Sl DFile)), (Sl.t (⟨true, []⟩ : Sl ByteArray)), .int .i64 (-1), .int .i64 0, .str ⟨#[]⟩, .int .i64 (-1)]) (cells' := [(Sl.t (⟨true, []⟩ : Sl ByteArray)), (Sl.t (⟨true, []⟩ : Sl ByteArray)), .int .i64 0, (Sl.t (⟨true, []⟩ : Sl DObject)), (Sl.t (⟨true, []⟩ : Sl DBinding)), (Sl.t (⟨true, []⟩ : Sl DFunction)), (Sl.t (⟨true, []⟩ : Sl DRecordType)), (Sl.t (⟨true, []⟩ : Sl ByteArray)), .int .i64 0, (Sl.t (⟨true, []⟩ : Sl ByteArray)), (Sl.t (⟨true, []⟩ : Sl DFile)), (Sl.t (⟨true, []⟩ : Sl ByteArray)), .int .i64 (-1), .int .i64 0, .str ⟨#[]⟩, .int .i64 (-1)]) rfl hS hH rfl rfl rfl (by kernel_rfl) (by kernel_rfl) ?_; intro σ s hH hS
  refine x_nil ?_
  refine sq_n ?_
  refine c_ret ?_
  injection h with h; subst h
  have hH := Heap.addNil hH true 1
  have hH := Heap.addNil hH true 1
  have hH := Heap.addNil hH true 10
  have hH := Heap.addNil hH true 5
  have hH := Heap.addNil hH true 4
  have hH := Heap.addNil hH true 2
  have hH := Heap.addNil hH true 1
  have hH := Heap.addNil hH true 1
  have hH := Heap.addNil hH true 4
  have hH := Heap.addNil hH true 1
  have hH : Heap σ0 σ [.own true 1 (T.row true 0 []) (Sl.t (⟨true, []⟩ : Sl ByteArray)), .own true 1 (T.row true 0 []) (Sl.t (⟨true, []⟩ : Sl ByteArray)), .own true 10 (T.row true 0 []) (Sl.t (⟨true, []⟩ : Sl DObject)), .own true 5 (T.row true 0 []) (Sl.t (⟨true, []⟩ : Sl DBinding)), .own true 4 (T.row true 0 []) (Sl.t (⟨true, []⟩ : Sl DFunction)), .own true 2 (T.row true 0 []) (Sl.t (⟨true, []⟩ : Sl DRecordType)), .own true 1 (T.row true 0 []) (Sl.t (⟨true, []⟩ : Sl ByteArray)), .own true 1 (T.row true 0 []) (Sl.t (⟨true, []⟩ : Sl ByteArray)), .own true 4 (T.row true 0 []) (Sl.t (⟨true, []⟩ : Sl DFile)), .own true 1 (T.row true 0 []) (Sl.t (⟨true, []⟩ : Sl ByteArray)), .box b1 [(Sl.t (⟨true, []⟩ : Sl ByteArray)), (Sl.t (⟨true, []⟩ : Sl ByteArray)), .int .i64 0, (Sl.t (⟨true, []⟩ : Sl DObject)), (Sl.t (⟨true, []⟩ : Sl DBinding)), (Sl.t (⟨true, []⟩ : Sl DFunction)), (Sl.t (⟨true, []⟩ : Sl DRecordType)), (Sl.t (⟨true, []⟩ : Sl ByteArray)), .int .i64 0, (Sl.t (⟨true, []⟩ : Sl ByteArray)), (Sl.t (⟨true, []⟩ : Sl DFile)), (Sl.t (⟨true, []⟩ : Sl ByteArray)), .int .i64 (-1), .int .i64 0, .str ⟨#[]⟩, .int .i64 (-1)]] := hH.sel [9, 8, 7, 6, 5, 4, 3, 2, 1, 0, 10] rfl (by kernel_rfl)
  exact end_Ow [(T.row true 0 []), (T.row true 0 []), (T.row true 0 []), (T.row true 0 []), (T.row true 0 []), (T.row true 0 []), (T.row true 0 []), (T.row true 0 []), (T.row true 0 []), (T.row true 0 [])] [.box b1 [(Sl.t (⟨true, []⟩ : Sl ByteArray)), (Sl.t (⟨true, []⟩ : Sl ByteArray)), .int .i64 0, (Sl.t (⟨true, []⟩ : Sl DObject)), (Sl.t (⟨true, []⟩ : Sl DBinding)), (Sl.t (⟨true, []⟩ : Sl DFunction)), (Sl.t (⟨true, []⟩ : Sl DRecordType)), (Sl.t (⟨true, []⟩ : Sl ByteArray)), .int .i64 0, (Sl.t (⟨true, []⟩ : Sl ByteArray)), (Sl.t (⟨true, []⟩ : Sl DFile)), (Sl.t (⟨true, []⟩ : Sl ByteArray)), .int .i64 (-1), .int .i64 0, .str ⟨#[]⟩, .int .i64 (-1)]] (r_cell (v := .agg [(Sl.t (⟨true, []⟩ : Sl ByteArray)), (Sl.t (⟨true, []⟩ : Sl ByteArray)), .int .i64 0, (Sl.t (⟨true, []⟩ : Sl DObject)), (Sl.t (⟨true, []⟩ : Sl DBinding)), (Sl.t (⟨true, []⟩ : Sl DFunction)), (Sl.t (⟨true, []⟩ : Sl DRecordType)), (Sl.t (⟨true, []⟩ : Sl ByteArray)), .int .i64 0, (Sl.t (⟨true, []⟩ : Sl ByteArray)), (Sl.t (⟨true, []⟩ : Sl DFile)), (Sl.t (⟨true, []⟩ : Sl ByteArray)), .int .i64 (-1), .int .i64 0, .str ⟨#[]⟩, .int .i64 (-1)]) hS (hH.at 10 rfl) rfl (by kernel_rfl) r_nil) (by kernel_rfl) rfl hH (by kernel_rfl)
end Go.Am
end
section
set_option maxRecDepth 100000
set_option maxHeartbeats 4000000
set_option linter.unusedVariables false
set_option linter.unusedSimpArgs false
namespace Go.Am
open Go.Proofs
noncomputable def B_laws_eqDesk (a0 : DDesk) (a1 : DDesk) : Option Bool := ((F_laws_eqStringS a0.Source a1.Source).bind fun y1 => (if (!y1) = true then (some false) else ((F_laws_eqStringS a0.Input a1.Input).bind fun y2 => (if (!y2) = true then (some false) else ((F_laws_eqMemory a0.Memory a1.Memory).bind fun y3 => (if (!y3) = true then (some false) else (if (!decide (a0.At = a1.At)) = true then (some false) else (if (!decide (a0.Steps = a1.Steps)) = true then (some false) else (if (!decide (a0.Image = a1.Image)) = true then (some false) else (if (!decide (a0.Saved = a1.Saved)) = true then (some false) else (some true)))))))))))
theorem u_laws_eqDesk (a0 : DDesk) (a1 : DDesk) (r : Bool) (h : B_laws_eqDesk a0 a1 = some r) : F_laws_eqDesk a0 a1 = some r := by
  unfold B_laws_eqDesk at h
  refine semW_of E_bool_inj rfl rfl ok_7 rfl (all_cons (by kernel_rfl) (all_cons (by kernel_rfl) all_nil)) ?_
  intro σ0 s hS hH
  have hS := sub_to (L' := [(0, .agg (DDesk.cells a0)), (1, .agg (DDesk.cells a1))]) hS (by kernel_rfl)
  refine c_seq ?_
  refine c_region ?_
  refine q_box (v := .agg (DDesk.cells a0)) (cs := [(Sl.t (a0.Source : Sl ByteArray)), (Sl.t (a0.Input : Sl ByteArray)), .int .i64 a0.Memory.Heap.Next, (Sl.t (a0.Memory.Heap.Objects : Sl DObject)), (Sl.t (a0.Memory.Scope.Vars : Sl DBinding)), (Sl.t (a0.Memory.Scope.Functions : Sl DFunction)), (Sl.t (a0.Memory.Scope.Types : Sl DRecordType)), (Sl.t (a0.Memory.Console.Input : Sl ByteArray)), .int .i64 a0.Memory.Console.At, (Sl.t (a0.Memory.Console.Output : Sl ByteArray)), (Sl.t (a0.Memory.Console.Files : Sl DFile)), (Sl.t (a0.Memory.Console.Trace : Sl ByteArray)), .int .i64 a0.At, .int .i64 a0.Steps, .str a0.Image, .int .i64 a0.Saved]) rfl hS hH rfl rfl (by kernel_rfl) ?_; intro b1 σ s hH hS
  refine q_box (v := .agg (DDesk.cells a1)) (cs := [(Sl.t (a1.Source : Sl ByteArray)), (Sl.t (a1.Input : Sl ByteArray)), .int .i64 a1.Memory.Heap.Next, (Sl.t (a1.Memory.Heap.Objects : Sl DObject)), (Sl.t (a1.Memory.Scope.Vars : Sl DBinding)), (Sl.t (a1.Memory.Scope.Functions : Sl DFunction)), (Sl.t (a1.Memory.Scope.Types : Sl DRecordType)), (Sl.t (a1.Memory.Console.Input : Sl ByteArray)), .int .i64 a1.Memory.Console.At, (Sl.t (a1.Memory.Console.Output : Sl ByteArray)), (Sl.t (a1.Memory.Console.Files : Sl DFile)), (Sl.t (a1.Memory.Console.Trace : Sl ByteArray)), .int .i64 a1.At, .int .i64 a1.Steps, .str a1.Image, .int .i64 a1.Saved]) rfl hS hH rfl rfl (by kernel_rfl) ?_; intro b2 σ s hH hS
  refine q_seg 1 [(2, .ptr b1 0 0 16), (3, .ptr b2 0 0 16)] hS (by kernel_rfl) ?_; intro s hS
  refine x_nil ?_
  refine sq_n ?_
  refine c_seq ?_
  refine c_seq ?_
  refine c_region ?_
  refine q_seg 1 [(2, .ptr b1 0 0 16), (3, .ptr b2 0 0 16), (5, .ptr b1 0 0 1)] hS (by kernel_rfl) ?_; intro s hS
  refine q_load (v := (Sl.t (a0.Source : Sl ByteArray))) 1 trivial rfl hS hH rfl rfl (by kernel_rfl) ?_; intro s hS
  refine q_seg 1 [(2, .ptr b1 0 0 16), (3, .ptr b2 0 0 16), (6, (Sl.t (a0.Source : Sl ByteArray))), (7, .ptr b2 0 0 1)] hS (by kernel_rfl) ?_; intro s hS
  refine q_load (v := (Sl.t (a1.Source : Sl ByteArray))) 0 trivial rfl hS hH rfl rfl (by kernel_rfl) ?_; intro s hS
  obtain ⟨y1, hy1, h⟩ := bind_some h
  refine q_callF (a := []) (b := []) (xs := [(Sl.t (a0.Source : Sl ByteArray)), (Sl.t (a1.Source : Sl ByteArray))]) rfl hS rfl rfl hy1 ?_; intro s hS
  refine q_seg 1 [(2, .ptr b1 0 0 16), (3, .ptr b2 0 0 16), (10, .bool (!y1))] hS (by kernel_rfl) ?_; intro s hS
  refine x_nil ?_
  refine sq_n ?_
  by_cases hc1 : (!y1) = true
  · have h := it_pos hc1 h
    refine c_cond hS rfl (fun _ => ?_) (fun hf => ff_absurd hc1 hf)
    refine c_seq ?_
    refine c_region ?_
    refine q_seg 1 [(4, .bool false)] hS (by kernel_rfl) ?_; intro s hS
    refine x_nil ?_
    refine sq_n ?_
    refine c_ret ?_
    refine sq_r ?_
    injection h with h; subst h
    exact end_W hH (r_tmp (v := .bool false) hS rfl r_nil) rfl (by kernel_rfl) (by simp [pureT, pureL, E_bool])
  · have h := it_neg hc1 h
    refine c_cond hS rfl (fun hf => tt_absurd hc1 hf) (fun _ => ?_)
    refine c_skip ?_
    refine sq_n ?_
    refine c_seq ?_
    refine c_seq ?_
    refine c_region ?_
    refine q_seg 1 [(2, .ptr b1 0 0 16), (3, .ptr b2 0 0 16), (11, .ptr b1 0 1 1)] hS (by kernel_rfl) ?_; intro s hS
    refine q_load (v := (Sl.t (a0.Input : Sl ByteArray))) 1 trivial rfl hS hH rfl rfl (by kernel_rfl) ?_; intro s hS
    refine q_seg 1 [(2, .ptr b1 0 0 16), (3, .ptr b2 0 0 16), (12, (Sl.t (a0.Input : Sl ByteArray))), (13, .ptr b2 0 1 1)] hS (by kernel_rfl) ?_; intro s hS
    refine q_load (v := (Sl.t (a1.Input : Sl ByteArray))) 0 trivial rfl hS hH rfl rfl (by kernel_rfl) ?_; intro s hS
    obtain ⟨y2, hy2, h⟩ := bind_some h
    refine q_callF (a := []) (b := []) (xs := [(Sl.t (a0.Input : Sl ByteArray)), (Sl.t (a1.Input : Sl ByteArray))]) rfl hS rfl rfl hy2 ?_; intro s hS
    refine q_seg 1 [(2, .ptr b1 0 0 16), (3, .ptr b2 0 0 16), (16, .bool (!y2))] hS (by kernel_rfl) ?_; intro s hS
    refine x_nil ?_
    refine sq_n ?_
    by_cases hc2 : (!y2) = true
    · have h := it_pos hc2 h
      refine c_cond hS rfl (fun _ => ?_) (fun hf => ff_absurd hc2 hf)
      refine c_seq ?_
      refine c_region ?_
      refine q_seg 1 [(4, .bool false)] hS (by kernel_rfl) ?_; intro s hS
      refine x_nil ?_
      refine sq_n ?_
      refine c_ret ?_
      refine sq_r ?_
      injection h with h; subst h
      exact end_W hH (r_tmp (v := .bool false) hS rfl r_nil) rfl (by kernel_rfl) (by simp [pureT, pureL, E_bool])
    · have h := it_neg hc2 h
      refine c_cond hS rfl (fun hf => tt_absurd hc2 hf) (fun _ => ?_)
      refine c_skip ?_
      refine sq_n ?_
      refine c_seq ?_
      refine c_seq ?_
      refine c_region ?_
      refine q_seg 1 [(2, .ptr b1 0 0 16), (3, .ptr b2 0 0 16), (17, .ptr b1 0 2 10)] hS (by kernel_rfl) ?_; intro s hS
      refine q_load (v := .agg (DMemory.cells a0.Memory)) 1 trivial rfl hS hH rfl rfl (by kernel_rfl) ?_; intro s hS
      refine q_seg 1 [(2, .ptr b1 0 0 16), (3, .ptr b2 0 0 16), (18, .agg (DMemory.cells a0.Memory)), (19, .ptr b2 0 2 10)] hS (by kernel_rfl) ?_; intro s hS
      refine q_load (v := .agg (DMemory.cells a1.Memory)) 0 trivial rfl hS hH rfl rfl (by kernel_rfl) ?_; intro s hS
      obtain ⟨y3, hy3, h⟩ := bind_some h
      refine q_callF (a := []) (b := []) (xs := [.agg (DMemory.cells a0.Memory), .agg (DMemory.cells a1.Memory)]) rfl hS rfl rfl hy3 ?_; intro s hS
      refine q_seg 1 [(2, .ptr b1 0 0 16), (3, .ptr b2 0 0 16), (22, .bool (!y3))] hS (by kernel_rfl) ?_; intro s hS
      refine x_nil ?_
      refine sq_n ?_
      by_cases hc3 : (!y3) = true
      · have h := it_pos hc3 h
        refine c_cond hS rfl (fun _ => ?_) (fun hf => ff_absurd hc3 hf)
        refine c_seq ?_
        refine c_region ?_
        refine q_seg 1 [(4, .bool false)] hS (by kernel_rfl) ?_; intro s hS
        refine x_nil ?_
        refine sq_n ?_
        refine c_ret ?_
        refine sq_r ?_
        injection h with h; subst h
        exact end_W hH (r_tmp (v := .bool false) hS rfl r_nil) rfl (by kernel_rfl) (by simp [pureT, pureL, E_bool])
      · have h := it_neg hc3 h
        refine c_cond hS rfl (fun hf => tt_absurd hc3 hf) (fun _ => ?_)
        refine c_skip ?_
        refine sq_n ?_
        refine c_seq ?_
        refine c_seq ?_
        refine c_region ?_
        refine q_seg 1 [(2, .ptr b1 0 0 16), (3, .ptr b2 0 0 16), (23, .ptr b1 0 12 1)] hS (by kernel_rfl) ?_; intro s hS
        refine q_load (v := .int .i64 a0.At) 1 trivial rfl hS hH rfl rfl (by kernel_rfl) ?_; intro s hS
        refine q_seg 1 [(2, .ptr b1 0 0 16), (3, .ptr b2 0 0 16), (24, .int .i64 a0.At), (25, .ptr b2 0 12 1)] hS (by kernel_rfl) ?_; intro s hS
        refine q_load (v := .int .i64 a1.At) 0 trivial rfl hS hH rfl rfl (by kernel_rfl) ?_; intro s hS
        refine q_seg 1 [(2, .ptr b1 0 0 16), (3, .ptr b2 0 0 16), (27, .bool (!decide (a0.At = a1.At)))] hS (by kernel_rfl) ?_; intro s hS
        refine x_nil ?_
        refine sq_n ?_
        by_cases hc4 : (!decide (a0.At = a1.At)) = true
        · have h := it_pos hc4 h
          refine c_cond hS rfl (fun _ => ?_) (fun hf => ff_absurd hc4 hf)
          refine c_seq ?_
          refine c_region ?_
          refine q_seg 1 [(4, .bool false)] hS (by kernel_rfl) ?_; intro s hS
          refine x_nil ?_
          refine sq_n ?_
          refine c_ret ?_
          refine sq_r ?_
          injection h with h; subst h
          exact end_W hH (r_tmp (v := .bool false) hS rfl r_nil) rfl (by kernel_rfl) (by simp [pureT, pureL, E_bool])
        · have h := it_neg hc4 h
          refine c_cond hS rfl (fun hf => tt_absurd hc4 hf) (fun _ => ?_)
          refine c_skip ?_
          refine sq_n ?_
          refine c_seq ?_
          refine c_seq ?_
          refine c_region ?_
          refine q_seg 1 [(2, .ptr b1 0 0 16), (3, .ptr b2 0 0 16), (28, .ptr b1 0 13 1)] hS (by kernel_rfl) ?_; intro s hS
          refine q_load (v := .int .i64 a0.Steps) 1 trivial rfl hS hH rfl rfl (by kernel_rfl) ?_; intro s hS
          refine q_seg 1 [(2, .ptr b1 0 0 16), (3, .ptr b2 0 0 16), (29, .int .i64 a0.Steps), (30, .ptr b2 0 13 1)] hS (by kernel_rfl) ?_; intro s hS
          refine q_load (v := .int .i64 a1.Steps) 0 trivial rfl hS hH rfl rfl (by kernel_rfl) ?_; intro s hS
          refine q_seg 1 [(2, .ptr b1 0 0 16), (3, .ptr b2 0 0 16), (32, .bool (!decide (a0.Steps = a1.Steps)))] hS (by kernel_rfl) ?_; intro s hS
          refine x_nil ?_
          refine sq_n ?_
          by_cases hc5 : (!decide (a0.Steps = a1.Steps)) = true
          · have h := it_pos hc5 h
            refine c_cond hS rfl (fun _ => ?_) (fun hf => ff_absurd hc5 hf)
            refine c_seq ?_
            refine c_region ?_
            refine q_seg 1 [(4, .bool false)] hS (by kernel_rfl) ?_; intro s hS
            refine x_nil ?_
            refine sq_n ?_
            refine c_ret ?_
            refine sq_r ?_
            injection h with h; subst h
            exact end_W hH (r_tmp (v := .bool false) hS rfl r_nil) rfl (by kernel_rfl) (by simp [pureT, pureL, E_bool])
          · have h := it_neg hc5 h
            refine c_cond hS rfl (fun hf => tt_absurd hc5 hf) (fun _ => ?_)
            refine c_skip ?_
            refine sq_n ?_
            refine c_seq ?_
            refine c_seq ?_
            refine c_region ?_
            refine q_seg 1 [(2, .ptr b1 0 0 16), (3, .ptr b2 0 0 16), (33, .ptr b1 0 14 1)] hS (by kernel_rfl) ?_; intro s hS
            refine q_load (v := .str a0.Image) 1 trivial rfl hS hH rfl rfl (by kernel_rfl) ?_; intro s hS
            refine q_seg 1 [(2, .ptr b1 0 0 16), (3, .ptr b2 0 0 16), (34, .str a0.Image), (35, .ptr b2 0 14 1)] hS (by kernel_rfl) ?_; intro s hS
            refine q_load (v := .str a1.Image) 0 trivial rfl hS hH rfl rfl (by kernel_rfl) ?_; intro s hS
            refine q_seg 1 [(2, .ptr b1 0 0 16), (3, .ptr b2 0 0 16), (37, .bool (!decide (a0.Image = a1.Image)))] hS (by kernel_rfl) ?_; intro s hS
            refine x_nil ?_
            refine sq_n ?_
            by_cases hc6 : (!decide (a0.Image = a1.Image)) = true
            · have h := it_pos hc6 h
              refine c_cond hS rfl (fun _ => ?_) (fun hf => ff_absurd hc6 hf)
              refine c_seq ?_
              refine c_region ?_
              refine q_seg 1 [(4, .bool false)] hS (by kernel_rfl) ?_; intro s hS
              refine x_nil ?_
              refine sq_n ?_
              refine c_ret ?_
              refine sq_r ?_
              injection h with h; subst h
              exact end_W hH (r_tmp (v := .bool false) hS rfl r_nil) rfl (by kernel_rfl) (by simp [pureT, pureL, E_bool])
            · have h := it_neg hc6 h
              refine c_cond hS rfl (fun hf => tt_absurd hc6 hf) (fun _ => ?_)
              refine c_skip ?_
              refine sq_n ?_
              refine c_seq ?_
              refine c_seq ?_
              refine c_region ?_
              refine q_seg 1 [(3, .ptr b2 0 0 16), (38, .ptr b1 0 15 1)] hS (by kernel_rfl) ?_; intro s hS
              refine q_load (v := .int .i64 a0.Saved) 1 trivial rfl hS hH rfl rfl (by kernel_rfl) ?_; intro s hS
              refine q_seg 1 [(39, .int .i64 a0.Saved), (40, .ptr b2 0 15 1)] hS (by kernel_rfl) ?_; intro s hS
              refine q_load (v := .int .i64 a1.Saved) 0 trivial rfl hS hH rfl rfl (by kernel_rfl) ?_; intro s hS
              refine q_seg 1 [(42, .bool (!decide (a0.Saved = a1.Saved)))] hS (by kernel_rfl) ?_; intro s hS
              refine x_nil ?_
              refine sq_n ?_
              by_cases hc7 : (!decide (a0.Saved = a1.Saved)) = true
              · have h := it_pos hc7 h
                refine c_cond hS rfl (fun _ => ?_) (fun hf => ff_absurd hc7 hf)
                refine c_seq ?_
                refine c_region ?_
                refine q_seg 1 [(4, .bool false)] hS (by kernel_rfl) ?_; intro s hS
                refine x_nil ?_
                refine sq_n ?_
                refine c_ret ?_
                refine sq_r ?_
                injection h with h; subst h
                exact end_W hH (r_tmp (v := .bool false) hS rfl r_nil) rfl (by kernel_rfl) (by simp [pureT, pureL, E_bool])
              · have h := it_neg hc7 h
                refine c_cond hS rfl (fun hf => tt_absurd hc7 hf) (fun _ => ?_)
                refine c_skip ?_
                refine sq_n ?_
                refine c_seq ?_
                refine c_region ?_
                refine q_seg 1 [(4, .bool true)] hS (by kernel_rfl) ?_; intro s hS
                refine x_nil ?_
                refine sq_n ?_
                refine c_ret ?_
                injection h with h; subst h
                exact end_W hH (r_tmp (v := .bool true) hS rfl r_nil) rfl (by kernel_rfl) (by simp [pureT, pureL, E_bool])
end Go.Am
end
section
set_option maxRecDepth 100000
set_option maxHeartbeats 4000000
set_option linter.unusedVariables false
set_option linter.unusedSimpArgs false
namespace Go.Am
open Go.Proofs
noncomputable def B_laws_markDesk (a0 : DDesk) (a1 : Int) : Option Int := ((F_laws_markStringS a0.Source a1).bind fun y1 => ((F_laws_markStringS a0.Input y1).bind fun y2 => ((F_laws_markMemory a0.Memory y2).bind fun y3 => (some y3))))
theorem u_laws_markDesk (a0 : DDesk) (a1 : Int) (r : Int) (h : B_laws_markDesk a0 a1 = some r) : F_laws_markDesk a0 a1 = some r := by
  unfold B_laws_markDesk at h
  refine semW_of E_i64_inj rfl rfl ok_8 rfl (all_cons (by kernel_rfl) (all_cons (by kernel_rfl) all_nil)) ?_
  intro σ0 s hS hH
  have hS := sub_to (L' := [(0, .agg (DDesk.cells a0)), (1, .int .i64 a1)]) hS (by kernel_rfl)
  refine c_seq ?_
  refine c_region ?_
  refine q_box (v := .agg (DDesk.cells a0)) (cs := [(Sl.t (a0.Source : Sl ByteArray)), (Sl.t (a0.Input : Sl ByteArray)), .int .i64 a0.Memory.Heap.Next, (Sl.t (a0.Memory.Heap.Objects : Sl DObject)), (Sl.t (a0.Memory.Scope.Vars : Sl DBinding)), (Sl.t (a0.Memory.Scope.Functions : Sl DFunction)), (Sl.t (a0.Memory.Scope.Types : Sl DRecordType)), (Sl.t (a0.Memory.Console.Input : Sl ByteArray)), .int .i64 a0.Memory.Console.At, (Sl.t (a0.Memory.Console.Output : Sl ByteArray)), (Sl.t (a0.Memory.Console.Files : Sl DFile)), (Sl.t (a0.Memory.Console.Trace : Sl ByteArray)), .int .i64 a0.At, .int .i64 a0.Steps, .str a0.Image, .int .i64 a0.Saved]) rfl hS hH rfl rfl (by kernel_rfl) ?_; intro b1 σ s hH hS
  refine q_seg 1 [(1, .int .i64 a1), (2, .ptr b1 0 0 16)] hS (by kernel_rfl) ?_; intro s hS
  refine x_nil ?_
  refine sq_n ?_
  refine c_seq ?_
  refine c_region ?_
  refine q_seg 1 [(1, .int .i64 a1), (2, .ptr b1 0 0 16), (5, .ptr b1 0 0 1)] hS (by kernel_rfl) ?_; intro s hS
  refine q_load (v := (Sl.t (a0.Source : Sl ByteArray))) 0 trivial rfl hS hH rfl rfl (by kernel_rfl) ?_; intro s hS
  refine q_seg 1 [(2, .ptr b1 0 0 16), (6, (Sl.t (a0.Source : Sl ByteArray))), (7, .int .i64 a1)] hS (by kernel_rfl) ?_; intro s hS
  obtain ⟨y1, hy1, h⟩ := bind_some h
  refine q_callF (a := []) (b := []) (xs := [(Sl.t (a0.Source : Sl ByteArray)), .int .i64 a1]) rfl hS rfl rfl hy1 ?_; intro s hS
  refine q_seg 1 [(1, .int .i64 y1), (2, .ptr b1 0 0 16)] hS (by kernel_rfl) ?_; intro s hS
  refine x_nil ?_
  refine sq_n ?_
  refine c_seq ?_
  refine c_region ?_
  refine q_seg 1 [(1, .int .i64 y1), (2, .ptr b1 0 0 16), (9, .ptr b1 0 1 1)] hS (by kernel_rfl) ?_; intro s hS
  refine q_load (v := (Sl.t (a0.Input : Sl ByteArray))) 0 trivial rfl hS hH rfl rfl (by kernel_rfl) ?_; intro s hS
  refine q_seg 1 [(2, .ptr b1 0 0 16), (10, (Sl.t (a0.Input : Sl ByteArray))), (11, .int .i64 y1)] hS (by kernel_rfl) ?_; intro s hS
  obtain ⟨y2, hy2, h⟩ := bind_some h
  refine q_callF (a := []) (b := []) (xs := [(Sl.t (a0.Input : Sl ByteArray)), .int .i64 y1]) rfl hS rfl rfl hy2 ?_; intro s hS
  refine q_seg 1 [(1, .int .i64 y2), (2, .ptr b1 0 0 16)] hS (by kernel_rfl) ?_; intro s hS
  refine x_nil ?_
  refine sq_n ?_
  refine c_seq ?_
  refine c_region ?_
  refine q_seg 1 [(1, .int .i64 y2), (13, .ptr b1 0 2 10)] hS (by kernel_rfl) ?_; intro s hS
  refine q_load (v := .agg (DMemory.cells a0.Memory)) 0 trivial rfl hS hH rfl rfl (by kernel_rfl) ?_; intro s hS
  refine q_seg 1 [(14, .agg (DMemory.cells a0.Memory)), (15, .int .i64 y2)] hS (by kernel_rfl) ?_; intro s hS
  obtain ⟨y3, hy3, h⟩ := bind_some h
  refine q_callF (a := []) (b := []) (xs := [.agg (DMemory.cells a0.Memory), .int .i64 y2]) rfl hS rfl rfl hy3 ?_; intro s hS
  refine q_seg 1 [(1, .int .i64 y3)] hS (by kernel_rfl) ?_; intro s hS
  refine x_nil ?_
  refine sq_n ?_
  refine c_seq ?_
  refine c_region ?_
  refine q_seg 2 [(4, .int .i64 y3)] hS (by kernel_rfl) ?_; intro s hS
  refine x_nil ?_
  refine sq_n ?_
  refine c_ret ?_
  injection h with h; subst h
  exact end_W hH (r_tmp (v := .int .i64 y3) hS rfl r_nil) rfl (by kernel_rfl) (by simp [pureT, pureL, E_i64])
end Go.Am
end
section
set_option maxRecDepth 100000
set_option maxHeartbeats 4000000
set_option linter.unusedVariables false
set_option linter.unusedSimpArgs false
namespace Go.Am
open Go.Proofs
noncomputable def B_laws_heldDesk (a0 : DDesk) (a1 : Int) : Option Int := ((F_laws_heldStringS a0.Source a1).bind fun y1 => (if (decide (y1 < 0)) = true then (some (-1)) else ((F_laws_heldStringS a0.Input y1).bind fun y2 => (if (decide (y2 < 0)) = true then (some (-1)) else ((F_laws_heldMemory a0.Memory y2).bind fun y3 => (if (decide (y3 < 0)) = true then (some (-1)) else (some y3)))))))
theorem u_laws_heldDesk (a0 : DDesk) (a1 : Int) (r : Int) (h : B_laws_heldDesk a0 a1 = some r) : F_laws_heldDesk a0 a1 = some r := by
  unfold B_laws_heldDesk at h
  refine semW_of E_i64_inj rfl rfl ok_9 rfl (all_cons (by kernel_rfl) (all_cons (by kernel_rfl) all_nil)) ?_
  intro σ0 s hS hH
  have hS := sub_to (L' := [(0, .agg (DDesk.cells a0)), (1, .int .i64 a1)]) hS (by kernel_rfl)
  refine c_seq ?_
  refine c_region ?_
  refine q_box (v := .agg (DDesk.cells a0)) (cs := [(Sl.t (a0.Source : Sl ByteArray)), (Sl.t (a0.Input : Sl ByteArray)), .int .i64 a0.Memory.Heap.Next, (Sl.t (a0.Memory.Heap.Objects : Sl DObject)), (Sl.t (a0.Memory.Scope.Vars : Sl DBinding)), (Sl.t (a0.Memory.Scope.Functions : Sl DFunction)), (Sl.t (a0.Memory.Scope.Types : Sl DRecordType)), (Sl.t (a0.Memory.Console.Input : Sl ByteArray)), .int .i64 a0.Memory.Console.At, (Sl.t (a0.Memory.Console.Output : Sl ByteArray)), (Sl.t (a0.Memory.Console.Files : Sl DFile)), (Sl.t (a0.Memory.Console.Trace : Sl ByteArray)), .int .i64 a0.At, .int .i64 a0.Steps, .str a0.Image, .int .i64 a0.Saved]) rfl hS hH rfl rfl (by kernel_rfl) ?_; intro b1 σ s hH hS
  refine q_seg 1 [(1, .int .i64 a1), (2, .ptr b1 0 0 16)] hS (by kernel_rfl) ?_; intro s hS
  refine x_nil ?_
  refine sq_n ?_
  refine c_seq ?_
  refine c_region ?_
  refine q_seg 1 [(1, .int .i64 a1), (2, .ptr b1 0 0 16), (5, .ptr b1 0 0 1)] hS (by kernel_rfl) ?_; intro s hS
  refine q_load (v := (Sl.t (a0.Source : Sl ByteArray))) 0 trivial rfl hS hH rfl rfl (by kernel_rfl) ?_; intro s hS
  refine q_seg 1 [(2, .ptr b1 0 0 16), (6, (Sl.t (a0.Source : Sl ByteArray))), (7, .int .i64 a1)] hS (by kernel_rfl) ?_; intro s hS
  obtain ⟨y1, hy1, h⟩ := bind_some h
  refine q_callF (a := []) (b := []) (xs := [(Sl.t (a0.Source : Sl ByteArray)), .int .i64 a1]) rfl hS rfl rfl hy1 ?_; intro s hS
  refine q_seg 1 [(1, .int .i64 y1), (2, .ptr b1 0 0 16)] hS (by kernel_rfl) ?_; intro s hS
  refine x_nil ?_
  refine sq_n ?_
  refine c_seq ?_
  refine c_seq ?_
  refine c_region ?_
  refine q_seg 2 [(1, .int .i64 y1), (2, .ptr b1 0 0 16), (10, .bool (decide (y1 < 0)))] hS (by kernel_rfl) ?_; intro s hS
  refine x_nil ?_
  refine sq_n ?_
  by_cases hc1 : (decide (y1 < 0)) = true
  · have h := it_pos hc1 h
    refine c_cond hS rfl (fun _ => ?_) (fun hf => ff_absurd hc1 hf)
    refine c_seq ?_
    refine c_region ?_
    refine q_seg 1 [(4, .int .i64 (-1))] hS (by kernel_rfl) ?_; intro s hS
    refine x_nil ?_
    refine sq_n ?_
    refine c_ret ?_
    refine sq_r ?_
    injection h with h; subst h
    exact end_W hH (r_tmp (v := .int .i64 (-1)) hS rfl r_nil) rfl (by kernel_rfl) (by simp [pureT, pureL, E_i64])
  · have h := it_neg hc1 h
    refine c_cond hS rfl (fun hf => tt_absurd hc1 hf) (fun _ => ?_)
    refine c_skip ?_
    refine sq_n ?_
    refine c_seq ?_
    refine c_region ?_
    refine q_seg 1 [(1, .int .i64 y1), (2, .ptr b1 0 0 16), (11, .ptr b1 0 1 1)] hS (by kernel_rfl) ?_; intro s hS
    refine q_load (v := (Sl.t (a0.Input : Sl ByteArray))) 0 trivial rfl hS hH rfl rfl (by kernel_rfl) ?_; intro s hS
    refine q_seg 1 [(2, .ptr b1 0 0 16), (12, (Sl.t (a0.Input : Sl ByteArray))), (13, .int .i64 y1)] hS (by kernel_rfl) ?_; intro s hS
    obtain ⟨y2, hy2, h⟩ := bind_some h
    refine q_callF (a := []) (b := []) (xs := [(Sl.t (a0.Input : Sl ByteArray)), .int .i64 y1]) rfl hS rfl rfl hy2 ?_; intro s hS
    refine q_seg 1 [(1, .int .i64 y2), (2, .ptr b1 0 0 16)] hS (by kernel_rfl) ?_; intro s hS
    refine x_nil ?_
    refine sq_n ?_
    refine c_seq ?_
    refine c_seq ?_
    refine c_region ?_
    refine q_seg 2 [(1, .int .i64 y2), (2, .ptr b1 0 0 16), (16, .bool (decide (y2 < 0)))] hS (by kernel_rfl) ?_; intro s hS
    refine x_nil ?_
    refine sq_n ?_
    by_cases hc2 : (decide (y2 < 0)) = true
    · have h := it_pos hc2 h
      refine c_cond hS rfl (fun _ => ?_) (fun hf => ff_absurd hc2 hf)
      refine c_seq ?_
      refine c_region ?_
      refine q_seg 1 [(4, .int .i64 (-1))] hS (by kernel_rfl) ?_; intro s hS
      refine x_nil ?_
      refine sq_n ?_
      refine c_ret ?_
      refine sq_r ?_
      injection h with h; subst h
      exact end_W hH (r_tmp (v := .int .i64 (-1)) hS rfl r_nil) rfl (by kernel_rfl) (by simp [pureT, pureL, E_i64])
    · have h := it_neg hc2 h
      refine c_cond hS rfl (fun hf => tt_absurd hc2 hf) (fun _ => ?_)
      refine c_skip ?_
      refine sq_n ?_
      refine c_seq ?_
      refine c_region ?_
      refine q_seg 1 [(1, .int .i64 y2), (17, .ptr b1 0 2 10)] hS (by kernel_rfl) ?_; intro s hS
      refine q_load (v := .agg (DMemory.cells a0.Memory)) 0 trivial rfl hS hH rfl rfl (by kernel_rfl) ?_; intro s hS
      refine q_seg 1 [(18, .agg (DMemory.cells a0.Memory)), (19, .int .i64 y2)] hS (by kernel_rfl) ?_; intro s hS
      obtain ⟨y3, hy3, h⟩ := bind_some h
      refine q_callF (a := []) (b := []) (xs := [.agg (DMemory.cells a0.Memory), .int .i64 y2]) rfl hS rfl rfl hy3 ?_; intro s hS
      refine q_seg 1 [(1, .int .i64 y3)] hS (by kernel_rfl) ?_; intro s hS
      refine x_nil ?_
      refine sq_n ?_
      refine c_seq ?_
      refine c_seq ?_
      refine c_region ?_
      refine q_seg 2 [(1, .int .i64 y3), (22, .bool (decide (y3 < 0)))] hS (by kernel_rfl) ?_; intro s hS
      refine x_nil ?_
      refine sq_n ?_
      by_cases hc3 : (decide (y3 < 0)) = true
      · have h := it_pos hc3 h
        refine c_cond hS rfl (fun _ => ?_) (fun hf => ff_absurd hc3 hf)
        refine c_seq ?_
        refine c_region ?_
        refine q_seg 1 [(4, .int .i64 (-1))] hS (by kernel_rfl) ?_; intro s hS
        refine x_nil ?_
        refine sq_n ?_
        refine c_ret ?_
        refine sq_r ?_
        injection h with h; subst h
        exact end_W hH (r_tmp (v := .int .i64 (-1)) hS rfl r_nil) rfl (by kernel_rfl) (by simp [pureT, pureL, E_i64])
      · have h := it_neg hc3 h
        refine c_cond hS rfl (fun hf => tt_absurd hc3 hf) (fun _ => ?_)
        refine c_skip ?_
        refine sq_n ?_
        refine c_seq ?_
        refine c_region ?_
        refine q_seg 2 [(4, .int .i64 y3)] hS (by kernel_rfl) ?_; intro s hS
        refine x_nil ?_
        refine sq_n ?_
        refine c_ret ?_
        injection h with h; subst h
        exact end_W hH (r_tmp (v := .int .i64 y3) hS rfl r_nil) rfl (by kernel_rfl) (by simp [pureT, pureL, E_i64])
end Go.Am
end
section
set_option maxRecDepth 100000
set_option maxHeartbeats 4000000
set_option linter.unusedVariables false
set_option linter.unusedSimpArgs false
namespace Go.Am
open Go.Proofs
noncomputable def B_laws_eqStringS (a0 : (Sl ByteArray)) (a1 : (Sl ByteArray)) : Option Bool := (if ((!decide ((a0.l.length : Int) = (a1.l.length : Int)))) = true then (some false) else ((loopO (S := Int) (R := (Unit ⊕ Bool)) (fun st1 => (if (decide (st1 < (a0.l.length : Int))) = true then ((elt a0 st1).bind fun y2 => ((elt a1 st1).bind fun y3 => (if (!decide (y2 = y3)) = true then (some (.inr (.inr false))) else (some (.inl (IntKind.i64.wrap (st1 + 1))))))) else (some (.inr (.inl ()))))) 0).bind fun y1 => (Sum.elim (fun y1 => (some true)) (fun y1 => (some y1)) y1)))
theorem u_laws_eqStringS (a0 : (Sl ByteArray)) (a1 : (Sl ByteArray)) (r : Bool) (h : B_laws_eqStringS a0 a1 = some r) : F_laws_eqStringS a0 a1 = some r := by
  unfold B_laws_eqStringS at h
  refine semW_of E_bool_inj rfl rfl ok_14 rfl (all_cons (by kernel_rfl) (all_cons (by kernel_rfl) all_nil)) ?_
  intro σ0 s hS hH
  have hS := sub_to (L' := [(0, (Sl.t (a0 : Sl ByteArray))), (1, (Sl.t (a1 : Sl ByteArray)))]) hS (by kernel_rfl)
  refine c_seq ?_
  refine c_region ?_
  refine q_seg 1 [(0, (Sl.t (a0 : Sl ByteArray))), (1, (Sl.t (a1 : Sl ByteArray)))] hS (by kernel_rfl) ?_; intro s hS
  refine x_nil ?_
  refine sq_n ?_
  refine c_seq ?_
  refine c_seq ?_
  refine c_region ?_
  refine q_seg 5 [(0, (Sl.t (a0 : Sl ByteArray))), (1, (Sl.t (a1 : Sl ByteArray))), (10, .bool ((!decide ((a0.l.length : Int) = (a1.l.length : Int)))))] hS (by kernel_rfl) ?_; intro s hS
  refine x_nil ?_
  refine sq_n ?_
  by_cases hc1 : ((!decide ((a0.l.length : Int) = (a1.l.length : Int)))) = true
  · have h := it_pos hc1 h
    refine c_cond hS rfl (fun _ => ?_) (fun hf => ff_absurd hc1 hf)
    refine c_seq ?_
    refine c_region ?_
    refine q_seg 1 [(4, .bool false)] hS (by kernel_rfl) ?_; intro s hS
    refine x_nil ?_
    refine sq_n ?_
    refine c_ret ?_
    refine sq_r ?_
    injection h with h; subst h
    exact end_W hH (r_tmp (v := .bool false) hS rfl r_nil) rfl (by kernel_rfl) (by simp [pureT, pureL, E_bool])
  · have h := it_neg hc1 h
    refine c_cond hS rfl (fun hf => tt_absurd hc1 hf) (fun _ => ?_)
    refine c_skip ?_
    refine sq_n ?_
    refine c_seq ?_
    refine c_seq ?_
    refine c_region ?_
    refine q_seg 1 [(0, (Sl.t (a0 : Sl ByteArray))), (1, (Sl.t (a1 : Sl ByteArray))), (5, .int .i64 0)] hS (by kernel_rfl) ?_; intro s hS
    refine x_nil ?_
    refine sq_n ?_
    refine c_block ?_
    obtain ⟨y1, hy1, h⟩ := bind_some h
    refine c_loop (fun (st1 : Int) (fr : Fr) => Sub [(0, (Sl.t (a0 : Sl ByteArray))), (1, (Sl.t (a1 : Sl ByteArray))), (5, .int .i64 st1)] fr.s ∧ Heap σ0 fr.σ []) (fun (y1 : (Unit ⊕ Bool)) (e : AExit) (fr : Fr) => (Sum.elim (fun y => e = (.exit 0) ∧ Sub [] fr.s ∧ Heap σ0 fr.σ []) (fun y => e = .ret ∧ endW Try.prog (Try.f14.results.toList) σ0 (E_bool y) .ret fr)) y1) hy1 (And.intro (sub_to hS (by kernel_rfl)) hH) ?_ ?_
    · clear h hy1 hS hH; clear y1; intro st1 x fr h HI; obtain ⟨s, σ⟩ := fr; obtain ⟨hS, hH⟩ := HI
      refine c_seq ?_
      refine c_seq ?_
      refine c_region ?_
      refine q_seg 4 [(0, (Sl.t (a0 : Sl ByteArray))), (1, (Sl.t (a1 : Sl ByteArray))), (5, .int .i64 st1), (14, .bool (decide (st1 < (a0.l.length : Int))))] hS (by kernel_rfl) ?_; intro s hS
      refine x_nil ?_
      refine sq_n ?_
      by_cases hc2 : (decide (st1 < (a0.l.length : Int))) = true
      · have h := it_pos hc2 h
        refine c_cond hS rfl (fun _ => ?_) (fun hf => ff_absurd hc2 hf)
        refine c_skip ?_
        refine sq_n ?_
        refine c_seq ?_
        refine c_block ?_
        refine c_seq ?_
        refine c_draw (by kernel_rfl) hH ?_; intro mb σ hH
        refine q_seg 2 [(0, (Sl.t (a0 : Sl ByteArray))), (1, (Sl.t (a1 : Sl ByteArray))), (5, .int .i64 st1), (17, (Sl.t (a0 : Sl ByteArray))), (18, .int .i64 st1)] hS (by kernel_rfl) ?_; intro s hS
        obtain ⟨y2, hy2, h⟩ := bind_some h
        refine q_elt (sl := a0) (e := 9) [.str y2] rfl hS rfl rfl (by kernel_rfl) (by kernel_rfl) hy2 rfl ?_; intro rest1 s hS
        refine q_seg 3 [(0, (Sl.t (a0 : Sl ByteArray))), (1, (Sl.t (a1 : Sl ByteArray))), (5, .int .i64 st1), (20, .str y2), (21, (Sl.t (a1 : Sl ByteArray))), (22, .int .i64 st1)] hS (by kernel_rfl) ?_; intro s hS
        obtain ⟨y3, hy3, h⟩ := bind_some h
        refine q_elt (sl := a1) (e := 9) [.str y3] rfl hS rfl rfl (by kernel_rfl) (by kernel_rfl) hy3 rfl ?_; intro rest2 s hS
        refine q_seg 2 [(0, (Sl.t (a0 : Sl ByteArray))), (1, (Sl.t (a1 : Sl ByteArray))), (5, .int .i64 st1), (25, .bool (!decide (y2 = y3)))] hS (by kernel_rfl) ?_; intro s hS
        refine x_nil ?_
        refine sq_n ?_
        by_cases hc3 : (!decide (y2 = y3)) = true
        · have h := it_pos hc3 h
          refine c_cond hS rfl (fun _ => ?_) (fun hf => ff_absurd hc3 hf)
          refine c_seq ?_
          refine c_region ?_
          refine q_seg 1 [(4, .bool false)] hS (by kernel_rfl) ?_; intro s hS
          refine x_nil ?_
          refine sq_n ?_
          refine c_ret ?_
          refine bk_r ?_
          refine sq_r ?_
          injection h with h; subst h
          exact And.intro rfl (end_W hH (r_tmp (v := .bool false) hS rfl r_nil) rfl (by kernel_rfl) (by simp [pureT, pureL, E_bool]))
        · have h := it_neg hc3 h
          refine c_cond hS rfl (fun hf => tt_absurd hc3 hf) (fun _ => ?_)
          refine c_skip ?_
          refine bk_n ?_
          refine sq_n ?_
          refine c_region ?_
          refine q_seg 3 [(0, (Sl.t (a0 : Sl ByteArray))), (1, (Sl.t (a1 : Sl ByteArray))), (5, .int .i64 (IntKind.i64.wrap (st1 + 1)))] hS (by kernel_rfl) ?_; intro s hS
          refine x_nil ?_
          injection h with h; subst h
          exact And.intro (sub_to hS (by kernel_rfl)) hH
      · have h := it_neg hc2 h
        refine c_cond hS rfl (fun hf => tt_absurd hc2 hf) (fun _ => ?_)
        refine c_exit ?_
        refine sq_x ?_
        injection h with h; subst h
        exact And.intro rfl (And.intro (sub_to hS (by kernel_rfl)) hH)
    · clear hS hH; intro e fr HF; obtain ⟨s, σ⟩ := fr
      rcases y1 with y1 | y1
      · obtain ⟨rfl, hS, hH⟩ := HF
        refine bk_e ?_
        refine sq_n ?_
        refine c_seq ?_
        refine c_region ?_
        refine q_seg 1 [(4, .bool true)] hS (by kernel_rfl) ?_; intro s hS
        refine x_nil ?_
        refine sq_n ?_
        refine c_ret ?_
        injection h with h; subst h
        exact end_W hH (r_tmp (v := .bool true) hS rfl r_nil) rfl (by kernel_rfl) (by simp [pureT, pureL, E_bool])
      · obtain ⟨rfl, HE⟩ := HF
        refine bk_r ?_
        refine sq_r ?_
        injection h with h; subst h; exact HE
end Go.Am
end
