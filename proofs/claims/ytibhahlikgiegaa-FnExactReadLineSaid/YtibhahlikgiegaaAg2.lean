/- Functions of the program. -/
import Derived.Test.YtibhahlikgiegaaAd0
section
set_option maxRecDepth 100000
set_option maxHeartbeats 4000000
set_option linter.unusedVariables false
set_option linter.unusedSimpArgs false
namespace Go.Am
open Go.Proofs
noncomputable def B_laws_szConsole (a0 : DConsole) (a1 : Int) : Option Int := ((F_laws_szStringS a0.Input a1).bind fun y1 => (if (decide (y1 < 0)) = true then (some (-1)) else ((F_laws_szStringS a0.Output y1).bind fun y2 => (if (decide (y2 < 0)) = true then (some (-1)) else ((F_laws_szFileS a0.Files y2).bind fun y3 => (if (decide (y3 < 0)) = true then (some (-1)) else ((F_laws_szStringS a0.Trace y3).bind fun y4 => (if (decide (y4 < 0)) = true then (some (-1)) else (some y4)))))))))
theorem u_laws_szConsole (a0 : DConsole) (a1 : Int) (r : Int) (h : B_laws_szConsole a0 a1 = some r) : F_laws_szConsole a0 a1 = some r := by
  unfold B_laws_szConsole at h
  refine semW_of E_i64_inj rfl rfl ok_19 rfl (all_cons (by kernel_rfl) (all_cons (by kernel_rfl) all_nil)) ?_
  intro σ0 s hS hH
  have hS := sub_to (L' := [(0, .agg (DConsole.cells a0)), (1, .int .i64 a1)]) hS (by kernel_rfl)
  refine c_seq ?_
  refine c_region ?_
  refine q_box (v := .agg (DConsole.cells a0)) (cs := [(Sl.t (a0.Input : Sl ByteArray)), .int .i64 a0.At, (Sl.t (a0.Output : Sl ByteArray)), (Sl.t (a0.Files : Sl DFile)), (Sl.t (a0.Trace : Sl ByteArray))]) rfl hS hH rfl rfl (by kernel_rfl) ?_; intro b1 σ s hH hS
  refine q_seg 1 [(1, .int .i64 a1), (2, .ptr b1 0 0 5)] hS (by kernel_rfl) ?_; intro s hS
  refine x_nil ?_
  refine sq_n ?_
  refine c_seq ?_
  refine c_region ?_
  refine q_seg 1 [(1, .int .i64 a1), (2, .ptr b1 0 0 5), (5, .ptr b1 0 0 1)] hS (by kernel_rfl) ?_; intro s hS
  refine q_load (v := (Sl.t (a0.Input : Sl ByteArray))) 0 trivial rfl hS hH rfl rfl (by kernel_rfl) ?_; intro s hS
  refine q_seg 1 [(2, .ptr b1 0 0 5), (6, (Sl.t (a0.Input : Sl ByteArray))), (7, .int .i64 a1)] hS (by kernel_rfl) ?_; intro s hS
  obtain ⟨y1, hy1, h⟩ := bind_some h
  refine q_callF (a := []) (b := []) (xs := [(Sl.t (a0.Input : Sl ByteArray)), .int .i64 a1]) rfl hS rfl rfl hy1 ?_; intro s hS
  refine q_seg 1 [(1, .int .i64 y1), (2, .ptr b1 0 0 5)] hS (by kernel_rfl) ?_; intro s hS
  refine x_nil ?_
  refine sq_n ?_
  refine c_seq ?_
  refine c_seq ?_
  refine c_region ?_
  refine q_seg 2 [(1, .int .i64 y1), (2, .ptr b1 0 0 5), (10, .bool (decide (y1 < 0)))] hS (by kernel_rfl) ?_; intro s hS
  refine x_nil ?_
  refine sq_n ?_
  by_cases hc1 : (decide (y1 < 0)) = true
  · have h := it_pos hc1 h
    refine c_cond hS rfl (fun _ => ?_) (fun hf => ff_absurd hc1 hf)
    refine c_seq ?_
    refine c_region ?_
    refine q_seg 1 [(4, .int .i64 (-1))] hS (by kernel_rfl) ?_; intro s hS
    refine x_nil ?_
    refine sq_n ?_
    refine c_ret ?_
    refine sq_r ?_
    injection h with h; subst h
    exact end_W hH (r_tmp (v := .int .i64 (-1)) hS rfl r_nil) rfl (by kernel_rfl) (by simp [pureT, pureL, E_i64])
  · have h := it_neg hc1 h
    refine c_cond hS rfl (fun hf => tt_absurd hc1 hf) (fun _ => ?_)
    refine c_skip ?_
    refine sq_n ?_
    refine c_seq ?_
    refine c_region ?_
    refine q_seg 1 [(1, .int .i64 y1), (2, .ptr b1 0 0 5), (11, .ptr b1 0 2 1)] hS (by kernel_rfl) ?_; intro s hS
    refine q_load (v := (Sl.t (a0.Output : Sl ByteArray))) 0 trivial rfl hS hH rfl rfl (by kernel_rfl) ?_; intro s hS
    refine q_seg 1 [(2, .ptr b1 0 0 5), (12, (Sl.t (a0.Output : Sl ByteArray))), (13, .int .i64 y1)] hS (by kernel_rfl) ?_; intro s hS
    obtain ⟨y2, hy2, h⟩ := bind_some h
    refine q_callF (a := []) (b := []) (xs := [(Sl.t (a0.Output : Sl ByteArray)), .int .i64 y1]) rfl hS rfl rfl hy2 ?_; intro s hS
    refine q_seg 1 [(1, .int .i64 y2), (2, .ptr b1 0 0 5)] hS (by kernel_rfl) ?_; intro s hS
    refine x_nil ?_
    refine sq_n ?_
    refine c_seq ?_
    refine c_seq ?_
    refine c_region ?_
    refine q_seg 2 [(1, .int .i64 y2), (2, .ptr b1 0 0 5), (16, .bool (decide (y2 < 0)))] hS (by kernel_rfl) ?_; intro s hS
    refine x_nil ?_
    refine sq_n ?_
    by_cases hc2 : (decide (y2 < 0)) = true
    · have h := it_pos hc2 h
      refine c_cond hS rfl (fun _ => ?_) (fun hf => ff_absurd hc2 hf)
      refine c_seq ?_
      refine c_region ?_
      refine q_seg 1 [(4, .int .i64 (-1))] hS (by kernel_rfl) ?_; intro s hS
      refine x_nil ?_
      refine sq_n ?_
      refine c_ret ?_
      refine sq_r ?_
      injection h with h; subst h
      exact end_W hH (r_tmp (v := .int .i64 (-1)) hS rfl r_nil) rfl (by kernel_rfl) (by simp [pureT, pureL, E_i64])
    · have h := it_neg hc2 h
      refine c_cond hS rfl (fun hf => tt_absurd hc2 hf) (fun _ => ?_)
      refine c_skip ?_
      refine sq_n ?_
      refine c_seq ?_
      refine c_region ?_
      refine q_seg 1 [(1, .int .i64 y2), (2, .ptr b1 0 0 5), (17, .ptr b1 0 3 1)] hS (by kernel_rfl) ?_; intro s hS
      refine q_load (v := (Sl.t (a0.Files : Sl DFile))) 0 trivial rfl hS hH rfl rfl (by kernel_rfl) ?_; intro s hS
      refine q_seg 1 [(2, .ptr b1 0 0 5), (18, (Sl.t (a0.Files : Sl DFile))), (19, .int .i64 y2)] hS (by kernel_rfl) ?_; intro s hS
      obtain ⟨y3, hy3, h⟩ := bind_some h
      refine q_callF (a := []) (b := []) (xs := [(Sl.t (a0.Files : Sl DFile)), .int .i64 y2]) rfl hS rfl rfl hy3 ?_; intro s hS
      refine q_seg 1 [(1, .int .i64 y3), (2, .ptr b1 0 0 5)] hS (by kernel_rfl) ?_; intro s hS
      refine x_nil ?_
      refine sq_n ?_
      refine c_seq ?_
      refine c_seq ?_
      refine c_region ?_
      refine q_seg 2 [(1, .int .i64 y3), (2, .ptr b1 0 0 5), (22, .bool (decide (y3 < 0)))] hS (by kernel_rfl) ?_; intro s hS
      refine x_nil ?_
      refine sq_n ?_
      by_cases hc3 : (decide (y3 < 0)) = true
      · have h := it_pos hc3 h
        refine c_cond hS rfl (fun _ => ?_) (fun hf => ff_absurd hc3 hf)
        refine c_seq ?_
        refine c_region ?_
        refine q_seg 1 [(4, .int .i64 (-1))] hS (by kernel_rfl) ?_; intro s hS
        refine x_nil ?_
        refine sq_n ?_
        refine c_ret ?_
        refine sq_r ?_
        injection h with h; subst h
        exact end_W hH (r_tmp (v := .int .i64 (-1)) hS rfl r_nil) rfl (by kernel_rfl) (by simp [pureT, pureL, E_i64])
      · have h := it_neg hc3 h
        refine c_cond hS rfl (fun hf => tt_absurd hc3 hf) (fun _ => ?_)
        refine c_skip ?_
        refine sq_n ?_
        refine c_seq ?_
        refine c_region ?_
        refine q_seg 1 [(1, .int .i64 y3), (23, .ptr b1 0 4 1)] hS (by kernel_rfl) ?_; intro s hS
        refine q_load (v := (Sl.t (a0.Trace : Sl ByteArray))) 0 trivial rfl hS hH rfl rfl (by kernel_rfl) ?_; intro s hS
        refine q_seg 1 [(24, (Sl.t (a0.Trace : Sl ByteArray))), (25, .int .i64 y3)] hS (by kernel_rfl) ?_; intro s hS
        obtain ⟨y4, hy4, h⟩ := bind_some h
        refine q_callF (a := []) (b := []) (xs := [(Sl.t (a0.Trace : Sl ByteArray)), .int .i64 y3]) rfl hS rfl rfl hy4 ?_; intro s hS
        refine q_seg 1 [(1, .int .i64 y4)] hS (by kernel_rfl) ?_; intro s hS
        refine x_nil ?_
        refine sq_n ?_
        refine c_seq ?_
        refine c_seq ?_
        refine c_region ?_
        refine q_seg 2 [(1, .int .i64 y4), (28, .bool (decide (y4 < 0)))] hS (by kernel_rfl) ?_; intro s hS
        refine x_nil ?_
        refine sq_n ?_
        by_cases hc4 : (decide (y4 < 0)) = true
        · have h := it_pos hc4 h
          refine c_cond hS rfl (fun _ => ?_) (fun hf => ff_absurd hc4 hf)
          refine c_seq ?_
          refine c_region ?_
          refine q_seg 1 [(4, .int .i64 (-1))] hS (by kernel_rfl) ?_; intro s hS
          refine x_nil ?_
          refine sq_n ?_
          refine c_ret ?_
          refine sq_r ?_
          injection h with h; subst h
          exact end_W hH (r_tmp (v := .int .i64 (-1)) hS rfl r_nil) rfl (by kernel_rfl) (by simp [pureT, pureL, E_i64])
        · have h := it_neg hc4 h
          refine c_cond hS rfl (fun hf => tt_absurd hc4 hf) (fun _ => ?_)
          refine c_skip ?_
          refine sq_n ?_
          refine c_seq ?_
          refine c_region ?_
          refine q_seg 2 [(4, .int .i64 y4)] hS (by kernel_rfl) ?_; intro s hS
          refine x_nil ?_
          refine sq_n ?_
          refine c_ret ?_
          injection h with h; subst h
          exact end_W hH (r_tmp (v := .int .i64 y4) hS rfl r_nil) rfl (by kernel_rfl) (by simp [pureT, pureL, E_i64])
end Go.Am
end
section
set_option maxRecDepth 100000
set_option maxHeartbeats 4000000
set_option linter.unusedVariables false
set_option linter.unusedSimpArgs false
namespace Go.Am
open Go.Proofs
noncomputable def B_spec_ReadLine (a0 : DConsole) : Option (DConsole × ByteArray × Bool) := ((F_spec_l21Ok a0).bind fun y1 => (if (!y1) = true then (some ((⟨⟨true, []⟩, 0, ⟨true, []⟩, ⟨true, []⟩, ⟨true, []⟩⟩ : DConsole), ⟨#[]⟩, false)) else ((F_spec_l21Own a0).bind fun y2 => (if (decide (a0.At = (a0.Input.l.length : Int))) = true then (some (y2, ⟨#[]⟩, false)) else ((elt a0.Input a0.At).bind fun y3 => (some ((⟨y2.Input, (IntKind.i64.wrap (y2.At + 1)), y2.Output, y2.Files, y2.Trace⟩ : DConsole), y3, true)))))))
theorem u_spec_ReadLine (a0 : DConsole) (r : (DConsole × ByteArray × Bool)) (h : B_spec_ReadLine a0 = some r) : F_spec_ReadLine a0 = some r := by
  unfold B_spec_ReadLine at h
  refine semO_of rfl rfl ok_20 rfl (all_cons (by kernel_rfl) all_nil) ?_
  intro σ0 s hS hH
  have hS := sub_to (L' := [(0, .agg (DConsole.cells a0))]) hS (by kernel_rfl)
  refine c_seq ?_
  refine c_region ?_
  refine q_box (v := .agg (DConsole.cells a0)) (cs := [(Sl.t (a0.Input : Sl ByteArray)), .int .i64 a0.At, (Sl.t (a0.Output : Sl ByteArray)), (Sl.t (a0.Files : Sl DFile)), (Sl.t (a0.Trace : Sl ByteArray))]) rfl hS hH rfl rfl (by kernel_rfl) ?_; intro b1 σ s hH hS
  refine q_alloc (z := [(Sl.t (⟨true, []⟩ : Sl ByteArray)), .int .i64 0, (Sl.t (⟨true, []⟩ : Sl ByteArray)), (Sl.t (⟨true, []⟩ : Sl DFile)), (Sl.t (⟨true, []⟩ : Sl ByteArray))]) rfl hS hH (by kernel_rfl) ?_; intro b2 σ s hH hS
  refine q_seg 2 [(1, .ptr b1 0 0 5), (2, .ptr b2 0 0 5)] hS (by kernel_rfl) ?_; intro s hS
  refine x_nil ?_
  refine sq_n ?_
  refine c_seq ?_
  refine c_seq ?_
  refine c_region ?_
  obtain ⟨y1, hy1, h⟩ := bind_some h
  refine q_callL (xs := [.ptr b1 0 0 5]) (cs := [[(Sl.t (a0.Input : Sl ByteArray)), .int .i64 a0.At, (Sl.t (a0.Output : Sl ByteArray)), (Sl.t (a0.Files : Sl DFile)), (Sl.t (a0.Trace : Sl ByteArray))]]) [b1] rfl hS rfl rfl rfl (And.intro (Heap.lent (hH.at 1 rfl)) trivial) hy1 ?_; intro s hS
  refine q_seg 1 [(1, .ptr b1 0 0 5), (2, .ptr b2 0 0 5), (7, .bool (!y1))] hS (by kernel_rfl) ?_; intro s hS
  refine x_nil ?_
  refine sq_n ?_
  by_cases hc1 : (!y1) = true
  · have h := it_pos hc1 h
    refine c_cond hS rfl (fun _ => ?_) (fun hf => ff_absurd hc1 hf)
    refine c_seq ?_
    refine c_region ?_
    refine q_seg 1 [(2, .ptr b2 0 0 5), (8, .agg [(Sl.t (⟨true, []⟩ : Sl ByteArray)), .int .i64 0, (Sl.t (⟨true, []⟩ : Sl ByteArray)), (Sl.t (⟨true, []⟩ : Sl DFile)), (Sl.t (⟨true, []⟩ : Sl ByteArray))])] hS (by kernel_rfl) ?_; intro s hS
    refine q_store (v := .agg [(Sl.t (⟨true, []⟩ : Sl ByteArray)), .int .i64 0, (Sl.t (⟨true, []⟩ : Sl ByteArray)), (Sl.t (⟨true, []⟩ : Sl DFile)), (Sl.t (⟨true, []⟩ : Sl ByteArray))]) (cs := [(Sl.t (⟨true, []⟩ : Sl ByteArray)), .int .i64 0, (Sl.t (⟨true, []⟩ : Sl ByteArray)), (Sl.t (⟨true, []⟩ : Sl DFile)), (Sl.t (⟨true, []⟩ : Sl ByteArray))]) (cells' := [(Sl.t (⟨true, []⟩ : Sl ByteArray)), .int .i64 0, (Sl.t (⟨true, []⟩ : Sl ByteArray)), (Sl.t (⟨true, []⟩ : Sl DFile)), (Sl.t (⟨true, []⟩ : Sl ByteArray))]) rfl hS hH rfl rfl rfl (by kernel_rfl) (by kernel_rfl) ?_; intro σ s hH hS
    refine q_seg 2 [(2, .ptr b2 0 0 5), (3, .str ⟨#[]⟩), (4, .bool false)] hS (by kernel_rfl) ?_; intro s hS
    refine x_nil ?_
    refine sq_n ?_
    refine c_ret ?_
    refine sq_r ?_
    injection h with h; subst h
    have hH := Heap.addNil hH true 1
    have hH := Heap.addNil hH true 1
    have hH := Heap.addNil hH true 4
    have hH := Heap.addNil hH true 1
    have hH : Heap σ0 σ [.own true 1 (T.row true 0 []) (Sl.t (⟨true, []⟩ : Sl ByteArray)), .own true 1 (T.row true 0 []) (Sl.t (⟨true, []⟩ : Sl ByteArray)), .own true 4 (T.row true 0 []) (Sl.t (⟨true, []⟩ : Sl DFile)), .own true 1 (T.row true 0 []) (Sl.t (⟨true, []⟩ : Sl ByteArray)), .box b2 [(Sl.t (⟨true, []⟩ : Sl ByteArray)), .int .i64 0, (Sl.t (⟨true, []⟩ : Sl ByteArray)), (Sl.t (⟨true, []⟩ : Sl DFile)), (Sl.t (⟨true, []⟩ : Sl ByteArray))], .box b1 [(Sl.t (a0.Input : Sl ByteArray)), .int .i64 a0.At, (Sl.t (a0.Output : Sl ByteArray)), (Sl.t (a0.Files : Sl DFile)), (Sl.t (a0.Trace : Sl ByteArray))]] := hH.sel [3, 2, 1, 0, 4, 5] rfl (by kernel_rfl)
    exact end_Ow [(T.row true 0 []), (T.row true 0 []), (T.row true 0 []), (T.row true 0 [])] [.box b2 [(Sl.t (⟨true, []⟩ : Sl ByteArray)), .int .i64 0, (Sl.t (⟨true, []⟩ : Sl ByteArray)), (Sl.t (⟨true, []⟩ : Sl DFile)), (Sl.t (⟨true, []⟩ : Sl ByteArray))], .box b1 [(Sl.t (a0.Input : Sl ByteArray)), .int .i64 a0.At, (Sl.t (a0.Output : Sl ByteArray)), (Sl.t (a0.Files : Sl DFile)), (Sl.t (a0.Trace : Sl ByteArray))]] (r_cell (v := .agg [(Sl.t (⟨true, []⟩ : Sl ByteArray)), .int .i64 0, (Sl.t (⟨true, []⟩ : Sl ByteArray)), (Sl.t (⟨true, []⟩ : Sl DFile)), (Sl.t (⟨true, []⟩ : Sl ByteArray))]) hS (hH.at 4 rfl) rfl (by kernel_rfl) (r_tmp (v := .str ⟨#[]⟩) hS rfl (r_tmp (v := .bool false) hS rfl r_nil))) (by kernel_rfl) rfl hH (by kernel_rfl)
  · have h := it_neg hc1 h
    refine c_cond hS rfl (fun hf => tt_absurd hc1 hf) (fun _ => ?_)
    refine c_skip ?_
    refine sq_n ?_
    refine c_seq ?_
    refine c_region ?_
    obtain ⟨y2, hy2, h⟩ := bind_some h
    refine q_callLO rfl (xs := [.ptr b1 0 0 5]) (cs := [[(Sl.t (a0.Input : Sl ByteArray)), .int .i64 a0.At, (Sl.t (a0.Output : Sl ByteArray)), (Sl.t (a0.Files : Sl DFile)), (Sl.t (a0.Trace : Sl ByteArray))]]) [b1] rfl hS rfl rfl rfl hH (And.intro (Heap.lent (hH.at 1 rfl)) trivial) hy2 ?_; intro hs σ s hl hH hS
    obtain ⟨t1, t2, t3, t4, rfl⟩ := len4 hl
    have hH : Heap σ0 σ [.own true 1 t1 (Sl.t (y2.Input : Sl ByteArray)), .own true 1 t2 (Sl.t (y2.Output : Sl ByteArray)), .own true 4 t3 (Sl.t (y2.Files : Sl DFile)), .own true 1 t4 (Sl.t (y2.Trace : Sl ByteArray)), .box b2 [(Sl.t (⟨true, []⟩ : Sl ByteArray)), .int .i64 0, (Sl.t (⟨true, []⟩ : Sl ByteArray)), (Sl.t (⟨true, []⟩ : Sl DFile)), (Sl.t (⟨true, []⟩ : Sl ByteArray))], .box b1 [(Sl.t (a0.Input : Sl ByteArray)), .int .i64 a0.At, (Sl.t (a0.Output : Sl ByteArray)), (Sl.t (a0.Files : Sl DFile)), (Sl.t (a0.Trace : Sl ByteArray))]] := hH
    have ht1 : IsOne t1 := Heap.one hH
    have ht2 : IsOne t2 := Heap.one (hH.at 1 rfl)
    have ht3 : IsOne t3 := Heap.one (hH.at 2 rfl)
    have ht4 : IsOne t4 := Heap.one (hH.at 3 rfl)
    refine q_alloc (z := [(Sl.t (⟨true, []⟩ : Sl ByteArray)), .int .i64 0, (Sl.t (⟨true, []⟩ : Sl ByteArray)), (Sl.t (⟨true, []⟩ : Sl DFile)), (Sl.t (⟨true, []⟩ : Sl ByteArray))]) rfl hS hH (by kernel_rfl) ?_; intro b3 σ s hH hS
    refine q_store (v := .agg [t1, .int .i64 y2.At, t2, t3, t4]) (cs := [t1, .int .i64 y2.At, t2, t3, t4]) (cells' := [t1, .int .i64 y2.At, t2, t3, t4]) rfl hS hH rfl rfl rfl (by simp [ht1.1, ht1.2, ht2.1, ht2.2, ht3.1, ht3.2, ht4.1, ht4.2]) (by kernel_rfl) ?_; intro σ s hH hS
    refine x_nil ?_
    refine sq_n ?_
    refine c_seq ?_
    refine c_seq ?_
    refine c_region ?_
    refine q_seg 1 [(1, .ptr b1 0 0 5), (2, .ptr b2 0 0 5), (5, .ptr b3 0 0 5), (10, .ptr b1 0 1 1)] hS (by kernel_rfl) ?_; intro s hS
    refine q_load (v := .int .i64 a0.At) 6 trivial rfl hS hH rfl rfl (by kernel_rfl) ?_; intro s hS
    refine q_seg 1 [(1, .ptr b1 0 0 5), (2, .ptr b2 0 0 5), (5, .ptr b3 0 0 5), (11, .int .i64 a0.At), (12, .ptr b1 0 0 1)] hS (by kernel_rfl) ?_; intro s hS
    refine q_load (v := (Sl.t (a0.Input : Sl ByteArray))) 6 trivial rfl hS hH rfl rfl (by kernel_rfl) ?_; intro s hS
    refine q_seg 2 [(1, .ptr b1 0 0 5), (2, .ptr b2 0 0 5), (5, .ptr b3 0 0 5), (15, .bool (decide (a0.At = (a0.Input.l.length : Int))))] hS (by kernel_rfl) ?_; intro s hS
    refine x_nil ?_
    refine sq_n ?_
    by_cases hc2 : (decide (a0.At = (a0.Input.l.length : Int))) = true
    · have h := it_pos hc2 h
      refine c_cond hS rfl (fun _ => ?_) (fun hf => ff_absurd hc2 hf)
      refine c_seq ?_
      refine c_region ?_
      refine q_load (v := .agg [t1, .int .i64 y2.At, t2, t3, t4]) 0 trivial rfl hS hH rfl rfl (by kernel_rfl) ?_; intro s hS
      have hH : Heap σ0 σ [.box b2 [(Sl.t (⟨true, []⟩ : Sl ByteArray)), .int .i64 0, (Sl.t (⟨true, []⟩ : Sl ByteArray)), (Sl.t (⟨true, []⟩ : Sl DFile)), (Sl.t (⟨true, []⟩ : Sl ByteArray))], .box b3 [t1, .int .i64 y2.At, t2, t3, t4], .own true 1 t1 (Sl.t (y2.Input : Sl ByteArray)), .own true 1 t2 (Sl.t (y2.Output : Sl ByteArray)), .own true 4 t3 (Sl.t (y2.Files : Sl DFile)), .own true 1 t4 (Sl.t (y2.Trace : Sl ByteArray)), .box b1 [(Sl.t (a0.Input : Sl ByteArray)), .int .i64 a0.At, (Sl.t (a0.Output : Sl ByteArray)), (Sl.t (a0.Files : Sl DFile)), (Sl.t (a0.Trace : Sl ByteArray))]] := hH.sel [5, 0, 1, 2, 3, 4, 6] rfl (by kernel_rfl)
      refine q_store (v := .agg [t1, .int .i64 y2.At, t2, t3, t4]) (cs := [t1, .int .i64 y2.At, t2, t3, t4]) (cells' := [t1, .int .i64 y2.At, t2, t3, t4]) rfl hS hH rfl rfl rfl (by simp [ht1.1, ht1.2, ht2.1, ht2.2, ht3.1, ht3.2, ht4.1, ht4.2]) (by kernel_rfl) ?_; intro σ s hH hS
      refine q_seg 2 [(2, .ptr b2 0 0 5), (3, .str ⟨#[]⟩), (4, .bool false)] hS (by kernel_rfl) ?_; intro s hS
      refine x_nil ?_
      refine sq_n ?_
      refine c_ret ?_
      refine sq_r ?_
      injection h with h; subst h
      have hH : Heap σ0 σ [.own true 1 t1 (Sl.t (y2.Input : Sl ByteArray)), .own true 1 t2 (Sl.t (y2.Output : Sl ByteArray)), .own true 4 t3 (Sl.t (y2.Files : Sl DFile)), .own true 1 t4 (Sl.t (y2.Trace : Sl ByteArray)), .box b2 [t1, .int .i64 y2.At, t2, t3, t4], .box b3 [t1, .int .i64 y2.At, t2, t3, t4], .box b1 [(Sl.t (a0.Input : Sl ByteArray)), .int .i64 a0.At, (Sl.t (a0.Output : Sl ByteArray)), (Sl.t (a0.Files : Sl DFile)), (Sl.t (a0.Trace : Sl ByteArray))]] := hH.sel [2, 3, 4, 5, 0, 1, 6] rfl (by kernel_rfl)
      exact end_Ow [t1, t2, t3, t4] [.box b2 [t1, .int .i64 y2.At, t2, t3, t4], .box b3 [t1, .int .i64 y2.At, t2, t3, t4], .box b1 [(Sl.t (a0.Input : Sl ByteArray)), .int .i64 a0.At, (Sl.t (a0.Output : Sl ByteArray)), (Sl.t (a0.Files : Sl DFile)), (Sl.t (a0.Trace : Sl ByteArray))]] (r_cell (v := .agg [t1, .int .i64 y2.At, t2, t3, t4]) hS (hH.at 4 rfl) rfl (by kernel_rfl) (r_tmp (v := .str ⟨#[]⟩) hS rfl (r_tmp (v := .bool false) hS rfl r_nil))) (by kernel_rfl) rfl hH (by kernel_rfl)
    · have h := it_neg hc2 h
      refine c_cond hS rfl (fun hf => tt_absurd hc2 hf) (fun _ => ?_)
      refine c_skip ?_
      refine sq_n ?_
      refine c_seq ?_
      refine c_region ?_
      refine q_seg 1 [(1, .ptr b1 0 0 5), (2, .ptr b2 0 0 5), (5, .ptr b3 0 0 5), (17, .ptr b3 0 1 1)] hS (by kernel_rfl) ?_; intro s hS
      refine q_load (v := .int .i64 y2.At) 0 trivial rfl hS hH rfl rfl (by kernel_rfl) ?_; intro s hS
      refine q_seg 2 [(1, .ptr b1 0 0 5), (2, .ptr b2 0 0 5), (5, .ptr b3 0 0 5), (19, .int .i64 (IntKind.i64.wrap (y2.At + 1))), (20, .ptr b3 0 1 1)] hS (by kernel_rfl) ?_; intro s hS
      refine q_store (v := .int .i64 (IntKind.i64.wrap (y2.At + 1))) (cs := [.int .i64 (IntKind.i64.wrap (y2.At + 1))]) (cells' := [t1, .int .i64 (IntKind.i64.wrap (y2.At + 1)), t2, t3, t4]) rfl hS hH rfl rfl rfl (by kernel_rfl) (by kernel_rfl) ?_; intro σ s hH hS
      refine x_nil ?_
      refine sq_n ?_
      refine c_seq ?_
      refine c_chain [b2] (fun _ => rfl) (by kernel_rfl) (by kernel_rfl) hH ?_; intro mb σs σ hn0 hlt hH
      have hlt_b3 : b3 < mb ∧ b3 ∉ ([b2] : List Nat) := ⟨hlt b3 _ (List.Mem.head _), (by simp only [List.mem_cons, List.not_mem_nil, or_false, not_or]; exact (Heap.ne hH 5 0 (by decide) rfl rfl).symm)⟩
      have hlt_b1 : b1 < mb ∧ b1 ∉ ([b2] : List Nat) := ⟨hlt b1 _ (List.Mem.tail _ (List.Mem.tail _ (List.Mem.tail _ (List.Mem.tail _ (List.Mem.tail _ (List.Mem.tail _ (List.Mem.head _))))))), (by simp only [List.mem_cons, List.not_mem_nil, or_false, not_or]; exact (Heap.ne hH 6 5 (by decide) rfl rfl))⟩
      refine q_load (v := .agg [t1, .int .i64 (IntKind.i64.wrap (y2.At + 1)), t2, t3, t4]) 0 hlt_b3 rfl hS hH rfl rfl (by kernel_rfl) ?_; intro s hS
      refine q_seg 1 [(1, .ptr b1 0 0 5), (2, .ptr b2 0 0 5), (21, .agg [t1, .int .i64 (IntKind.i64.wrap (y2.At + 1)), t2, t3, t4]), (22, .ptr b1 0 0 1)] hS (by kernel_rfl) ?_; intro s hS
      refine q_load (v := (Sl.t (a0.Input : Sl ByteArray))) 6 hlt_b1 rfl hS hH rfl rfl (by kernel_rfl) ?_; intro s hS
      refine q_seg 1 [(2, .ptr b2 0 0 5), (21, .agg [t1, .int .i64 (IntKind.i64.wrap (y2.At + 1)), t2, t3, t4]), (23, (Sl.t (a0.Input : Sl ByteArray))), (24, .ptr b1 0 1 1)] hS (by kernel_rfl) ?_; intro s hS
      refine q_load (v := .int .i64 a0.At) 6 hlt_b1 rfl hS hH rfl rfl (by kernel_rfl) ?_; intro s hS
      obtain ⟨y3, hy3, h⟩ := bind_some h
      refine q_elt (sl := a0.Input) (e := 9) [.str y3] rfl hS rfl rfl (by kernel_rfl) (by kernel_rfl) hy3 rfl ?_; intro rest1 s hS
      refine q_seg 1 [(2, .ptr b2 0 0 5), (21, .agg [t1, .int .i64 (IntKind.i64.wrap (y2.At + 1)), t2, t3, t4]), (27, .str y3)] hS (by kernel_rfl) ?_; intro s hS
      have hH : Heap σ0 σ [.box b2 [(Sl.t (⟨true, []⟩ : Sl ByteArray)), .int .i64 0, (Sl.t (⟨true, []⟩ : Sl ByteArray)), (Sl.t (⟨true, []⟩ : Sl DFile)), (Sl.t (⟨true, []⟩ : Sl ByteArray))], .box b3 [t1, .int .i64 (IntKind.i64.wrap (y2.At + 1)), t2, t3, t4], .own true 1 t1 (Sl.t (y2.Input : Sl ByteArray)), .own true 1 t2 (Sl.t (y2.Output : Sl ByteArray)), .own true 4 t3 (Sl.t (y2.Files : Sl DFile)), .own true 1 t4 (Sl.t (y2.Trace : Sl ByteArray)), .box b1 [(Sl.t (a0.Input : Sl ByteArray)), .int .i64 a0.At, (Sl.t (a0.Output : Sl ByteArray)), (Sl.t (a0.Files : Sl DFile)), (Sl.t (a0.Trace : Sl ByteArray))]] := hH.sel [5, 0, 1, 2, 3, 4, 6] rfl (by kernel_rfl)
      refine q_storeC rfl (v := .agg [t1, .int .i64 (IntKind.i64.wrap (y2.At + 1)), t2, t3, t4]) (cs := [t1, .int .i64 (IntKind.i64.wrap (y2.At + 1)), t2, t3, t4]) (cells' := [t1, .int .i64 (IntKind.i64.wrap (y2.At + 1)), t2, t3, t4]) (by exact Or.inr (by simp)) rfl hS hH rfl rfl rfl (by simp [ht1.1, ht1.2, ht2.1, ht2.2, ht3.1, ht3.2, ht4.1, ht4.2]) (by kernel_rfl) ?_; intro σ s hH hS
      refine q_seg 2 [(2, .ptr b2 0 0 5), (3, .str y3), (4, .bool true)] hS (by kernel_rfl) ?_; intro s hS
      refine x_nil ?_
      refine sq_n ?_
      refine c_ret ?_
      injection h with h; subst h
      have hH : Heap σ0 σ [.own true 1 t1 (Sl.t (y2.Input : Sl ByteArray)), .own true 1 t2 (Sl.t (y2.Output : Sl ByteArray)), .own true 4 t3 (Sl.t (y2.Files : Sl DFile)), .own true 1 t4 (Sl.t (y2.Trace : Sl ByteArray)), .box b2 [t1, .int .i64 (IntKind.i64.wrap (y2.At + 1)), t2, t3, t4], .box b3 [t1, .int .i64 (IntKind.i64.wrap (y2.At + 1)), t2, t3, t4], .box b1 [(Sl.t (a0.Input : Sl ByteArray)), .int .i64 a0.At, (Sl.t (a0.Output : Sl ByteArray)), (Sl.t (a0.Files : Sl DFile)), (Sl.t (a0.Trace : Sl ByteArray))]] := hH.sel [2, 3, 4, 5, 0, 1, 6] rfl (by kernel_rfl)
      exact end_Ow [t1, t2, t3, t4] [.box b2 [t1, .int .i64 (IntKind.i64.wrap (y2.At + 1)), t2, t3, t4], .box b3 [t1, .int .i64 (IntKind.i64.wrap (y2.At + 1)), t2, t3, t4], .box b1 [(Sl.t (a0.Input : Sl ByteArray)), .int .i64 a0.At, (Sl.t (a0.Output : Sl ByteArray)), (Sl.t (a0.Files : Sl DFile)), (Sl.t (a0.Trace : Sl ByteArray))]] (r_cell (v := .agg [t1, .int .i64 (IntKind.i64.wrap (y2.At + 1)), t2, t3, t4]) hS (hH.at 4 rfl) rfl (by kernel_rfl) (r_tmp (v := .str y3) hS rfl (r_tmp (v := .bool true) hS rfl r_nil))) (by kernel_rfl) rfl hH (by kernel_rfl)
end Go.Am
end
section
set_option maxRecDepth 100000
set_option maxHeartbeats 4000000
set_option linter.unusedVariables false
set_option linter.unusedSimpArgs false
namespace Go.Am
open Go.Proofs
noncomputable def B_laws_toConsole (a0 : DConsole) : Option DConsole := ((F_laws_toStringS a0.Input).bind fun y1 => ((F_laws_toStringS a0.Output).bind fun y2 => ((F_laws_toFileS a0.Files).bind fun y3 => ((F_laws_toStringS a0.Trace).bind fun y4 => (some (⟨y1, a0.At, y2, y3, y4⟩ : DConsole))))))
theorem u_laws_toConsole (a0 : DConsole) (r : DConsole) (h : B_laws_toConsole a0 = some r) : F_laws_toConsole a0 = some r := by
  unfold B_laws_toConsole at h
  refine semO_of rfl rfl ok_21 rfl (all_cons (by kernel_rfl) all_nil) ?_
  intro σ0 s hS hH
  have hS := sub_to (L' := [(0, .agg (DConsole.cells a0))]) hS (by kernel_rfl)
  refine c_seq ?_
  refine c_region ?_
  refine q_box (v := .agg (DConsole.cells a0)) (cs := [(Sl.t (a0.Input : Sl ByteArray)), .int .i64 a0.At, (Sl.t (a0.Output : Sl ByteArray)), (Sl.t (a0.Files : Sl DFile)), (Sl.t (a0.Trace : Sl ByteArray))]) rfl hS hH rfl rfl (by kernel_rfl) ?_; intro b1 σ s hH hS
  refine q_alloc (z := [(Sl.t (⟨true, []⟩ : Sl ByteArray)), .int .i64 0, (Sl.t (⟨true, []⟩ : Sl ByteArray)), (Sl.t (⟨true, []⟩ : Sl DFile)), (Sl.t (⟨true, []⟩ : Sl ByteArray))]) rfl hS hH (by kernel_rfl) ?_; intro b2 σ s hH hS
  refine x_nil ?_
  refine sq_n ?_
  refine c_seq ?_
  refine c_region ?_
  refine q_alloc (z := [(Sl.t (⟨true, []⟩ : Sl ByteArray)), .int .i64 0, (Sl.t (⟨true, []⟩ : Sl ByteArray)), (Sl.t (⟨true, []⟩ : Sl DFile)), (Sl.t (⟨true, []⟩ : Sl ByteArray))]) rfl hS hH (by kernel_rfl) ?_; intro b3 σ s hH hS
  refine x_nil ?_
  refine sq_n ?_
  refine c_seq ?_
  refine c_region ?_
  refine q_seg 1 [(1, .ptr b1 0 0 5), (2, .ptr b2 0 0 5), (3, .ptr b3 0 0 5), (4, .ptr b1 0 0 1)] hS (by kernel_rfl) ?_; intro s hS
  refine q_load (v := (Sl.t (a0.Input : Sl ByteArray))) 2 trivial rfl hS hH rfl rfl (by kernel_rfl) ?_; intro s hS
  obtain ⟨y1, hy1, h⟩ := bind_some h
  refine q_callO (ents := []) (z := false) (ts := [(Sl.t (a0.Input : Sl ByteArray))]) (vs := [(Sl.t (a0.Input : Sl ByteArray))]) rfl rfl hS rfl rfl rfl hH (HL.leaf (fun σ d => hold_pure σ d _) HL.nil) hy1 ?_; intro hs σ s hl hH hS
  obtain ⟨t1, rfl⟩ := len1 hl
  have hH : Heap σ0 σ [.own true 1 t1 (Sl.t (y1 : Sl ByteArray)), .box b3 [(Sl.t (⟨true, []⟩ : Sl ByteArray)), .int .i64 0, (Sl.t (⟨true, []⟩ : Sl ByteArray)), (Sl.t (⟨true, []⟩ : Sl DFile)), (Sl.t (⟨true, []⟩ : Sl ByteArray))], .box b2 [(Sl.t (⟨true, []⟩ : Sl ByteArray)), .int .i64 0, (Sl.t (⟨true, []⟩ : Sl ByteArray)), (Sl.t (⟨true, []⟩ : Sl DFile)), (Sl.t (⟨true, []⟩ : Sl ByteArray))], .box b1 [(Sl.t (a0.Input : Sl ByteArray)), .int .i64 a0.At, (Sl.t (a0.Output : Sl ByteArray)), (Sl.t (a0.Files : Sl DFile)), (Sl.t (a0.Trace : Sl ByteArray))]] := hH
  have ht1 : IsOne t1 := Heap.one hH
  refine q_seg 1 [(1, .ptr b1 0 0 5), (2, .ptr b2 0 0 5), (3, .ptr b3 0 0 5), (6, t1), (7, .ptr b3 0 0 1)] hS (by kernel_rfl) ?_; intro s hS
  have hH : Heap σ0 σ [.box b3 [(Sl.t (⟨true, []⟩ : Sl ByteArray)), .int .i64 0, (Sl.t (⟨true, []⟩ : Sl ByteArray)), (Sl.t (⟨true, []⟩ : Sl DFile)), (Sl.t (⟨true, []⟩ : Sl ByteArray))], .own true 1 t1 (Sl.t (y1 : Sl ByteArray)), .box b2 [(Sl.t (⟨true, []⟩ : Sl ByteArray)), .int .i64 0, (Sl.t (⟨true, []⟩ : Sl ByteArray)), (Sl.t (⟨true, []⟩ : Sl DFile)), (Sl.t (⟨true, []⟩ : Sl ByteArray))], .box b1 [(Sl.t (a0.Input : Sl ByteArray)), .int .i64 a0.At, (Sl.t (a0.Output : Sl ByteArray)), (Sl.t (a0.Files : Sl DFile)), (Sl.t (a0.Trace : Sl ByteArray))]] := hH.sel [1, 0, 2, 3] rfl (by kernel_rfl)
  refine q_store (v := t1) (cs := [t1]) (cells' := [t1, .int .i64 0, (Sl.t (⟨true, []⟩ : Sl ByteArray)), (Sl.t (⟨true, []⟩ : Sl DFile)), (Sl.t (⟨true, []⟩ : Sl ByteArray))]) rfl hS hH rfl rfl (by simp [ht1.1, ht1.2]) (by simp [ht1.1, ht1.2]) (by kernel_rfl) ?_; intro σ s hH hS
  refine x_nil ?_
  refine sq_n ?_
  refine c_seq ?_
  refine c_region ?_
  refine q_seg 1 [(1, .ptr b1 0 0 5), (2, .ptr b2 0 0 5), (3, .ptr b3 0 0 5), (8, .ptr b1 0 1 1)] hS (by kernel_rfl) ?_; intro s hS
  refine q_load (v := .int .i64 a0.At) 3 trivial rfl hS hH rfl rfl (by kernel_rfl) ?_; intro s hS
  refine q_seg 1 [(1, .ptr b1 0 0 5), (2, .ptr b2 0 0 5), (3, .ptr b3 0 0 5), (9, .int .i64 a0.At), (10, .ptr b3 0 1 1)] hS (by kernel_rfl) ?_; intro s hS
  refine q_store (v := .int .i64 a0.At) (cs := [.int .i64 a0.At]) (cells' := [t1, .int .i64 a0.At, (Sl.t (⟨true, []⟩ : Sl ByteArray)), (Sl.t (⟨true, []⟩ : Sl DFile)), (Sl.t (⟨true, []⟩ : Sl ByteArray))]) rfl hS hH rfl rfl rfl (by kernel_rfl) (by kernel_rfl) ?_; intro σ s hH hS
  refine x_nil ?_
  refine sq_n ?_
  refine c_seq ?_
  refine c_region ?_
  refine q_seg 1 [(1, .ptr b1 0 0 5), (2, .ptr b2 0 0 5), (3, .ptr b3 0 0 5), (11, .ptr b1 0 2 1)] hS (by kernel_rfl) ?_; intro s hS
  refine q_load (v := (Sl.t (a0.Output : Sl ByteArray))) 3 trivial rfl hS hH rfl rfl (by kernel_rfl) ?_; intro s hS
  obtain ⟨y2, hy2, h⟩ := bind_some h
  refine q_callO (ents := []) (z := false) (ts := [(Sl.t (a0.Output : Sl ByteArray))]) (vs := [(Sl.t (a0.Output : Sl ByteArray))]) rfl rfl hS rfl rfl rfl hH (HL.leaf (fun σ d => hold_pure σ d _) HL.nil) hy2 ?_; intro hs σ s hl hH hS
  obtain ⟨t2, rfl⟩ := len1 hl
  have hH : Heap σ0 σ [.own true 1 t2 (Sl.t (y2 : Sl ByteArray)), .box b3 [t1, .int .i64 a0.At, (Sl.t (⟨true, []⟩ : Sl ByteArray)), (Sl.t (⟨true, []⟩ : Sl DFile)), (Sl.t (⟨true, []⟩ : Sl ByteArray))], .own true 1 t1 (Sl.t (y1 : Sl ByteArray)), .box b2 [(Sl.t (⟨true, []⟩ : Sl ByteArray)), .int .i64 0, (Sl.t (⟨true, []⟩ : Sl ByteArray)), (Sl.t (⟨true, []⟩ : Sl DFile)), (Sl.t (⟨true, []⟩ : Sl ByteArray))], .box b1 [(Sl.t (a0.Input : Sl ByteArray)), .int .i64 a0.At, (Sl.t (a0.Output : Sl ByteArray)), (Sl.t (a0.Files : Sl DFile)), (Sl.t (a0.Trace : Sl ByteArray))]] := hH
  have ht2 : IsOne t2 := Heap.one hH
  refine q_seg 1 [(1, .ptr b1 0 0 5), (2, .ptr b2 0 0 5), (3, .ptr b3 0 0 5), (13, t2), (14, .ptr b3 0 2 1)] hS (by kernel_rfl) ?_; intro s hS
  have hH : Heap σ0 σ [.box b3 [t1, .int .i64 a0.At, (Sl.t (⟨true, []⟩ : Sl ByteArray)), (Sl.t (⟨true, []⟩ : Sl DFile)), (Sl.t (⟨true, []⟩ : Sl ByteArray))], .own true 1 t2 (Sl.t (y2 : Sl ByteArray)), .own true 1 t1 (Sl.t (y1 : Sl ByteArray)), .box b2 [(Sl.t (⟨true, []⟩ : Sl ByteArray)), .int .i64 0, (Sl.t (⟨true, []⟩ : Sl ByteArray)), (Sl.t (⟨true, []⟩ : Sl DFile)), (Sl.t (⟨true, []⟩ : Sl ByteArray))], .box b1 [(Sl.t (a0.Input : Sl ByteArray)), .int .i64 a0.At, (Sl.t (a0.Output : Sl ByteArray)), (Sl.t (a0.Files : Sl DFile)), (Sl.t (a0.Trace : Sl ByteArray))]] := hH.sel [1, 0, 2, 3, 4] rfl (by kernel_rfl)
  refine q_store (v := t2) (cs := [t2]) (cells' := [t1, .int .i64 a0.At, t2, (Sl.t (⟨true, []⟩ : Sl DFile)), (Sl.t (⟨true, []⟩ : Sl ByteArray))]) rfl hS hH rfl rfl (by simp [ht2.1, ht2.2]) (by simp [ht2.1, ht2.2]) (by kernel_rfl) ?_; intro σ s hH hS
  refine x_nil ?_
  refine sq_n ?_
  refine c_seq ?_
  refine c_region ?_
  refine q_seg 1 [(1, .ptr b1 0 0 5), (2, .ptr b2 0 0 5), (3, .ptr b3 0 0 5), (15, .ptr b1 0 3 1)] hS (by kernel_rfl) ?_; intro s hS
  refine q_load (v := (Sl.t (a0.Files : Sl DFile))) 4 trivial rfl hS hH rfl rfl (by kernel_rfl) ?_; intro s hS
  obtain ⟨y3, hy3, h⟩ := bind_some h
  refine q_callO (ents := []) (z := false) (ts := [(Sl.t (a0.Files : Sl DFile))]) (vs := [(Sl.t (a0.Files : Sl DFile))]) rfl rfl hS rfl rfl rfl hH (HL.leaf (fun σ d => hold_pure σ d _) HL.nil) hy3 ?_; intro hs σ s hl hH hS
  obtain ⟨t3, rfl⟩ := len1 hl
  have hH : Heap σ0 σ [.own true 4 t3 (Sl.t (y3 : Sl DFile)), .box b3 [t1, .int .i64 a0.At, t2, (Sl.t (⟨true, []⟩ : Sl DFile)), (Sl.t (⟨true, []⟩ : Sl ByteArray))], .own true 1 t2 (Sl.t (y2 : Sl ByteArray)), .own true 1 t1 (Sl.t (y1 : Sl ByteArray)), .box b2 [(Sl.t (⟨true, []⟩ : Sl ByteArray)), .int .i64 0, (Sl.t (⟨true, []⟩ : Sl ByteArray)), (Sl.t (⟨true, []⟩ : Sl DFile)), (Sl.t (⟨true, []⟩ : Sl ByteArray))], .box b1 [(Sl.t (a0.Input : Sl ByteArray)), .int .i64 a0.At, (Sl.t (a0.Output : Sl ByteArray)), (Sl.t (a0.Files : Sl DFile)), (Sl.t (a0.Trace : Sl ByteArray))]] := hH
  have ht3 : IsOne t3 := Heap.one hH
  refine q_seg 1 [(1, .ptr b1 0 0 5), (2, .ptr b2 0 0 5), (3, .ptr b3 0 0 5), (17, t3), (18, .ptr b3 0 3 1)] hS (by kernel_rfl) ?_; intro s hS
  have hH : Heap σ0 σ [.box b3 [t1, .int .i64 a0.At, t2, (Sl.t (⟨true, []⟩ : Sl DFile)), (Sl.t (⟨true, []⟩ : Sl ByteArray))], .own true 4 t3 (Sl.t (y3 : Sl DFile)), .own true 1 t2 (Sl.t (y2 : Sl ByteArray)), .own true 1 t1 (Sl.t (y1 : Sl ByteArray)), .box b2 [(Sl.t (⟨true, []⟩ : Sl ByteArray)), .int .i64 0, (Sl.t (⟨true, []⟩ : Sl ByteArray)), (Sl.t (⟨true, []⟩ : Sl DFile)), (Sl.t (⟨true, []⟩ : Sl ByteArray))], .box b1 [(Sl.t (a0.Input : Sl ByteArray)), .int .i64 a0.At, (Sl.t (a0.Output : Sl ByteArray)), (Sl.t (a0.Files : Sl DFile)), (Sl.t (a0.Trace : Sl ByteArray))]] := hH.sel [1, 0, 2, 3, 4, 5] rfl (by kernel_rfl)
  refine q_store (v := t3) (cs := [t3]) (cells' := [t1, .int .i64 a0.At, t2, t3, (Sl.t (⟨true, []⟩ : Sl ByteArray))]) rfl hS hH rfl rfl (by simp [ht3.1, ht3.2]) (by simp [ht3.1, ht3.2]) (by kernel_rfl) ?_; intro σ s hH hS
  refine x_nil ?_
  refine sq_n ?_
  refine c_seq ?_
  refine c_region ?_
  refine q_seg 1 [(2, .ptr b2 0 0 5), (3, .ptr b3 0 0 5), (19, .ptr b1 0 4 1)] hS (by kernel_rfl) ?_; intro s hS
  refine q_load (v := (Sl.t (a0.Trace : Sl ByteArray))) 5 trivial rfl hS hH rfl rfl (by kernel_rfl) ?_; intro s hS
  obtain ⟨y4, hy4, h⟩ := bind_some h
  refine q_callO (ents := []) (z := false) (ts := [(Sl.t (a0.Trace : Sl ByteArray))]) (vs := [(Sl.t (a0.Trace : Sl ByteArray))]) rfl rfl hS rfl rfl rfl hH (HL.leaf (fun σ d => hold_pure σ d _) HL.nil) hy4 ?_; intro hs σ s hl hH hS
  obtain ⟨t4, rfl⟩ := len1 hl
  have hH : Heap σ0 σ [.own true 1 t4 (Sl.t (y4 : Sl ByteArray)), .box b3 [t1, .int .i64 a0.At, t2, t3, (Sl.t (⟨true, []⟩ : Sl ByteArray))], .own true 4 t3 (Sl.t (y3 : Sl DFile)), .own true 1 t2 (Sl.t (y2 : Sl ByteArray)), .own true 1 t1 (Sl.t (y1 : Sl ByteArray)), .box b2 [(Sl.t (⟨true, []⟩ : Sl ByteArray)), .int .i64 0, (Sl.t (⟨true, []⟩ : Sl ByteArray)), (Sl.t (⟨true, []⟩ : Sl DFile)), (Sl.t (⟨true, []⟩ : Sl ByteArray))], .box b1 [(Sl.t (a0.Input : Sl ByteArray)), .int .i64 a0.At, (Sl.t (a0.Output : Sl ByteArray)), (Sl.t (a0.Files : Sl DFile)), (Sl.t (a0.Trace : Sl ByteArray))]] := hH
  have ht4 : IsOne t4 := Heap.one hH
  refine q_seg 1 [(2, .ptr b2 0 0 5), (3, .ptr b3 0 0 5), (21, t4), (22, .ptr b3 0 4 1)] hS (by kernel_rfl) ?_; intro s hS
  have hH : Heap σ0 σ [.box b3 [t1, .int .i64 a0.At, t2, t3, (Sl.t (⟨true, []⟩ : Sl ByteArray))], .own true 1 t4 (Sl.t (y4 : Sl ByteArray)), .own true 4 t3 (Sl.t (y3 : Sl DFile)), .own true 1 t2 (Sl.t (y2 : Sl ByteArray)), .own true 1 t1 (Sl.t (y1 : Sl ByteArray)), .box b2 [(Sl.t (⟨true, []⟩ : Sl ByteArray)), .int .i64 0, (Sl.t (⟨true, []⟩ : Sl ByteArray)), (Sl.t (⟨true, []⟩ : Sl DFile)), (Sl.t (⟨true, []⟩ : Sl ByteArray))], .box b1 [(Sl.t (a0.Input : Sl ByteArray)), .int .i64 a0.At, (Sl.t (a0.Output : Sl ByteArray)), (Sl.t (a0.Files : Sl DFile)), (Sl.t (a0.Trace : Sl ByteArray))]] := hH.sel [1, 0, 2, 3, 4, 5, 6] rfl (by kernel_rfl)
  refine q_store (v := t4) (cs := [t4]) (cells' := [t1, .int .i64 a0.At, t2, t3, t4]) rfl hS hH rfl rfl (by simp [ht4.1, ht4.2]) (by simp [ht4.1, ht4.2]) (by kernel_rfl) ?_; intro σ s hH hS
  refine x_nil ?_
  refine sq_n ?_
  refine c_seq ?_
  refine c_region ?_
  refine q_load (v := .agg [t1, .int .i64 a0.At, t2, t3, t4]) 0 trivial rfl hS hH rfl rfl (by kernel_rfl) ?_; intro s hS
  have hH : Heap σ0 σ [.box b2 [(Sl.t (⟨true, []⟩ : Sl ByteArray)), .int .i64 0, (Sl.t (⟨true, []⟩ : Sl ByteArray)), (Sl.t (⟨true, []⟩ : Sl DFile)), (Sl.t (⟨true, []⟩ : Sl ByteArray))], .box b3 [t1, .int .i64 a0.At, t2, t3, t4], .own true 1 t4 (Sl.t (y4 : Sl ByteArray)), .own true 4 t3 (Sl.t (y3 : Sl DFile)), .own true 1 t2 (Sl.t (y2 : Sl ByteArray)), .own true 1 t1 (Sl.t (y1 : Sl ByteArray)), .box b1 [(Sl.t (a0.Input : Sl ByteArray)), .int .i64 a0.At, (Sl.t (a0.Output : Sl ByteArray)), (Sl.t (a0.Files : Sl DFile)), (Sl.t (a0.Trace : Sl ByteArray))]] := hH.sel [5, 0, 1, 2, 3, 4, 6] rfl (by kernel_rfl)
  refine q_store (v := .agg [t1, .int .i64 a0.At, t2, t3, t4]) (cs := [t1, .int .i64 a0.At, t2, t3, t4]) (cells' := [t1, .int .i64 a0.At, t2, t3, t4]) rfl hS hH rfl rfl rfl (by simp [ht1.1, ht1.2, ht2.1, ht2.2, ht3.1, ht3.2, ht4.1, ht4.2]) (by kernel_rfl) ?_; intro σ s hH hS
  refine x_nil ?_
  refine sq_n ?_
  refine c_ret ?_
  injection h with h; subst h
  have hH : Heap σ0 σ [.own true 1 t1 (Sl.t (y1 : Sl ByteArray)), .own true 1 t2 (Sl.t (y2 : Sl ByteArray)), .own true 4 t3 (Sl.t (y3 : Sl DFile)), .own true 1 t4 (Sl.t (y4 : Sl ByteArray)), .box b2 [t1, .int .i64 a0.At, t2, t3, t4], .box b3 [t1, .int .i64 a0.At, t2, t3, t4], .box b1 [(Sl.t (a0.Input : Sl ByteArray)), .int .i64 a0.At, (Sl.t (a0.Output : Sl ByteArray)), (Sl.t (a0.Files : Sl DFile)), (Sl.t (a0.Trace : Sl ByteArray))]] := hH.sel [5, 4, 3, 2, 0, 1, 6] rfl (by kernel_rfl)
  exact end_Ow [t1, t2, t3, t4] [.box b2 [t1, .int .i64 a0.At, t2, t3, t4], .box b3 [t1, .int .i64 a0.At, t2, t3, t4], .box b1 [(Sl.t (a0.Input : Sl ByteArray)), .int .i64 a0.At, (Sl.t (a0.Output : Sl ByteArray)), (Sl.t (a0.Files : Sl DFile)), (Sl.t (a0.Trace : Sl ByteArray))]] (r_cell (v := .agg [t1, .int .i64 a0.At, t2, t3, t4]) hS (hH.at 4 rfl) rfl (by kernel_rfl) r_nil) (by kernel_rfl) rfl hH (by kernel_rfl)
end Go.Am
end
section
set_option maxRecDepth 100000
set_option maxHeartbeats 4000000
set_option linter.unusedVariables false
set_option linter.unusedSimpArgs false
namespace Go.Am
open Go.Proofs
noncomputable def B_laws_eqConsole (a0 : DConsole) (a1 : DConsole) : Option Bool := ((F_laws_eqStringS a0.Input a1.Input).bind fun y1 => (if (!y1) = true then (some false) else (if (!decide (a0.At = a1.At)) = true then (some false) else ((F_laws_eqStringS a0.Output a1.Output).bind fun y2 => (if (!y2) = true then (some false) else ((F_laws_eqFileS a0.Files a1.Files).bind fun y3 => (if (!y3) = true then (some false) else ((F_laws_eqStringS a0.Trace a1.Trace).bind fun y4 => (if (!y4) = true then (some false) else (some true))))))))))
theorem u_laws_eqConsole (a0 : DConsole) (a1 : DConsole) (r : Bool) (h : B_laws_eqConsole a0 a1 = some r) : F_laws_eqConsole a0 a1 = some r := by
  unfold B_laws_eqConsole at h
  refine semW_of E_bool_inj rfl rfl ok_22 rfl (all_cons (by kernel_rfl) (all_cons (by kernel_rfl) all_nil)) ?_
  intro σ0 s hS hH
  have hS := sub_to (L' := [(0, .agg (DConsole.cells a0)), (1, .agg (DConsole.cells a1))]) hS (by kernel_rfl)
  refine c_seq ?_
  refine c_region ?_
  refine q_box (v := .agg (DConsole.cells a0)) (cs := [(Sl.t (a0.Input : Sl ByteArray)), .int .i64 a0.At, (Sl.t (a0.Output : Sl ByteArray)), (Sl.t (a0.Files : Sl DFile)), (Sl.t (a0.Trace : Sl ByteArray))]) rfl hS hH rfl rfl (by kernel_rfl) ?_; intro b1 σ s hH hS
  refine q_box (v := .agg (DConsole.cells a1)) (cs := [(Sl.t (a1.Input : Sl ByteArray)), .int .i64 a1.At, (Sl.t (a1.Output : Sl ByteArray)), (Sl.t (a1.Files : Sl DFile)), (Sl.t (a1.Trace : Sl ByteArray))]) rfl hS hH rfl rfl (by kernel_rfl) ?_; intro b2 σ s hH hS
  refine q_seg 1 [(2, .ptr b1 0 0 5), (3, .ptr b2 0 0 5)] hS (by kernel_rfl) ?_; intro s hS
  refine x_nil ?_
  refine sq_n ?_
  refine c_seq ?_
  refine c_seq ?_
  refine c_region ?_
  refine q_seg 1 [(2, .ptr b1 0 0 5), (3, .ptr b2 0 0 5), (5, .ptr b1 0 0 1)] hS (by kernel_rfl) ?_; intro s hS
  refine q_load (v := (Sl.t (a0.Input : Sl ByteArray))) 1 trivial rfl hS hH rfl rfl (by kernel_rfl) ?_; intro s hS
  refine q_seg 1 [(2, .ptr b1 0 0 5), (3, .ptr b2 0 0 5), (6, (Sl.t (a0.Input : Sl ByteArray))), (7, .ptr b2 0 0 1)] hS (by kernel_rfl) ?_; intro s hS
  refine q_load (v := (Sl.t (a1.Input : Sl ByteArray))) 0 trivial rfl hS hH rfl rfl (by kernel_rfl) ?_; intro s hS
  obtain ⟨y1, hy1, h⟩ := bind_some h
  refine q_callF (a := []) (b := []) (xs := [(Sl.t (a0.Input : Sl ByteArray)), (Sl.t (a1.Input : Sl ByteArray))]) rfl hS rfl rfl hy1 ?_; intro s hS
  refine q_seg 1 [(2, .ptr b1 0 0 5), (3, .ptr b2 0 0 5), (10, .bool (!y1))] hS (by kernel_rfl) ?_; intro s hS
  refine x_nil ?_
  refine sq_n ?_
  by_cases hc1 : (!y1) = true
  · have h := it_pos hc1 h
    refine c_cond hS rfl (fun _ => ?_) (fun hf => ff_absurd hc1 hf)
    refine c_seq ?_
    refine c_region ?_
    refine q_seg 1 [(4, .bool false)] hS (by kernel_rfl) ?_; intro s hS
    refine x_nil ?_
    refine sq_n ?_
    refine c_ret ?_
    refine sq_r ?_
    injection h with h; subst h
    exact end_W hH (r_tmp (v := .bool false) hS rfl r_nil) rfl (by kernel_rfl) (by simp [pureT, pureL, E_bool])
  · have h := it_neg hc1 h
    refine c_cond hS rfl (fun hf => tt_absurd hc1 hf) (fun _ => ?_)
    refine c_skip ?_
    refine sq_n ?_
    refine c_seq ?_
    refine c_seq ?_
    refine c_region ?_
    refine q_seg 1 [(2, .ptr b1 0 0 5), (3, .ptr b2 0 0 5), (11, .ptr b1 0 1 1)] hS (by kernel_rfl) ?_; intro s hS
    refine q_load (v := .int .i64 a0.At) 1 trivial rfl hS hH rfl rfl (by kernel_rfl) ?_; intro s hS
    refine q_seg 1 [(2, .ptr b1 0 0 5), (3, .ptr b2 0 0 5), (12, .int .i64 a0.At), (13, .ptr b2 0 1 1)] hS (by kernel_rfl) ?_; intro s hS
    refine q_load (v := .int .i64 a1.At) 0 trivial rfl hS hH rfl rfl (by kernel_rfl) ?_; intro s hS
    refine q_seg 1 [(2, .ptr b1 0 0 5), (3, .ptr b2 0 0 5), (15, .bool (!decide (a0.At = a1.At)))] hS (by kernel_rfl) ?_; intro s hS
    refine x_nil ?_
    refine sq_n ?_
    by_cases hc2 : (!decide (a0.At = a1.At)) = true
    · have h := it_pos hc2 h
      refine c_cond hS rfl (fun _ => ?_) (fun hf => ff_absurd hc2 hf)
      refine c_seq ?_
      refine c_region ?_
      refine q_seg 1 [(4, .bool false)] hS (by kernel_rfl) ?_; intro s hS
      refine x_nil ?_
      refine sq_n ?_
      refine c_ret ?_
      refine sq_r ?_
      injection h with h; subst h
      exact end_W hH (r_tmp (v := .bool false) hS rfl r_nil) rfl (by kernel_rfl) (by simp [pureT, pureL, E_bool])
    · have h := it_neg hc2 h
      refine c_cond hS rfl (fun hf => tt_absurd hc2 hf) (fun _ => ?_)
      refine c_skip ?_
      refine sq_n ?_
      refine c_seq ?_
      refine c_seq ?_
      refine c_region ?_
      refine q_seg 1 [(2, .ptr b1 0 0 5), (3, .ptr b2 0 0 5), (16, .ptr b1 0 2 1)] hS (by kernel_rfl) ?_; intro s hS
      refine q_load (v := (Sl.t (a0.Output : Sl ByteArray))) 1 trivial rfl hS hH rfl rfl (by kernel_rfl) ?_; intro s hS
      refine q_seg 1 [(2, .ptr b1 0 0 5), (3, .ptr b2 0 0 5), (17, (Sl.t (a0.Output : Sl ByteArray))), (18, .ptr b2 0 2 1)] hS (by kernel_rfl) ?_; intro s hS
      refine q_load (v := (Sl.t (a1.Output : Sl ByteArray))) 0 trivial rfl hS hH rfl rfl (by kernel_rfl) ?_; intro s hS
      obtain ⟨y2, hy2, h⟩ := bind_some h
      refine q_callF (a := []) (b := []) (xs := [(Sl.t (a0.Output : Sl ByteArray)), (Sl.t (a1.Output : Sl ByteArray))]) rfl hS rfl rfl hy2 ?_; intro s hS
      refine q_seg 1 [(2, .ptr b1 0 0 5), (3, .ptr b2 0 0 5), (21, .bool (!y2))] hS (by kernel_rfl) ?_; intro s hS
      refine x_nil ?_
      refine sq_n ?_
      by_cases hc3 : (!y2) = true
      · have h := it_pos hc3 h
        refine c_cond hS rfl (fun _ => ?_) (fun hf => ff_absurd hc3 hf)
        refine c_seq ?_
        refine c_region ?_
        refine q_seg 1 [(4, .bool false)] hS (by kernel_rfl) ?_; intro s hS
        refine x_nil ?_
        refine sq_n ?_
        refine c_ret ?_
        refine sq_r ?_
        injection h with h; subst h
        exact end_W hH (r_tmp (v := .bool false) hS rfl r_nil) rfl (by kernel_rfl) (by simp [pureT, pureL, E_bool])
      · have h := it_neg hc3 h
        refine c_cond hS rfl (fun hf => tt_absurd hc3 hf) (fun _ => ?_)
        refine c_skip ?_
        refine sq_n ?_
        refine c_seq ?_
        refine c_seq ?_
        refine c_region ?_
        refine q_seg 1 [(2, .ptr b1 0 0 5), (3, .ptr b2 0 0 5), (22, .ptr b1 0 3 1)] hS (by kernel_rfl) ?_; intro s hS
        refine q_load (v := (Sl.t (a0.Files : Sl DFile))) 1 trivial rfl hS hH rfl rfl (by kernel_rfl) ?_; intro s hS
        refine q_seg 1 [(2, .ptr b1 0 0 5), (3, .ptr b2 0 0 5), (23, (Sl.t (a0.Files : Sl DFile))), (24, .ptr b2 0 3 1)] hS (by kernel_rfl) ?_; intro s hS
        refine q_load (v := (Sl.t (a1.Files : Sl DFile))) 0 trivial rfl hS hH rfl rfl (by kernel_rfl) ?_; intro s hS
        obtain ⟨y3, hy3, h⟩ := bind_some h
        refine q_callF (a := []) (b := []) (xs := [(Sl.t (a0.Files : Sl DFile)), (Sl.t (a1.Files : Sl DFile))]) rfl hS rfl rfl hy3 ?_; intro s hS
        refine q_seg 1 [(2, .ptr b1 0 0 5), (3, .ptr b2 0 0 5), (27, .bool (!y3))] hS (by kernel_rfl) ?_; intro s hS
        refine x_nil ?_
        refine sq_n ?_
        by_cases hc4 : (!y3) = true
        · have h := it_pos hc4 h
          refine c_cond hS rfl (fun _ => ?_) (fun hf => ff_absurd hc4 hf)
          refine c_seq ?_
          refine c_region ?_
          refine q_seg 1 [(4, .bool false)] hS (by kernel_rfl) ?_; intro s hS
          refine x_nil ?_
          refine sq_n ?_
          refine c_ret ?_
          refine sq_r ?_
          injection h with h; subst h
          exact end_W hH (r_tmp (v := .bool false) hS rfl r_nil) rfl (by kernel_rfl) (by simp [pureT, pureL, E_bool])
        · have h := it_neg hc4 h
          refine c_cond hS rfl (fun hf => tt_absurd hc4 hf) (fun _ => ?_)
          refine c_skip ?_
          refine sq_n ?_
          refine c_seq ?_
          refine c_seq ?_
          refine c_region ?_
          refine q_seg 1 [(3, .ptr b2 0 0 5), (28, .ptr b1 0 4 1)] hS (by kernel_rfl) ?_; intro s hS
          refine q_load (v := (Sl.t (a0.Trace : Sl ByteArray))) 1 trivial rfl hS hH rfl rfl (by kernel_rfl) ?_; intro s hS
          refine q_seg 1 [(29, (Sl.t (a0.Trace : Sl ByteArray))), (30, .ptr b2 0 4 1)] hS (by kernel_rfl) ?_; intro s hS
          refine q_load (v := (Sl.t (a1.Trace : Sl ByteArray))) 0 trivial rfl hS hH rfl rfl (by kernel_rfl) ?_; intro s hS
          obtain ⟨y4, hy4, h⟩ := bind_some h
          refine q_callF (a := []) (b := []) (xs := [(Sl.t (a0.Trace : Sl ByteArray)), (Sl.t (a1.Trace : Sl ByteArray))]) rfl hS rfl rfl hy4 ?_; intro s hS
          refine q_seg 1 [(33, .bool (!y4))] hS (by kernel_rfl) ?_; intro s hS
          refine x_nil ?_
          refine sq_n ?_
          by_cases hc5 : (!y4) = true
          · have h := it_pos hc5 h
            refine c_cond hS rfl (fun _ => ?_) (fun hf => ff_absurd hc5 hf)
            refine c_seq ?_
            refine c_region ?_
            refine q_seg 1 [(4, .bool false)] hS (by kernel_rfl) ?_; intro s hS
            refine x_nil ?_
            refine sq_n ?_
            refine c_ret ?_
            refine sq_r ?_
            injection h with h; subst h
            exact end_W hH (r_tmp (v := .bool false) hS rfl r_nil) rfl (by kernel_rfl) (by simp [pureT, pureL, E_bool])
          · have h := it_neg hc5 h
            refine c_cond hS rfl (fun hf => tt_absurd hc5 hf) (fun _ => ?_)
            refine c_skip ?_
            refine sq_n ?_
            refine c_seq ?_
            refine c_region ?_
            refine q_seg 1 [(4, .bool true)] hS (by kernel_rfl) ?_; intro s hS
            refine x_nil ?_
            refine sq_n ?_
            refine c_ret ?_
            injection h with h; subst h
            exact end_W hH (r_tmp (v := .bool true) hS rfl r_nil) rfl (by kernel_rfl) (by simp [pureT, pureL, E_bool])
end Go.Am
end
section
set_option maxRecDepth 100000
set_option maxHeartbeats 4000000
set_option linter.unusedVariables false
set_option linter.unusedSimpArgs false
namespace Go.Am
open Go.Proofs
noncomputable def B_laws_heldConsole (a0 : DConsole) (a1 : Int) : Option Int := ((F_laws_heldStringS a0.Input a1).bind fun y1 => (if (decide (y1 < 0)) = true then (some (-1)) else ((F_laws_heldStringS a0.Output y1).bind fun y2 => (if (decide (y2 < 0)) = true then (some (-1)) else ((F_laws_heldFileS a0.Files y2).bind fun y3 => (if (decide (y3 < 0)) = true then (some (-1)) else ((F_laws_heldStringS a0.Trace y3).bind fun y4 => (if (decide (y4 < 0)) = true then (some (-1)) else (some y4)))))))))
theorem u_laws_heldConsole (a0 : DConsole) (a1 : Int) (r : Int) (h : B_laws_heldConsole a0 a1 = some r) : F_laws_heldConsole a0 a1 = some r := by
  unfold B_laws_heldConsole at h
  refine semW_of E_i64_inj rfl rfl ok_24 rfl (all_cons (by kernel_rfl) (all_cons (by kernel_rfl) all_nil)) ?_
  intro σ0 s hS hH
  have hS := sub_to (L' := [(0, .agg (DConsole.cells a0)), (1, .int .i64 a1)]) hS (by kernel_rfl)
  refine c_seq ?_
  refine c_region ?_
  refine q_box (v := .agg (DConsole.cells a0)) (cs := [(Sl.t (a0.Input : Sl ByteArray)), .int .i64 a0.At, (Sl.t (a0.Output : Sl ByteArray)), (Sl.t (a0.Files : Sl DFile)), (Sl.t (a0.Trace : Sl ByteArray))]) rfl hS hH rfl rfl (by kernel_rfl) ?_; intro b1 σ s hH hS
  refine q_seg 1 [(1, .int .i64 a1), (2, .ptr b1 0 0 5)] hS (by kernel_rfl) ?_; intro s hS
  refine x_nil ?_
  refine sq_n ?_
  refine c_seq ?_
  refine c_region ?_
  refine q_seg 1 [(1, .int .i64 a1), (2, .ptr b1 0 0 5), (5, .ptr b1 0 0 1)] hS (by kernel_rfl) ?_; intro s hS
  refine q_load (v := (Sl.t (a0.Input : Sl ByteArray))) 0 trivial rfl hS hH rfl rfl (by kernel_rfl) ?_; intro s hS
  refine q_seg 1 [(2, .ptr b1 0 0 5), (6, (Sl.t (a0.Input : Sl ByteArray))), (7, .int .i64 a1)] hS (by kernel_rfl) ?_; intro s hS
  obtain ⟨y1, hy1, h⟩ := bind_some h
  refine q_callF (a := []) (b := []) (xs := [(Sl.t (a0.Input : Sl ByteArray)), .int .i64 a1]) rfl hS rfl rfl hy1 ?_; intro s hS
  refine q_seg 1 [(1, .int .i64 y1), (2, .ptr b1 0 0 5)] hS (by kernel_rfl) ?_; intro s hS
  refine x_nil ?_
  refine sq_n ?_
  refine c_seq ?_
  refine c_seq ?_
  refine c_region ?_
  refine q_seg 2 [(1, .int .i64 y1), (2, .ptr b1 0 0 5), (10, .bool (decide (y1 < 0)))] hS (by kernel_rfl) ?_; intro s hS
  refine x_nil ?_
  refine sq_n ?_
  by_cases hc1 : (decide (y1 < 0)) = true
  · have h := it_pos hc1 h
    refine c_cond hS rfl (fun _ => ?_) (fun hf => ff_absurd hc1 hf)
    refine c_seq ?_
    refine c_region ?_
    refine q_seg 1 [(4, .int .i64 (-1))] hS (by kernel_rfl) ?_; intro s hS
    refine x_nil ?_
    refine sq_n ?_
    refine c_ret ?_
    refine sq_r ?_
    injection h with h; subst h
    exact end_W hH (r_tmp (v := .int .i64 (-1)) hS rfl r_nil) rfl (by kernel_rfl) (by simp [pureT, pureL, E_i64])
  · have h := it_neg hc1 h
    refine c_cond hS rfl (fun hf => tt_absurd hc1 hf) (fun _ => ?_)
    refine c_skip ?_
    refine sq_n ?_
    refine c_seq ?_
    refine c_region ?_
    refine q_seg 1 [(1, .int .i64 y1), (2, .ptr b1 0 0 5), (11, .ptr b1 0 2 1)] hS (by kernel_rfl) ?_; intro s hS
    refine q_load (v := (Sl.t (a0.Output : Sl ByteArray))) 0 trivial rfl hS hH rfl rfl (by kernel_rfl) ?_; intro s hS
    refine q_seg 1 [(2, .ptr b1 0 0 5), (12, (Sl.t (a0.Output : Sl ByteArray))), (13, .int .i64 y1)] hS (by kernel_rfl) ?_; intro s hS
    obtain ⟨y2, hy2, h⟩ := bind_some h
    refine q_callF (a := []) (b := []) (xs := [(Sl.t (a0.Output : Sl ByteArray)), .int .i64 y1]) rfl hS rfl rfl hy2 ?_; intro s hS
    refine q_seg 1 [(1, .int .i64 y2), (2, .ptr b1 0 0 5)] hS (by kernel_rfl) ?_; intro s hS
    refine x_nil ?_
    refine sq_n ?_
    refine c_seq ?_
    refine c_seq ?_
    refine c_region ?_
    refine q_seg 2 [(1, .int .i64 y2), (2, .ptr b1 0 0 5), (16, .bool (decide (y2 < 0)))] hS (by kernel_rfl) ?_; intro s hS
    refine x_nil ?_
    refine sq_n ?_
    by_cases hc2 : (decide (y2 < 0)) = true
    · have h := it_pos hc2 h
      refine c_cond hS rfl (fun _ => ?_) (fun hf => ff_absurd hc2 hf)
      refine c_seq ?_
      refine c_region ?_
      refine q_seg 1 [(4, .int .i64 (-1))] hS (by kernel_rfl) ?_; intro s hS
      refine x_nil ?_
      refine sq_n ?_
      refine c_ret ?_
      refine sq_r ?_
      injection h with h; subst h
      exact end_W hH (r_tmp (v := .int .i64 (-1)) hS rfl r_nil) rfl (by kernel_rfl) (by simp [pureT, pureL, E_i64])
    · have h := it_neg hc2 h
      refine c_cond hS rfl (fun hf => tt_absurd hc2 hf) (fun _ => ?_)
      refine c_skip ?_
      refine sq_n ?_
      refine c_seq ?_
      refine c_region ?_
      refine q_seg 1 [(1, .int .i64 y2), (2, .ptr b1 0 0 5), (17, .ptr b1 0 3 1)] hS (by kernel_rfl) ?_; intro s hS
      refine q_load (v := (Sl.t (a0.Files : Sl DFile))) 0 trivial rfl hS hH rfl rfl (by kernel_rfl) ?_; intro s hS
      refine q_seg 1 [(2, .ptr b1 0 0 5), (18, (Sl.t (a0.Files : Sl DFile))), (19, .int .i64 y2)] hS (by kernel_rfl) ?_; intro s hS
      obtain ⟨y3, hy3, h⟩ := bind_some h
      refine q_callF (a := []) (b := []) (xs := [(Sl.t (a0.Files : Sl DFile)), .int .i64 y2]) rfl hS rfl rfl hy3 ?_; intro s hS
      refine q_seg 1 [(1, .int .i64 y3), (2, .ptr b1 0 0 5)] hS (by kernel_rfl) ?_; intro s hS
      refine x_nil ?_
      refine sq_n ?_
      refine c_seq ?_
      refine c_seq ?_
      refine c_region ?_
      refine q_seg 2 [(1, .int .i64 y3), (2, .ptr b1 0 0 5), (22, .bool (decide (y3 < 0)))] hS (by kernel_rfl) ?_; intro s hS
      refine x_nil ?_
      refine sq_n ?_
      by_cases hc3 : (decide (y3 < 0)) = true
      · have h := it_pos hc3 h
        refine c_cond hS rfl (fun _ => ?_) (fun hf => ff_absurd hc3 hf)
        refine c_seq ?_
        refine c_region ?_
        refine q_seg 1 [(4, .int .i64 (-1))] hS (by kernel_rfl) ?_; intro s hS
        refine x_nil ?_
        refine sq_n ?_
        refine c_ret ?_
        refine sq_r ?_
        injection h with h; subst h
        exact end_W hH (r_tmp (v := .int .i64 (-1)) hS rfl r_nil) rfl (by kernel_rfl) (by simp [pureT, pureL, E_i64])
      · have h := it_neg hc3 h
        refine c_cond hS rfl (fun hf => tt_absurd hc3 hf) (fun _ => ?_)
        refine c_skip ?_
        refine sq_n ?_
        refine c_seq ?_
        refine c_region ?_
        refine q_seg 1 [(1, .int .i64 y3), (23, .ptr b1 0 4 1)] hS (by kernel_rfl) ?_; intro s hS
        refine q_load (v := (Sl.t (a0.Trace : Sl ByteArray))) 0 trivial rfl hS hH rfl rfl (by kernel_rfl) ?_; intro s hS
        refine q_seg 1 [(24, (Sl.t (a0.Trace : Sl ByteArray))), (25, .int .i64 y3)] hS (by kernel_rfl) ?_; intro s hS
        obtain ⟨y4, hy4, h⟩ := bind_some h
        refine q_callF (a := []) (b := []) (xs := [(Sl.t (a0.Trace : Sl ByteArray)), .int .i64 y3]) rfl hS rfl rfl hy4 ?_; intro s hS
        refine q_seg 1 [(1, .int .i64 y4)] hS (by kernel_rfl) ?_; intro s hS
        refine x_nil ?_
        refine sq_n ?_
        refine c_seq ?_
        refine c_seq ?_
        refine c_region ?_
        refine q_seg 2 [(1, .int .i64 y4), (28, .bool (decide (y4 < 0)))] hS (by kernel_rfl) ?_; intro s hS
        refine x_nil ?_
        refine sq_n ?_
        by_cases hc4 : (decide (y4 < 0)) = true
        · have h := it_pos hc4 h
          refine c_cond hS rfl (fun _ => ?_) (fun hf => ff_absurd hc4 hf)
          refine c_seq ?_
          refine c_region ?_
          refine q_seg 1 [(4, .int .i64 (-1))] hS (by kernel_rfl) ?_; intro s hS
          refine x_nil ?_
          refine sq_n ?_
          refine c_ret ?_
          refine sq_r ?_
          injection h with h; subst h
          exact end_W hH (r_tmp (v := .int .i64 (-1)) hS rfl r_nil) rfl (by kernel_rfl) (by simp [pureT, pureL, E_i64])
        · have h := it_neg hc4 h
          refine c_cond hS rfl (fun hf => tt_absurd hc4 hf) (fun _ => ?_)
          refine c_skip ?_
          refine sq_n ?_
          refine c_seq ?_
          refine c_region ?_
          refine q_seg 2 [(4, .int .i64 y4)] hS (by kernel_rfl) ?_; intro s hS
          refine x_nil ?_
          refine sq_n ?_
          refine c_ret ?_
          injection h with h; subst h
          exact end_W hH (r_tmp (v := .int .i64 y4) hS rfl r_nil) rfl (by kernel_rfl) (by simp [pureT, pureL, E_i64])
end Go.Am
end
section
set_option maxRecDepth 100000
set_option maxHeartbeats 4000000
set_option linter.unusedVariables false
set_option linter.unusedSimpArgs false
namespace Go.Am
open Go.Proofs
noncomputable def B_spec_l21Ok (a0 : DConsole) : Option Bool := ((F_spec_l21Lines a0.Input 100 200).bind fun y1 => (if (!y1) = true then (some false) else ((F_spec_l00In a0.At 0 (a0.Input.l.length : Int)).bind fun y2 => (if (!y2) = true then (some false) else ((F_spec_l21Lines a0.Output 100 200).bind fun y3 => (if (!y3) = true then (some false) else (if (decide (6 < (a0.Files.l.length : Int))) = true then (some false) else ((F_spec_l21Lines a0.Trace 200 1300).bind fun y4 => (if (!y4) = true then (some false) else ((loopO (S := Int) (R := (Unit ⊕ Bool)) (fun st1 => (if (decide (st1 < (a0.Files.l.length : Int))) = true then ((elt a0.Files st1).bind fun y6 => ((F_spec_l21File y6).bind fun y7 => (if (!y7) = true then (some (.inr (.inr false))) else (if (decide (0 < st1)) = true then ((elt a0.Files (IntKind.i64.wrap (st1 - 1))).bind fun y8 => ((elt a0.Files st1).bind fun y9 => (if (!Op.bytesLess y8.Name.toList y9.Name.toList) = true then (some (.inr (.inr false))) else (some (.inl (IntKind.i64.wrap (st1 + 1))))))) else (some (.inl (IntKind.i64.wrap (st1 + 1)))))))) else (some (.inr (.inl ()))))) 0).bind fun y5 => (Sum.elim (fun y5 => (some true)) (fun y5 => (some y5)) y5)))))))))))
theorem u_spec_l21Ok (a0 : DConsole) (r : Bool) (h : B_spec_l21Ok a0 = some r) : F_spec_l21Ok a0 = some r := by
  unfold B_spec_l21Ok at h
  refine semL_of E_bool_inj rfl rfl ok_41 (fun bs hb => by obtain ⟨bp0, rfl⟩ := bl1 hb; exact rfl) (fun bs hb => by obtain ⟨bp0, rfl⟩ := bl1 hb; exact (all_cons rfl all_nil)) ?_
  intro σ0 bs s hL hS hH
  obtain ⟨bp0, rfl, hL_bp0⟩ := lent1 hL
  clear hL
  have hS := sub_to (L' := [(0, .ptr bp0 0 0 5)]) hS (by kernel_rfl)
  refine c_seq ?_
  refine c_region ?_
  refine q_seg 1 [(0, .ptr bp0 0 0 5)] hS (by kernel_rfl) ?_; intro s hS
  refine x_nil ?_
  refine sq_n ?_
  refine c_seq ?_
  refine c_seq ?_
  refine c_draw (by kernel_rfl) hH ?_; intro mb σ hH
  refine q_seg 3 [(0, .ptr bp0 0 0 5), (6, .ptr bp0 0 0 1)] hS (by kernel_rfl) ?_; intro s hS
  refine q_loadL (v := (Sl.t (a0.Input : Sl ByteArray))) trivial rfl hS hH hL_bp0 rfl (by kernel_rfl) ?_; intro s hS
  obtain ⟨y1, hy1, h⟩ := bind_some h
  refine q_callF (a := []) (b := []) (xs := [(Sl.t (a0.Input : Sl ByteArray)), .int .i64 100, .int .i64 200]) rfl hS rfl rfl hy1 ?_; intro s hS
  refine q_seg 2 [(10, .bool (!y1)), (0, .ptr bp0 0 0 5)] hS (by kernel_rfl) ?_; intro s hS
  by_cases hc1 : (!y1) = true
  · have h := it_pos hc1 h
    have hS := sub_bt hS hc1
    refine q_seg 36 [(0, .ptr bp0 0 0 5), (46, .bool true)] hS (by kernel_rfl) ?_; intro s hS
    refine x_nil ?_
    refine sq_n ?_
    refine c_cond (t := true) hS rfl (fun _ => ?_) (fun hf => by cases hf)
    refine c_seq ?_
    refine c_region ?_
    refine q_seg 1 [(2, .bool false)] hS (by kernel_rfl) ?_; intro s hS
    refine x_nil ?_
    refine sq_n ?_
    refine c_ret ?_
    refine sq_r ?_
    injection h with h; subst h
    exact end_W hH (r_tmp (v := .bool false) hS rfl r_nil) rfl (by kernel_rfl) (by simp [pureT, pureL, E_bool])
  · have h := it_neg hc1 h
    have hS := sub_bt hS (tt_of hc1)
    refine q_seg 3 [(0, .ptr bp0 0 0 5), (10, .bool false), (13, .ptr bp0 0 1 1)] hS (by kernel_rfl) ?_; intro s hS
    refine q_loadL (v := .int .i64 a0.At) trivial rfl hS hH hL_bp0 rfl (by kernel_rfl) ?_; intro s hS
    refine q_seg 3 [(0, .ptr bp0 0 0 5), (10, .bool false), (14, .int .i64 a0.At), (17, .ptr bp0 0 0 1)] hS (by kernel_rfl) ?_; intro s hS
    refine q_loadL (v := (Sl.t (a0.Input : Sl ByteArray))) trivial rfl hS hH hL_bp0 rfl (by kernel_rfl) ?_; intro s hS
    refine q_seg 1 [(0, .ptr bp0 0 0 5), (10, .bool false), (14, .int .i64 a0.At), (19, .int .i64 (a0.Input.l.length : Int))] hS (by kernel_rfl) ?_; intro s hS
    obtain ⟨y2, hy2, h⟩ := bind_some h
    refine q_callF (a := []) (b := []) (xs := [.int .i64 a0.At, .int .i64 0, .int .i64 (a0.Input.l.length : Int)]) rfl hS rfl rfl hy2 ?_; intro s hS
    refine q_seg 3 [(23, .bool (!y2)), (0, .ptr bp0 0 0 5)] hS (by kernel_rfl) ?_; intro s hS
    by_cases hc2 : (!y2) = true
    · have h := it_pos hc2 h
      have hS := sub_bt hS hc2
      refine q_seg 23 [(0, .ptr bp0 0 0 5), (46, .bool true)] hS (by kernel_rfl) ?_; intro s hS
      refine x_nil ?_
      refine sq_n ?_
      refine c_cond (t := true) hS rfl (fun _ => ?_) (fun hf => by cases hf)
      refine c_seq ?_
      refine c_region ?_
      refine q_seg 1 [(2, .bool false)] hS (by kernel_rfl) ?_; intro s hS
      refine x_nil ?_
      refine sq_n ?_
      refine c_ret ?_
      refine sq_r ?_
      injection h with h; subst h
      exact end_W hH (r_tmp (v := .bool false) hS rfl r_nil) rfl (by kernel_rfl) (by simp [pureT, pureL, E_bool])
    · have h := it_neg hc2 h
      have hS := sub_bt hS (tt_of hc2)
      refine q_seg 3 [(0, .ptr bp0 0 0 5), (23, .bool false), (26, .ptr bp0 0 2 1)] hS (by kernel_rfl) ?_; intro s hS
      refine q_loadL (v := (Sl.t (a0.Output : Sl ByteArray))) trivial rfl hS hH hL_bp0 rfl (by kernel_rfl) ?_; intro s hS
      obtain ⟨y3, hy3, h⟩ := bind_some h
      refine q_callF (a := []) (b := []) (xs := [(Sl.t (a0.Output : Sl ByteArray)), .int .i64 100, .int .i64 200]) rfl hS rfl rfl hy3 ?_; intro s hS
      refine q_seg 3 [(31, .bool (!y3)), (0, .ptr bp0 0 0 5)] hS (by kernel_rfl) ?_; intro s hS
      by_cases hc3 : (!y3) = true
      · have h := it_pos hc3 h
        have hS := sub_bt hS hc3
        refine q_seg 15 [(0, .ptr bp0 0 0 5), (46, .bool true)] hS (by kernel_rfl) ?_; intro s hS
        refine x_nil ?_
        refine sq_n ?_
        refine c_cond (t := true) hS rfl (fun _ => ?_) (fun hf => by cases hf)
        refine c_seq ?_
        refine c_region ?_
        refine q_seg 1 [(2, .bool false)] hS (by kernel_rfl) ?_; intro s hS
        refine x_nil ?_
        refine sq_n ?_
        refine c_ret ?_
        refine sq_r ?_
        injection h with h; subst h
        exact end_W hH (r_tmp (v := .bool false) hS rfl r_nil) rfl (by kernel_rfl) (by simp [pureT, pureL, E_bool])
      · have h := it_neg hc3 h
        have hS := sub_bt hS (tt_of hc3)
        refine q_seg 3 [(0, .ptr bp0 0 0 5), (31, .bool false), (34, .ptr bp0 0 3 1)] hS (by kernel_rfl) ?_; intro s hS
        refine q_loadL (v := (Sl.t (a0.Files : Sl DFile))) trivial rfl hS hH hL_bp0 rfl (by kernel_rfl) ?_; intro s hS
        refine q_seg 4 [(39, .bool (decide (6 < (a0.Files.l.length : Int)))), (0, .ptr bp0 0 0 5)] hS (by kernel_rfl) ?_; intro s hS
        by_cases hc4 : (decide (6 < (a0.Files.l.length : Int))) = true
        · have h := it_pos hc4 h
          have hS := sub_bt hS hc4
          refine q_seg 7 [(0, .ptr bp0 0 0 5), (46, .bool true)] hS (by kernel_rfl) ?_; intro s hS
          refine x_nil ?_
          refine sq_n ?_
          refine c_cond (t := true) hS rfl (fun _ => ?_) (fun hf => by cases hf)
          refine c_seq ?_
          refine c_region ?_
          refine q_seg 1 [(2, .bool false)] hS (by kernel_rfl) ?_; intro s hS
          refine x_nil ?_
          refine sq_n ?_
          refine c_ret ?_
          refine sq_r ?_
          injection h with h; subst h
          exact end_W hH (r_tmp (v := .bool false) hS rfl r_nil) rfl (by kernel_rfl) (by simp [pureT, pureL, E_bool])
        · have h := it_neg hc4 h
          have hS := sub_bt hS (tt_of hc4)
          refine q_seg 3 [(0, .ptr bp0 0 0 5), (39, .bool false), (42, .ptr bp0 0 4 1)] hS (by kernel_rfl) ?_; intro s hS
          refine q_loadL (v := (Sl.t (a0.Trace : Sl ByteArray))) trivial rfl hS hH hL_bp0 rfl (by kernel_rfl) ?_; intro s hS
          obtain ⟨y4, hy4, h⟩ := bind_some h
          refine q_callF (a := []) (b := []) (xs := [(Sl.t (a0.Trace : Sl ByteArray)), .int .i64 200, .int .i64 1300]) rfl hS rfl rfl hy4 ?_; intro s hS
          refine q_seg 2 [(0, .ptr bp0 0 0 5), (46, .bool (!y4))] hS (by kernel_rfl) ?_; intro s hS
          refine x_nil ?_
          refine sq_n ?_
          by_cases hc5 : (!y4) = true
          · have h := it_pos hc5 h
            refine c_cond hS rfl (fun _ => ?_) (fun hf => ff_absurd hc5 hf)
            refine c_seq ?_
            refine c_region ?_
            refine q_seg 1 [(2, .bool false)] hS (by kernel_rfl) ?_; intro s hS
            refine x_nil ?_
            refine sq_n ?_
            refine c_ret ?_
            refine sq_r ?_
            injection h with h; subst h
            exact end_W hH (r_tmp (v := .bool false) hS rfl r_nil) rfl (by kernel_rfl) (by simp [pureT, pureL, E_bool])
          · have h := it_neg hc5 h
            refine c_cond hS rfl (fun hf => tt_absurd hc5 hf) (fun _ => ?_)
            refine c_skip ?_
            refine sq_n ?_
            refine c_seq ?_
            refine c_seq ?_
            refine c_region ?_
            refine q_seg 1 [(0, .ptr bp0 0 0 5), (3, .int .i64 0)] hS (by kernel_rfl) ?_; intro s hS
            refine x_nil ?_
            refine sq_n ?_
            refine c_block ?_
            obtain ⟨y5, hy5, h⟩ := bind_some h
            refine c_loop (fun (st1 : Int) (fr : Fr) => Sub [(0, .ptr bp0 0 0 5), (3, .int .i64 st1)] fr.s ∧ Heap σ0 fr.σ []) (fun (y5 : (Unit ⊕ Bool)) (e : AExit) (fr : Fr) => (Sum.elim (fun y => e = (.exit 0) ∧ Sub [] fr.s ∧ Heap σ0 fr.σ []) (fun y => e = .ret ∧ endW Try.prog (Try.f41.results.toList) σ0 (E_bool y) .ret fr)) y5) hy5 (And.intro (sub_to hS (by kernel_rfl)) hH) ?_ ?_
            · clear h hy5 hS hH; clear y5; intro st1 x fr h HI; obtain ⟨s, σ⟩ := fr; obtain ⟨hS, hH⟩ := HI
              refine c_seq ?_
              refine c_seq ?_
              refine c_region ?_
              refine q_seg 4 [(0, .ptr bp0 0 0 5), (3, .int .i64 st1), (47, .int .i64 st1), (50, .ptr bp0 0 3 1)] hS (by kernel_rfl) ?_; intro s hS
              refine q_loadL (v := (Sl.t (a0.Files : Sl DFile))) trivial rfl hS hH hL_bp0 rfl (by kernel_rfl) ?_; intro s hS
              refine q_seg 2 [(0, .ptr bp0 0 0 5), (3, .int .i64 st1), (53, .bool (decide (st1 < (a0.Files.l.length : Int))))] hS (by kernel_rfl) ?_; intro s hS
              refine x_nil ?_
              refine sq_n ?_
              by_cases hc6 : (decide (st1 < (a0.Files.l.length : Int))) = true
              · have h := it_pos hc6 h
                refine c_cond hS rfl (fun _ => ?_) (fun hf => ff_absurd hc6 hf)
                refine c_skip ?_
                refine sq_n ?_
                refine c_seq ?_
                refine c_block ?_
                refine c_seq ?_
                refine c_draw (by kernel_rfl) hH ?_; intro mb σ hH
                refine q_seg 3 [(0, .ptr bp0 0 0 5), (3, .int .i64 st1), (58, .ptr bp0 0 3 1)] hS (by kernel_rfl) ?_; intro s hS
                refine q_loadL (v := (Sl.t (a0.Files : Sl DFile))) trivial rfl hS hH hL_bp0 rfl (by kernel_rfl) ?_; intro s hS
                refine q_seg 1 [(0, .ptr bp0 0 0 5), (3, .int .i64 st1), (59, (Sl.t (a0.Files : Sl DFile))), (60, .int .i64 st1)] hS (by kernel_rfl) ?_; intro s hS
                obtain ⟨y6, hy6, h⟩ := bind_some h
                refine q_elt (sl := a0.Files) (e := 52) [.str y6.Name, (Sl.t (y6.Lines : Sl ByteArray)), .int .i64 y6.Mode, .int .i64 y6.At] rfl hS rfl rfl (by kernel_rfl) (by kernel_rfl) hy6 rfl ?_; intro rest1 s hS
                refine q_seg 1 [(0, .ptr bp0 0 0 5), (3, .int .i64 st1), (62, .agg (DFile.cells y6))] hS (by kernel_rfl) ?_; intro s hS
                obtain ⟨y7, hy7, h⟩ := bind_some h
                refine q_callF (a := []) (b := []) (xs := [.agg (DFile.cells y6)]) rfl hS rfl rfl hy7 ?_; intro s hS
                refine q_seg 2 [(65, .bool (!y7)), (0, .ptr bp0 0 0 5), (3, .int .i64 st1)] hS (by kernel_rfl) ?_; intro s hS
                by_cases hc7 : (!y7) = true
                · have h := it_pos hc7 h
                  have hS := sub_bt hS hc7
                  refine q_seg 23 [(0, .ptr bp0 0 0 5), (3, .int .i64 st1), (88, .bool true)] hS (by kernel_rfl) ?_; intro s hS
                  refine x_nil ?_
                  refine sq_n ?_
                  refine c_cond (t := true) hS rfl (fun _ => ?_) (fun hf => by cases hf)
                  refine c_seq ?_
                  refine c_region ?_
                  refine q_seg 1 [(2, .bool false)] hS (by kernel_rfl) ?_; intro s hS
                  refine x_nil ?_
                  refine sq_n ?_
                  refine c_ret ?_
                  refine bk_r ?_
                  refine sq_r ?_
                  injection h with h; subst h
                  exact And.intro rfl (end_W hH (r_tmp (v := .bool false) hS rfl r_nil) rfl (by kernel_rfl) (by simp [pureT, pureL, E_bool]))
                · have h := it_neg hc7 h
                  have hS := sub_bt hS (tt_of hc7)
                  refine q_seg 3 [(68, .bool (decide (0 < st1))), (0, .ptr bp0 0 0 5), (3, .int .i64 st1), (65, .bool false)] hS (by kernel_rfl) ?_; intro s hS
                  by_cases hc8 : (decide (0 < st1)) = true
                  · have h := it_pos hc8 h
                    have hS := sub_bt hS hc8
                    refine q_seg 3 [(0, .ptr bp0 0 0 5), (3, .int .i64 st1), (65, .bool false), (68, .bool true), (71, .ptr bp0 0 3 1)] hS (by kernel_rfl) ?_; intro s hS
                    refine q_loadL (v := (Sl.t (a0.Files : Sl DFile))) trivial rfl hS hH hL_bp0 rfl (by kernel_rfl) ?_; intro s hS
                    refine q_seg 2 [(0, .ptr bp0 0 0 5), (3, .int .i64 st1), (65, .bool false), (68, .bool true), (72, (Sl.t (a0.Files : Sl DFile))), (74, .int .i64 (IntKind.i64.wrap (st1 - 1)))] hS (by kernel_rfl) ?_; intro s hS
                    obtain ⟨y8, hy8, h⟩ := bind_some h
                    refine q_elt (sl := a0.Files) (e := 52) [.str y8.Name, (Sl.t (y8.Lines : Sl ByteArray)), .int .i64 y8.Mode, .int .i64 y8.At] rfl hS rfl rfl (by kernel_rfl) (by kernel_rfl) hy8 rfl ?_; intro rest2 s hS
                    refine q_seg 5 [(0, .ptr bp0 0 0 5), (3, .int .i64 st1), (65, .bool false), (68, .bool true), (77, .str y8.Name), (80, .ptr bp0 0 3 1)] hS (by kernel_rfl) ?_; intro s hS
                    refine q_loadL (v := (Sl.t (a0.Files : Sl DFile))) trivial rfl hS hH hL_bp0 rfl (by kernel_rfl) ?_; intro s hS
                    refine q_seg 1 [(0, .ptr bp0 0 0 5), (3, .int .i64 st1), (65, .bool false), (68, .bool true), (77, .str y8.Name), (81, (Sl.t (a0.Files : Sl DFile))), (82, .int .i64 st1)] hS (by kernel_rfl) ?_; intro s hS
                    obtain ⟨y9, hy9, h⟩ := bind_some h
                    refine q_elt (sl := a0.Files) (e := 52) [.str y9.Name, (Sl.t (y9.Lines : Sl ByteArray)), .int .i64 y9.Mode, .int .i64 y9.At] rfl hS rfl rfl (by kernel_rfl) (by kernel_rfl) hy9 rfl ?_; intro rest3 s hS
                    refine q_seg 5 [(0, .ptr bp0 0 0 5), (3, .int .i64 st1), (88, .bool (!Op.bytesLess y8.Name.toList y9.Name.toList))] hS (by kernel_rfl) ?_; intro s hS
                    refine x_nil ?_
                    refine sq_n ?_
                    by_cases hc9 : (!Op.bytesLess y8.Name.toList y9.Name.toList) = true
                    · have h := it_pos hc9 h
                      refine c_cond hS rfl (fun _ => ?_) (fun hf => ff_absurd hc9 hf)
                      refine c_seq ?_
                      refine c_region ?_
                      refine q_seg 1 [(2, .bool false)] hS (by kernel_rfl) ?_; intro s hS
                      refine x_nil ?_
                      refine sq_n ?_
                      refine c_ret ?_
                      refine bk_r ?_
                      refine sq_r ?_
                      injection h with h; subst h
                      exact And.intro rfl (end_W hH (r_tmp (v := .bool false) hS rfl r_nil) rfl (by kernel_rfl) (by simp [pureT, pureL, E_bool]))
                    · have h := it_neg hc9 h
                      refine c_cond hS rfl (fun hf => tt_absurd hc9 hf) (fun _ => ?_)
                      refine c_skip ?_
                      refine bk_n ?_
                      refine sq_n ?_
                      refine c_region ?_
                      refine q_seg 3 [(0, .ptr bp0 0 0 5), (3, .int .i64 (IntKind.i64.wrap (st1 + 1)))] hS (by kernel_rfl) ?_; intro s hS
                      refine x_nil ?_
                      injection h with h; subst h
                      exact And.intro (sub_to hS (by kernel_rfl)) hH
                  · have h := it_neg hc8 h
                    have hS := sub_bt hS (tt_of hc8)
                    refine q_seg 20 [(0, .ptr bp0 0 0 5), (3, .int .i64 st1), (88, .bool false)] hS (by kernel_rfl) ?_; intro s hS
                    refine x_nil ?_
                    refine sq_n ?_
                    refine c_cond (t := false) hS rfl (fun hf => by cases hf) (fun _ => ?_)
                    refine c_skip ?_
                    refine bk_n ?_
                    refine sq_n ?_
                    refine c_region ?_
                    refine q_seg 3 [(0, .ptr bp0 0 0 5), (3, .int .i64 (IntKind.i64.wrap (st1 + 1)))] hS (by kernel_rfl) ?_; intro s hS
                    refine x_nil ?_
                    injection h with h; subst h
                    exact And.intro (sub_to hS (by kernel_rfl)) hH
              · have h := it_neg hc6 h
                refine c_cond hS rfl (fun hf => tt_absurd hc6 hf) (fun _ => ?_)
                refine c_exit ?_
                refine sq_x ?_
                injection h with h; subst h
                exact And.intro rfl (And.intro (sub_to hS (by kernel_rfl)) hH)
            · clear hS hH; intro e fr HF; obtain ⟨s, σ⟩ := fr
              rcases y5 with y5 | y5
              · obtain ⟨rfl, hS, hH⟩ := HF
                refine bk_e ?_
                refine sq_n ?_
                refine c_seq ?_
                refine c_region ?_
                refine q_seg 1 [(2, .bool true)] hS (by kernel_rfl) ?_; intro s hS
                refine x_nil ?_
                refine sq_n ?_
                refine c_ret ?_
                injection h with h; subst h
                exact end_W hH (r_tmp (v := .bool true) hS rfl r_nil) rfl (by kernel_rfl) (by simp [pureT, pureL, E_bool])
              · obtain ⟨rfl, HE⟩ := HF
                refine bk_r ?_
                refine sq_r ?_
                injection h with h; subst h; exact HE
end Go.Am
end
section
set_option maxRecDepth 100000
set_option maxHeartbeats 4000000
set_option linter.unusedVariables false
set_option linter.unusedSimpArgs false
namespace Go.Am
open Go.Proofs
noncomputable def B_impl_ValidConsole (a0 : DConsole) : Option Bool := (if (decide (100 < (a0.Input.l.length : Int))) = true then (some false) else (if (decide (100 < (a0.Output.l.length : Int))) = true then (some false) else (if (decide (6 < (a0.Files.l.length : Int))) = true then (some false) else (if (decide (200 < (a0.Trace.l.length : Int))) = true then (some false) else ((((F_impl_areAll_string a0.Input (T.fn 45 [] [])).bind fun y5 => (if y5 = true then ((F_impl_areAll_string a0.Output (T.fn 45 [] [])).bind fun y6 => (if y6 = true then ((F_impl_areAll_string a0.Trace (T.fn 87 [] [])).bind fun y7 => (some y7)) else (some false))) else (some false))) : Option Bool).bind fun y1 => (if y1 = true then ((F_impl_within a0.At 0 (a0.Input.l.length : Int)).bind fun y2 => (if y2 = true then ((F_impl_areAll_File a0.Files (T.fn 91 [] [])).bind fun y3 => (if y3 = true then ((F_impl_isSorted_File a0.Files (T.fn 73 [] [])).bind fun y4 => (some y4)) else (some false))) else (some false))) else (some false)))))))
theorem u_impl_ValidConsole (a0 : DConsole) (r : Bool) (h : B_impl_ValidConsole a0 = some r) : F_impl_ValidConsole a0 = some r := by
  unfold B_impl_ValidConsole at h
  refine semW_of E_bool_inj rfl rfl ok_42 rfl (all_cons (by kernel_rfl) all_nil) ?_
  intro σ0 s hS hH
  have hS := sub_to (L' := [(0, .agg (DConsole.cells a0))]) hS (by kernel_rfl)
  refine c_seq ?_
  refine c_region ?_
  refine q_box (v := .agg (DConsole.cells a0)) (cs := [(Sl.t (a0.Input : Sl ByteArray)), .int .i64 a0.At, (Sl.t (a0.Output : Sl ByteArray)), (Sl.t (a0.Files : Sl DFile)), (Sl.t (a0.Trace : Sl ByteArray))]) rfl hS hH rfl rfl (by kernel_rfl) ?_; intro b1 σ s hH hS
  refine q_seg 1 [(1, .ptr b1 0 0 5)] hS (by kernel_rfl) ?_; intro s hS
  refine x_nil ?_
  refine sq_n ?_
  refine c_seq ?_
  refine c_region ?_
  refine q_seg 1 [(1, .ptr b1 0 0 5), (3, T.fn 87 [] [])] hS (by kernel_rfl) ?_; intro s hS
  refine x_nil ?_
  refine sq_n ?_
  refine c_seq ?_
  refine c_seq ?_
  refine c_region ?_
  refine q_seg 1 [(1, .ptr b1 0 0 5), (3, T.fn 87 [] []), (5, .ptr b1 0 0 1)] hS (by kernel_rfl) ?_; intro s hS
  refine q_load (v := (Sl.t (a0.Input : Sl ByteArray))) 0 trivial rfl hS hH rfl rfl (by kernel_rfl) ?_; intro s hS
  refine q_seg 3 [(9, .bool (decide (100 < (a0.Input.l.length : Int)))), (1, .ptr b1 0 0 5), (3, T.fn 87 [] [])] hS (by kernel_rfl) ?_; intro s hS
  by_cases hc1 : (decide (100 < (a0.Input.l.length : Int))) = true
  · have h := it_pos hc1 h
    have hS := sub_bt hS hc1
    refine q_seg 17 [(1, .ptr b1 0 0 5), (3, T.fn 87 [] []), (26, .bool true)] hS (by kernel_rfl) ?_; intro s hS
    refine x_nil ?_
    refine sq_n ?_
    refine c_cond (t := true) hS rfl (fun _ => ?_) (fun hf => by cases hf)
    refine c_seq ?_
    refine c_region ?_
    refine q_seg 1 [(2, .bool false)] hS (by kernel_rfl) ?_; intro s hS
    refine x_nil ?_
    refine sq_n ?_
    refine c_ret ?_
    refine sq_r ?_
    injection h with h; subst h
    exact end_W hH (r_tmp (v := .bool false) hS rfl r_nil) rfl (by kernel_rfl) (by simp [pureT, pureL, E_bool])
  · have h := it_neg hc1 h
    have hS := sub_bt hS (tt_of hc1)
    refine q_seg 1 [(1, .ptr b1 0 0 5), (3, T.fn 87 [] []), (9, .bool false), (10, .ptr b1 0 2 1)] hS (by kernel_rfl) ?_; intro s hS
    refine q_load (v := (Sl.t (a0.Output : Sl ByteArray))) 0 trivial rfl hS hH rfl rfl (by kernel_rfl) ?_; intro s hS
    refine q_seg 4 [(15, .bool (decide (100 < (a0.Output.l.length : Int)))), (1, .ptr b1 0 0 5), (3, T.fn 87 [] [])] hS (by kernel_rfl) ?_; intro s hS
    by_cases hc2 : (decide (100 < (a0.Output.l.length : Int))) = true
    · have h := it_pos hc2 h
      have hS := sub_bt hS hc2
      refine q_seg 11 [(1, .ptr b1 0 0 5), (3, T.fn 87 [] []), (26, .bool true)] hS (by kernel_rfl) ?_; intro s hS
      refine x_nil ?_
      refine sq_n ?_
      refine c_cond (t := true) hS rfl (fun _ => ?_) (fun hf => by cases hf)
      refine c_seq ?_
      refine c_region ?_
      refine q_seg 1 [(2, .bool false)] hS (by kernel_rfl) ?_; intro s hS
      refine x_nil ?_
      refine sq_n ?_
      refine c_ret ?_
      refine sq_r ?_
      injection h with h; subst h
      exact end_W hH (r_tmp (v := .bool false) hS rfl r_nil) rfl (by kernel_rfl) (by simp [pureT, pureL, E_bool])
    · have h := it_neg hc2 h
      have hS := sub_bt hS (tt_of hc2)
      refine q_seg 1 [(1, .ptr b1 0 0 5), (3, T.fn 87 [] []), (15, .bool false), (16, .ptr b1 0 3 1)] hS (by kernel_rfl) ?_; intro s hS
      refine q_load (v := (Sl.t (a0.Files : Sl DFile))) 0 trivial rfl hS hH rfl rfl (by kernel_rfl) ?_; intro s hS
      refine q_seg 4 [(21, .bool (decide (6 < (a0.Files.l.length : Int)))), (1, .ptr b1 0 0 5), (3, T.fn 87 [] [])] hS (by kernel_rfl) ?_; intro s hS
      by_cases hc3 : (decide (6 < (a0.Files.l.length : Int))) = true
      · have h := it_pos hc3 h
        have hS := sub_bt hS hc3
        refine q_seg 5 [(1, .ptr b1 0 0 5), (3, T.fn 87 [] []), (26, .bool true)] hS (by kernel_rfl) ?_; intro s hS
        refine x_nil ?_
        refine sq_n ?_
        refine c_cond (t := true) hS rfl (fun _ => ?_) (fun hf => by cases hf)
        refine c_seq ?_
        refine c_region ?_
        refine q_seg 1 [(2, .bool false)] hS (by kernel_rfl) ?_; intro s hS
        refine x_nil ?_
        refine sq_n ?_
        refine c_ret ?_
        refine sq_r ?_
        injection h with h; subst h
        exact end_W hH (r_tmp (v := .bool false) hS rfl r_nil) rfl (by kernel_rfl) (by simp [pureT, pureL, E_bool])
      · have h := it_neg hc3 h
        have hS := sub_bt hS (tt_of hc3)
        refine q_seg 1 [(1, .ptr b1 0 0 5), (3, T.fn 87 [] []), (21, .bool false), (22, .ptr b1 0 4 1)] hS (by kernel_rfl) ?_; intro s hS
        refine q_load (v := (Sl.t (a0.Trace : Sl ByteArray))) 0 trivial rfl hS hH rfl rfl (by kernel_rfl) ?_; intro s hS
        refine q_seg 3 [(1, .ptr b1 0 0 5), (3, T.fn 87 [] []), (26, .bool (decide (200 < (a0.Trace.l.length : Int))))] hS (by kernel_rfl) ?_; intro s hS
        refine x_nil ?_
        refine sq_n ?_
        by_cases hc4 : (decide (200 < (a0.Trace.l.length : Int))) = true
        · have h := it_pos hc4 h
          refine c_cond hS rfl (fun _ => ?_) (fun hf => ff_absurd hc4 hf)
          refine c_seq ?_
          refine c_region ?_
          refine q_seg 1 [(2, .bool false)] hS (by kernel_rfl) ?_; intro s hS
          refine x_nil ?_
          refine sq_n ?_
          refine c_ret ?_
          refine sq_r ?_
          injection h with h; subst h
          exact end_W hH (r_tmp (v := .bool false) hS rfl r_nil) rfl (by kernel_rfl) (by simp [pureT, pureL, E_bool])
        · have h := it_neg hc4 h
          refine c_cond hS rfl (fun hf => tt_absurd hc4 hf) (fun _ => ?_)
          refine c_skip ?_
          refine sq_n ?_
          refine c_seq ?_
          obtain ⟨y1, hy1, h⟩ := bind_some h
          refine codeQ_mono (Q := fun e fr => e = .normal ∧ Sub [(1, .ptr b1 0 0 5), (4, .bool y1)] fr.s ∧ Heap σ0 fr.σ [.box b1 [(Sl.t (a0.Input : Sl ByteArray)), .int .i64 a0.At, (Sl.t (a0.Output : Sl ByteArray)), (Sl.t (a0.Files : Sl DFile)), (Sl.t (a0.Trace : Sl ByteArray))]]) ?_ ?_
          · intro e fr HF; obtain ⟨s, σ⟩ := fr
            obtain ⟨rfl, hS, hH⟩ := HF
            refine sq_n ?_
            refine c_seq ?_
            refine c_region ?_
            refine q_seg 2 [(42, .bool y1), (1, .ptr b1 0 0 5)] hS (by kernel_rfl) ?_; intro s hS
            by_cases hc5 : y1 = true
            · have h := it_pos hc5 h
              have hS := sub_bt hS hc5
              refine q_seg 1 [(1, .ptr b1 0 0 5), (42, .bool true), (43, .ptr b1 0 1 1)] hS (by kernel_rfl) ?_; intro s hS
              refine q_load (v := .int .i64 a0.At) 0 trivial rfl hS hH rfl rfl (by kernel_rfl) ?_; intro s hS
              refine q_seg 1 [(1, .ptr b1 0 0 5), (42, .bool true), (44, .int .i64 a0.At), (45, .ptr b1 0 0 1)] hS (by kernel_rfl) ?_; intro s hS
              refine q_load (v := (Sl.t (a0.Input : Sl ByteArray))) 0 trivial rfl hS hH rfl rfl (by kernel_rfl) ?_; intro s hS
              refine q_seg 1 [(1, .ptr b1 0 0 5), (42, .bool true), (44, .int .i64 a0.At), (47, .int .i64 (a0.Input.l.length : Int))] hS (by kernel_rfl) ?_; intro s hS
              obtain ⟨y2, hy2, h⟩ := bind_some h
              refine q_callF (a := []) (b := []) (xs := [.int .i64 a0.At, .int .i64 0, .int .i64 (a0.Input.l.length : Int)]) rfl hS rfl rfl hy2 ?_; intro s hS
              refine q_seg 2 [(50, .bool y2), (1, .ptr b1 0 0 5)] hS (by kernel_rfl) ?_; intro s hS
              by_cases hc6 : y2 = true
              · have h := it_pos hc6 h
                have hS := sub_bt hS hc6
                refine q_seg 1 [(1, .ptr b1 0 0 5), (50, .bool true), (51, .ptr b1 0 3 1)] hS (by kernel_rfl) ?_; intro s hS
                refine q_load (v := (Sl.t (a0.Files : Sl DFile))) 0 trivial rfl hS hH rfl rfl (by kernel_rfl) ?_; intro s hS
                obtain ⟨y3, hy3, h⟩ := bind_some h
                refine q_callF (a := []) (b := []) (xs := [(Sl.t (a0.Files : Sl DFile)), T.fn 91 [] []]) rfl hS rfl rfl hy3 ?_; intro s hS
                refine q_seg 2 [(55, .bool y3), (1, .ptr b1 0 0 5)] hS (by kernel_rfl) ?_; intro s hS
                by_cases hc7 : y3 = true
                · have h := it_pos hc7 h
                  have hS := sub_bt hS hc7
                  refine q_seg 1 [(55, .bool true), (56, .ptr b1 0 3 1)] hS (by kernel_rfl) ?_; intro s hS
                  refine q_load (v := (Sl.t (a0.Files : Sl DFile))) 0 trivial rfl hS hH rfl rfl (by kernel_rfl) ?_; intro s hS
                  obtain ⟨y4, hy4, h⟩ := bind_some h
                  refine q_callF (a := []) (b := []) (xs := [(Sl.t (a0.Files : Sl DFile)), T.fn 73 [] []]) rfl hS rfl rfl hy4 ?_; intro s hS
                  refine q_seg 2 [(2, .bool y4)] hS (by kernel_rfl) ?_; intro s hS
                  refine x_nil ?_
                  refine sq_n ?_
                  refine c_ret ?_
                  injection h with h; subst h
                  exact end_W hH (r_tmp (v := .bool y4) hS rfl r_nil) rfl (by kernel_rfl) (by simp [pureT, pureL, E_bool])
                · have h := it_neg hc7 h
                  have hS := sub_bt hS (tt_of hc7)
                  refine q_seg 5 [(2, .bool false)] hS (by kernel_rfl) ?_; intro s hS
                  refine x_nil ?_
                  refine sq_n ?_
                  refine c_ret ?_
                  injection h with h; subst h
                  exact end_W hH (r_tmp (v := .bool false) hS rfl r_nil) rfl (by kernel_rfl) (by simp [pureT, pureL, E_bool])
              · have h := it_neg hc6 h
                have hS := sub_bt hS (tt_of hc6)
                refine q_seg 10 [(2, .bool false)] hS (by kernel_rfl) ?_; intro s hS
                refine x_nil ?_
                refine sq_n ?_
                refine c_ret ?_
                injection h with h; subst h
                exact end_W hH (r_tmp (v := .bool false) hS rfl r_nil) rfl (by kernel_rfl) (by simp [pureT, pureL, E_bool])
            · have h := it_neg hc5 h
              have hS := sub_bt hS (tt_of hc5)
              refine q_seg 18 [(2, .bool false)] hS (by kernel_rfl) ?_; intro s hS
              refine x_nil ?_
              refine sq_n ?_
              refine c_ret ?_
              injection h with h; subst h
              exact end_W hH (r_tmp (v := .bool false) hS rfl r_nil) rfl (by kernel_rfl) (by simp [pureT, pureL, E_bool])
          · clear h; have h := hy1
            refine c_region ?_
            refine q_seg 1 [(1, .ptr b1 0 0 5), (3, T.fn 87 [] []), (27, .ptr b1 0 0 1)] hS (by kernel_rfl) ?_; intro s hS
            refine q_load (v := (Sl.t (a0.Input : Sl ByteArray))) 0 trivial rfl hS hH rfl rfl (by kernel_rfl) ?_; intro s hS
            obtain ⟨y5, hy5, h⟩ := bind_some h
            refine q_callF (a := []) (b := []) (xs := [(Sl.t (a0.Input : Sl ByteArray)), T.fn 45 [] []]) rfl hS rfl rfl hy5 ?_; intro s hS
            refine q_seg 1 [(30, .bool y5), (1, .ptr b1 0 0 5), (3, T.fn 87 [] [])] hS (by kernel_rfl) ?_; intro s hS
            by_cases hc8 : y5 = true
            · have h := it_pos hc8 h
              have hS := sub_bt hS hc8
              refine q_seg 1 [(1, .ptr b1 0 0 5), (3, T.fn 87 [] []), (30, .bool true), (31, .ptr b1 0 2 1)] hS (by kernel_rfl) ?_; intro s hS
              refine q_load (v := (Sl.t (a0.Output : Sl ByteArray))) 0 trivial rfl hS hH rfl rfl (by kernel_rfl) ?_; intro s hS
              obtain ⟨y6, hy6, h⟩ := bind_some h
              refine q_callF (a := []) (b := []) (xs := [(Sl.t (a0.Output : Sl ByteArray)), T.fn 45 [] []]) rfl hS rfl rfl hy6 ?_; intro s hS
              refine q_seg 2 [(35, .bool y6), (1, .ptr b1 0 0 5), (3, T.fn 87 [] [])] hS (by kernel_rfl) ?_; intro s hS
              by_cases hc9 : y6 = true
              · have h := it_pos hc9 h
                have hS := sub_bt hS hc9
                refine q_seg 1 [(1, .ptr b1 0 0 5), (3, T.fn 87 [] []), (35, .bool true), (36, .ptr b1 0 4 1)] hS (by kernel_rfl) ?_; intro s hS
                refine q_load (v := (Sl.t (a0.Trace : Sl ByteArray))) 0 trivial rfl hS hH rfl rfl (by kernel_rfl) ?_; intro s hS
                refine q_seg 1 [(1, .ptr b1 0 0 5), (35, .bool true), (37, (Sl.t (a0.Trace : Sl ByteArray))), (38, T.fn 87 [] [])] hS (by kernel_rfl) ?_; intro s hS
                obtain ⟨y7, hy7, h⟩ := bind_some h
                refine q_callF (a := []) (b := []) (xs := [(Sl.t (a0.Trace : Sl ByteArray)), T.fn 87 [] []]) rfl hS rfl rfl hy7 ?_; intro s hS
                refine q_seg 2 [(1, .ptr b1 0 0 5), (4, .bool y7)] hS (by kernel_rfl) ?_; intro s hS
                refine x_nil ?_
                injection h with h; subst h
                exact And.intro rfl (And.intro (sub_to hS (by kernel_rfl)) hH)
              · have h := it_neg hc9 h
                have hS := sub_bt hS (tt_of hc9)
                refine q_seg 6 [(1, .ptr b1 0 0 5), (4, .bool false)] hS (by kernel_rfl) ?_; intro s hS
                refine x_nil ?_
                injection h with h; subst h
                exact And.intro rfl (And.intro (sub_to hS (by kernel_rfl)) hH)
            · have h := it_neg hc8 h
              have hS := sub_bt hS (tt_of hc8)
              refine q_seg 11 [(1, .ptr b1 0 0 5), (4, .bool false)] hS (by kernel_rfl) ?_; intro s hS
              refine x_nil ?_
              injection h with h; subst h
              exact And.intro rfl (And.intro (sub_to hS (by kernel_rfl)) hH)
end Go.Am
end
