/- Functions of the program. -/
import Derived.Test.YtnabmjlpdcpaeaaAd0
section
set_option maxRecDepth 100000
set_option maxHeartbeats 1000000
set_option linter.unusedVariables false
set_option linter.unusedSimpArgs false
namespace Go.Am
open Go.Proofs
noncomputable def B_slices_EqualFunc_Object (a0 : (Sl DObject)) (a1 : (Sl DObject)) (a2 : T) : Option Bool := (if flat1 a2 = true then (if ((!decide ((a0.l.length : Int) = (a1.l.length : Int)))) = true then (some false) else ((loopO (S := Int) (R := (Unit ⊕ Bool)) (fun st1 => (if (decide (st1 < (a0.l.length : Int))) = true then ((elt a0 st1).bind fun y2 => ((elt a1 st1).bind fun y3 => ((callV Try.prog md ext E_bool a2 [.agg (DObject.cells y2), .agg (DObject.cells y3)]).bind fun y4 => (if (!y4) = true then (some (.inr (.inr false))) else (some (.inl (IntKind.i64.wrap (st1 + 1)))))))) else (some (.inr (.inl ()))))) 0).bind fun y1 => (Sum.elim (fun y1 => (some true)) (fun y1 => (some y1)) y1))) else none)
theorem u_slices_EqualFunc_Object (a0 : (Sl DObject)) (a1 : (Sl DObject)) (a2 : T) (r : Bool) (h : B_slices_EqualFunc_Object a0 a1 a2 = some r) : F_slices_EqualFunc_Object a0 a1 a2 = some r := by
  unfold B_slices_EqualFunc_Object at h
  obtain ⟨hf_a2, h⟩ := if_some h
  refine semW_of E_bool_inj rfl rfl ok_79 rfl (all_cons (by kernel_rfl) (all_cons (by kernel_rfl) (all_cons (flat3_of hf_a2) all_nil))) ?_
  intro σ0 s hS hH
  have hS := sub_to (L' := [(0, (Sl.t (a0 : Sl DObject))), (1, (Sl.t (a1 : Sl DObject))), (2, a2)]) hS (by kernel_rfl)
  refine c_seq ?_
  refine c_region ?_
  refine q_seg 1 [(0, (Sl.t (a0 : Sl DObject))), (1, (Sl.t (a1 : Sl DObject))), (2, a2)] hS (by kernel_rfl) ?_; intro s hS
  refine x_nil ?_
  refine sq_n ?_
  refine c_seq ?_
  refine c_seq ?_
  refine c_region ?_
  refine q_seg 5 [(0, (Sl.t (a0 : Sl DObject))), (1, (Sl.t (a1 : Sl DObject))), (2, a2), (14, .bool ((!decide ((a0.l.length : Int) = (a1.l.length : Int)))))] hS (by kernel_rfl) ?_; intro s hS
  refine x_nil ?_
  refine sq_n ?_
  by_cases hc1 : ((!decide ((a0.l.length : Int) = (a1.l.length : Int)))) = true
  · have h := it_pos hc1 h
    refine c_cond hS rfl (fun _ => ?_) (fun hf => ff_absurd hc1 hf)
    refine c_seq ?_
    refine c_region ?_
    refine q_seg 1 [(6, .bool false)] hS (by kernel_rfl) ?_; intro s hS
    refine x_nil ?_
    refine sq_n ?_
    refine c_ret ?_
    refine sq_r ?_
    injection h with h; subst h
    exact end_W hH (r_tmp (v := .bool false) hS rfl r_nil) rfl (by kernel_rfl) (by simp [pureT, pureL, E_bool])
  · have h := it_neg hc1 h
    refine c_cond hS rfl (fun hf => tt_absurd hc1 hf) (fun _ => ?_)
    refine c_skip ?_
    refine sq_n ?_
    refine c_seq ?_
    refine c_seq ?_
    refine c_region ?_
    refine q_seg 3 [(1, (Sl.t (a1 : Sl DObject))), (2, a2), (15, (Sl.t (a0 : Sl DObject))), (16, .int .i64 (a0.l.length : Int)), (17, .int .i64 0)] hS (by kernel_rfl) ?_; intro s hS
    refine x_nil ?_
    refine sq_n ?_
    refine c_block ?_
    obtain ⟨y1, hy1, h⟩ := bind_some h
    refine c_loop (fun (st1 : Int) (fr : Fr) => Sub [(1, (Sl.t (a1 : Sl DObject))), (2, a2), (15, (Sl.t (a0 : Sl DObject))), (16, .int .i64 (a0.l.length : Int)), (17, .int .i64 st1)] fr.s ∧ Heap σ0 fr.σ []) (fun (y1 : (Unit ⊕ Bool)) (e : AExit) (fr : Fr) => (Sum.elim (fun y => e = (.exit 0) ∧ Sub [] fr.s ∧ Heap σ0 fr.σ []) (fun y => e = .ret ∧ endW Try.prog (Try.f79.results.toList) σ0 (E_bool y) .ret fr)) y1) hy1 (And.intro (sub_to hS (by kernel_rfl)) hH) ?_ ?_
    · clear h hy1 hS hH; clear y1; intro st1 x fr h HI; obtain ⟨s, σ⟩ := fr; obtain ⟨hS, hH⟩ := HI
      refine c_seq ?_
      refine c_region ?_
      refine q_seg 1 [(1, (Sl.t (a1 : Sl DObject))), (2, a2), (15, (Sl.t (a0 : Sl DObject))), (16, .int .i64 (a0.l.length : Int)), (17, .int .i64 st1), (18, .bool (decide (st1 < (a0.l.length : Int))))] hS (by kernel_rfl) ?_; intro s hS
      refine x_nil ?_
      refine sq_n ?_
      refine c_seq ?_
      by_cases hc2 : (decide (st1 < (a0.l.length : Int))) = true
      · have h := it_pos hc2 h
        refine c_cond hS rfl (fun _ => ?_) (fun hf => ff_absurd hc2 hf)
        refine c_skip ?_
        refine sq_n ?_
        refine c_seq ?_
        refine c_block ?_
        refine c_seq ?_
        refine c_region ?_
        refine q_seg 1 [(1, (Sl.t (a1 : Sl DObject))), (2, a2), (15, (Sl.t (a0 : Sl DObject))), (16, .int .i64 (a0.l.length : Int)), (17, .int .i64 st1), (19, .int .i64 st1)] hS (by kernel_rfl) ?_; intro s hS
        obtain ⟨y2, hy2, h⟩ := bind_some h
        refine q_elt (sl := a0) (e := 115) [.int .i64 y2.Id, .int .i64 y2.Kind, .str y2.Name, .int .i64 y2.Low, (Sl.t (y2.Keys : Sl DValue)), (Sl.t (y2.Vals : Sl DValue)), .int .i64 y2.Default.Kind, .int .i64 y2.Default.Num, .str y2.Default.Text, .int .i64 y2.Default.Ref] rfl hS rfl rfl (by kernel_rfl) (by kernel_rfl) hy2 rfl ?_; intro rest1 s hS
        refine q_seg 1 [(1, (Sl.t (a1 : Sl DObject))), (2, a2), (15, (Sl.t (a0 : Sl DObject))), (16, .int .i64 (a0.l.length : Int)), (17, .int .i64 st1), (19, .int .i64 st1), (21, .agg (DObject.cells y2))] hS (by kernel_rfl) ?_; intro s hS
        refine q_alloc (z := [.int .i64 0, .int .i64 0, .str ⟨#[]⟩, .int .i64 0, (Sl.t (⟨true, []⟩ : Sl DValue)), (Sl.t (⟨true, []⟩ : Sl DValue)), .int .i64 0, .int .i64 0, .str ⟨#[]⟩, .int .i64 0]) rfl hS hH (by kernel_rfl) ?_; intro b1 σ s hH hS
        refine q_seg 1 [(1, (Sl.t (a1 : Sl DObject))), (2, a2), (7, .int .i64 st1), (8, .ptr b1 0 0 10), (15, (Sl.t (a0 : Sl DObject))), (16, .int .i64 (a0.l.length : Int)), (17, .int .i64 st1), (21, .agg (DObject.cells y2))] hS (by kernel_rfl) ?_; intro s hS
        refine q_store (v := .agg (DObject.cells y2)) (cs := [.int .i64 y2.Id, .int .i64 y2.Kind, .str y2.Name, .int .i64 y2.Low, (Sl.t (y2.Keys : Sl DValue)), (Sl.t (y2.Vals : Sl DValue)), .int .i64 y2.Default.Kind, .int .i64 y2.Default.Num, .str y2.Default.Text, .int .i64 y2.Default.Ref]) (cells' := [.int .i64 y2.Id, .int .i64 y2.Kind, .str y2.Name, .int .i64 y2.Low, (Sl.t (y2.Keys : Sl DValue)), (Sl.t (y2.Vals : Sl DValue)), .int .i64 y2.Default.Kind, .int .i64 y2.Default.Num, .str y2.Default.Text, .int .i64 y2.Default.Ref]) rfl hS hH rfl rfl rfl (by kernel_rfl) (by kernel_rfl) ?_; intro σ s hH hS
        refine x_nil ?_
        refine sq_n ?_
        refine c_seq ?_
        refine c_region ?_
        refine q_seg 2 [(1, (Sl.t (a1 : Sl DObject))), (2, a2), (8, .ptr b1 0 0 10), (15, (Sl.t (a0 : Sl DObject))), (16, .int .i64 (a0.l.length : Int)), (17, .int .i64 st1), (22, (Sl.t (a1 : Sl DObject))), (23, .int .i64 st1)] hS (by kernel_rfl) ?_; intro s hS
        obtain ⟨y3, hy3, h⟩ := bind_some h
        refine q_elt (sl := a1) (e := 115) [.int .i64 y3.Id, .int .i64 y3.Kind, .str y3.Name, .int .i64 y3.Low, (Sl.t (y3.Keys : Sl DValue)), (Sl.t (y3.Vals : Sl DValue)), .int .i64 y3.Default.Kind, .int .i64 y3.Default.Num, .str y3.Default.Text, .int .i64 y3.Default.Ref] rfl hS rfl rfl (by kernel_rfl) (by kernel_rfl) hy3 rfl ?_; intro rest2 s hS
        refine q_seg 1 [(1, (Sl.t (a1 : Sl DObject))), (2, a2), (8, .ptr b1 0 0 10), (15, (Sl.t (a0 : Sl DObject))), (16, .int .i64 (a0.l.length : Int)), (17, .int .i64 st1), (25, .agg (DObject.cells y3))] hS (by kernel_rfl) ?_; intro s hS
        refine q_alloc (z := [.int .i64 0, .int .i64 0, .str ⟨#[]⟩, .int .i64 0, (Sl.t (⟨true, []⟩ : Sl DValue)), (Sl.t (⟨true, []⟩ : Sl DValue)), .int .i64 0, .int .i64 0, .str ⟨#[]⟩, .int .i64 0]) rfl hS hH (by kernel_rfl) ?_; intro b2 σ s hH hS
        refine q_store (v := .agg (DObject.cells y3)) (cs := [.int .i64 y3.Id, .int .i64 y3.Kind, .str y3.Name, .int .i64 y3.Low, (Sl.t (y3.Keys : Sl DValue)), (Sl.t (y3.Vals : Sl DValue)), .int .i64 y3.Default.Kind, .int .i64 y3.Default.Num, .str y3.Default.Text, .int .i64 y3.Default.Ref]) (cells' := [.int .i64 y3.Id, .int .i64 y3.Kind, .str y3.Name, .int .i64 y3.Low, (Sl.t (y3.Keys : Sl DValue)), (Sl.t (y3.Vals : Sl DValue)), .int .i64 y3.Default.Kind, .int .i64 y3.Default.Num, .str y3.Default.Text, .int .i64 y3.Default.Ref]) rfl hS hH rfl rfl rfl (by kernel_rfl) (by kernel_rfl) ?_; intro σ s hH hS
        refine x_nil ?_
        refine sq_n ?_
        refine c_seq ?_
        refine c_region ?_
        refine q_seg 1 [(1, (Sl.t (a1 : Sl DObject))), (2, a2), (8, .ptr b1 0 0 10), (9, .ptr b2 0 0 10), (15, (Sl.t (a0 : Sl DObject))), (16, .int .i64 (a0.l.length : Int)), (17, .int .i64 st1), (26, a2)] hS (by kernel_rfl) ?_; intro s hS
        refine q_load (v := .agg (DObject.cells y2)) 1 trivial rfl hS hH rfl rfl (by kernel_rfl) ?_; intro s hS
        refine q_load (v := .agg (DObject.cells y3)) 0 trivial rfl hS hH rfl rfl (by kernel_rfl) ?_; intro s hS
        obtain ⟨y4, hy4, h⟩ := bind_some h
        refine q_callP (p := a2) (xs := [.agg (DObject.cells y2), .agg (DObject.cells y3)]) rfl hS rfl rfl hy4 ?_; intro s hS
        refine q_seg 1 [(1, (Sl.t (a1 : Sl DObject))), (2, a2), (15, (Sl.t (a0 : Sl DObject))), (16, .int .i64 (a0.l.length : Int)), (17, .int .i64 st1), (30, .bool (!y4))] hS (by kernel_rfl) ?_; intro s hS
        refine x_nil ?_
        refine sq_n ?_
        by_cases hc3 : (!y4) = true
        · have h := it_pos hc3 h
          refine c_cond hS rfl (fun _ => ?_) (fun hf => ff_absurd hc3 hf)
          refine c_seq ?_
          refine c_region ?_
          refine q_seg 1 [(6, .bool false)] hS (by kernel_rfl) ?_; intro s hS
          refine x_nil ?_
          refine sq_n ?_
          refine c_ret ?_
          refine bk_r ?_
          refine sq_r ?_
          injection h with h; subst h
          exact And.intro rfl (end_W hH (r_tmp (v := .bool false) hS rfl r_nil) rfl (by kernel_rfl) (by simp [pureT, pureL, E_bool]))
        · have h := it_neg hc3 h
          refine c_cond hS rfl (fun hf => tt_absurd hc3 hf) (fun _ => ?_)
          refine c_skip ?_
          refine bk_n ?_
          refine sq_n ?_
          refine c_region ?_
          refine q_seg 2 [(1, (Sl.t (a1 : Sl DObject))), (2, a2), (15, (Sl.t (a0 : Sl DObject))), (16, .int .i64 (a0.l.length : Int)), (17, .int .i64 (IntKind.i64.wrap (st1 + 1)))] hS (by kernel_rfl) ?_; intro s hS
          refine x_nil ?_
          injection h with h; subst h
          exact And.intro (sub_to hS (by kernel_rfl)) (Heap.sel hH [] rfl (by kernel_rfl))
      · have h := it_neg hc2 h
        refine c_cond hS rfl (fun hf => tt_absurd hc2 hf) (fun _ => ?_)
        refine c_exit ?_
        refine sq_x ?_
        injection h with h; subst h
        exact And.intro rfl (And.intro (sub_to hS (by kernel_rfl)) hH)
    · clear hS hH; intro e fr HF; obtain ⟨s, σ⟩ := fr
      rcases y1 with y1 | y1
      · obtain ⟨rfl, hS, hH⟩ := HF
        refine bk_e ?_
        refine sq_n ?_
        refine c_seq ?_
        refine c_region ?_
        refine q_seg 1 [(6, .bool true)] hS (by kernel_rfl) ?_; intro s hS
        refine x_nil ?_
        refine sq_n ?_
        refine c_ret ?_
        injection h with h; subst h
        exact end_W hH (r_tmp (v := .bool true) hS rfl r_nil) rfl (by kernel_rfl) (by simp [pureT, pureL, E_bool])
      · obtain ⟨rfl, HE⟩ := HF
        refine bk_r ?_
        refine sq_r ?_
        injection h with h; subst h; exact HE
end Go.Am
end
section
set_option maxRecDepth 100000
set_option maxHeartbeats 1000000
set_option linter.unusedVariables false
set_option linter.unusedSimpArgs false
namespace Go.Am
open Go.Proofs
noncomputable def B_impl_sameObject (a0 : DObject) (a1 : DObject) : Option Bool := (if (decide (a0.Id = a1.Id)) = true then (if (decide (a0.Kind = a1.Kind)) = true then (if (decide (a0.Name = a1.Name)) = true then (if (decide (a0.Low = a1.Low)) = true then ((F_slices_Equal_Value a0.Keys a1.Keys).bind fun y1 => (if y1 = true then ((F_slices_Equal_Value a0.Vals a1.Vals).bind fun y2 => (if y2 = true then (some (decide (a0.Default.Kind = a1.Default.Kind) && (decide (a0.Default.Num = a1.Default.Num) && (decide (a0.Default.Text = a1.Default.Text) && (decide (a0.Default.Ref = a1.Default.Ref) && true))))) else (some false))) else (some false))) else (some false)) else (some false)) else (some false)) else (some false))
theorem u_impl_sameObject (a0 : DObject) (a1 : DObject) (r : Bool) (h : B_impl_sameObject a0 a1 = some r) : F_impl_sameObject a0 a1 = some r := by
  unfold B_impl_sameObject at h
  refine semW_of E_bool_inj rfl rfl ok_80 rfl (all_cons (by kernel_rfl) (all_cons (by kernel_rfl) all_nil)) ?_
  intro σ0 s hS hH
  have hS := sub_to (L' := [(0, .agg (DObject.cells a0)), (1, .agg (DObject.cells a1))]) hS (by kernel_rfl)
  refine c_seq ?_
  refine c_region ?_
  refine q_box (v := .agg (DObject.cells a0)) (cs := [.int .i64 a0.Id, .int .i64 a0.Kind, .str a0.Name, .int .i64 a0.Low, (Sl.t (a0.Keys : Sl DValue)), (Sl.t (a0.Vals : Sl DValue)), .int .i64 a0.Default.Kind, .int .i64 a0.Default.Num, .str a0.Default.Text, .int .i64 a0.Default.Ref]) rfl hS hH rfl rfl (by kernel_rfl) ?_; intro b1 σ s hH hS
  refine q_box (v := .agg (DObject.cells a1)) (cs := [.int .i64 a1.Id, .int .i64 a1.Kind, .str a1.Name, .int .i64 a1.Low, (Sl.t (a1.Keys : Sl DValue)), (Sl.t (a1.Vals : Sl DValue)), .int .i64 a1.Default.Kind, .int .i64 a1.Default.Num, .str a1.Default.Text, .int .i64 a1.Default.Ref]) rfl hS hH rfl rfl (by kernel_rfl) ?_; intro b2 σ s hH hS
  refine q_seg 1 [(2, .ptr b1 0 0 10), (3, .ptr b2 0 0 10)] hS (by kernel_rfl) ?_; intro s hS
  refine x_nil ?_
  refine sq_n ?_
  refine c_seq ?_
  refine c_region ?_
  refine q_seg 1 [(2, .ptr b1 0 0 10), (3, .ptr b2 0 0 10), (5, .ptr b1 0 0 1)] hS (by kernel_rfl) ?_; intro s hS
  refine q_load (v := .int .i64 a0.Id) 1 trivial rfl hS hH rfl rfl (by kernel_rfl) ?_; intro s hS
  refine q_seg 1 [(2, .ptr b1 0 0 10), (3, .ptr b2 0 0 10), (6, .int .i64 a0.Id), (7, .ptr b2 0 0 1)] hS (by kernel_rfl) ?_; intro s hS
  refine q_load (v := .int .i64 a1.Id) 0 trivial rfl hS hH rfl rfl (by kernel_rfl) ?_; intro s hS
  refine q_seg 2 [(10, .bool (decide (a0.Id = a1.Id))), (2, .ptr b1 0 0 10), (3, .ptr b2 0 0 10)] hS (by kernel_rfl) ?_; intro s hS
  by_cases hc1 : (decide (a0.Id = a1.Id)) = true
  · have h := it_pos hc1 h
    have hS := sub_bt hS hc1
    refine q_seg 1 [(2, .ptr b1 0 0 10), (3, .ptr b2 0 0 10), (10, .bool true), (11, .ptr b1 0 1 1)] hS (by kernel_rfl) ?_; intro s hS
    refine q_load (v := .int .i64 a0.Kind) 1 trivial rfl hS hH rfl rfl (by kernel_rfl) ?_; intro s hS
    refine q_seg 1 [(2, .ptr b1 0 0 10), (3, .ptr b2 0 0 10), (10, .bool true), (12, .int .i64 a0.Kind), (13, .ptr b2 0 1 1)] hS (by kernel_rfl) ?_; intro s hS
    refine q_load (v := .int .i64 a1.Kind) 0 trivial rfl hS hH rfl rfl (by kernel_rfl) ?_; intro s hS
    refine q_seg 3 [(17, .bool (decide (a0.Kind = a1.Kind))), (2, .ptr b1 0 0 10), (3, .ptr b2 0 0 10)] hS (by kernel_rfl) ?_; intro s hS
    by_cases hc2 : (decide (a0.Kind = a1.Kind)) = true
    · have h := it_pos hc2 h
      have hS := sub_bt hS hc2
      refine q_seg 1 [(2, .ptr b1 0 0 10), (3, .ptr b2 0 0 10), (17, .bool true), (18, .ptr b1 0 2 1)] hS (by kernel_rfl) ?_; intro s hS
      refine q_load (v := .str a0.Name) 1 trivial rfl hS hH rfl rfl (by kernel_rfl) ?_; intro s hS
      refine q_seg 1 [(2, .ptr b1 0 0 10), (3, .ptr b2 0 0 10), (17, .bool true), (19, .str a0.Name), (20, .ptr b2 0 2 1)] hS (by kernel_rfl) ?_; intro s hS
      refine q_load (v := .str a1.Name) 0 trivial rfl hS hH rfl rfl (by kernel_rfl) ?_; intro s hS
      refine q_seg 3 [(24, .bool (decide (a0.Name = a1.Name))), (2, .ptr b1 0 0 10), (3, .ptr b2 0 0 10)] hS (by kernel_rfl) ?_; intro s hS
      by_cases hc3 : (decide (a0.Name = a1.Name)) = true
      · have h := it_pos hc3 h
        have hS := sub_bt hS hc3
        refine q_seg 1 [(2, .ptr b1 0 0 10), (3, .ptr b2 0 0 10), (24, .bool true), (25, .ptr b1 0 3 1)] hS (by kernel_rfl) ?_; intro s hS
        refine q_load (v := .int .i64 a0.Low) 1 trivial rfl hS hH rfl rfl (by kernel_rfl) ?_; intro s hS
        refine q_seg 1 [(2, .ptr b1 0 0 10), (3, .ptr b2 0 0 10), (24, .bool true), (26, .int .i64 a0.Low), (27, .ptr b2 0 3 1)] hS (by kernel_rfl) ?_; intro s hS
        refine q_load (v := .int .i64 a1.Low) 0 trivial rfl hS hH rfl rfl (by kernel_rfl) ?_; intro s hS
        refine q_seg 3 [(31, .bool (decide (a0.Low = a1.Low))), (2, .ptr b1 0 0 10), (3, .ptr b2 0 0 10)] hS (by kernel_rfl) ?_; intro s hS
        by_cases hc4 : (decide (a0.Low = a1.Low)) = true
        · have h := it_pos hc4 h
          have hS := sub_bt hS hc4
          refine q_seg 1 [(2, .ptr b1 0 0 10), (3, .ptr b2 0 0 10), (31, .bool true), (32, .ptr b1 0 4 1)] hS (by kernel_rfl) ?_; intro s hS
          refine q_load (v := (Sl.t (a0.Keys : Sl DValue))) 1 trivial rfl hS hH rfl rfl (by kernel_rfl) ?_; intro s hS
          refine q_seg 1 [(2, .ptr b1 0 0 10), (3, .ptr b2 0 0 10), (31, .bool true), (33, (Sl.t (a0.Keys : Sl DValue))), (34, .ptr b2 0 4 1)] hS (by kernel_rfl) ?_; intro s hS
          refine q_load (v := (Sl.t (a1.Keys : Sl DValue))) 0 trivial rfl hS hH rfl rfl (by kernel_rfl) ?_; intro s hS
          obtain ⟨y1, hy1, h⟩ := bind_some h
          refine q_callF (a := []) (b := []) (xs := [(Sl.t (a0.Keys : Sl DValue)), (Sl.t (a1.Keys : Sl DValue))]) rfl hS rfl rfl hy1 ?_; intro s hS
          refine q_seg 2 [(38, .bool y1), (2, .ptr b1 0 0 10), (3, .ptr b2 0 0 10)] hS (by kernel_rfl) ?_; intro s hS
          by_cases hc5 : y1 = true
          · have h := it_pos hc5 h
            have hS := sub_bt hS hc5
            refine q_seg 1 [(2, .ptr b1 0 0 10), (3, .ptr b2 0 0 10), (38, .bool true), (39, .ptr b1 0 5 1)] hS (by kernel_rfl) ?_; intro s hS
            refine q_load (v := (Sl.t (a0.Vals : Sl DValue))) 1 trivial rfl hS hH rfl rfl (by kernel_rfl) ?_; intro s hS
            refine q_seg 1 [(2, .ptr b1 0 0 10), (3, .ptr b2 0 0 10), (38, .bool true), (40, (Sl.t (a0.Vals : Sl DValue))), (41, .ptr b2 0 5 1)] hS (by kernel_rfl) ?_; intro s hS
            refine q_load (v := (Sl.t (a1.Vals : Sl DValue))) 0 trivial rfl hS hH rfl rfl (by kernel_rfl) ?_; intro s hS
            obtain ⟨y2, hy2, h⟩ := bind_some h
            refine q_callF (a := []) (b := []) (xs := [(Sl.t (a0.Vals : Sl DValue)), (Sl.t (a1.Vals : Sl DValue))]) rfl hS rfl rfl hy2 ?_; intro s hS
            refine q_seg 2 [(45, .bool y2), (2, .ptr b1 0 0 10), (3, .ptr b2 0 0 10)] hS (by kernel_rfl) ?_; intro s hS
            by_cases hc6 : y2 = true
            · have h := it_pos hc6 h
              have hS := sub_bt hS hc6
              refine q_seg 1 [(3, .ptr b2 0 0 10), (45, .bool true), (46, .ptr b1 0 6 4)] hS (by kernel_rfl) ?_; intro s hS
              refine q_load (v := .agg (DValue.cells a0.Default)) 1 trivial rfl hS hH rfl rfl (by kernel_rfl) ?_; intro s hS
              refine q_seg 1 [(45, .bool true), (47, .agg (DValue.cells a0.Default)), (48, .ptr b2 0 6 4)] hS (by kernel_rfl) ?_; intro s hS
              refine q_load (v := .agg (DValue.cells a1.Default)) 0 trivial rfl hS hH rfl rfl (by kernel_rfl) ?_; intro s hS
              refine q_eqS (xs := [.int .i64 a0.Default.Kind, .int .i64 a0.Default.Num, .str a0.Default.Text, .int .i64 a0.Default.Ref]) (ys := [.int .i64 a1.Default.Kind, .int .i64 a1.Default.Num, .str a1.Default.Text, .int .i64 a1.Default.Ref]) (v := (decide (a0.Default.Kind = a1.Default.Kind) && (decide (a0.Default.Num = a1.Default.Num) && (decide (a0.Default.Text = a1.Default.Text) && (decide (a0.Default.Ref = a1.Default.Ref) && true))))) rfl hS rfl rfl (by kernel_rfl) (by kernel_rfl) ?_; intro s hS
              refine q_seg 2 [(4, .bool ((decide (a0.Default.Kind = a1.Default.Kind) && (decide (a0.Default.Num = a1.Default.Num) && (decide (a0.Default.Text = a1.Default.Text) && (decide (a0.Default.Ref = a1.Default.Ref) && true))))))] hS (by kernel_rfl) ?_; intro s hS
              refine x_nil ?_
              refine sq_n ?_
              refine c_ret ?_
              injection h with h; subst h
              exact end_W hH (r_tmp (v := .bool ((decide (a0.Default.Kind = a1.Default.Kind) && (decide (a0.Default.Num = a1.Default.Num) && (decide (a0.Default.Text = a1.Default.Text) && (decide (a0.Default.Ref = a1.Default.Ref) && true)))))) hS rfl r_nil) rfl (by kernel_rfl) (by simp [pureT, pureL, E_bool])
            · have h := it_neg hc6 h
              have hS := sub_bt hS (tt_of hc6)
              refine q_seg 7 [(4, .bool false)] hS (by kernel_rfl) ?_; intro s hS
              refine x_nil ?_
              refine sq_n ?_
              refine c_ret ?_
              injection h with h; subst h
              exact end_W hH (r_tmp (v := .bool false) hS rfl r_nil) rfl (by kernel_rfl) (by simp [pureT, pureL, E_bool])
          · have h := it_neg hc5 h
            have hS := sub_bt hS (tt_of hc5)
            refine q_seg 14 [(4, .bool false)] hS (by kernel_rfl) ?_; intro s hS
            refine x_nil ?_
            refine sq_n ?_
            refine c_ret ?_
            injection h with h; subst h
            exact end_W hH (r_tmp (v := .bool false) hS rfl r_nil) rfl (by kernel_rfl) (by simp [pureT, pureL, E_bool])
        · have h := it_neg hc4 h
          have hS := sub_bt hS (tt_of hc4)
          refine q_seg 21 [(4, .bool false)] hS (by kernel_rfl) ?_; intro s hS
          refine x_nil ?_
          refine sq_n ?_
          refine c_ret ?_
          injection h with h; subst h
          exact end_W hH (r_tmp (v := .bool false) hS rfl r_nil) rfl (by kernel_rfl) (by simp [pureT, pureL, E_bool])
      · have h := it_neg hc3 h
        have hS := sub_bt hS (tt_of hc3)
        refine q_seg 28 [(4, .bool false)] hS (by kernel_rfl) ?_; intro s hS
        refine x_nil ?_
        refine sq_n ?_
        refine c_ret ?_
        injection h with h; subst h
        exact end_W hH (r_tmp (v := .bool false) hS rfl r_nil) rfl (by kernel_rfl) (by simp [pureT, pureL, E_bool])
    · have h := it_neg hc2 h
      have hS := sub_bt hS (tt_of hc2)
      refine q_seg 35 [(4, .bool false)] hS (by kernel_rfl) ?_; intro s hS
      refine x_nil ?_
      refine sq_n ?_
      refine c_ret ?_
      injection h with h; subst h
      exact end_W hH (r_tmp (v := .bool false) hS rfl r_nil) rfl (by kernel_rfl) (by simp [pureT, pureL, E_bool])
  · have h := it_neg hc1 h
    have hS := sub_bt hS (tt_of hc1)
    refine q_seg 42 [(4, .bool false)] hS (by kernel_rfl) ?_; intro s hS
    refine x_nil ?_
    refine sq_n ?_
    refine c_ret ?_
    injection h with h; subst h
    exact end_W hH (r_tmp (v := .bool false) hS rfl r_nil) rfl (by kernel_rfl) (by simp [pureT, pureL, E_bool])
end Go.Am
end
section
set_option maxRecDepth 100000
set_option maxHeartbeats 1000000
set_option linter.unusedVariables false
set_option linter.unusedSimpArgs false
namespace Go.Am
open Go.Proofs
noncomputable def B_slices_Equal_Binding (a0 : (Sl DBinding)) (a1 : (Sl DBinding)) : Option Bool := (if ((!decide ((a0.l.length : Int) = (a1.l.length : Int)))) = true then (some false) else ((loopO (S := Int) (R := (Unit ⊕ Bool)) (fun st1 => (if (decide (st1 < (a0.l.length : Int))) = true then ((elt a0 st1).bind fun y2 => ((elt a1 st1).bind fun y3 => (if ((!(decide (y2.Name = y3.Name) && (decide (y2.Value.Kind = y3.Value.Kind) && (decide (y2.Value.Num = y3.Value.Num) && (decide (y2.Value.Text = y3.Value.Text) && (decide (y2.Value.Ref = y3.Value.Ref) && true))))))) = true then (some (.inr (.inr false))) else (some (.inl (IntKind.i64.wrap (st1 + 1))))))) else (some (.inr (.inl ()))))) 0).bind fun y1 => (Sum.elim (fun y1 => (some true)) (fun y1 => (some y1)) y1)))
theorem u_slices_Equal_Binding (a0 : (Sl DBinding)) (a1 : (Sl DBinding)) (r : Bool) (h : B_slices_Equal_Binding a0 a1 = some r) : F_slices_Equal_Binding a0 a1 = some r := by
  unfold B_slices_Equal_Binding at h
  refine semW_of E_bool_inj rfl rfl ok_81 rfl (all_cons (by kernel_rfl) (all_cons (by kernel_rfl) all_nil)) ?_
  intro σ0 s hS hH
  have hS := sub_to (L' := [(0, (Sl.t (a0 : Sl DBinding))), (1, (Sl.t (a1 : Sl DBinding)))]) hS (by kernel_rfl)
  refine c_seq ?_
  refine c_region ?_
  refine q_seg 1 [(0, (Sl.t (a0 : Sl DBinding))), (1, (Sl.t (a1 : Sl DBinding)))] hS (by kernel_rfl) ?_; intro s hS
  refine x_nil ?_
  refine sq_n ?_
  refine c_seq ?_
  refine c_seq ?_
  refine c_region ?_
  refine q_seg 5 [(0, (Sl.t (a0 : Sl DBinding))), (1, (Sl.t (a1 : Sl DBinding))), (10, .bool ((!decide ((a0.l.length : Int) = (a1.l.length : Int)))))] hS (by kernel_rfl) ?_; intro s hS
  refine x_nil ?_
  refine sq_n ?_
  by_cases hc1 : ((!decide ((a0.l.length : Int) = (a1.l.length : Int)))) = true
  · have h := it_pos hc1 h
    refine c_cond hS rfl (fun _ => ?_) (fun hf => ff_absurd hc1 hf)
    refine c_seq ?_
    refine c_region ?_
    refine q_seg 1 [(4, .bool false)] hS (by kernel_rfl) ?_; intro s hS
    refine x_nil ?_
    refine sq_n ?_
    refine c_ret ?_
    refine sq_r ?_
    injection h with h; subst h
    exact end_W hH (r_tmp (v := .bool false) hS rfl r_nil) rfl (by kernel_rfl) (by simp [pureT, pureL, E_bool])
  · have h := it_neg hc1 h
    refine c_cond hS rfl (fun hf => tt_absurd hc1 hf) (fun _ => ?_)
    refine c_skip ?_
    refine sq_n ?_
    refine c_seq ?_
    refine c_seq ?_
    refine c_region ?_
    refine q_seg 3 [(0, (Sl.t (a0 : Sl DBinding))), (1, (Sl.t (a1 : Sl DBinding))), (12, .int .i64 (a0.l.length : Int)), (13, .int .i64 0)] hS (by kernel_rfl) ?_; intro s hS
    refine x_nil ?_
    refine sq_n ?_
    refine c_block ?_
    obtain ⟨y1, hy1, h⟩ := bind_some h
    refine c_loop (fun (st1 : Int) (fr : Fr) => Sub [(0, (Sl.t (a0 : Sl DBinding))), (1, (Sl.t (a1 : Sl DBinding))), (12, .int .i64 (a0.l.length : Int)), (13, .int .i64 st1)] fr.s ∧ Heap σ0 fr.σ []) (fun (y1 : (Unit ⊕ Bool)) (e : AExit) (fr : Fr) => (Sum.elim (fun y => e = (.exit 0) ∧ Sub [] fr.s ∧ Heap σ0 fr.σ []) (fun y => e = .ret ∧ endW Try.prog (Try.f81.results.toList) σ0 (E_bool y) .ret fr)) y1) hy1 (And.intro (sub_to hS (by kernel_rfl)) hH) ?_ ?_
    · clear h hy1 hS hH; clear y1; intro st1 x fr h HI; obtain ⟨s, σ⟩ := fr; obtain ⟨hS, hH⟩ := HI
      refine c_seq ?_
      refine c_region ?_
      refine q_seg 1 [(0, (Sl.t (a0 : Sl DBinding))), (1, (Sl.t (a1 : Sl DBinding))), (12, .int .i64 (a0.l.length : Int)), (13, .int .i64 st1), (14, .bool (decide (st1 < (a0.l.length : Int))))] hS (by kernel_rfl) ?_; intro s hS
      refine x_nil ?_
      refine sq_n ?_
      refine c_seq ?_
      by_cases hc2 : (decide (st1 < (a0.l.length : Int))) = true
      · have h := it_pos hc2 h
        refine c_cond hS rfl (fun _ => ?_) (fun hf => ff_absurd hc2 hf)
        refine c_skip ?_
        refine sq_n ?_
        refine c_seq ?_
        refine c_block ?_
        refine c_seq ?_
        refine c_region ?_
        refine q_seg 2 [(0, (Sl.t (a0 : Sl DBinding))), (1, (Sl.t (a1 : Sl DBinding))), (5, .int .i64 st1), (12, .int .i64 (a0.l.length : Int)), (13, .int .i64 st1)] hS (by kernel_rfl) ?_; intro s hS
        refine x_nil ?_
        refine sq_n ?_
        refine c_seq ?_
        refine c_draw (by kernel_rfl) hH ?_; intro mb σ hH
        refine q_seg 2 [(0, (Sl.t (a0 : Sl DBinding))), (1, (Sl.t (a1 : Sl DBinding))), (5, .int .i64 st1), (12, .int .i64 (a0.l.length : Int)), (13, .int .i64 st1), (16, (Sl.t (a0 : Sl DBinding))), (17, .int .i64 st1)] hS (by kernel_rfl) ?_; intro s hS
        obtain ⟨y2, hy2, h⟩ := bind_some h
        refine q_elt (sl := a0) (e := 118) [.str y2.Name, .int .i64 y2.Value.Kind, .int .i64 y2.Value.Num, .str y2.Value.Text, .int .i64 y2.Value.Ref] rfl hS rfl rfl (by kernel_rfl) (by kernel_rfl) hy2 rfl ?_; intro rest1 s hS
        refine q_seg 3 [(0, (Sl.t (a0 : Sl DBinding))), (1, (Sl.t (a1 : Sl DBinding))), (12, .int .i64 (a0.l.length : Int)), (13, .int .i64 st1), (19, .agg (DBinding.cells y2)), (20, (Sl.t (a1 : Sl DBinding))), (21, .int .i64 st1)] hS (by kernel_rfl) ?_; intro s hS
        obtain ⟨y3, hy3, h⟩ := bind_some h
        refine q_elt (sl := a1) (e := 118) [.str y3.Name, .int .i64 y3.Value.Kind, .int .i64 y3.Value.Num, .str y3.Value.Text, .int .i64 y3.Value.Ref] rfl hS rfl rfl (by kernel_rfl) (by kernel_rfl) hy3 rfl ?_; intro rest2 s hS
        refine q_seg 1 [(0, (Sl.t (a0 : Sl DBinding))), (1, (Sl.t (a1 : Sl DBinding))), (12, .int .i64 (a0.l.length : Int)), (13, .int .i64 st1), (19, .agg (DBinding.cells y2)), (23, .agg (DBinding.cells y3))] hS (by kernel_rfl) ?_; intro s hS
        refine q_neS (xs := [.str y2.Name, .int .i64 y2.Value.Kind, .int .i64 y2.Value.Num, .str y2.Value.Text, .int .i64 y2.Value.Ref]) (ys := [.str y3.Name, .int .i64 y3.Value.Kind, .int .i64 y3.Value.Num, .str y3.Value.Text, .int .i64 y3.Value.Ref]) (v := (decide (y2.Name = y3.Name) && (decide (y2.Value.Kind = y3.Value.Kind) && (decide (y2.Value.Num = y3.Value.Num) && (decide (y2.Value.Text = y3.Value.Text) && (decide (y2.Value.Ref = y3.Value.Ref) && true)))))) rfl hS rfl rfl (by kernel_rfl) (by kernel_rfl) ?_; intro s hS
        refine x_nil ?_
        refine sq_n ?_
        by_cases hc3 : ((!(decide (y2.Name = y3.Name) && (decide (y2.Value.Kind = y3.Value.Kind) && (decide (y2.Value.Num = y3.Value.Num) && (decide (y2.Value.Text = y3.Value.Text) && (decide (y2.Value.Ref = y3.Value.Ref) && true))))))) = true
        · have h := it_pos hc3 h
          refine c_cond hS rfl (fun _ => ?_) (fun hf => ff_absurd hc3 hf)
          refine c_seq ?_
          refine c_region ?_
          refine q_seg 1 [(4, .bool false)] hS (by kernel_rfl) ?_; intro s hS
          refine x_nil ?_
          refine sq_n ?_
          refine c_ret ?_
          refine bk_r ?_
          refine sq_r ?_
          injection h with h; subst h
          exact And.intro rfl (end_W hH (r_tmp (v := .bool false) hS rfl r_nil) rfl (by kernel_rfl) (by simp [pureT, pureL, E_bool]))
        · have h := it_neg hc3 h
          refine c_cond hS rfl (fun hf => tt_absurd hc3 hf) (fun _ => ?_)
          refine c_skip ?_
          refine bk_n ?_
          refine sq_n ?_
          refine c_region ?_
          refine q_seg 2 [(0, (Sl.t (a0 : Sl DBinding))), (1, (Sl.t (a1 : Sl DBinding))), (12, .int .i64 (a0.l.length : Int)), (13, .int .i64 (IntKind.i64.wrap (st1 + 1)))] hS (by kernel_rfl) ?_; intro s hS
          refine x_nil ?_
          injection h with h; subst h
          exact And.intro (sub_to hS (by kernel_rfl)) hH
      · have h := it_neg hc2 h
        refine c_cond hS rfl (fun hf => tt_absurd hc2 hf) (fun _ => ?_)
        refine c_exit ?_
        refine sq_x ?_
        injection h with h; subst h
        exact And.intro rfl (And.intro (sub_to hS (by kernel_rfl)) hH)
    · clear hS hH; intro e fr HF; obtain ⟨s, σ⟩ := fr
      rcases y1 with y1 | y1
      · obtain ⟨rfl, hS, hH⟩ := HF
        refine bk_e ?_
        refine sq_n ?_
        refine c_seq ?_
        refine c_region ?_
        refine q_seg 1 [(4, .bool true)] hS (by kernel_rfl) ?_; intro s hS
        refine x_nil ?_
        refine sq_n ?_
        refine c_ret ?_
        injection h with h; subst h
        exact end_W hH (r_tmp (v := .bool true) hS rfl r_nil) rfl (by kernel_rfl) (by simp [pureT, pureL, E_bool])
      · obtain ⟨rfl, HE⟩ := HF
        refine bk_r ?_
        refine sq_r ?_
        injection h with h; subst h; exact HE
end Go.Am
end
section
set_option maxRecDepth 100000
set_option maxHeartbeats 1000000
set_option linter.unusedVariables false
set_option linter.unusedSimpArgs false
namespace Go.Am
open Go.Proofs
noncomputable def B_impl_sameDefinitions (a0 : DScope) (a1 : DScope) : Option Bool := ((F_slices_EqualFunc_Function a0.Functions a1.Functions (T.fn 105 [] [])).bind fun y1 => (if y1 = true then ((F_slices_EqualFunc_RecordType a0.Types a1.Types (T.fn 107 [] [])).bind fun y2 => (some y2)) else (some false)))
theorem u_impl_sameDefinitions (a0 : DScope) (a1 : DScope) (r : Bool) (h : B_impl_sameDefinitions a0 a1 = some r) : F_impl_sameDefinitions a0 a1 = some r := by
  unfold B_impl_sameDefinitions at h
  refine semW_of E_bool_inj rfl rfl ok_82 rfl (all_cons (by kernel_rfl) (all_cons (by kernel_rfl) all_nil)) ?_
  intro σ0 s hS hH
  have hS := sub_to (L' := [(0, .agg (DScope.cells a0)), (1, .agg (DScope.cells a1))]) hS (by kernel_rfl)
  refine c_seq ?_
  refine c_region ?_
  refine q_box (v := .agg (DScope.cells a0)) (cs := [(Sl.t (a0.Vars : Sl DBinding)), (Sl.t (a0.Functions : Sl DFunction)), (Sl.t (a0.Types : Sl DRecordType))]) rfl hS hH rfl rfl (by kernel_rfl) ?_; intro b1 σ s hH hS
  refine q_box (v := .agg (DScope.cells a1)) (cs := [(Sl.t (a1.Vars : Sl DBinding)), (Sl.t (a1.Functions : Sl DFunction)), (Sl.t (a1.Types : Sl DRecordType))]) rfl hS hH rfl rfl (by kernel_rfl) ?_; intro b2 σ s hH hS
  refine q_seg 1 [(2, .ptr b1 0 0 3), (3, .ptr b2 0 0 3)] hS (by kernel_rfl) ?_; intro s hS
  refine x_nil ?_
  refine sq_n ?_
  refine c_seq ?_
  refine c_region ?_
  refine q_seg 1 [(2, .ptr b1 0 0 3), (3, .ptr b2 0 0 3), (5, .ptr b1 0 1 1)] hS (by kernel_rfl) ?_; intro s hS
  refine q_load (v := (Sl.t (a0.Functions : Sl DFunction))) 1 trivial rfl hS hH rfl rfl (by kernel_rfl) ?_; intro s hS
  refine q_seg 1 [(2, .ptr b1 0 0 3), (3, .ptr b2 0 0 3), (6, (Sl.t (a0.Functions : Sl DFunction))), (7, .ptr b2 0 1 1)] hS (by kernel_rfl) ?_; intro s hS
  refine q_load (v := (Sl.t (a1.Functions : Sl DFunction))) 0 trivial rfl hS hH rfl rfl (by kernel_rfl) ?_; intro s hS
  obtain ⟨y1, hy1, h⟩ := bind_some h
  refine q_callF (a := []) (b := []) (xs := [(Sl.t (a0.Functions : Sl DFunction)), (Sl.t (a1.Functions : Sl DFunction)), T.fn 105 [] []]) rfl hS rfl rfl hy1 ?_; intro s hS
  refine q_seg 1 [(10, .bool y1), (2, .ptr b1 0 0 3), (3, .ptr b2 0 0 3)] hS (by kernel_rfl) ?_; intro s hS
  by_cases hc1 : y1 = true
  · have h := it_pos hc1 h
    have hS := sub_bt hS hc1
    refine q_seg 1 [(3, .ptr b2 0 0 3), (10, .bool true), (11, .ptr b1 0 2 1)] hS (by kernel_rfl) ?_; intro s hS
    refine q_load (v := (Sl.t (a0.Types : Sl DRecordType))) 1 trivial rfl hS hH rfl rfl (by kernel_rfl) ?_; intro s hS
    refine q_seg 1 [(10, .bool true), (12, (Sl.t (a0.Types : Sl DRecordType))), (13, .ptr b2 0 2 1)] hS (by kernel_rfl) ?_; intro s hS
    refine q_load (v := (Sl.t (a1.Types : Sl DRecordType))) 0 trivial rfl hS hH rfl rfl (by kernel_rfl) ?_; intro s hS
    obtain ⟨y2, hy2, h⟩ := bind_some h
    refine q_callF (a := []) (b := []) (xs := [(Sl.t (a0.Types : Sl DRecordType)), (Sl.t (a1.Types : Sl DRecordType)), T.fn 107 [] []]) rfl hS rfl rfl hy2 ?_; intro s hS
    refine q_seg 2 [(4, .bool y2)] hS (by kernel_rfl) ?_; intro s hS
    refine x_nil ?_
    refine sq_n ?_
    refine c_ret ?_
    injection h with h; subst h
    exact end_W hH (r_tmp (v := .bool y2) hS rfl r_nil) rfl (by kernel_rfl) (by simp [pureT, pureL, E_bool])
  · have h := it_neg hc1 h
    have hS := sub_bt hS (tt_of hc1)
    refine q_seg 7 [(4, .bool false)] hS (by kernel_rfl) ?_; intro s hS
    refine x_nil ?_
    refine sq_n ?_
    refine c_ret ?_
    injection h with h; subst h
    exact end_W hH (r_tmp (v := .bool false) hS rfl r_nil) rfl (by kernel_rfl) (by simp [pureT, pureL, E_bool])
end Go.Am
end
section
set_option maxRecDepth 100000
set_option maxHeartbeats 1000000
set_option linter.unusedVariables false
set_option linter.unusedSimpArgs false
namespace Go.Am
open Go.Proofs
noncomputable def B_slices_EqualFunc_File (a0 : (Sl DFile)) (a1 : (Sl DFile)) (a2 : T) : Option Bool := (if flat1 a2 = true then (if ((!decide ((a0.l.length : Int) = (a1.l.length : Int)))) = true then (some false) else ((loopO (S := Int) (R := (Unit ⊕ Bool)) (fun st1 => (if (decide (st1 < (a0.l.length : Int))) = true then ((elt a0 st1).bind fun y2 => ((elt a1 st1).bind fun y3 => ((callV Try.prog md ext E_bool a2 [.agg (DFile.cells y2), .agg (DFile.cells y3)]).bind fun y4 => (if (!y4) = true then (some (.inr (.inr false))) else (some (.inl (IntKind.i64.wrap (st1 + 1)))))))) else (some (.inr (.inl ()))))) 0).bind fun y1 => (Sum.elim (fun y1 => (some true)) (fun y1 => (some y1)) y1))) else none)
theorem u_slices_EqualFunc_File (a0 : (Sl DFile)) (a1 : (Sl DFile)) (a2 : T) (r : Bool) (h : B_slices_EqualFunc_File a0 a1 a2 = some r) : F_slices_EqualFunc_File a0 a1 a2 = some r := by
  unfold B_slices_EqualFunc_File at h
  obtain ⟨hf_a2, h⟩ := if_some h
  refine semW_of E_bool_inj rfl rfl ok_83 rfl (all_cons (by kernel_rfl) (all_cons (by kernel_rfl) (all_cons (flat3_of hf_a2) all_nil))) ?_
  intro σ0 s hS hH
  have hS := sub_to (L' := [(0, (Sl.t (a0 : Sl DFile))), (1, (Sl.t (a1 : Sl DFile))), (2, a2)]) hS (by kernel_rfl)
  refine c_seq ?_
  refine c_region ?_
  refine q_seg 1 [(0, (Sl.t (a0 : Sl DFile))), (1, (Sl.t (a1 : Sl DFile))), (2, a2)] hS (by kernel_rfl) ?_; intro s hS
  refine x_nil ?_
  refine sq_n ?_
  refine c_seq ?_
  refine c_seq ?_
  refine c_region ?_
  refine q_seg 5 [(0, (Sl.t (a0 : Sl DFile))), (1, (Sl.t (a1 : Sl DFile))), (2, a2), (14, .bool ((!decide ((a0.l.length : Int) = (a1.l.length : Int)))))] hS (by kernel_rfl) ?_; intro s hS
  refine x_nil ?_
  refine sq_n ?_
  by_cases hc1 : ((!decide ((a0.l.length : Int) = (a1.l.length : Int)))) = true
  · have h := it_pos hc1 h
    refine c_cond hS rfl (fun _ => ?_) (fun hf => ff_absurd hc1 hf)
    refine c_seq ?_
    refine c_region ?_
    refine q_seg 1 [(6, .bool false)] hS (by kernel_rfl) ?_; intro s hS
    refine x_nil ?_
    refine sq_n ?_
    refine c_ret ?_
    refine sq_r ?_
    injection h with h; subst h
    exact end_W hH (r_tmp (v := .bool false) hS rfl r_nil) rfl (by kernel_rfl) (by simp [pureT, pureL, E_bool])
  · have h := it_neg hc1 h
    refine c_cond hS rfl (fun hf => tt_absurd hc1 hf) (fun _ => ?_)
    refine c_skip ?_
    refine sq_n ?_
    refine c_seq ?_
    refine c_seq ?_
    refine c_region ?_
    refine q_seg 3 [(1, (Sl.t (a1 : Sl DFile))), (2, a2), (15, (Sl.t (a0 : Sl DFile))), (16, .int .i64 (a0.l.length : Int)), (17, .int .i64 0)] hS (by kernel_rfl) ?_; intro s hS
    refine x_nil ?_
    refine sq_n ?_
    refine c_block ?_
    obtain ⟨y1, hy1, h⟩ := bind_some h
    refine c_loop (fun (st1 : Int) (fr : Fr) => Sub [(1, (Sl.t (a1 : Sl DFile))), (2, a2), (15, (Sl.t (a0 : Sl DFile))), (16, .int .i64 (a0.l.length : Int)), (17, .int .i64 st1)] fr.s ∧ Heap σ0 fr.σ []) (fun (y1 : (Unit ⊕ Bool)) (e : AExit) (fr : Fr) => (Sum.elim (fun y => e = (.exit 0) ∧ Sub [] fr.s ∧ Heap σ0 fr.σ []) (fun y => e = .ret ∧ endW Try.prog (Try.f83.results.toList) σ0 (E_bool y) .ret fr)) y1) hy1 (And.intro (sub_to hS (by kernel_rfl)) hH) ?_ ?_
    · clear h hy1 hS hH; clear y1; intro st1 x fr h HI; obtain ⟨s, σ⟩ := fr; obtain ⟨hS, hH⟩ := HI
      refine c_seq ?_
      refine c_region ?_
      refine q_seg 1 [(1, (Sl.t (a1 : Sl DFile))), (2, a2), (15, (Sl.t (a0 : Sl DFile))), (16, .int .i64 (a0.l.length : Int)), (17, .int .i64 st1), (18, .bool (decide (st1 < (a0.l.length : Int))))] hS (by kernel_rfl) ?_; intro s hS
      refine x_nil ?_
      refine sq_n ?_
      refine c_seq ?_
      by_cases hc2 : (decide (st1 < (a0.l.length : Int))) = true
      · have h := it_pos hc2 h
        refine c_cond hS rfl (fun _ => ?_) (fun hf => ff_absurd hc2 hf)
        refine c_skip ?_
        refine sq_n ?_
        refine c_seq ?_
        refine c_block ?_
        refine c_seq ?_
        refine c_region ?_
        refine q_seg 1 [(1, (Sl.t (a1 : Sl DFile))), (2, a2), (15, (Sl.t (a0 : Sl DFile))), (16, .int .i64 (a0.l.length : Int)), (17, .int .i64 st1), (19, .int .i64 st1)] hS (by kernel_rfl) ?_; intro s hS
        obtain ⟨y2, hy2, h⟩ := bind_some h
        refine q_elt (sl := a0) (e := 104) [.str y2.Name, (Sl.t (y2.Lines : Sl ByteArray)), .int .i64 y2.Mode, .int .i64 y2.At] rfl hS rfl rfl (by kernel_rfl) (by kernel_rfl) hy2 rfl ?_; intro rest1 s hS
        refine q_seg 1 [(1, (Sl.t (a1 : Sl DFile))), (2, a2), (15, (Sl.t (a0 : Sl DFile))), (16, .int .i64 (a0.l.length : Int)), (17, .int .i64 st1), (19, .int .i64 st1), (21, .agg (DFile.cells y2))] hS (by kernel_rfl) ?_; intro s hS
        refine q_alloc (z := [.str ⟨#[]⟩, (Sl.t (⟨true, []⟩ : Sl ByteArray)), .int .i64 0, .int .i64 0]) rfl hS hH (by kernel_rfl) ?_; intro b1 σ s hH hS
        refine q_seg 1 [(1, (Sl.t (a1 : Sl DFile))), (2, a2), (7, .int .i64 st1), (8, .ptr b1 0 0 4), (15, (Sl.t (a0 : Sl DFile))), (16, .int .i64 (a0.l.length : Int)), (17, .int .i64 st1), (21, .agg (DFile.cells y2))] hS (by kernel_rfl) ?_; intro s hS
        refine q_store (v := .agg (DFile.cells y2)) (cs := [.str y2.Name, (Sl.t (y2.Lines : Sl ByteArray)), .int .i64 y2.Mode, .int .i64 y2.At]) (cells' := [.str y2.Name, (Sl.t (y2.Lines : Sl ByteArray)), .int .i64 y2.Mode, .int .i64 y2.At]) rfl hS hH rfl rfl rfl (by kernel_rfl) (by kernel_rfl) ?_; intro σ s hH hS
        refine x_nil ?_
        refine sq_n ?_
        refine c_seq ?_
        refine c_region ?_
        refine q_seg 2 [(1, (Sl.t (a1 : Sl DFile))), (2, a2), (8, .ptr b1 0 0 4), (15, (Sl.t (a0 : Sl DFile))), (16, .int .i64 (a0.l.length : Int)), (17, .int .i64 st1), (22, (Sl.t (a1 : Sl DFile))), (23, .int .i64 st1)] hS (by kernel_rfl) ?_; intro s hS
        obtain ⟨y3, hy3, h⟩ := bind_some h
        refine q_elt (sl := a1) (e := 104) [.str y3.Name, (Sl.t (y3.Lines : Sl ByteArray)), .int .i64 y3.Mode, .int .i64 y3.At] rfl hS rfl rfl (by kernel_rfl) (by kernel_rfl) hy3 rfl ?_; intro rest2 s hS
        refine q_seg 1 [(1, (Sl.t (a1 : Sl DFile))), (2, a2), (8, .ptr b1 0 0 4), (15, (Sl.t (a0 : Sl DFile))), (16, .int .i64 (a0.l.length : Int)), (17, .int .i64 st1), (25, .agg (DFile.cells y3))] hS (by kernel_rfl) ?_; intro s hS
        refine q_alloc (z := [.str ⟨#[]⟩, (Sl.t (⟨true, []⟩ : Sl ByteArray)), .int .i64 0, .int .i64 0]) rfl hS hH (by kernel_rfl) ?_; intro b2 σ s hH hS
        refine q_store (v := .agg (DFile.cells y3)) (cs := [.str y3.Name, (Sl.t (y3.Lines : Sl ByteArray)), .int .i64 y3.Mode, .int .i64 y3.At]) (cells' := [.str y3.Name, (Sl.t (y3.Lines : Sl ByteArray)), .int .i64 y3.Mode, .int .i64 y3.At]) rfl hS hH rfl rfl rfl (by kernel_rfl) (by kernel_rfl) ?_; intro σ s hH hS
        refine x_nil ?_
        refine sq_n ?_
        refine c_seq ?_
        refine c_region ?_
        refine q_seg 1 [(1, (Sl.t (a1 : Sl DFile))), (2, a2), (8, .ptr b1 0 0 4), (9, .ptr b2 0 0 4), (15, (Sl.t (a0 : Sl DFile))), (16, .int .i64 (a0.l.length : Int)), (17, .int .i64 st1), (26, a2)] hS (by kernel_rfl) ?_; intro s hS
        refine q_load (v := .agg (DFile.cells y2)) 1 trivial rfl hS hH rfl rfl (by kernel_rfl) ?_; intro s hS
        refine q_load (v := .agg (DFile.cells y3)) 0 trivial rfl hS hH rfl rfl (by kernel_rfl) ?_; intro s hS
        obtain ⟨y4, hy4, h⟩ := bind_some h
        refine q_callP (p := a2) (xs := [.agg (DFile.cells y2), .agg (DFile.cells y3)]) rfl hS rfl rfl hy4 ?_; intro s hS
        refine q_seg 1 [(1, (Sl.t (a1 : Sl DFile))), (2, a2), (15, (Sl.t (a0 : Sl DFile))), (16, .int .i64 (a0.l.length : Int)), (17, .int .i64 st1), (30, .bool (!y4))] hS (by kernel_rfl) ?_; intro s hS
        refine x_nil ?_
        refine sq_n ?_
        by_cases hc3 : (!y4) = true
        · have h := it_pos hc3 h
          refine c_cond hS rfl (fun _ => ?_) (fun hf => ff_absurd hc3 hf)
          refine c_seq ?_
          refine c_region ?_
          refine q_seg 1 [(6, .bool false)] hS (by kernel_rfl) ?_; intro s hS
          refine x_nil ?_
          refine sq_n ?_
          refine c_ret ?_
          refine bk_r ?_
          refine sq_r ?_
          injection h with h; subst h
          exact And.intro rfl (end_W hH (r_tmp (v := .bool false) hS rfl r_nil) rfl (by kernel_rfl) (by simp [pureT, pureL, E_bool]))
        · have h := it_neg hc3 h
          refine c_cond hS rfl (fun hf => tt_absurd hc3 hf) (fun _ => ?_)
          refine c_skip ?_
          refine bk_n ?_
          refine sq_n ?_
          refine c_region ?_
          refine q_seg 2 [(1, (Sl.t (a1 : Sl DFile))), (2, a2), (15, (Sl.t (a0 : Sl DFile))), (16, .int .i64 (a0.l.length : Int)), (17, .int .i64 (IntKind.i64.wrap (st1 + 1)))] hS (by kernel_rfl) ?_; intro s hS
          refine x_nil ?_
          injection h with h; subst h
          exact And.intro (sub_to hS (by kernel_rfl)) (Heap.sel hH [] rfl (by kernel_rfl))
      · have h := it_neg hc2 h
        refine c_cond hS rfl (fun hf => tt_absurd hc2 hf) (fun _ => ?_)
        refine c_exit ?_
        refine sq_x ?_
        injection h with h; subst h
        exact And.intro rfl (And.intro (sub_to hS (by kernel_rfl)) hH)
    · clear hS hH; intro e fr HF; obtain ⟨s, σ⟩ := fr
      rcases y1 with y1 | y1
      · obtain ⟨rfl, hS, hH⟩ := HF
        refine bk_e ?_
        refine sq_n ?_
        refine c_seq ?_
        refine c_region ?_
        refine q_seg 1 [(6, .bool true)] hS (by kernel_rfl) ?_; intro s hS
        refine x_nil ?_
        refine sq_n ?_
        refine c_ret ?_
        injection h with h; subst h
        exact end_W hH (r_tmp (v := .bool true) hS rfl r_nil) rfl (by kernel_rfl) (by simp [pureT, pureL, E_bool])
      · obtain ⟨rfl, HE⟩ := HF
        refine bk_r ?_
        refine sq_r ?_
        injection h with h; subst h; exact HE
end Go.Am
end
section
set_option maxRecDepth 100000
set_option maxHeartbeats 1000000
set_option linter.unusedVariables false
set_option linter.unusedSimpArgs false
namespace Go.Am
open Go.Proofs
noncomputable def B_impl_sameFile (a0 : DFile) (a1 : DFile) : Option Bool := (if (decide (a0.Name = a1.Name)) = true then (if (decide (a0.Mode = a1.Mode)) = true then (if (decide (a0.At = a1.At)) = true then ((F_slices_Equal_string a0.Lines a1.Lines).bind fun y1 => (some y1)) else (some false)) else (some false)) else (some false))
theorem u_impl_sameFile (a0 : DFile) (a1 : DFile) (r : Bool) (h : B_impl_sameFile a0 a1 = some r) : F_impl_sameFile a0 a1 = some r := by
  unfold B_impl_sameFile at h
  refine semW_of E_bool_inj rfl rfl ok_84 rfl (all_cons (by kernel_rfl) (all_cons (by kernel_rfl) all_nil)) ?_
  intro σ0 s hS hH
  have hS := sub_to (L' := [(0, .agg (DFile.cells a0)), (1, .agg (DFile.cells a1))]) hS (by kernel_rfl)
  refine c_seq ?_
  refine c_region ?_
  refine q_box (v := .agg (DFile.cells a0)) (cs := [.str a0.Name, (Sl.t (a0.Lines : Sl ByteArray)), .int .i64 a0.Mode, .int .i64 a0.At]) rfl hS hH rfl rfl (by kernel_rfl) ?_; intro b1 σ s hH hS
  refine q_box (v := .agg (DFile.cells a1)) (cs := [.str a1.Name, (Sl.t (a1.Lines : Sl ByteArray)), .int .i64 a1.Mode, .int .i64 a1.At]) rfl hS hH rfl rfl (by kernel_rfl) ?_; intro b2 σ s hH hS
  refine q_seg 1 [(2, .ptr b1 0 0 4), (3, .ptr b2 0 0 4)] hS (by kernel_rfl) ?_; intro s hS
  refine x_nil ?_
  refine sq_n ?_
  refine c_seq ?_
  refine c_region ?_
  refine q_seg 1 [(2, .ptr b1 0 0 4), (3, .ptr b2 0 0 4), (5, .ptr b1 0 0 1)] hS (by kernel_rfl) ?_; intro s hS
  refine q_load (v := .str a0.Name) 1 trivial rfl hS hH rfl rfl (by kernel_rfl) ?_; intro s hS
  refine q_seg 1 [(2, .ptr b1 0 0 4), (3, .ptr b2 0 0 4), (6, .str a0.Name), (7, .ptr b2 0 0 1)] hS (by kernel_rfl) ?_; intro s hS
  refine q_load (v := .str a1.Name) 0 trivial rfl hS hH rfl rfl (by kernel_rfl) ?_; intro s hS
  refine q_seg 2 [(10, .bool (decide (a0.Name = a1.Name))), (2, .ptr b1 0 0 4), (3, .ptr b2 0 0 4)] hS (by kernel_rfl) ?_; intro s hS
  by_cases hc1 : (decide (a0.Name = a1.Name)) = true
  · have h := it_pos hc1 h
    have hS := sub_bt hS hc1
    refine q_seg 1 [(2, .ptr b1 0 0 4), (3, .ptr b2 0 0 4), (10, .bool true), (11, .ptr b1 0 2 1)] hS (by kernel_rfl) ?_; intro s hS
    refine q_load (v := .int .i64 a0.Mode) 1 trivial rfl hS hH rfl rfl (by kernel_rfl) ?_; intro s hS
    refine q_seg 1 [(2, .ptr b1 0 0 4), (3, .ptr b2 0 0 4), (10, .bool true), (12, .int .i64 a0.Mode), (13, .ptr b2 0 2 1)] hS (by kernel_rfl) ?_; intro s hS
    refine q_load (v := .int .i64 a1.Mode) 0 trivial rfl hS hH rfl rfl (by kernel_rfl) ?_; intro s hS
    refine q_seg 3 [(17, .bool (decide (a0.Mode = a1.Mode))), (2, .ptr b1 0 0 4), (3, .ptr b2 0 0 4)] hS (by kernel_rfl) ?_; intro s hS
    by_cases hc2 : (decide (a0.Mode = a1.Mode)) = true
    · have h := it_pos hc2 h
      have hS := sub_bt hS hc2
      refine q_seg 1 [(2, .ptr b1 0 0 4), (3, .ptr b2 0 0 4), (17, .bool true), (18, .ptr b1 0 3 1)] hS (by kernel_rfl) ?_; intro s hS
      refine q_load (v := .int .i64 a0.At) 1 trivial rfl hS hH rfl rfl (by kernel_rfl) ?_; intro s hS
      refine q_seg 1 [(2, .ptr b1 0 0 4), (3, .ptr b2 0 0 4), (17, .bool true), (19, .int .i64 a0.At), (20, .ptr b2 0 3 1)] hS (by kernel_rfl) ?_; intro s hS
      refine q_load (v := .int .i64 a1.At) 0 trivial rfl hS hH rfl rfl (by kernel_rfl) ?_; intro s hS
      refine q_seg 3 [(24, .bool (decide (a0.At = a1.At))), (2, .ptr b1 0 0 4), (3, .ptr b2 0 0 4)] hS (by kernel_rfl) ?_; intro s hS
      by_cases hc3 : (decide (a0.At = a1.At)) = true
      · have h := it_pos hc3 h
        have hS := sub_bt hS hc3
        refine q_seg 1 [(3, .ptr b2 0 0 4), (24, .bool true), (25, .ptr b1 0 1 1)] hS (by kernel_rfl) ?_; intro s hS
        refine q_load (v := (Sl.t (a0.Lines : Sl ByteArray))) 1 trivial rfl hS hH rfl rfl (by kernel_rfl) ?_; intro s hS
        refine q_seg 1 [(24, .bool true), (26, (Sl.t (a0.Lines : Sl ByteArray))), (27, .ptr b2 0 1 1)] hS (by kernel_rfl) ?_; intro s hS
        refine q_load (v := (Sl.t (a1.Lines : Sl ByteArray))) 0 trivial rfl hS hH rfl rfl (by kernel_rfl) ?_; intro s hS
        obtain ⟨y1, hy1, h⟩ := bind_some h
        refine q_callF (a := []) (b := []) (xs := [(Sl.t (a0.Lines : Sl ByteArray)), (Sl.t (a1.Lines : Sl ByteArray))]) rfl hS rfl rfl hy1 ?_; intro s hS
        refine q_seg 2 [(4, .bool y1)] hS (by kernel_rfl) ?_; intro s hS
        refine x_nil ?_
        refine sq_n ?_
        refine c_ret ?_
        injection h with h; subst h
        exact end_W hH (r_tmp (v := .bool y1) hS rfl r_nil) rfl (by kernel_rfl) (by simp [pureT, pureL, E_bool])
      · have h := it_neg hc3 h
        have hS := sub_bt hS (tt_of hc3)
        refine q_seg 7 [(4, .bool false)] hS (by kernel_rfl) ?_; intro s hS
        refine x_nil ?_
        refine sq_n ?_
        refine c_ret ?_
        injection h with h; subst h
        exact end_W hH (r_tmp (v := .bool false) hS rfl r_nil) rfl (by kernel_rfl) (by simp [pureT, pureL, E_bool])
    · have h := it_neg hc2 h
      have hS := sub_bt hS (tt_of hc2)
      refine q_seg 14 [(4, .bool false)] hS (by kernel_rfl) ?_; intro s hS
      refine x_nil ?_
      refine sq_n ?_
      refine c_ret ?_
      injection h with h; subst h
      exact end_W hH (r_tmp (v := .bool false) hS rfl r_nil) rfl (by kernel_rfl) (by simp [pureT, pureL, E_bool])
  · have h := it_neg hc1 h
    have hS := sub_bt hS (tt_of hc1)
    refine q_seg 21 [(4, .bool false)] hS (by kernel_rfl) ?_; intro s hS
    refine x_nil ?_
    refine sq_n ?_
    refine c_ret ?_
    injection h with h; subst h
    exact end_W hH (r_tmp (v := .bool false) hS rfl r_nil) rfl (by kernel_rfl) (by simp [pureT, pureL, E_bool])
end Go.Am
end
section
set_option maxRecDepth 100000
set_option maxHeartbeats 1000000
set_option linter.unusedVariables false
set_option linter.unusedSimpArgs false
namespace Go.Am
open Go.Proofs
noncomputable def B_laws_eqObject (a0 : DObject) (a1 : DObject) : Option Bool := (if (!decide (a0.Id = a1.Id)) = true then (some false) else (if (!decide (a0.Kind = a1.Kind)) = true then (some false) else (if (!decide (a0.Name = a1.Name)) = true then (some false) else (if (!decide (a0.Low = a1.Low)) = true then (some false) else ((F_laws_eqValueS a0.Keys a1.Keys).bind fun y1 => (if (!y1) = true then (some false) else ((F_laws_eqValueS a0.Vals a1.Vals).bind fun y2 => (if (!y2) = true then (some false) else ((F_laws_eqValue a0.Default a1.Default).bind fun y3 => (if (!y3) = true then (some false) else (some true)))))))))))
theorem u_laws_eqObject (a0 : DObject) (a1 : DObject) (r : Bool) (h : B_laws_eqObject a0 a1 = some r) : F_laws_eqObject a0 a1 = some r := by
  unfold B_laws_eqObject at h
  refine semW_of E_bool_inj rfl rfl ok_85 rfl (all_cons (by kernel_rfl) (all_cons (by kernel_rfl) all_nil)) ?_
  intro σ0 s hS hH
  have hS := sub_to (L' := [(0, .agg (DObject.cells a0)), (1, .agg (DObject.cells a1))]) hS (by kernel_rfl)
  refine c_seq ?_
  refine c_region ?_
  refine q_box (v := .agg (DObject.cells a0)) (cs := [.int .i64 a0.Id, .int .i64 a0.Kind, .str a0.Name, .int .i64 a0.Low, (Sl.t (a0.Keys : Sl DValue)), (Sl.t (a0.Vals : Sl DValue)), .int .i64 a0.Default.Kind, .int .i64 a0.Default.Num, .str a0.Default.Text, .int .i64 a0.Default.Ref]) rfl hS hH rfl rfl (by kernel_rfl) ?_; intro b1 σ s hH hS
  refine q_box (v := .agg (DObject.cells a1)) (cs := [.int .i64 a1.Id, .int .i64 a1.Kind, .str a1.Name, .int .i64 a1.Low, (Sl.t (a1.Keys : Sl DValue)), (Sl.t (a1.Vals : Sl DValue)), .int .i64 a1.Default.Kind, .int .i64 a1.Default.Num, .str a1.Default.Text, .int .i64 a1.Default.Ref]) rfl hS hH rfl rfl (by kernel_rfl) ?_; intro b2 σ s hH hS
  refine q_seg 1 [(2, .ptr b1 0 0 10), (3, .ptr b2 0 0 10)] hS (by kernel_rfl) ?_; intro s hS
  refine x_nil ?_
  refine sq_n ?_
  refine c_seq ?_
  refine c_seq ?_
  refine c_region ?_
  refine q_seg 1 [(2, .ptr b1 0 0 10), (3, .ptr b2 0 0 10), (5, .ptr b1 0 0 1)] hS (by kernel_rfl) ?_; intro s hS
  refine q_load (v := .int .i64 a0.Id) 1 trivial rfl hS hH rfl rfl (by kernel_rfl) ?_; intro s hS
  refine q_seg 1 [(2, .ptr b1 0 0 10), (3, .ptr b2 0 0 10), (6, .int .i64 a0.Id), (7, .ptr b2 0 0 1)] hS (by kernel_rfl) ?_; intro s hS
  refine q_load (v := .int .i64 a1.Id) 0 trivial rfl hS hH rfl rfl (by kernel_rfl) ?_; intro s hS
  refine q_seg 1 [(2, .ptr b1 0 0 10), (3, .ptr b2 0 0 10), (9, .bool (!decide (a0.Id = a1.Id)))] hS (by kernel_rfl) ?_; intro s hS
  refine x_nil ?_
  refine sq_n ?_
  by_cases hc1 : (!decide (a0.Id = a1.Id)) = true
  · have h := it_pos hc1 h
    refine c_cond hS rfl (fun _ => ?_) (fun hf => ff_absurd hc1 hf)
    refine c_seq ?_
    refine c_region ?_
    refine q_seg 1 [(4, .bool false)] hS (by kernel_rfl) ?_; intro s hS
    refine x_nil ?_
    refine sq_n ?_
    refine c_ret ?_
    refine sq_r ?_
    injection h with h; subst h
    exact end_W hH (r_tmp (v := .bool false) hS rfl r_nil) rfl (by kernel_rfl) (by simp [pureT, pureL, E_bool])
  · have h := it_neg hc1 h
    refine c_cond hS rfl (fun hf => tt_absurd hc1 hf) (fun _ => ?_)
    refine c_skip ?_
    refine sq_n ?_
    refine c_seq ?_
    refine c_seq ?_
    refine c_region ?_
    refine q_seg 1 [(2, .ptr b1 0 0 10), (3, .ptr b2 0 0 10), (10, .ptr b1 0 1 1)] hS (by kernel_rfl) ?_; intro s hS
    refine q_load (v := .int .i64 a0.Kind) 1 trivial rfl hS hH rfl rfl (by kernel_rfl) ?_; intro s hS
    refine q_seg 1 [(2, .ptr b1 0 0 10), (3, .ptr b2 0 0 10), (11, .int .i64 a0.Kind), (12, .ptr b2 0 1 1)] hS (by kernel_rfl) ?_; intro s hS
    refine q_load (v := .int .i64 a1.Kind) 0 trivial rfl hS hH rfl rfl (by kernel_rfl) ?_; intro s hS
    refine q_seg 1 [(2, .ptr b1 0 0 10), (3, .ptr b2 0 0 10), (14, .bool (!decide (a0.Kind = a1.Kind)))] hS (by kernel_rfl) ?_; intro s hS
    refine x_nil ?_
    refine sq_n ?_
    by_cases hc2 : (!decide (a0.Kind = a1.Kind)) = true
    · have h := it_pos hc2 h
      refine c_cond hS rfl (fun _ => ?_) (fun hf => ff_absurd hc2 hf)
      refine c_seq ?_
      refine c_region ?_
      refine q_seg 1 [(4, .bool false)] hS (by kernel_rfl) ?_; intro s hS
      refine x_nil ?_
      refine sq_n ?_
      refine c_ret ?_
      refine sq_r ?_
      injection h with h; subst h
      exact end_W hH (r_tmp (v := .bool false) hS rfl r_nil) rfl (by kernel_rfl) (by simp [pureT, pureL, E_bool])
    · have h := it_neg hc2 h
      refine c_cond hS rfl (fun hf => tt_absurd hc2 hf) (fun _ => ?_)
      refine c_skip ?_
      refine sq_n ?_
      refine c_seq ?_
      refine c_seq ?_
      refine c_region ?_
      refine q_seg 1 [(2, .ptr b1 0 0 10), (3, .ptr b2 0 0 10), (15, .ptr b1 0 2 1)] hS (by kernel_rfl) ?_; intro s hS
      refine q_load (v := .str a0.Name) 1 trivial rfl hS hH rfl rfl (by kernel_rfl) ?_; intro s hS
      refine q_seg 1 [(2, .ptr b1 0 0 10), (3, .ptr b2 0 0 10), (16, .str a0.Name), (17, .ptr b2 0 2 1)] hS (by kernel_rfl) ?_; intro s hS
      refine q_load (v := .str a1.Name) 0 trivial rfl hS hH rfl rfl (by kernel_rfl) ?_; intro s hS
      refine q_seg 1 [(2, .ptr b1 0 0 10), (3, .ptr b2 0 0 10), (19, .bool (!decide (a0.Name = a1.Name)))] hS (by kernel_rfl) ?_; intro s hS
      refine x_nil ?_
      refine sq_n ?_
      by_cases hc3 : (!decide (a0.Name = a1.Name)) = true
      · have h := it_pos hc3 h
        refine c_cond hS rfl (fun _ => ?_) (fun hf => ff_absurd hc3 hf)
        refine c_seq ?_
        refine c_region ?_
        refine q_seg 1 [(4, .bool false)] hS (by kernel_rfl) ?_; intro s hS
        refine x_nil ?_
        refine sq_n ?_
        refine c_ret ?_
        refine sq_r ?_
        injection h with h; subst h
        exact end_W hH (r_tmp (v := .bool false) hS rfl r_nil) rfl (by kernel_rfl) (by simp [pureT, pureL, E_bool])
      · have h := it_neg hc3 h
        refine c_cond hS rfl (fun hf => tt_absurd hc3 hf) (fun _ => ?_)
        refine c_skip ?_
        refine sq_n ?_
        refine c_seq ?_
        refine c_seq ?_
        refine c_region ?_
        refine q_seg 1 [(2, .ptr b1 0 0 10), (3, .ptr b2 0 0 10), (20, .ptr b1 0 3 1)] hS (by kernel_rfl) ?_; intro s hS
        refine q_load (v := .int .i64 a0.Low) 1 trivial rfl hS hH rfl rfl (by kernel_rfl) ?_; intro s hS
        refine q_seg 1 [(2, .ptr b1 0 0 10), (3, .ptr b2 0 0 10), (21, .int .i64 a0.Low), (22, .ptr b2 0 3 1)] hS (by kernel_rfl) ?_; intro s hS
        refine q_load (v := .int .i64 a1.Low) 0 trivial rfl hS hH rfl rfl (by kernel_rfl) ?_; intro s hS
        refine q_seg 1 [(2, .ptr b1 0 0 10), (3, .ptr b2 0 0 10), (24, .bool (!decide (a0.Low = a1.Low)))] hS (by kernel_rfl) ?_; intro s hS
        refine x_nil ?_
        refine sq_n ?_
        by_cases hc4 : (!decide (a0.Low = a1.Low)) = true
        · have h := it_pos hc4 h
          refine c_cond hS rfl (fun _ => ?_) (fun hf => ff_absurd hc4 hf)
          refine c_seq ?_
          refine c_region ?_
          refine q_seg 1 [(4, .bool false)] hS (by kernel_rfl) ?_; intro s hS
          refine x_nil ?_
          refine sq_n ?_
          refine c_ret ?_
          refine sq_r ?_
          injection h with h; subst h
          exact end_W hH (r_tmp (v := .bool false) hS rfl r_nil) rfl (by kernel_rfl) (by simp [pureT, pureL, E_bool])
        · have h := it_neg hc4 h
          refine c_cond hS rfl (fun hf => tt_absurd hc4 hf) (fun _ => ?_)
          refine c_skip ?_
          refine sq_n ?_
          refine c_seq ?_
          refine c_seq ?_
          refine c_region ?_
          refine q_seg 1 [(2, .ptr b1 0 0 10), (3, .ptr b2 0 0 10), (25, .ptr b1 0 4 1)] hS (by kernel_rfl) ?_; intro s hS
          refine q_load (v := (Sl.t (a0.Keys : Sl DValue))) 1 trivial rfl hS hH rfl rfl (by kernel_rfl) ?_; intro s hS
          refine q_seg 1 [(2, .ptr b1 0 0 10), (3, .ptr b2 0 0 10), (26, (Sl.t (a0.Keys : Sl DValue))), (27, .ptr b2 0 4 1)] hS (by kernel_rfl) ?_; intro s hS
          refine q_load (v := (Sl.t (a1.Keys : Sl DValue))) 0 trivial rfl hS hH rfl rfl (by kernel_rfl) ?_; intro s hS
          obtain ⟨y1, hy1, h⟩ := bind_some h
          refine q_callF (a := []) (b := []) (xs := [(Sl.t (a0.Keys : Sl DValue)), (Sl.t (a1.Keys : Sl DValue))]) rfl hS rfl rfl hy1 ?_; intro s hS
          refine q_seg 1 [(2, .ptr b1 0 0 10), (3, .ptr b2 0 0 10), (30, .bool (!y1))] hS (by kernel_rfl) ?_; intro s hS
          refine x_nil ?_
          refine sq_n ?_
          by_cases hc5 : (!y1) = true
          · have h := it_pos hc5 h
            refine c_cond hS rfl (fun _ => ?_) (fun hf => ff_absurd hc5 hf)
            refine c_seq ?_
            refine c_region ?_
            refine q_seg 1 [(4, .bool false)] hS (by kernel_rfl) ?_; intro s hS
            refine x_nil ?_
            refine sq_n ?_
            refine c_ret ?_
            refine sq_r ?_
            injection h with h; subst h
            exact end_W hH (r_tmp (v := .bool false) hS rfl r_nil) rfl (by kernel_rfl) (by simp [pureT, pureL, E_bool])
          · have h := it_neg hc5 h
            refine c_cond hS rfl (fun hf => tt_absurd hc5 hf) (fun _ => ?_)
            refine c_skip ?_
            refine sq_n ?_
            refine c_seq ?_
            refine c_seq ?_
            refine c_region ?_
            refine q_seg 1 [(2, .ptr b1 0 0 10), (3, .ptr b2 0 0 10), (31, .ptr b1 0 5 1)] hS (by kernel_rfl) ?_; intro s hS
            refine q_load (v := (Sl.t (a0.Vals : Sl DValue))) 1 trivial rfl hS hH rfl rfl (by kernel_rfl) ?_; intro s hS
            refine q_seg 1 [(2, .ptr b1 0 0 10), (3, .ptr b2 0 0 10), (32, (Sl.t (a0.Vals : Sl DValue))), (33, .ptr b2 0 5 1)] hS (by kernel_rfl) ?_; intro s hS
            refine q_load (v := (Sl.t (a1.Vals : Sl DValue))) 0 trivial rfl hS hH rfl rfl (by kernel_rfl) ?_; intro s hS
            obtain ⟨y2, hy2, h⟩ := bind_some h
            refine q_callF (a := []) (b := []) (xs := [(Sl.t (a0.Vals : Sl DValue)), (Sl.t (a1.Vals : Sl DValue))]) rfl hS rfl rfl hy2 ?_; intro s hS
            refine q_seg 1 [(2, .ptr b1 0 0 10), (3, .ptr b2 0 0 10), (36, .bool (!y2))] hS (by kernel_rfl) ?_; intro s hS
            refine x_nil ?_
            refine sq_n ?_
            by_cases hc6 : (!y2) = true
            · have h := it_pos hc6 h
              refine c_cond hS rfl (fun _ => ?_) (fun hf => ff_absurd hc6 hf)
              refine c_seq ?_
              refine c_region ?_
              refine q_seg 1 [(4, .bool false)] hS (by kernel_rfl) ?_; intro s hS
              refine x_nil ?_
              refine sq_n ?_
              refine c_ret ?_
              refine sq_r ?_
              injection h with h; subst h
              exact end_W hH (r_tmp (v := .bool false) hS rfl r_nil) rfl (by kernel_rfl) (by simp [pureT, pureL, E_bool])
            · have h := it_neg hc6 h
              refine c_cond hS rfl (fun hf => tt_absurd hc6 hf) (fun _ => ?_)
              refine c_skip ?_
              refine sq_n ?_
              refine c_seq ?_
              refine c_seq ?_
              refine c_region ?_
              refine q_seg 1 [(3, .ptr b2 0 0 10), (37, .ptr b1 0 6 4)] hS (by kernel_rfl) ?_; intro s hS
              refine q_load (v := .agg (DValue.cells a0.Default)) 1 trivial rfl hS hH rfl rfl (by kernel_rfl) ?_; intro s hS
              refine q_seg 1 [(38, .agg (DValue.cells a0.Default)), (39, .ptr b2 0 6 4)] hS (by kernel_rfl) ?_; intro s hS
              refine q_load (v := .agg (DValue.cells a1.Default)) 0 trivial rfl hS hH rfl rfl (by kernel_rfl) ?_; intro s hS
              obtain ⟨y3, hy3, h⟩ := bind_some h
              refine q_callF (a := []) (b := []) (xs := [.agg (DValue.cells a0.Default), .agg (DValue.cells a1.Default)]) rfl hS rfl rfl hy3 ?_; intro s hS
              refine q_seg 1 [(42, .bool (!y3))] hS (by kernel_rfl) ?_; intro s hS
              refine x_nil ?_
              refine sq_n ?_
              by_cases hc7 : (!y3) = true
              · have h := it_pos hc7 h
                refine c_cond hS rfl (fun _ => ?_) (fun hf => ff_absurd hc7 hf)
                refine c_seq ?_
                refine c_region ?_
                refine q_seg 1 [(4, .bool false)] hS (by kernel_rfl) ?_; intro s hS
                refine x_nil ?_
                refine sq_n ?_
                refine c_ret ?_
                refine sq_r ?_
                injection h with h; subst h
                exact end_W hH (r_tmp (v := .bool false) hS rfl r_nil) rfl (by kernel_rfl) (by simp [pureT, pureL, E_bool])
              · have h := it_neg hc7 h
                refine c_cond hS rfl (fun hf => tt_absurd hc7 hf) (fun _ => ?_)
                refine c_skip ?_
                refine sq_n ?_
                refine c_seq ?_
                refine c_region ?_
                refine q_seg 1 [(4, .bool true)] hS (by kernel_rfl) ?_; intro s hS
                refine x_nil ?_
                refine sq_n ?_
                refine c_ret ?_
                injection h with h; subst h
                exact end_W hH (r_tmp (v := .bool true) hS rfl r_nil) rfl (by kernel_rfl) (by simp [pureT, pureL, E_bool])
end Go.Am
end
section
set_option maxRecDepth 100000
set_option maxHeartbeats 1000000
set_option linter.unusedVariables false
set_option linter.unusedSimpArgs false
namespace Go.Am
open Go.Proofs
noncomputable def B_laws_eqBinding (a0 : DBinding) (a1 : DBinding) : Option Bool := (if (!decide (a0.Name = a1.Name)) = true then (some false) else ((F_laws_eqValue a0.Value a1.Value).bind fun y1 => (if (!y1) = true then (some false) else (some true))))
theorem u_laws_eqBinding (a0 : DBinding) (a1 : DBinding) (r : Bool) (h : B_laws_eqBinding a0 a1 = some r) : F_laws_eqBinding a0 a1 = some r := by
  unfold B_laws_eqBinding at h
  refine semW_of E_bool_inj rfl rfl ok_86 rfl (all_cons (by kernel_rfl) (all_cons (by kernel_rfl) all_nil)) ?_
  intro σ0 s hS hH
  have hS := sub_to (L' := [(0, .agg (DBinding.cells a0)), (1, .agg (DBinding.cells a1))]) hS (by kernel_rfl)
  refine c_seq ?_
  refine c_region ?_
  refine q_box (v := .agg (DBinding.cells a0)) (cs := [.str a0.Name, .int .i64 a0.Value.Kind, .int .i64 a0.Value.Num, .str a0.Value.Text, .int .i64 a0.Value.Ref]) rfl hS hH rfl rfl (by kernel_rfl) ?_; intro b1 σ s hH hS
  refine q_box (v := .agg (DBinding.cells a1)) (cs := [.str a1.Name, .int .i64 a1.Value.Kind, .int .i64 a1.Value.Num, .str a1.Value.Text, .int .i64 a1.Value.Ref]) rfl hS hH rfl rfl (by kernel_rfl) ?_; intro b2 σ s hH hS
  refine q_seg 1 [(2, .ptr b1 0 0 5), (3, .ptr b2 0 0 5)] hS (by kernel_rfl) ?_; intro s hS
  refine x_nil ?_
  refine sq_n ?_
  refine c_seq ?_
  refine c_seq ?_
  refine c_region ?_
  refine q_seg 1 [(2, .ptr b1 0 0 5), (3, .ptr b2 0 0 5), (5, .ptr b1 0 0 1)] hS (by kernel_rfl) ?_; intro s hS
  refine q_load (v := .str a0.Name) 1 trivial rfl hS hH rfl rfl (by kernel_rfl) ?_; intro s hS
  refine q_seg 1 [(2, .ptr b1 0 0 5), (3, .ptr b2 0 0 5), (6, .str a0.Name), (7, .ptr b2 0 0 1)] hS (by kernel_rfl) ?_; intro s hS
  refine q_load (v := .str a1.Name) 0 trivial rfl hS hH rfl rfl (by kernel_rfl) ?_; intro s hS
  refine q_seg 1 [(2, .ptr b1 0 0 5), (3, .ptr b2 0 0 5), (9, .bool (!decide (a0.Name = a1.Name)))] hS (by kernel_rfl) ?_; intro s hS
  refine x_nil ?_
  refine sq_n ?_
  by_cases hc1 : (!decide (a0.Name = a1.Name)) = true
  · have h := it_pos hc1 h
    refine c_cond hS rfl (fun _ => ?_) (fun hf => ff_absurd hc1 hf)
    refine c_seq ?_
    refine c_region ?_
    refine q_seg 1 [(4, .bool false)] hS (by kernel_rfl) ?_; intro s hS
    refine x_nil ?_
    refine sq_n ?_
    refine c_ret ?_
    refine sq_r ?_
    injection h with h; subst h
    exact end_W hH (r_tmp (v := .bool false) hS rfl r_nil) rfl (by kernel_rfl) (by simp [pureT, pureL, E_bool])
  · have h := it_neg hc1 h
    refine c_cond hS rfl (fun hf => tt_absurd hc1 hf) (fun _ => ?_)
    refine c_skip ?_
    refine sq_n ?_
    refine c_seq ?_
    refine c_seq ?_
    refine c_region ?_
    refine q_seg 1 [(3, .ptr b2 0 0 5), (10, .ptr b1 0 1 4)] hS (by kernel_rfl) ?_; intro s hS
    refine q_load (v := .agg (DValue.cells a0.Value)) 1 trivial rfl hS hH rfl rfl (by kernel_rfl) ?_; intro s hS
    refine q_seg 1 [(11, .agg (DValue.cells a0.Value)), (12, .ptr b2 0 1 4)] hS (by kernel_rfl) ?_; intro s hS
    refine q_load (v := .agg (DValue.cells a1.Value)) 0 trivial rfl hS hH rfl rfl (by kernel_rfl) ?_; intro s hS
    obtain ⟨y1, hy1, h⟩ := bind_some h
    refine q_callF (a := []) (b := []) (xs := [.agg (DValue.cells a0.Value), .agg (DValue.cells a1.Value)]) rfl hS rfl rfl hy1 ?_; intro s hS
    refine q_seg 1 [(15, .bool (!y1))] hS (by kernel_rfl) ?_; intro s hS
    refine x_nil ?_
    refine sq_n ?_
    by_cases hc2 : (!y1) = true
    · have h := it_pos hc2 h
      refine c_cond hS rfl (fun _ => ?_) (fun hf => ff_absurd hc2 hf)
      refine c_seq ?_
      refine c_region ?_
      refine q_seg 1 [(4, .bool false)] hS (by kernel_rfl) ?_; intro s hS
      refine x_nil ?_
      refine sq_n ?_
      refine c_ret ?_
      refine sq_r ?_
      injection h with h; subst h
      exact end_W hH (r_tmp (v := .bool false) hS rfl r_nil) rfl (by kernel_rfl) (by simp [pureT, pureL, E_bool])
    · have h := it_neg hc2 h
      refine c_cond hS rfl (fun hf => tt_absurd hc2 hf) (fun _ => ?_)
      refine c_skip ?_
      refine sq_n ?_
      refine c_seq ?_
      refine c_region ?_
      refine q_seg 1 [(4, .bool true)] hS (by kernel_rfl) ?_; intro s hS
      refine x_nil ?_
      refine sq_n ?_
      refine c_ret ?_
      injection h with h; subst h
      exact end_W hH (r_tmp (v := .bool true) hS rfl r_nil) rfl (by kernel_rfl) (by simp [pureT, pureL, E_bool])
end Go.Am
end
section
set_option maxRecDepth 100000
set_option maxHeartbeats 1000000
set_option linter.unusedVariables false
set_option linter.unusedSimpArgs false
namespace Go.Am
open Go.Proofs
noncomputable def B_laws_eqFunction (a0 : DFunction) (a1 : DFunction) : Option Bool := (if (!decide (a0.Name = a1.Name)) = true then (some false) else ((F_laws_eqStringS a0.Params a1.Params).bind fun y1 => (if (!y1) = true then (some false) else ((F_laws_eqStringS a0.Locals a1.Locals).bind fun y2 => (if (!y2) = true then (some false) else (if (!decide (a0.Label = a1.Label)) = true then (some false) else (some true)))))))
theorem u_laws_eqFunction (a0 : DFunction) (a1 : DFunction) (r : Bool) (h : B_laws_eqFunction a0 a1 = some r) : F_laws_eqFunction a0 a1 = some r := by
  unfold B_laws_eqFunction at h
  refine semW_of E_bool_inj rfl rfl ok_87 rfl (all_cons (by kernel_rfl) (all_cons (by kernel_rfl) all_nil)) ?_
  intro σ0 s hS hH
  have hS := sub_to (L' := [(0, .agg (DFunction.cells a0)), (1, .agg (DFunction.cells a1))]) hS (by kernel_rfl)
  refine c_seq ?_
  refine c_region ?_
  refine q_box (v := .agg (DFunction.cells a0)) (cs := [.str a0.Name, (Sl.t (a0.Params : Sl ByteArray)), (Sl.t (a0.Locals : Sl ByteArray)), .str a0.Label]) rfl hS hH rfl rfl (by kernel_rfl) ?_; intro b1 σ s hH hS
  refine q_box (v := .agg (DFunction.cells a1)) (cs := [.str a1.Name, (Sl.t (a1.Params : Sl ByteArray)), (Sl.t (a1.Locals : Sl ByteArray)), .str a1.Label]) rfl hS hH rfl rfl (by kernel_rfl) ?_; intro b2 σ s hH hS
  refine q_seg 1 [(2, .ptr b1 0 0 4), (3, .ptr b2 0 0 4)] hS (by kernel_rfl) ?_; intro s hS
  refine x_nil ?_
  refine sq_n ?_
  refine c_seq ?_
  refine c_seq ?_
  refine c_region ?_
  refine q_seg 1 [(2, .ptr b1 0 0 4), (3, .ptr b2 0 0 4), (5, .ptr b1 0 0 1)] hS (by kernel_rfl) ?_; intro s hS
  refine q_load (v := .str a0.Name) 1 trivial rfl hS hH rfl rfl (by kernel_rfl) ?_; intro s hS
  refine q_seg 1 [(2, .ptr b1 0 0 4), (3, .ptr b2 0 0 4), (6, .str a0.Name), (7, .ptr b2 0 0 1)] hS (by kernel_rfl) ?_; intro s hS
  refine q_load (v := .str a1.Name) 0 trivial rfl hS hH rfl rfl (by kernel_rfl) ?_; intro s hS
  refine q_seg 1 [(2, .ptr b1 0 0 4), (3, .ptr b2 0 0 4), (9, .bool (!decide (a0.Name = a1.Name)))] hS (by kernel_rfl) ?_; intro s hS
  refine x_nil ?_
  refine sq_n ?_
  by_cases hc1 : (!decide (a0.Name = a1.Name)) = true
  · have h := it_pos hc1 h
    refine c_cond hS rfl (fun _ => ?_) (fun hf => ff_absurd hc1 hf)
    refine c_seq ?_
    refine c_region ?_
    refine q_seg 1 [(4, .bool false)] hS (by kernel_rfl) ?_; intro s hS
    refine x_nil ?_
    refine sq_n ?_
    refine c_ret ?_
    refine sq_r ?_
    injection h with h; subst h
    exact end_W hH (r_tmp (v := .bool false) hS rfl r_nil) rfl (by kernel_rfl) (by simp [pureT, pureL, E_bool])
  · have h := it_neg hc1 h
    refine c_cond hS rfl (fun hf => tt_absurd hc1 hf) (fun _ => ?_)
    refine c_skip ?_
    refine sq_n ?_
    refine c_seq ?_
    refine c_seq ?_
    refine c_region ?_
    refine q_seg 1 [(2, .ptr b1 0 0 4), (3, .ptr b2 0 0 4), (10, .ptr b1 0 1 1)] hS (by kernel_rfl) ?_; intro s hS
    refine q_load (v := (Sl.t (a0.Params : Sl ByteArray))) 1 trivial rfl hS hH rfl rfl (by kernel_rfl) ?_; intro s hS
    refine q_seg 1 [(2, .ptr b1 0 0 4), (3, .ptr b2 0 0 4), (11, (Sl.t (a0.Params : Sl ByteArray))), (12, .ptr b2 0 1 1)] hS (by kernel_rfl) ?_; intro s hS
    refine q_load (v := (Sl.t (a1.Params : Sl ByteArray))) 0 trivial rfl hS hH rfl rfl (by kernel_rfl) ?_; intro s hS
    obtain ⟨y1, hy1, h⟩ := bind_some h
    refine q_callF (a := []) (b := []) (xs := [(Sl.t (a0.Params : Sl ByteArray)), (Sl.t (a1.Params : Sl ByteArray))]) rfl hS rfl rfl hy1 ?_; intro s hS
    refine q_seg 1 [(2, .ptr b1 0 0 4), (3, .ptr b2 0 0 4), (15, .bool (!y1))] hS (by kernel_rfl) ?_; intro s hS
    refine x_nil ?_
    refine sq_n ?_
    by_cases hc2 : (!y1) = true
    · have h := it_pos hc2 h
      refine c_cond hS rfl (fun _ => ?_) (fun hf => ff_absurd hc2 hf)
      refine c_seq ?_
      refine c_region ?_
      refine q_seg 1 [(4, .bool false)] hS (by kernel_rfl) ?_; intro s hS
      refine x_nil ?_
      refine sq_n ?_
      refine c_ret ?_
      refine sq_r ?_
      injection h with h; subst h
      exact end_W hH (r_tmp (v := .bool false) hS rfl r_nil) rfl (by kernel_rfl) (by simp [pureT, pureL, E_bool])
    · have h := it_neg hc2 h
      refine c_cond hS rfl (fun hf => tt_absurd hc2 hf) (fun _ => ?_)
      refine c_skip ?_
      refine sq_n ?_
      refine c_seq ?_
      refine c_seq ?_
      refine c_region ?_
      refine q_seg 1 [(2, .ptr b1 0 0 4), (3, .ptr b2 0 0 4), (16, .ptr b1 0 2 1)] hS (by kernel_rfl) ?_; intro s hS
      refine q_load (v := (Sl.t (a0.Locals : Sl ByteArray))) 1 trivial rfl hS hH rfl rfl (by kernel_rfl) ?_; intro s hS
      refine q_seg 1 [(2, .ptr b1 0 0 4), (3, .ptr b2 0 0 4), (17, (Sl.t (a0.Locals : Sl ByteArray))), (18, .ptr b2 0 2 1)] hS (by kernel_rfl) ?_; intro s hS
      refine q_load (v := (Sl.t (a1.Locals : Sl ByteArray))) 0 trivial rfl hS hH rfl rfl (by kernel_rfl) ?_; intro s hS
      obtain ⟨y2, hy2, h⟩ := bind_some h
      refine q_callF (a := []) (b := []) (xs := [(Sl.t (a0.Locals : Sl ByteArray)), (Sl.t (a1.Locals : Sl ByteArray))]) rfl hS rfl rfl hy2 ?_; intro s hS
      refine q_seg 1 [(2, .ptr b1 0 0 4), (3, .ptr b2 0 0 4), (21, .bool (!y2))] hS (by kernel_rfl) ?_; intro s hS
      refine x_nil ?_
      refine sq_n ?_
      by_cases hc3 : (!y2) = true
      · have h := it_pos hc3 h
        refine c_cond hS rfl (fun _ => ?_) (fun hf => ff_absurd hc3 hf)
        refine c_seq ?_
        refine c_region ?_
        refine q_seg 1 [(4, .bool false)] hS (by kernel_rfl) ?_; intro s hS
        refine x_nil ?_
        refine sq_n ?_
        refine c_ret ?_
        refine sq_r ?_
        injection h with h; subst h
        exact end_W hH (r_tmp (v := .bool false) hS rfl r_nil) rfl (by kernel_rfl) (by simp [pureT, pureL, E_bool])
      · have h := it_neg hc3 h
        refine c_cond hS rfl (fun hf => tt_absurd hc3 hf) (fun _ => ?_)
        refine c_skip ?_
        refine sq_n ?_
        refine c_seq ?_
        refine c_seq ?_
        refine c_region ?_
        refine q_seg 1 [(3, .ptr b2 0 0 4), (22, .ptr b1 0 3 1)] hS (by kernel_rfl) ?_; intro s hS
        refine q_load (v := .str a0.Label) 1 trivial rfl hS hH rfl rfl (by kernel_rfl) ?_; intro s hS
        refine q_seg 1 [(23, .str a0.Label), (24, .ptr b2 0 3 1)] hS (by kernel_rfl) ?_; intro s hS
        refine q_load (v := .str a1.Label) 0 trivial rfl hS hH rfl rfl (by kernel_rfl) ?_; intro s hS
        refine q_seg 1 [(26, .bool (!decide (a0.Label = a1.Label)))] hS (by kernel_rfl) ?_; intro s hS
        refine x_nil ?_
        refine sq_n ?_
        by_cases hc4 : (!decide (a0.Label = a1.Label)) = true
        · have h := it_pos hc4 h
          refine c_cond hS rfl (fun _ => ?_) (fun hf => ff_absurd hc4 hf)
          refine c_seq ?_
          refine c_region ?_
          refine q_seg 1 [(4, .bool false)] hS (by kernel_rfl) ?_; intro s hS
          refine x_nil ?_
          refine sq_n ?_
          refine c_ret ?_
          refine sq_r ?_
          injection h with h; subst h
          exact end_W hH (r_tmp (v := .bool false) hS rfl r_nil) rfl (by kernel_rfl) (by simp [pureT, pureL, E_bool])
        · have h := it_neg hc4 h
          refine c_cond hS rfl (fun hf => tt_absurd hc4 hf) (fun _ => ?_)
          refine c_skip ?_
          refine sq_n ?_
          refine c_seq ?_
          refine c_region ?_
          refine q_seg 1 [(4, .bool true)] hS (by kernel_rfl) ?_; intro s hS
          refine x_nil ?_
          refine sq_n ?_
          refine c_ret ?_
          injection h with h; subst h
          exact end_W hH (r_tmp (v := .bool true) hS rfl r_nil) rfl (by kernel_rfl) (by simp [pureT, pureL, E_bool])
end Go.Am
end
section
set_option maxRecDepth 100000
set_option maxHeartbeats 1000000
set_option linter.unusedVariables false
set_option linter.unusedSimpArgs false
namespace Go.Am
open Go.Proofs
noncomputable def B_laws_eqRecordType (a0 : DRecordType) (a1 : DRecordType) : Option Bool := (if (!decide (a0.Name = a1.Name)) = true then (some false) else ((F_laws_eqStringS a0.Fields a1.Fields).bind fun y1 => (if (!y1) = true then (some false) else (some true))))
theorem u_laws_eqRecordType (a0 : DRecordType) (a1 : DRecordType) (r : Bool) (h : B_laws_eqRecordType a0 a1 = some r) : F_laws_eqRecordType a0 a1 = some r := by
  unfold B_laws_eqRecordType at h
  refine semW_of E_bool_inj rfl rfl ok_88 rfl (all_cons (by kernel_rfl) (all_cons (by kernel_rfl) all_nil)) ?_
  intro σ0 s hS hH
  have hS := sub_to (L' := [(0, .agg (DRecordType.cells a0)), (1, .agg (DRecordType.cells a1))]) hS (by kernel_rfl)
  refine c_seq ?_
  refine c_region ?_
  refine q_box (v := .agg (DRecordType.cells a0)) (cs := [.str a0.Name, (Sl.t (a0.Fields : Sl ByteArray))]) rfl hS hH rfl rfl (by kernel_rfl) ?_; intro b1 σ s hH hS
  refine q_box (v := .agg (DRecordType.cells a1)) (cs := [.str a1.Name, (Sl.t (a1.Fields : Sl ByteArray))]) rfl hS hH rfl rfl (by kernel_rfl) ?_; intro b2 σ s hH hS
  refine q_seg 1 [(2, .ptr b1 0 0 2), (3, .ptr b2 0 0 2)] hS (by kernel_rfl) ?_; intro s hS
  refine x_nil ?_
  refine sq_n ?_
  refine c_seq ?_
  refine c_seq ?_
  refine c_region ?_
  refine q_seg 1 [(2, .ptr b1 0 0 2), (3, .ptr b2 0 0 2), (5, .ptr b1 0 0 1)] hS (by kernel_rfl) ?_; intro s hS
  refine q_load (v := .str a0.Name) 1 trivial rfl hS hH rfl rfl (by kernel_rfl) ?_; intro s hS
  refine q_seg 1 [(2, .ptr b1 0 0 2), (3, .ptr b2 0 0 2), (6, .str a0.Name), (7, .ptr b2 0 0 1)] hS (by kernel_rfl) ?_; intro s hS
  refine q_load (v := .str a1.Name) 0 trivial rfl hS hH rfl rfl (by kernel_rfl) ?_; intro s hS
  refine q_seg 1 [(2, .ptr b1 0 0 2), (3, .ptr b2 0 0 2), (9, .bool (!decide (a0.Name = a1.Name)))] hS (by kernel_rfl) ?_; intro s hS
  refine x_nil ?_
  refine sq_n ?_
  by_cases hc1 : (!decide (a0.Name = a1.Name)) = true
  · have h := it_pos hc1 h
    refine c_cond hS rfl (fun _ => ?_) (fun hf => ff_absurd hc1 hf)
    refine c_seq ?_
    refine c_region ?_
    refine q_seg 1 [(4, .bool false)] hS (by kernel_rfl) ?_; intro s hS
    refine x_nil ?_
    refine sq_n ?_
    refine c_ret ?_
    refine sq_r ?_
    injection h with h; subst h
    exact end_W hH (r_tmp (v := .bool false) hS rfl r_nil) rfl (by kernel_rfl) (by simp [pureT, pureL, E_bool])
  · have h := it_neg hc1 h
    refine c_cond hS rfl (fun hf => tt_absurd hc1 hf) (fun _ => ?_)
    refine c_skip ?_
    refine sq_n ?_
    refine c_seq ?_
    refine c_seq ?_
    refine c_region ?_
    refine q_seg 1 [(3, .ptr b2 0 0 2), (10, .ptr b1 0 1 1)] hS (by kernel_rfl) ?_; intro s hS
    refine q_load (v := (Sl.t (a0.Fields : Sl ByteArray))) 1 trivial rfl hS hH rfl rfl (by kernel_rfl) ?_; intro s hS
    refine q_seg 1 [(11, (Sl.t (a0.Fields : Sl ByteArray))), (12, .ptr b2 0 1 1)] hS (by kernel_rfl) ?_; intro s hS
    refine q_load (v := (Sl.t (a1.Fields : Sl ByteArray))) 0 trivial rfl hS hH rfl rfl (by kernel_rfl) ?_; intro s hS
    obtain ⟨y1, hy1, h⟩ := bind_some h
    refine q_callF (a := []) (b := []) (xs := [(Sl.t (a0.Fields : Sl ByteArray)), (Sl.t (a1.Fields : Sl ByteArray))]) rfl hS rfl rfl hy1 ?_; intro s hS
    refine q_seg 1 [(15, .bool (!y1))] hS (by kernel_rfl) ?_; intro s hS
    refine x_nil ?_
    refine sq_n ?_
    by_cases hc2 : (!y1) = true
    · have h := it_pos hc2 h
      refine c_cond hS rfl (fun _ => ?_) (fun hf => ff_absurd hc2 hf)
      refine c_seq ?_
      refine c_region ?_
      refine q_seg 1 [(4, .bool false)] hS (by kernel_rfl) ?_; intro s hS
      refine x_nil ?_
      refine sq_n ?_
      refine c_ret ?_
      refine sq_r ?_
      injection h with h; subst h
      exact end_W hH (r_tmp (v := .bool false) hS rfl r_nil) rfl (by kernel_rfl) (by simp [pureT, pureL, E_bool])
    · have h := it_neg hc2 h
      refine c_cond hS rfl (fun hf => tt_absurd hc2 hf) (fun _ => ?_)
      refine c_skip ?_
      refine sq_n ?_
      refine c_seq ?_
      refine c_region ?_
      refine q_seg 1 [(4, .bool true)] hS (by kernel_rfl) ?_; intro s hS
      refine x_nil ?_
      refine sq_n ?_
      refine c_ret ?_
      injection h with h; subst h
      exact end_W hH (r_tmp (v := .bool true) hS rfl r_nil) rfl (by kernel_rfl) (by simp [pureT, pureL, E_bool])
end Go.Am
end
section
set_option maxRecDepth 100000
set_option maxHeartbeats 1000000
set_option linter.unusedVariables false
set_option linter.unusedSimpArgs false
namespace Go.Am
open Go.Proofs
noncomputable def B_laws_eqFile (a0 : DFile) (a1 : DFile) : Option Bool := (if (!decide (a0.Name = a1.Name)) = true then (some false) else ((F_laws_eqStringS a0.Lines a1.Lines).bind fun y1 => (if (!y1) = true then (some false) else (if (!decide (a0.Mode = a1.Mode)) = true then (some false) else (if (!decide (a0.At = a1.At)) = true then (some false) else (some true))))))
theorem u_laws_eqFile (a0 : DFile) (a1 : DFile) (r : Bool) (h : B_laws_eqFile a0 a1 = some r) : F_laws_eqFile a0 a1 = some r := by
  unfold B_laws_eqFile at h
  refine semW_of E_bool_inj rfl rfl ok_89 rfl (all_cons (by kernel_rfl) (all_cons (by kernel_rfl) all_nil)) ?_
  intro σ0 s hS hH
  have hS := sub_to (L' := [(0, .agg (DFile.cells a0)), (1, .agg (DFile.cells a1))]) hS (by kernel_rfl)
  refine c_seq ?_
  refine c_region ?_
  refine q_box (v := .agg (DFile.cells a0)) (cs := [.str a0.Name, (Sl.t (a0.Lines : Sl ByteArray)), .int .i64 a0.Mode, .int .i64 a0.At]) rfl hS hH rfl rfl (by kernel_rfl) ?_; intro b1 σ s hH hS
  refine q_box (v := .agg (DFile.cells a1)) (cs := [.str a1.Name, (Sl.t (a1.Lines : Sl ByteArray)), .int .i64 a1.Mode, .int .i64 a1.At]) rfl hS hH rfl rfl (by kernel_rfl) ?_; intro b2 σ s hH hS
  refine q_seg 1 [(2, .ptr b1 0 0 4), (3, .ptr b2 0 0 4)] hS (by kernel_rfl) ?_; intro s hS
  refine x_nil ?_
  refine sq_n ?_
  refine c_seq ?_
  refine c_seq ?_
  refine c_region ?_
  refine q_seg 1 [(2, .ptr b1 0 0 4), (3, .ptr b2 0 0 4), (5, .ptr b1 0 0 1)] hS (by kernel_rfl) ?_; intro s hS
  refine q_load (v := .str a0.Name) 1 trivial rfl hS hH rfl rfl (by kernel_rfl) ?_; intro s hS
  refine q_seg 1 [(2, .ptr b1 0 0 4), (3, .ptr b2 0 0 4), (6, .str a0.Name), (7, .ptr b2 0 0 1)] hS (by kernel_rfl) ?_; intro s hS
  refine q_load (v := .str a1.Name) 0 trivial rfl hS hH rfl rfl (by kernel_rfl) ?_; intro s hS
  refine q_seg 1 [(2, .ptr b1 0 0 4), (3, .ptr b2 0 0 4), (9, .bool (!decide (a0.Name = a1.Name)))] hS (by kernel_rfl) ?_; intro s hS
  refine x_nil ?_
  refine sq_n ?_
  by_cases hc1 : (!decide (a0.Name = a1.Name)) = true
  · have h := it_pos hc1 h
    refine c_cond hS rfl (fun _ => ?_) (fun hf => ff_absurd hc1 hf)
    refine c_seq ?_
    refine c_region ?_
    refine q_seg 1 [(4, .bool false)] hS (by kernel_rfl) ?_; intro s hS
    refine x_nil ?_
    refine sq_n ?_
    refine c_ret ?_
    refine sq_r ?_
    injection h with h; subst h
    exact end_W hH (r_tmp (v := .bool false) hS rfl r_nil) rfl (by kernel_rfl) (by simp [pureT, pureL, E_bool])
  · have h := it_neg hc1 h
    refine c_cond hS rfl (fun hf => tt_absurd hc1 hf) (fun _ => ?_)
    refine c_skip ?_
    refine sq_n ?_
    refine c_seq ?_
    refine c_seq ?_
    refine c_region ?_
    refine q_seg 1 [(2, .ptr b1 0 0 4), (3, .ptr b2 0 0 4), (10, .ptr b1 0 1 1)] hS (by kernel_rfl) ?_; intro s hS
    refine q_load (v := (Sl.t (a0.Lines : Sl ByteArray))) 1 trivial rfl hS hH rfl rfl (by kernel_rfl) ?_; intro s hS
    refine q_seg 1 [(2, .ptr b1 0 0 4), (3, .ptr b2 0 0 4), (11, (Sl.t (a0.Lines : Sl ByteArray))), (12, .ptr b2 0 1 1)] hS (by kernel_rfl) ?_; intro s hS
    refine q_load (v := (Sl.t (a1.Lines : Sl ByteArray))) 0 trivial rfl hS hH rfl rfl (by kernel_rfl) ?_; intro s hS
    obtain ⟨y1, hy1, h⟩ := bind_some h
    refine q_callF (a := []) (b := []) (xs := [(Sl.t (a0.Lines : Sl ByteArray)), (Sl.t (a1.Lines : Sl ByteArray))]) rfl hS rfl rfl hy1 ?_; intro s hS
    refine q_seg 1 [(2, .ptr b1 0 0 4), (3, .ptr b2 0 0 4), (15, .bool (!y1))] hS (by kernel_rfl) ?_; intro s hS
    refine x_nil ?_
    refine sq_n ?_
    by_cases hc2 : (!y1) = true
    · have h := it_pos hc2 h
      refine c_cond hS rfl (fun _ => ?_) (fun hf => ff_absurd hc2 hf)
      refine c_seq ?_
      refine c_region ?_
      refine q_seg 1 [(4, .bool false)] hS (by kernel_rfl) ?_; intro s hS
      refine x_nil ?_
      refine sq_n ?_
      refine c_ret ?_
      refine sq_r ?_
      injection h with h; subst h
      exact end_W hH (r_tmp (v := .bool false) hS rfl r_nil) rfl (by kernel_rfl) (by simp [pureT, pureL, E_bool])
    · have h := it_neg hc2 h
      refine c_cond hS rfl (fun hf => tt_absurd hc2 hf) (fun _ => ?_)
      refine c_skip ?_
      refine sq_n ?_
      refine c_seq ?_
      refine c_seq ?_
      refine c_region ?_
      refine q_seg 1 [(2, .ptr b1 0 0 4), (3, .ptr b2 0 0 4), (16, .ptr b1 0 2 1)] hS (by kernel_rfl) ?_; intro s hS
      refine q_load (v := .int .i64 a0.Mode) 1 trivial rfl hS hH rfl rfl (by kernel_rfl) ?_; intro s hS
      refine q_seg 1 [(2, .ptr b1 0 0 4), (3, .ptr b2 0 0 4), (17, .int .i64 a0.Mode), (18, .ptr b2 0 2 1)] hS (by kernel_rfl) ?_; intro s hS
      refine q_load (v := .int .i64 a1.Mode) 0 trivial rfl hS hH rfl rfl (by kernel_rfl) ?_; intro s hS
      refine q_seg 1 [(2, .ptr b1 0 0 4), (3, .ptr b2 0 0 4), (20, .bool (!decide (a0.Mode = a1.Mode)))] hS (by kernel_rfl) ?_; intro s hS
      refine x_nil ?_
      refine sq_n ?_
      by_cases hc3 : (!decide (a0.Mode = a1.Mode)) = true
      · have h := it_pos hc3 h
        refine c_cond hS rfl (fun _ => ?_) (fun hf => ff_absurd hc3 hf)
        refine c_seq ?_
        refine c_region ?_
        refine q_seg 1 [(4, .bool false)] hS (by kernel_rfl) ?_; intro s hS
        refine x_nil ?_
        refine sq_n ?_
        refine c_ret ?_
        refine sq_r ?_
        injection h with h; subst h
        exact end_W hH (r_tmp (v := .bool false) hS rfl r_nil) rfl (by kernel_rfl) (by simp [pureT, pureL, E_bool])
      · have h := it_neg hc3 h
        refine c_cond hS rfl (fun hf => tt_absurd hc3 hf) (fun _ => ?_)
        refine c_skip ?_
        refine sq_n ?_
        refine c_seq ?_
        refine c_seq ?_
        refine c_region ?_
        refine q_seg 1 [(3, .ptr b2 0 0 4), (21, .ptr b1 0 3 1)] hS (by kernel_rfl) ?_; intro s hS
        refine q_load (v := .int .i64 a0.At) 1 trivial rfl hS hH rfl rfl (by kernel_rfl) ?_; intro s hS
        refine q_seg 1 [(22, .int .i64 a0.At), (23, .ptr b2 0 3 1)] hS (by kernel_rfl) ?_; intro s hS
        refine q_load (v := .int .i64 a1.At) 0 trivial rfl hS hH rfl rfl (by kernel_rfl) ?_; intro s hS
        refine q_seg 1 [(25, .bool (!decide (a0.At = a1.At)))] hS (by kernel_rfl) ?_; intro s hS
        refine x_nil ?_
        refine sq_n ?_
        by_cases hc4 : (!decide (a0.At = a1.At)) = true
        · have h := it_pos hc4 h
          refine c_cond hS rfl (fun _ => ?_) (fun hf => ff_absurd hc4 hf)
          refine c_seq ?_
          refine c_region ?_
          refine q_seg 1 [(4, .bool false)] hS (by kernel_rfl) ?_; intro s hS
          refine x_nil ?_
          refine sq_n ?_
          refine c_ret ?_
          refine sq_r ?_
          injection h with h; subst h
          exact end_W hH (r_tmp (v := .bool false) hS rfl r_nil) rfl (by kernel_rfl) (by simp [pureT, pureL, E_bool])
        · have h := it_neg hc4 h
          refine c_cond hS rfl (fun hf => tt_absurd hc4 hf) (fun _ => ?_)
          refine c_skip ?_
          refine sq_n ?_
          refine c_seq ?_
          refine c_region ?_
          refine q_seg 1 [(4, .bool true)] hS (by kernel_rfl) ?_; intro s hS
          refine x_nil ?_
          refine sq_n ?_
          refine c_ret ?_
          injection h with h; subst h
          exact end_W hH (r_tmp (v := .bool true) hS rfl r_nil) rfl (by kernel_rfl) (by simp [pureT, pureL, E_bool])
end Go.Am
end
