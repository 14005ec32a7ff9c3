/- Functions of the program. -/
import Derived.Test.YtnabmjlpdcpaeaaAd0
section
set_option maxRecDepth 100000
set_option maxHeartbeats 1000000
set_option linter.unusedVariables false
set_option linter.unusedSimpArgs false
namespace Go.Am
open Go.Proofs
noncomputable def B_laws_szObject (a0 : DObject) (a1 : Int) : Option Int := (if (decide ((IntKind.i64.wrap (a1 - (a0.Name.size : Int))) < 0)) = true then (some (-1)) else ((F_laws_szValueS a0.Keys (IntKind.i64.wrap (a1 - (a0.Name.size : Int)))).bind fun y1 => (if (decide (y1 < 0)) = true then (some (-1)) else ((F_laws_szValueS a0.Vals y1).bind fun y2 => (if (decide (y2 < 0)) = true then (some (-1)) else ((F_laws_szValue a0.Default y2).bind fun y3 => (if (decide (y3 < 0)) = true then (some (-1)) else (some y3))))))))
theorem u_laws_szObject (a0 : DObject) (a1 : Int) (r : Int) (h : B_laws_szObject a0 a1 = some r) : F_laws_szObject a0 a1 = some r := by
  unfold B_laws_szObject at h
  refine semW_of E_i64_inj rfl rfl ok_92 rfl (all_cons (by kernel_rfl) (all_cons (by kernel_rfl) all_nil)) ?_
  intro σ0 s hS hH
  have hS := sub_to (L' := [(0, .agg (DObject.cells a0)), (1, .int .i64 a1)]) hS (by kernel_rfl)
  refine c_seq ?_
  refine c_region ?_
  refine q_box (v := .agg (DObject.cells a0)) (cs := [.int .i64 a0.Id, .int .i64 a0.Kind, .str a0.Name, .int .i64 a0.Low, (Sl.t (a0.Keys : Sl DValue)), (Sl.t (a0.Vals : Sl DValue)), .int .i64 a0.Default.Kind, .int .i64 a0.Default.Num, .str a0.Default.Text, .int .i64 a0.Default.Ref]) rfl hS hH rfl rfl (by kernel_rfl) ?_; intro b1 σ s hH hS
  refine q_seg 1 [(1, .int .i64 a1), (2, .ptr b1 0 0 10)] hS (by kernel_rfl) ?_; intro s hS
  refine x_nil ?_
  refine sq_n ?_
  refine c_seq ?_
  refine c_region ?_
  refine q_seg 2 [(2, .ptr b1 0 0 10), (5, .int .i64 a1), (6, .ptr b1 0 2 1)] hS (by kernel_rfl) ?_; intro s hS
  refine q_load (v := .str a0.Name) 0 trivial rfl hS hH rfl rfl (by kernel_rfl) ?_; intro s hS
  refine q_seg 3 [(1, .int .i64 (IntKind.i64.wrap (a1 - (a0.Name.size : Int)))), (2, .ptr b1 0 0 10)] hS (by kernel_rfl) ?_; intro s hS
  refine x_nil ?_
  refine sq_n ?_
  refine c_seq ?_
  refine c_seq ?_
  refine c_region ?_
  refine q_seg 2 [(1, .int .i64 (IntKind.i64.wrap (a1 - (a0.Name.size : Int)))), (2, .ptr b1 0 0 10), (11, .bool (decide ((IntKind.i64.wrap (a1 - (a0.Name.size : Int))) < 0)))] hS (by kernel_rfl) ?_; intro s hS
  refine x_nil ?_
  refine sq_n ?_
  by_cases hc1 : (decide ((IntKind.i64.wrap (a1 - (a0.Name.size : Int))) < 0)) = true
  · have h := it_pos hc1 h
    refine c_cond hS rfl (fun _ => ?_) (fun hf => ff_absurd hc1 hf)
    refine c_seq ?_
    refine c_region ?_
    refine q_seg 1 [(4, .int .i64 (-1))] hS (by kernel_rfl) ?_; intro s hS
    refine x_nil ?_
    refine sq_n ?_
    refine c_ret ?_
    refine sq_r ?_
    injection h with h; subst h
    exact end_W hH (r_tmp (v := .int .i64 (-1)) hS rfl r_nil) rfl (by kernel_rfl) (by simp [pureT, pureL, E_i64])
  · have h := it_neg hc1 h
    refine c_cond hS rfl (fun hf => tt_absurd hc1 hf) (fun _ => ?_)
    refine c_skip ?_
    refine sq_n ?_
    refine c_seq ?_
    refine c_region ?_
    refine q_seg 1 [(1, .int .i64 (IntKind.i64.wrap (a1 - (a0.Name.size : Int)))), (2, .ptr b1 0 0 10), (12, .ptr b1 0 4 1)] hS (by kernel_rfl) ?_; intro s hS
    refine q_load (v := (Sl.t (a0.Keys : Sl DValue))) 0 trivial rfl hS hH rfl rfl (by kernel_rfl) ?_; intro s hS
    refine q_seg 1 [(2, .ptr b1 0 0 10), (13, (Sl.t (a0.Keys : Sl DValue))), (14, .int .i64 (IntKind.i64.wrap (a1 - (a0.Name.size : Int))))] hS (by kernel_rfl) ?_; intro s hS
    obtain ⟨y1, hy1, h⟩ := bind_some h
    refine q_callF (a := []) (b := []) (xs := [(Sl.t (a0.Keys : Sl DValue)), .int .i64 (IntKind.i64.wrap (a1 - (a0.Name.size : Int)))]) rfl hS rfl rfl hy1 ?_; intro s hS
    refine q_seg 1 [(1, .int .i64 y1), (2, .ptr b1 0 0 10)] hS (by kernel_rfl) ?_; intro s hS
    refine x_nil ?_
    refine sq_n ?_
    refine c_seq ?_
    refine c_seq ?_
    refine c_region ?_
    refine q_seg 2 [(1, .int .i64 y1), (2, .ptr b1 0 0 10), (17, .bool (decide (y1 < 0)))] hS (by kernel_rfl) ?_; intro s hS
    refine x_nil ?_
    refine sq_n ?_
    by_cases hc2 : (decide (y1 < 0)) = true
    · have h := it_pos hc2 h
      refine c_cond hS rfl (fun _ => ?_) (fun hf => ff_absurd hc2 hf)
      refine c_seq ?_
      refine c_region ?_
      refine q_seg 1 [(4, .int .i64 (-1))] hS (by kernel_rfl) ?_; intro s hS
      refine x_nil ?_
      refine sq_n ?_
      refine c_ret ?_
      refine sq_r ?_
      injection h with h; subst h
      exact end_W hH (r_tmp (v := .int .i64 (-1)) hS rfl r_nil) rfl (by kernel_rfl) (by simp [pureT, pureL, E_i64])
    · have h := it_neg hc2 h
      refine c_cond hS rfl (fun hf => tt_absurd hc2 hf) (fun _ => ?_)
      refine c_skip ?_
      refine sq_n ?_
      refine c_seq ?_
      refine c_region ?_
      refine q_seg 1 [(1, .int .i64 y1), (2, .ptr b1 0 0 10), (18, .ptr b1 0 5 1)] hS (by kernel_rfl) ?_; intro s hS
      refine q_load (v := (Sl.t (a0.Vals : Sl DValue))) 0 trivial rfl hS hH rfl rfl (by kernel_rfl) ?_; intro s hS
      refine q_seg 1 [(2, .ptr b1 0 0 10), (19, (Sl.t (a0.Vals : Sl DValue))), (20, .int .i64 y1)] hS (by kernel_rfl) ?_; intro s hS
      obtain ⟨y2, hy2, h⟩ := bind_some h
      refine q_callF (a := []) (b := []) (xs := [(Sl.t (a0.Vals : Sl DValue)), .int .i64 y1]) rfl hS rfl rfl hy2 ?_; intro s hS
      refine q_seg 1 [(1, .int .i64 y2), (2, .ptr b1 0 0 10)] hS (by kernel_rfl) ?_; intro s hS
      refine x_nil ?_
      refine sq_n ?_
      refine c_seq ?_
      refine c_seq ?_
      refine c_region ?_
      refine q_seg 2 [(1, .int .i64 y2), (2, .ptr b1 0 0 10), (23, .bool (decide (y2 < 0)))] hS (by kernel_rfl) ?_; intro s hS
      refine x_nil ?_
      refine sq_n ?_
      by_cases hc3 : (decide (y2 < 0)) = true
      · have h := it_pos hc3 h
        refine c_cond hS rfl (fun _ => ?_) (fun hf => ff_absurd hc3 hf)
        refine c_seq ?_
        refine c_region ?_
        refine q_seg 1 [(4, .int .i64 (-1))] hS (by kernel_rfl) ?_; intro s hS
        refine x_nil ?_
        refine sq_n ?_
        refine c_ret ?_
        refine sq_r ?_
        injection h with h; subst h
        exact end_W hH (r_tmp (v := .int .i64 (-1)) hS rfl r_nil) rfl (by kernel_rfl) (by simp [pureT, pureL, E_i64])
      · have h := it_neg hc3 h
        refine c_cond hS rfl (fun hf => tt_absurd hc3 hf) (fun _ => ?_)
        refine c_skip ?_
        refine sq_n ?_
        refine c_seq ?_
        refine c_region ?_
        refine q_seg 1 [(1, .int .i64 y2), (24, .ptr b1 0 6 4)] hS (by kernel_rfl) ?_; intro s hS
        refine q_load (v := .agg (DValue.cells a0.Default)) 0 trivial rfl hS hH rfl rfl (by kernel_rfl) ?_; intro s hS
        refine q_seg 1 [(25, .agg (DValue.cells a0.Default)), (26, .int .i64 y2)] hS (by kernel_rfl) ?_; intro s hS
        obtain ⟨y3, hy3, h⟩ := bind_some h
        refine q_callF (a := []) (b := []) (xs := [.agg (DValue.cells a0.Default), .int .i64 y2]) rfl hS rfl rfl hy3 ?_; intro s hS
        refine q_seg 1 [(1, .int .i64 y3)] hS (by kernel_rfl) ?_; intro s hS
        refine x_nil ?_
        refine sq_n ?_
        refine c_seq ?_
        refine c_seq ?_
        refine c_region ?_
        refine q_seg 2 [(1, .int .i64 y3), (29, .bool (decide (y3 < 0)))] hS (by kernel_rfl) ?_; intro s hS
        refine x_nil ?_
        refine sq_n ?_
        by_cases hc4 : (decide (y3 < 0)) = true
        · have h := it_pos hc4 h
          refine c_cond hS rfl (fun _ => ?_) (fun hf => ff_absurd hc4 hf)
          refine c_seq ?_
          refine c_region ?_
          refine q_seg 1 [(4, .int .i64 (-1))] hS (by kernel_rfl) ?_; intro s hS
          refine x_nil ?_
          refine sq_n ?_
          refine c_ret ?_
          refine sq_r ?_
          injection h with h; subst h
          exact end_W hH (r_tmp (v := .int .i64 (-1)) hS rfl r_nil) rfl (by kernel_rfl) (by simp [pureT, pureL, E_i64])
        · have h := it_neg hc4 h
          refine c_cond hS rfl (fun hf => tt_absurd hc4 hf) (fun _ => ?_)
          refine c_skip ?_
          refine sq_n ?_
          refine c_seq ?_
          refine c_region ?_
          refine q_seg 2 [(4, .int .i64 y3)] hS (by kernel_rfl) ?_; intro s hS
          refine x_nil ?_
          refine sq_n ?_
          refine c_ret ?_
          injection h with h; subst h
          exact end_W hH (r_tmp (v := .int .i64 y3) hS rfl r_nil) rfl (by kernel_rfl) (by simp [pureT, pureL, E_i64])
end Go.Am
end
section
set_option maxRecDepth 100000
set_option maxHeartbeats 1000000
set_option linter.unusedVariables false
set_option linter.unusedSimpArgs false
namespace Go.Am
open Go.Proofs
noncomputable def B_laws_szBinding (a0 : DBinding) (a1 : Int) : Option Int := (if (decide ((IntKind.i64.wrap (a1 - (a0.Name.size : Int))) < 0)) = true then (some (-1)) else ((F_laws_szValue a0.Value (IntKind.i64.wrap (a1 - (a0.Name.size : Int)))).bind fun y1 => (if (decide (y1 < 0)) = true then (some (-1)) else (some y1))))
theorem u_laws_szBinding (a0 : DBinding) (a1 : Int) (r : Int) (h : B_laws_szBinding a0 a1 = some r) : F_laws_szBinding a0 a1 = some r := by
  unfold B_laws_szBinding at h
  refine semW_of E_i64_inj rfl rfl ok_93 rfl (all_cons (by kernel_rfl) (all_cons (by kernel_rfl) all_nil)) ?_
  intro σ0 s hS hH
  have hS := sub_to (L' := [(0, .agg (DBinding.cells a0)), (1, .int .i64 a1)]) hS (by kernel_rfl)
  refine c_seq ?_
  refine c_region ?_
  refine q_box (v := .agg (DBinding.cells a0)) (cs := [.str a0.Name, .int .i64 a0.Value.Kind, .int .i64 a0.Value.Num, .str a0.Value.Text, .int .i64 a0.Value.Ref]) rfl hS hH rfl rfl (by kernel_rfl) ?_; intro b1 σ s hH hS
  refine q_seg 1 [(1, .int .i64 a1), (2, .ptr b1 0 0 5)] hS (by kernel_rfl) ?_; intro s hS
  refine x_nil ?_
  refine sq_n ?_
  refine c_seq ?_
  refine c_region ?_
  refine q_seg 2 [(2, .ptr b1 0 0 5), (5, .int .i64 a1), (6, .ptr b1 0 0 1)] hS (by kernel_rfl) ?_; intro s hS
  refine q_load (v := .str a0.Name) 0 trivial rfl hS hH rfl rfl (by kernel_rfl) ?_; intro s hS
  refine q_seg 3 [(1, .int .i64 (IntKind.i64.wrap (a1 - (a0.Name.size : Int)))), (2, .ptr b1 0 0 5)] hS (by kernel_rfl) ?_; intro s hS
  refine x_nil ?_
  refine sq_n ?_
  refine c_seq ?_
  refine c_seq ?_
  refine c_region ?_
  refine q_seg 2 [(1, .int .i64 (IntKind.i64.wrap (a1 - (a0.Name.size : Int)))), (2, .ptr b1 0 0 5), (11, .bool (decide ((IntKind.i64.wrap (a1 - (a0.Name.size : Int))) < 0)))] hS (by kernel_rfl) ?_; intro s hS
  refine x_nil ?_
  refine sq_n ?_
  by_cases hc1 : (decide ((IntKind.i64.wrap (a1 - (a0.Name.size : Int))) < 0)) = true
  · have h := it_pos hc1 h
    refine c_cond hS rfl (fun _ => ?_) (fun hf => ff_absurd hc1 hf)
    refine c_seq ?_
    refine c_region ?_
    refine q_seg 1 [(4, .int .i64 (-1))] hS (by kernel_rfl) ?_; intro s hS
    refine x_nil ?_
    refine sq_n ?_
    refine c_ret ?_
    refine sq_r ?_
    injection h with h; subst h
    exact end_W hH (r_tmp (v := .int .i64 (-1)) hS rfl r_nil) rfl (by kernel_rfl) (by simp [pureT, pureL, E_i64])
  · have h := it_neg hc1 h
    refine c_cond hS rfl (fun hf => tt_absurd hc1 hf) (fun _ => ?_)
    refine c_skip ?_
    refine sq_n ?_
    refine c_seq ?_
    refine c_region ?_
    refine q_seg 1 [(1, .int .i64 (IntKind.i64.wrap (a1 - (a0.Name.size : Int)))), (12, .ptr b1 0 1 4)] hS (by kernel_rfl) ?_; intro s hS
    refine q_load (v := .agg (DValue.cells a0.Value)) 0 trivial rfl hS hH rfl rfl (by kernel_rfl) ?_; intro s hS
    refine q_seg 1 [(13, .agg (DValue.cells a0.Value)), (14, .int .i64 (IntKind.i64.wrap (a1 - (a0.Name.size : Int))))] hS (by kernel_rfl) ?_; intro s hS
    obtain ⟨y1, hy1, h⟩ := bind_some h
    refine q_callF (a := []) (b := []) (xs := [.agg (DValue.cells a0.Value), .int .i64 (IntKind.i64.wrap (a1 - (a0.Name.size : Int)))]) rfl hS rfl rfl hy1 ?_; intro s hS
    refine q_seg 1 [(1, .int .i64 y1)] hS (by kernel_rfl) ?_; intro s hS
    refine x_nil ?_
    refine sq_n ?_
    refine c_seq ?_
    refine c_seq ?_
    refine c_region ?_
    refine q_seg 2 [(1, .int .i64 y1), (17, .bool (decide (y1 < 0)))] hS (by kernel_rfl) ?_; intro s hS
    refine x_nil ?_
    refine sq_n ?_
    by_cases hc2 : (decide (y1 < 0)) = true
    · have h := it_pos hc2 h
      refine c_cond hS rfl (fun _ => ?_) (fun hf => ff_absurd hc2 hf)
      refine c_seq ?_
      refine c_region ?_
      refine q_seg 1 [(4, .int .i64 (-1))] hS (by kernel_rfl) ?_; intro s hS
      refine x_nil ?_
      refine sq_n ?_
      refine c_ret ?_
      refine sq_r ?_
      injection h with h; subst h
      exact end_W hH (r_tmp (v := .int .i64 (-1)) hS rfl r_nil) rfl (by kernel_rfl) (by simp [pureT, pureL, E_i64])
    · have h := it_neg hc2 h
      refine c_cond hS rfl (fun hf => tt_absurd hc2 hf) (fun _ => ?_)
      refine c_skip ?_
      refine sq_n ?_
      refine c_seq ?_
      refine c_region ?_
      refine q_seg 2 [(4, .int .i64 y1)] hS (by kernel_rfl) ?_; intro s hS
      refine x_nil ?_
      refine sq_n ?_
      refine c_ret ?_
      injection h with h; subst h
      exact end_W hH (r_tmp (v := .int .i64 y1) hS rfl r_nil) rfl (by kernel_rfl) (by simp [pureT, pureL, E_i64])
end Go.Am
end
section
set_option maxRecDepth 100000
set_option maxHeartbeats 1000000
set_option linter.unusedVariables false
set_option linter.unusedSimpArgs false
namespace Go.Am
open Go.Proofs
noncomputable def B_laws_szFunction (a0 : DFunction) (a1 : Int) : Option Int := (if (decide ((IntKind.i64.wrap (a1 - (a0.Name.size : Int))) < 0)) = true then (some (-1)) else ((F_laws_szStringS a0.Params (IntKind.i64.wrap (a1 - (a0.Name.size : Int)))).bind fun y1 => (if (decide (y1 < 0)) = true then (some (-1)) else ((F_laws_szStringS a0.Locals y1).bind fun y2 => (if (decide (y2 < 0)) = true then (some (-1)) else (if (decide ((IntKind.i64.wrap (y2 - (a0.Label.size : Int))) < 0)) = true then (some (-1)) else (some (IntKind.i64.wrap (y2 - (a0.Label.size : Int))))))))))
theorem u_laws_szFunction (a0 : DFunction) (a1 : Int) (r : Int) (h : B_laws_szFunction a0 a1 = some r) : F_laws_szFunction a0 a1 = some r := by
  unfold B_laws_szFunction at h
  refine semW_of E_i64_inj rfl rfl ok_94 rfl (all_cons (by kernel_rfl) (all_cons (by kernel_rfl) all_nil)) ?_
  intro σ0 s hS hH
  have hS := sub_to (L' := [(0, .agg (DFunction.cells a0)), (1, .int .i64 a1)]) hS (by kernel_rfl)
  refine c_seq ?_
  refine c_region ?_
  refine q_box (v := .agg (DFunction.cells a0)) (cs := [.str a0.Name, (Sl.t (a0.Params : Sl ByteArray)), (Sl.t (a0.Locals : Sl ByteArray)), .str a0.Label]) rfl hS hH rfl rfl (by kernel_rfl) ?_; intro b1 σ s hH hS
  refine q_seg 1 [(1, .int .i64 a1), (2, .ptr b1 0 0 4)] hS (by kernel_rfl) ?_; intro s hS
  refine x_nil ?_
  refine sq_n ?_
  refine c_seq ?_
  refine c_region ?_
  refine q_seg 2 [(2, .ptr b1 0 0 4), (5, .int .i64 a1), (6, .ptr b1 0 0 1)] hS (by kernel_rfl) ?_; intro s hS
  refine q_load (v := .str a0.Name) 0 trivial rfl hS hH rfl rfl (by kernel_rfl) ?_; intro s hS
  refine q_seg 3 [(1, .int .i64 (IntKind.i64.wrap (a1 - (a0.Name.size : Int)))), (2, .ptr b1 0 0 4)] hS (by kernel_rfl) ?_; intro s hS
  refine x_nil ?_
  refine sq_n ?_
  refine c_seq ?_
  refine c_seq ?_
  refine c_region ?_
  refine q_seg 2 [(1, .int .i64 (IntKind.i64.wrap (a1 - (a0.Name.size : Int)))), (2, .ptr b1 0 0 4), (11, .bool (decide ((IntKind.i64.wrap (a1 - (a0.Name.size : Int))) < 0)))] hS (by kernel_rfl) ?_; intro s hS
  refine x_nil ?_
  refine sq_n ?_
  by_cases hc1 : (decide ((IntKind.i64.wrap (a1 - (a0.Name.size : Int))) < 0)) = true
  · have h := it_pos hc1 h
    refine c_cond hS rfl (fun _ => ?_) (fun hf => ff_absurd hc1 hf)
    refine c_seq ?_
    refine c_region ?_
    refine q_seg 1 [(4, .int .i64 (-1))] hS (by kernel_rfl) ?_; intro s hS
    refine x_nil ?_
    refine sq_n ?_
    refine c_ret ?_
    refine sq_r ?_
    injection h with h; subst h
    exact end_W hH (r_tmp (v := .int .i64 (-1)) hS rfl r_nil) rfl (by kernel_rfl) (by simp [pureT, pureL, E_i64])
  · have h := it_neg hc1 h
    refine c_cond hS rfl (fun hf => tt_absurd hc1 hf) (fun _ => ?_)
    refine c_skip ?_
    refine sq_n ?_
    refine c_seq ?_
    refine c_region ?_
    refine q_seg 1 [(1, .int .i64 (IntKind.i64.wrap (a1 - (a0.Name.size : Int)))), (2, .ptr b1 0 0 4), (12, .ptr b1 0 1 1)] hS (by kernel_rfl) ?_; intro s hS
    refine q_load (v := (Sl.t (a0.Params : Sl ByteArray))) 0 trivial rfl hS hH rfl rfl (by kernel_rfl) ?_; intro s hS
    refine q_seg 1 [(2, .ptr b1 0 0 4), (13, (Sl.t (a0.Params : Sl ByteArray))), (14, .int .i64 (IntKind.i64.wrap (a1 - (a0.Name.size : Int))))] hS (by kernel_rfl) ?_; intro s hS
    obtain ⟨y1, hy1, h⟩ := bind_some h
    refine q_callF (a := []) (b := []) (xs := [(Sl.t (a0.Params : Sl ByteArray)), .int .i64 (IntKind.i64.wrap (a1 - (a0.Name.size : Int)))]) rfl hS rfl rfl hy1 ?_; intro s hS
    refine q_seg 1 [(1, .int .i64 y1), (2, .ptr b1 0 0 4)] hS (by kernel_rfl) ?_; intro s hS
    refine x_nil ?_
    refine sq_n ?_
    refine c_seq ?_
    refine c_seq ?_
    refine c_region ?_
    refine q_seg 2 [(1, .int .i64 y1), (2, .ptr b1 0 0 4), (17, .bool (decide (y1 < 0)))] hS (by kernel_rfl) ?_; intro s hS
    refine x_nil ?_
    refine sq_n ?_
    by_cases hc2 : (decide (y1 < 0)) = true
    · have h := it_pos hc2 h
      refine c_cond hS rfl (fun _ => ?_) (fun hf => ff_absurd hc2 hf)
      refine c_seq ?_
      refine c_region ?_
      refine q_seg 1 [(4, .int .i64 (-1))] hS (by kernel_rfl) ?_; intro s hS
      refine x_nil ?_
      refine sq_n ?_
      refine c_ret ?_
      refine sq_r ?_
      injection h with h; subst h
      exact end_W hH (r_tmp (v := .int .i64 (-1)) hS rfl r_nil) rfl (by kernel_rfl) (by simp [pureT, pureL, E_i64])
    · have h := it_neg hc2 h
      refine c_cond hS rfl (fun hf => tt_absurd hc2 hf) (fun _ => ?_)
      refine c_skip ?_
      refine sq_n ?_
      refine c_seq ?_
      refine c_region ?_
      refine q_seg 1 [(1, .int .i64 y1), (2, .ptr b1 0 0 4), (18, .ptr b1 0 2 1)] hS (by kernel_rfl) ?_; intro s hS
      refine q_load (v := (Sl.t (a0.Locals : Sl ByteArray))) 0 trivial rfl hS hH rfl rfl (by kernel_rfl) ?_; intro s hS
      refine q_seg 1 [(2, .ptr b1 0 0 4), (19, (Sl.t (a0.Locals : Sl ByteArray))), (20, .int .i64 y1)] hS (by kernel_rfl) ?_; intro s hS
      obtain ⟨y2, hy2, h⟩ := bind_some h
      refine q_callF (a := []) (b := []) (xs := [(Sl.t (a0.Locals : Sl ByteArray)), .int .i64 y1]) rfl hS rfl rfl hy2 ?_; intro s hS
      refine q_seg 1 [(1, .int .i64 y2), (2, .ptr b1 0 0 4)] hS (by kernel_rfl) ?_; intro s hS
      refine x_nil ?_
      refine sq_n ?_
      refine c_seq ?_
      refine c_seq ?_
      refine c_region ?_
      refine q_seg 2 [(1, .int .i64 y2), (2, .ptr b1 0 0 4), (23, .bool (decide (y2 < 0)))] hS (by kernel_rfl) ?_; intro s hS
      refine x_nil ?_
      refine sq_n ?_
      by_cases hc3 : (decide (y2 < 0)) = true
      · have h := it_pos hc3 h
        refine c_cond hS rfl (fun _ => ?_) (fun hf => ff_absurd hc3 hf)
        refine c_seq ?_
        refine c_region ?_
        refine q_seg 1 [(4, .int .i64 (-1))] hS (by kernel_rfl) ?_; intro s hS
        refine x_nil ?_
        refine sq_n ?_
        refine c_ret ?_
        refine sq_r ?_
        injection h with h; subst h
        exact end_W hH (r_tmp (v := .int .i64 (-1)) hS rfl r_nil) rfl (by kernel_rfl) (by simp [pureT, pureL, E_i64])
      · have h := it_neg hc3 h
        refine c_cond hS rfl (fun hf => tt_absurd hc3 hf) (fun _ => ?_)
        refine c_skip ?_
        refine sq_n ?_
        refine c_seq ?_
        refine c_region ?_
        refine q_seg 2 [(24, .int .i64 y2), (25, .ptr b1 0 3 1)] hS (by kernel_rfl) ?_; intro s hS
        refine q_load (v := .str a0.Label) 0 trivial rfl hS hH rfl rfl (by kernel_rfl) ?_; intro s hS
        refine q_seg 3 [(1, .int .i64 (IntKind.i64.wrap (y2 - (a0.Label.size : Int))))] hS (by kernel_rfl) ?_; intro s hS
        refine x_nil ?_
        refine sq_n ?_
        refine c_seq ?_
        refine c_seq ?_
        refine c_region ?_
        refine q_seg 2 [(1, .int .i64 (IntKind.i64.wrap (y2 - (a0.Label.size : Int)))), (30, .bool (decide ((IntKind.i64.wrap (y2 - (a0.Label.size : Int))) < 0)))] hS (by kernel_rfl) ?_; intro s hS
        refine x_nil ?_
        refine sq_n ?_
        by_cases hc4 : (decide ((IntKind.i64.wrap (y2 - (a0.Label.size : Int))) < 0)) = true
        · have h := it_pos hc4 h
          refine c_cond hS rfl (fun _ => ?_) (fun hf => ff_absurd hc4 hf)
          refine c_seq ?_
          refine c_region ?_
          refine q_seg 1 [(4, .int .i64 (-1))] hS (by kernel_rfl) ?_; intro s hS
          refine x_nil ?_
          refine sq_n ?_
          refine c_ret ?_
          refine sq_r ?_
          injection h with h; subst h
          exact end_W hH (r_tmp (v := .int .i64 (-1)) hS rfl r_nil) rfl (by kernel_rfl) (by simp [pureT, pureL, E_i64])
        · have h := it_neg hc4 h
          refine c_cond hS rfl (fun hf => tt_absurd hc4 hf) (fun _ => ?_)
          refine c_skip ?_
          refine sq_n ?_
          refine c_seq ?_
          refine c_region ?_
          refine q_seg 2 [(4, .int .i64 (IntKind.i64.wrap (y2 - (a0.Label.size : Int))))] hS (by kernel_rfl) ?_; intro s hS
          refine x_nil ?_
          refine sq_n ?_
          refine c_ret ?_
          injection h with h; subst h
          exact end_W hH (r_tmp (v := .int .i64 (IntKind.i64.wrap (y2 - (a0.Label.size : Int)))) hS rfl r_nil) rfl (by kernel_rfl) (by simp [pureT, pureL, E_i64])
end Go.Am
end
section
set_option maxRecDepth 100000
set_option maxHeartbeats 1000000
set_option linter.unusedVariables false
set_option linter.unusedSimpArgs false
namespace Go.Am
open Go.Proofs
noncomputable def B_laws_szRecordType (a0 : DRecordType) (a1 : Int) : Option Int := (if (decide ((IntKind.i64.wrap (a1 - (a0.Name.size : Int))) < 0)) = true then (some (-1)) else ((F_laws_szStringS a0.Fields (IntKind.i64.wrap (a1 - (a0.Name.size : Int)))).bind fun y1 => (if (decide (y1 < 0)) = true then (some (-1)) else (some y1))))
theorem u_laws_szRecordType (a0 : DRecordType) (a1 : Int) (r : Int) (h : B_laws_szRecordType a0 a1 = some r) : F_laws_szRecordType a0 a1 = some r := by
  unfold B_laws_szRecordType at h
  refine semW_of E_i64_inj rfl rfl ok_95 rfl (all_cons (by kernel_rfl) (all_cons (by kernel_rfl) all_nil)) ?_
  intro σ0 s hS hH
  have hS := sub_to (L' := [(0, .agg (DRecordType.cells a0)), (1, .int .i64 a1)]) hS (by kernel_rfl)
  refine c_seq ?_
  refine c_region ?_
  refine q_box (v := .agg (DRecordType.cells a0)) (cs := [.str a0.Name, (Sl.t (a0.Fields : Sl ByteArray))]) rfl hS hH rfl rfl (by kernel_rfl) ?_; intro b1 σ s hH hS
  refine q_seg 1 [(1, .int .i64 a1), (2, .ptr b1 0 0 2)] hS (by kernel_rfl) ?_; intro s hS
  refine x_nil ?_
  refine sq_n ?_
  refine c_seq ?_
  refine c_region ?_
  refine q_seg 2 [(2, .ptr b1 0 0 2), (5, .int .i64 a1), (6, .ptr b1 0 0 1)] hS (by kernel_rfl) ?_; intro s hS
  refine q_load (v := .str a0.Name) 0 trivial rfl hS hH rfl rfl (by kernel_rfl) ?_; intro s hS
  refine q_seg 3 [(1, .int .i64 (IntKind.i64.wrap (a1 - (a0.Name.size : Int)))), (2, .ptr b1 0 0 2)] hS (by kernel_rfl) ?_; intro s hS
  refine x_nil ?_
  refine sq_n ?_
  refine c_seq ?_
  refine c_seq ?_
  refine c_region ?_
  refine q_seg 2 [(1, .int .i64 (IntKind.i64.wrap (a1 - (a0.Name.size : Int)))), (2, .ptr b1 0 0 2), (11, .bool (decide ((IntKind.i64.wrap (a1 - (a0.Name.size : Int))) < 0)))] hS (by kernel_rfl) ?_; intro s hS
  refine x_nil ?_
  refine sq_n ?_
  by_cases hc1 : (decide ((IntKind.i64.wrap (a1 - (a0.Name.size : Int))) < 0)) = true
  · have h := it_pos hc1 h
    refine c_cond hS rfl (fun _ => ?_) (fun hf => ff_absurd hc1 hf)
    refine c_seq ?_
    refine c_region ?_
    refine q_seg 1 [(4, .int .i64 (-1))] hS (by kernel_rfl) ?_; intro s hS
    refine x_nil ?_
    refine sq_n ?_
    refine c_ret ?_
    refine sq_r ?_
    injection h with h; subst h
    exact end_W hH (r_tmp (v := .int .i64 (-1)) hS rfl r_nil) rfl (by kernel_rfl) (by simp [pureT, pureL, E_i64])
  · have h := it_neg hc1 h
    refine c_cond hS rfl (fun hf => tt_absurd hc1 hf) (fun _ => ?_)
    refine c_skip ?_
    refine sq_n ?_
    refine c_seq ?_
    refine c_region ?_
    refine q_seg 1 [(1, .int .i64 (IntKind.i64.wrap (a1 - (a0.Name.size : Int)))), (12, .ptr b1 0 1 1)] hS (by kernel_rfl) ?_; intro s hS
    refine q_load (v := (Sl.t (a0.Fields : Sl ByteArray))) 0 trivial rfl hS hH rfl rfl (by kernel_rfl) ?_; intro s hS
    refine q_seg 1 [(13, (Sl.t (a0.Fields : Sl ByteArray))), (14, .int .i64 (IntKind.i64.wrap (a1 - (a0.Name.size : Int))))] hS (by kernel_rfl) ?_; intro s hS
    obtain ⟨y1, hy1, h⟩ := bind_some h
    refine q_callF (a := []) (b := []) (xs := [(Sl.t (a0.Fields : Sl ByteArray)), .int .i64 (IntKind.i64.wrap (a1 - (a0.Name.size : Int)))]) rfl hS rfl rfl hy1 ?_; intro s hS
    refine q_seg 1 [(1, .int .i64 y1)] hS (by kernel_rfl) ?_; intro s hS
    refine x_nil ?_
    refine sq_n ?_
    refine c_seq ?_
    refine c_seq ?_
    refine c_region ?_
    refine q_seg 2 [(1, .int .i64 y1), (17, .bool (decide (y1 < 0)))] hS (by kernel_rfl) ?_; intro s hS
    refine x_nil ?_
    refine sq_n ?_
    by_cases hc2 : (decide (y1 < 0)) = true
    · have h := it_pos hc2 h
      refine c_cond hS rfl (fun _ => ?_) (fun hf => ff_absurd hc2 hf)
      refine c_seq ?_
      refine c_region ?_
      refine q_seg 1 [(4, .int .i64 (-1))] hS (by kernel_rfl) ?_; intro s hS
      refine x_nil ?_
      refine sq_n ?_
      refine c_ret ?_
      refine sq_r ?_
      injection h with h; subst h
      exact end_W hH (r_tmp (v := .int .i64 (-1)) hS rfl r_nil) rfl (by kernel_rfl) (by simp [pureT, pureL, E_i64])
    · have h := it_neg hc2 h
      refine c_cond hS rfl (fun hf => tt_absurd hc2 hf) (fun _ => ?_)
      refine c_skip ?_
      refine sq_n ?_
      refine c_seq ?_
      refine c_region ?_
      refine q_seg 2 [(4, .int .i64 y1)] hS (by kernel_rfl) ?_; intro s hS
      refine x_nil ?_
      refine sq_n ?_
      refine c_ret ?_
      injection h with h; subst h
      exact end_W hH (r_tmp (v := .int .i64 y1) hS rfl r_nil) rfl (by kernel_rfl) (by simp [pureT, pureL, E_i64])
end Go.Am
end
section
set_option maxRecDepth 100000
set_option maxHeartbeats 1000000
set_option linter.unusedVariables false
set_option linter.unusedSimpArgs false
namespace Go.Am
open Go.Proofs
noncomputable def B_laws_szFile (a0 : DFile) (a1 : Int) : Option Int := (if (decide ((IntKind.i64.wrap (a1 - (a0.Name.size : Int))) < 0)) = true then (some (-1)) else ((F_laws_szStringS a0.Lines (IntKind.i64.wrap (a1 - (a0.Name.size : Int)))).bind fun y1 => (if (decide (y1 < 0)) = true then (some (-1)) else (some y1))))
theorem u_laws_szFile (a0 : DFile) (a1 : Int) (r : Int) (h : B_laws_szFile a0 a1 = some r) : F_laws_szFile a0 a1 = some r := by
  unfold B_laws_szFile at h
  refine semW_of E_i64_inj rfl rfl ok_96 rfl (all_cons (by kernel_rfl) (all_cons (by kernel_rfl) all_nil)) ?_
  intro σ0 s hS hH
  have hS := sub_to (L' := [(0, .agg (DFile.cells a0)), (1, .int .i64 a1)]) hS (by kernel_rfl)
  refine c_seq ?_
  refine c_region ?_
  refine q_box (v := .agg (DFile.cells a0)) (cs := [.str a0.Name, (Sl.t (a0.Lines : Sl ByteArray)), .int .i64 a0.Mode, .int .i64 a0.At]) rfl hS hH rfl rfl (by kernel_rfl) ?_; intro b1 σ s hH hS
  refine q_seg 1 [(1, .int .i64 a1), (2, .ptr b1 0 0 4)] hS (by kernel_rfl) ?_; intro s hS
  refine x_nil ?_
  refine sq_n ?_
  refine c_seq ?_
  refine c_region ?_
  refine q_seg 2 [(2, .ptr b1 0 0 4), (5, .int .i64 a1), (6, .ptr b1 0 0 1)] hS (by kernel_rfl) ?_; intro s hS
  refine q_load (v := .str a0.Name) 0 trivial rfl hS hH rfl rfl (by kernel_rfl) ?_; intro s hS
  refine q_seg 3 [(1, .int .i64 (IntKind.i64.wrap (a1 - (a0.Name.size : Int)))), (2, .ptr b1 0 0 4)] hS (by kernel_rfl) ?_; intro s hS
  refine x_nil ?_
  refine sq_n ?_
  refine c_seq ?_
  refine c_seq ?_
  refine c_region ?_
  refine q_seg 2 [(1, .int .i64 (IntKind.i64.wrap (a1 - (a0.Name.size : Int)))), (2, .ptr b1 0 0 4), (11, .bool (decide ((IntKind.i64.wrap (a1 - (a0.Name.size : Int))) < 0)))] hS (by kernel_rfl) ?_; intro s hS
  refine x_nil ?_
  refine sq_n ?_
  by_cases hc1 : (decide ((IntKind.i64.wrap (a1 - (a0.Name.size : Int))) < 0)) = true
  · have h := it_pos hc1 h
    refine c_cond hS rfl (fun _ => ?_) (fun hf => ff_absurd hc1 hf)
    refine c_seq ?_
    refine c_region ?_
    refine q_seg 1 [(4, .int .i64 (-1))] hS (by kernel_rfl) ?_; intro s hS
    refine x_nil ?_
    refine sq_n ?_
    refine c_ret ?_
    refine sq_r ?_
    injection h with h; subst h
    exact end_W hH (r_tmp (v := .int .i64 (-1)) hS rfl r_nil) rfl (by kernel_rfl) (by simp [pureT, pureL, E_i64])
  · have h := it_neg hc1 h
    refine c_cond hS rfl (fun hf => tt_absurd hc1 hf) (fun _ => ?_)
    refine c_skip ?_
    refine sq_n ?_
    refine c_seq ?_
    refine c_region ?_
    refine q_seg 1 [(1, .int .i64 (IntKind.i64.wrap (a1 - (a0.Name.size : Int)))), (12, .ptr b1 0 1 1)] hS (by kernel_rfl) ?_; intro s hS
    refine q_load (v := (Sl.t (a0.Lines : Sl ByteArray))) 0 trivial rfl hS hH rfl rfl (by kernel_rfl) ?_; intro s hS
    refine q_seg 1 [(13, (Sl.t (a0.Lines : Sl ByteArray))), (14, .int .i64 (IntKind.i64.wrap (a1 - (a0.Name.size : Int))))] hS (by kernel_rfl) ?_; intro s hS
    obtain ⟨y1, hy1, h⟩ := bind_some h
    refine q_callF (a := []) (b := []) (xs := [(Sl.t (a0.Lines : Sl ByteArray)), .int .i64 (IntKind.i64.wrap (a1 - (a0.Name.size : Int)))]) rfl hS rfl rfl hy1 ?_; intro s hS
    refine q_seg 1 [(1, .int .i64 y1)] hS (by kernel_rfl) ?_; intro s hS
    refine x_nil ?_
    refine sq_n ?_
    refine c_seq ?_
    refine c_seq ?_
    refine c_region ?_
    refine q_seg 2 [(1, .int .i64 y1), (17, .bool (decide (y1 < 0)))] hS (by kernel_rfl) ?_; intro s hS
    refine x_nil ?_
    refine sq_n ?_
    by_cases hc2 : (decide (y1 < 0)) = true
    · have h := it_pos hc2 h
      refine c_cond hS rfl (fun _ => ?_) (fun hf => ff_absurd hc2 hf)
      refine c_seq ?_
      refine c_region ?_
      refine q_seg 1 [(4, .int .i64 (-1))] hS (by kernel_rfl) ?_; intro s hS
      refine x_nil ?_
      refine sq_n ?_
      refine c_ret ?_
      refine sq_r ?_
      injection h with h; subst h
      exact end_W hH (r_tmp (v := .int .i64 (-1)) hS rfl r_nil) rfl (by kernel_rfl) (by simp [pureT, pureL, E_i64])
    · have h := it_neg hc2 h
      refine c_cond hS rfl (fun hf => tt_absurd hc2 hf) (fun _ => ?_)
      refine c_skip ?_
      refine sq_n ?_
      refine c_seq ?_
      refine c_region ?_
      refine q_seg 2 [(4, .int .i64 y1)] hS (by kernel_rfl) ?_; intro s hS
      refine x_nil ?_
      refine sq_n ?_
      refine c_ret ?_
      injection h with h; subst h
      exact end_W hH (r_tmp (v := .int .i64 y1) hS rfl r_nil) rfl (by kernel_rfl) (by simp [pureT, pureL, E_i64])
end Go.Am
end
section
set_option maxRecDepth 100000
set_option maxHeartbeats 1000000
set_option linter.unusedVariables false
set_option linter.unusedSimpArgs false
namespace Go.Am
open Go.Proofs
noncomputable def B_spec_l07SameObject (a0 : DObject) (a1 : DObject) : Option Bool := (if (decide (a0.Id = a1.Id)) = true then (if (decide (a0.Kind = a1.Kind)) = true then (if (decide (a0.Name = a1.Name)) = true then (if (decide (a0.Low = a1.Low)) = true then ((F_spec_l07SameValues a0.Keys a1.Keys).bind fun y1 => (if y1 = true then ((F_spec_l07SameValues a0.Vals a1.Vals).bind fun y2 => (if y2 = true then (some (decide (a0.Default.Kind = a1.Default.Kind) && (decide (a0.Default.Num = a1.Default.Num) && (decide (a0.Default.Text = a1.Default.Text) && (decide (a0.Default.Ref = a1.Default.Ref) && true))))) else (some false))) else (some false))) else (some false)) else (some false)) else (some false)) else (some false))
theorem u_spec_l07SameObject (a0 : DObject) (a1 : DObject) (r : Bool) (h : B_spec_l07SameObject a0 a1 = some r) : F_spec_l07SameObject a0 a1 = some r := by
  unfold B_spec_l07SameObject at h
  refine semW_of E_bool_inj rfl rfl ok_97 rfl (all_cons (by kernel_rfl) (all_cons (by kernel_rfl) all_nil)) ?_
  intro σ0 s hS hH
  have hS := sub_to (L' := [(0, .agg (DObject.cells a0)), (1, .agg (DObject.cells a1))]) hS (by kernel_rfl)
  refine c_seq ?_
  refine c_region ?_
  refine q_box (v := .agg (DObject.cells a0)) (cs := [.int .i64 a0.Id, .int .i64 a0.Kind, .str a0.Name, .int .i64 a0.Low, (Sl.t (a0.Keys : Sl DValue)), (Sl.t (a0.Vals : Sl DValue)), .int .i64 a0.Default.Kind, .int .i64 a0.Default.Num, .str a0.Default.Text, .int .i64 a0.Default.Ref]) rfl hS hH rfl rfl (by kernel_rfl) ?_; intro b1 σ s hH hS
  refine q_box (v := .agg (DObject.cells a1)) (cs := [.int .i64 a1.Id, .int .i64 a1.Kind, .str a1.Name, .int .i64 a1.Low, (Sl.t (a1.Keys : Sl DValue)), (Sl.t (a1.Vals : Sl DValue)), .int .i64 a1.Default.Kind, .int .i64 a1.Default.Num, .str a1.Default.Text, .int .i64 a1.Default.Ref]) rfl hS hH rfl rfl (by kernel_rfl) ?_; intro b2 σ s hH hS
  refine q_seg 1 [(2, .ptr b1 0 0 10), (3, .ptr b2 0 0 10)] hS (by kernel_rfl) ?_; intro s hS
  refine x_nil ?_
  refine sq_n ?_
  refine c_seq ?_
  refine c_region ?_
  refine q_seg 1 [(2, .ptr b1 0 0 10), (3, .ptr b2 0 0 10), (5, .ptr b1 0 0 1)] hS (by kernel_rfl) ?_; intro s hS
  refine q_load (v := .int .i64 a0.Id) 1 trivial rfl hS hH rfl rfl (by kernel_rfl) ?_; intro s hS
  refine q_seg 1 [(2, .ptr b1 0 0 10), (3, .ptr b2 0 0 10), (6, .int .i64 a0.Id), (7, .ptr b2 0 0 1)] hS (by kernel_rfl) ?_; intro s hS
  refine q_load (v := .int .i64 a1.Id) 0 trivial rfl hS hH rfl rfl (by kernel_rfl) ?_; intro s hS
  refine q_seg 2 [(10, .bool (decide (a0.Id = a1.Id))), (2, .ptr b1 0 0 10), (3, .ptr b2 0 0 10)] hS (by kernel_rfl) ?_; intro s hS
  by_cases hc1 : (decide (a0.Id = a1.Id)) = true
  · have h := it_pos hc1 h
    have hS := sub_bt hS hc1
    refine q_seg 1 [(2, .ptr b1 0 0 10), (3, .ptr b2 0 0 10), (10, .bool true), (11, .ptr b1 0 1 1)] hS (by kernel_rfl) ?_; intro s hS
    refine q_load (v := .int .i64 a0.Kind) 1 trivial rfl hS hH rfl rfl (by kernel_rfl) ?_; intro s hS
    refine q_seg 1 [(2, .ptr b1 0 0 10), (3, .ptr b2 0 0 10), (10, .bool true), (12, .int .i64 a0.Kind), (13, .ptr b2 0 1 1)] hS (by kernel_rfl) ?_; intro s hS
    refine q_load (v := .int .i64 a1.Kind) 0 trivial rfl hS hH rfl rfl (by kernel_rfl) ?_; intro s hS
    refine q_seg 3 [(17, .bool (decide (a0.Kind = a1.Kind))), (2, .ptr b1 0 0 10), (3, .ptr b2 0 0 10)] hS (by kernel_rfl) ?_; intro s hS
    by_cases hc2 : (decide (a0.Kind = a1.Kind)) = true
    · have h := it_pos hc2 h
      have hS := sub_bt hS hc2
      refine q_seg 1 [(2, .ptr b1 0 0 10), (3, .ptr b2 0 0 10), (17, .bool true), (18, .ptr b1 0 2 1)] hS (by kernel_rfl) ?_; intro s hS
      refine q_load (v := .str a0.Name) 1 trivial rfl hS hH rfl rfl (by kernel_rfl) ?_; intro s hS
      refine q_seg 1 [(2, .ptr b1 0 0 10), (3, .ptr b2 0 0 10), (17, .bool true), (19, .str a0.Name), (20, .ptr b2 0 2 1)] hS (by kernel_rfl) ?_; intro s hS
      refine q_load (v := .str a1.Name) 0 trivial rfl hS hH rfl rfl (by kernel_rfl) ?_; intro s hS
      refine q_seg 3 [(24, .bool (decide (a0.Name = a1.Name))), (2, .ptr b1 0 0 10), (3, .ptr b2 0 0 10)] hS (by kernel_rfl) ?_; intro s hS
      by_cases hc3 : (decide (a0.Name = a1.Name)) = true
      · have h := it_pos hc3 h
        have hS := sub_bt hS hc3
        refine q_seg 1 [(2, .ptr b1 0 0 10), (3, .ptr b2 0 0 10), (24, .bool true), (25, .ptr b1 0 3 1)] hS (by kernel_rfl) ?_; intro s hS
        refine q_load (v := .int .i64 a0.Low) 1 trivial rfl hS hH rfl rfl (by kernel_rfl) ?_; intro s hS
        refine q_seg 1 [(2, .ptr b1 0 0 10), (3, .ptr b2 0 0 10), (24, .bool true), (26, .int .i64 a0.Low), (27, .ptr b2 0 3 1)] hS (by kernel_rfl) ?_; intro s hS
        refine q_load (v := .int .i64 a1.Low) 0 trivial rfl hS hH rfl rfl (by kernel_rfl) ?_; intro s hS
        refine q_seg 3 [(31, .bool (decide (a0.Low = a1.Low))), (2, .ptr b1 0 0 10), (3, .ptr b2 0 0 10)] hS (by kernel_rfl) ?_; intro s hS
        by_cases hc4 : (decide (a0.Low = a1.Low)) = true
        · have h := it_pos hc4 h
          have hS := sub_bt hS hc4
          refine q_seg 1 [(2, .ptr b1 0 0 10), (3, .ptr b2 0 0 10), (31, .bool true), (32, .ptr b1 0 4 1)] hS (by kernel_rfl) ?_; intro s hS
          refine q_load (v := (Sl.t (a0.Keys : Sl DValue))) 1 trivial rfl hS hH rfl rfl (by kernel_rfl) ?_; intro s hS
          refine q_seg 1 [(2, .ptr b1 0 0 10), (3, .ptr b2 0 0 10), (31, .bool true), (33, (Sl.t (a0.Keys : Sl DValue))), (34, .ptr b2 0 4 1)] hS (by kernel_rfl) ?_; intro s hS
          refine q_load (v := (Sl.t (a1.Keys : Sl DValue))) 0 trivial rfl hS hH rfl rfl (by kernel_rfl) ?_; intro s hS
          obtain ⟨y1, hy1, h⟩ := bind_some h
          refine q_callF (a := []) (b := []) (xs := [(Sl.t (a0.Keys : Sl DValue)), (Sl.t (a1.Keys : Sl DValue))]) rfl hS rfl rfl hy1 ?_; intro s hS
          refine q_seg 2 [(38, .bool y1), (2, .ptr b1 0 0 10), (3, .ptr b2 0 0 10)] hS (by kernel_rfl) ?_; intro s hS
          by_cases hc5 : y1 = true
          · have h := it_pos hc5 h
            have hS := sub_bt hS hc5
            refine q_seg 1 [(2, .ptr b1 0 0 10), (3, .ptr b2 0 0 10), (38, .bool true), (39, .ptr b1 0 5 1)] hS (by kernel_rfl) ?_; intro s hS
            refine q_load (v := (Sl.t (a0.Vals : Sl DValue))) 1 trivial rfl hS hH rfl rfl (by kernel_rfl) ?_; intro s hS
            refine q_seg 1 [(2, .ptr b1 0 0 10), (3, .ptr b2 0 0 10), (38, .bool true), (40, (Sl.t (a0.Vals : Sl DValue))), (41, .ptr b2 0 5 1)] hS (by kernel_rfl) ?_; intro s hS
            refine q_load (v := (Sl.t (a1.Vals : Sl DValue))) 0 trivial rfl hS hH rfl rfl (by kernel_rfl) ?_; intro s hS
            obtain ⟨y2, hy2, h⟩ := bind_some h
            refine q_callF (a := []) (b := []) (xs := [(Sl.t (a0.Vals : Sl DValue)), (Sl.t (a1.Vals : Sl DValue))]) rfl hS rfl rfl hy2 ?_; intro s hS
            refine q_seg 2 [(45, .bool y2), (2, .ptr b1 0 0 10), (3, .ptr b2 0 0 10)] hS (by kernel_rfl) ?_; intro s hS
            by_cases hc6 : y2 = true
            · have h := it_pos hc6 h
              have hS := sub_bt hS hc6
              refine q_seg 1 [(3, .ptr b2 0 0 10), (45, .bool true), (46, .ptr b1 0 6 4)] hS (by kernel_rfl) ?_; intro s hS
              refine q_load (v := .agg (DValue.cells a0.Default)) 1 trivial rfl hS hH rfl rfl (by kernel_rfl) ?_; intro s hS
              refine q_seg 1 [(45, .bool true), (47, .agg (DValue.cells a0.Default)), (48, .ptr b2 0 6 4)] hS (by kernel_rfl) ?_; intro s hS
              refine q_load (v := .agg (DValue.cells a1.Default)) 0 trivial rfl hS hH rfl rfl (by kernel_rfl) ?_; intro s hS
              refine q_eqS (xs := [.int .i64 a0.Default.Kind, .int .i64 a0.Default.Num, .str a0.Default.Text, .int .i64 a0.Default.Ref]) (ys := [.int .i64 a1.Default.Kind, .int .i64 a1.Default.Num, .str a1.Default.Text, .int .i64 a1.Default.Ref]) (v := (decide (a0.Default.Kind = a1.Default.Kind) && (decide (a0.Default.Num = a1.Default.Num) && (decide (a0.Default.Text = a1.Default.Text) && (decide (a0.Default.Ref = a1.Default.Ref) && true))))) rfl hS rfl rfl (by kernel_rfl) (by kernel_rfl) ?_; intro s hS
              refine q_seg 2 [(4, .bool ((decide (a0.Default.Kind = a1.Default.Kind) && (decide (a0.Default.Num = a1.Default.Num) && (decide (a0.Default.Text = a1.Default.Text) && (decide (a0.Default.Ref = a1.Default.Ref) && true))))))] hS (by kernel_rfl) ?_; intro s hS
              refine x_nil ?_
              refine sq_n ?_
              refine c_ret ?_
              injection h with h; subst h
              exact end_W hH (r_tmp (v := .bool ((decide (a0.Default.Kind = a1.Default.Kind) && (decide (a0.Default.Num = a1.Default.Num) && (decide (a0.Default.Text = a1.Default.Text) && (decide (a0.Default.Ref = a1.Default.Ref) && true)))))) hS rfl r_nil) rfl (by kernel_rfl) (by simp [pureT, pureL, E_bool])
            · have h := it_neg hc6 h
              have hS := sub_bt hS (tt_of hc6)
              refine q_seg 7 [(4, .bool false)] hS (by kernel_rfl) ?_; intro s hS
              refine x_nil ?_
              refine sq_n ?_
              refine c_ret ?_
              injection h with h; subst h
              exact end_W hH (r_tmp (v := .bool false) hS rfl r_nil) rfl (by kernel_rfl) (by simp [pureT, pureL, E_bool])
          · have h := it_neg hc5 h
            have hS := sub_bt hS (tt_of hc5)
            refine q_seg 14 [(4, .bool false)] hS (by kernel_rfl) ?_; intro s hS
            refine x_nil ?_
            refine sq_n ?_
            refine c_ret ?_
            injection h with h; subst h
            exact end_W hH (r_tmp (v := .bool false) hS rfl r_nil) rfl (by kernel_rfl) (by simp [pureT, pureL, E_bool])
        · have h := it_neg hc4 h
          have hS := sub_bt hS (tt_of hc4)
          refine q_seg 21 [(4, .bool false)] hS (by kernel_rfl) ?_; intro s hS
          refine x_nil ?_
          refine sq_n ?_
          refine c_ret ?_
          injection h with h; subst h
          exact end_W hH (r_tmp (v := .bool false) hS rfl r_nil) rfl (by kernel_rfl) (by simp [pureT, pureL, E_bool])
      · have h := it_neg hc3 h
        have hS := sub_bt hS (tt_of hc3)
        refine q_seg 28 [(4, .bool false)] hS (by kernel_rfl) ?_; intro s hS
        refine x_nil ?_
        refine sq_n ?_
        refine c_ret ?_
        injection h with h; subst h
        exact end_W hH (r_tmp (v := .bool false) hS rfl r_nil) rfl (by kernel_rfl) (by simp [pureT, pureL, E_bool])
    · have h := it_neg hc2 h
      have hS := sub_bt hS (tt_of hc2)
      refine q_seg 35 [(4, .bool false)] hS (by kernel_rfl) ?_; intro s hS
      refine x_nil ?_
      refine sq_n ?_
      refine c_ret ?_
      injection h with h; subst h
      exact end_W hH (r_tmp (v := .bool false) hS rfl r_nil) rfl (by kernel_rfl) (by simp [pureT, pureL, E_bool])
  · have h := it_neg hc1 h
    have hS := sub_bt hS (tt_of hc1)
    refine q_seg 42 [(4, .bool false)] hS (by kernel_rfl) ?_; intro s hS
    refine x_nil ?_
    refine sq_n ?_
    refine c_ret ?_
    injection h with h; subst h
    exact end_W hH (r_tmp (v := .bool false) hS rfl r_nil) rfl (by kernel_rfl) (by simp [pureT, pureL, E_bool])
end Go.Am
end
section
set_option maxRecDepth 100000
set_option maxHeartbeats 1000000
set_option linter.unusedVariables false
set_option linter.unusedSimpArgs false
namespace Go.Am
open Go.Proofs
noncomputable def B_laws_toObject (a0 : DObject) : Option DObject := ((F_laws_toValueS a0.Keys).bind fun y1 => ((F_laws_toValueS a0.Vals).bind fun y2 => ((F_laws_toValue a0.Default).bind fun y3 => (some (⟨a0.Id, a0.Kind, a0.Name, a0.Low, y1, y2, y3⟩ : DObject)))))
theorem u_laws_toObject (a0 : DObject) (r : DObject) (h : B_laws_toObject a0 = some r) : F_laws_toObject a0 = some r := by
  unfold B_laws_toObject at h
  refine semO_of rfl rfl ok_98 rfl (all_cons (by kernel_rfl) all_nil) ?_
  intro σ0 s hS hH
  have hS := sub_to (L' := [(0, .agg (DObject.cells a0))]) hS (by kernel_rfl)
  refine c_seq ?_
  refine c_region ?_
  refine q_box (v := .agg (DObject.cells a0)) (cs := [.int .i64 a0.Id, .int .i64 a0.Kind, .str a0.Name, .int .i64 a0.Low, (Sl.t (a0.Keys : Sl DValue)), (Sl.t (a0.Vals : Sl DValue)), .int .i64 a0.Default.Kind, .int .i64 a0.Default.Num, .str a0.Default.Text, .int .i64 a0.Default.Ref]) rfl hS hH rfl rfl (by kernel_rfl) ?_; intro b1 σ s hH hS
  refine q_alloc (z := [.int .i64 0, .int .i64 0, .str ⟨#[]⟩, .int .i64 0, (Sl.t (⟨true, []⟩ : Sl DValue)), (Sl.t (⟨true, []⟩ : Sl DValue)), .int .i64 0, .int .i64 0, .str ⟨#[]⟩, .int .i64 0]) rfl hS hH (by kernel_rfl) ?_; intro b2 σ s hH hS
  refine x_nil ?_
  refine sq_n ?_
  refine c_seq ?_
  refine c_region ?_
  refine q_alloc (z := [.int .i64 0, .int .i64 0, .str ⟨#[]⟩, .int .i64 0, (Sl.t (⟨true, []⟩ : Sl DValue)), (Sl.t (⟨true, []⟩ : Sl DValue)), .int .i64 0, .int .i64 0, .str ⟨#[]⟩, .int .i64 0]) rfl hS hH (by kernel_rfl) ?_; intro b3 σ s hH hS
  refine x_nil ?_
  refine sq_n ?_
  refine c_seq ?_
  refine c_region ?_
  refine q_seg 1 [(1, .ptr b1 0 0 10), (2, .ptr b2 0 0 10), (3, .ptr b3 0 0 10), (4, .ptr b1 0 0 1)] hS (by kernel_rfl) ?_; intro s hS
  refine q_load (v := .int .i64 a0.Id) 2 trivial rfl hS hH rfl rfl (by kernel_rfl) ?_; intro s hS
  refine q_seg 1 [(1, .ptr b1 0 0 10), (2, .ptr b2 0 0 10), (3, .ptr b3 0 0 10), (5, .int .i64 a0.Id), (6, .ptr b3 0 0 1)] hS (by kernel_rfl) ?_; intro s hS
  refine q_store (v := .int .i64 a0.Id) (cs := [.int .i64 a0.Id]) (cells' := [.int .i64 a0.Id, .int .i64 0, .str ⟨#[]⟩, .int .i64 0, (Sl.t (⟨true, []⟩ : Sl DValue)), (Sl.t (⟨true, []⟩ : Sl DValue)), .int .i64 0, .int .i64 0, .str ⟨#[]⟩, .int .i64 0]) rfl hS hH rfl rfl rfl (by kernel_rfl) (by kernel_rfl) ?_; intro σ s hH hS
  refine x_nil ?_
  refine sq_n ?_
  refine c_seq ?_
  refine c_region ?_
  refine q_seg 1 [(1, .ptr b1 0 0 10), (2, .ptr b2 0 0 10), (3, .ptr b3 0 0 10), (7, .ptr b1 0 1 1)] hS (by kernel_rfl) ?_; intro s hS
  refine q_load (v := .int .i64 a0.Kind) 2 trivial rfl hS hH rfl rfl (by kernel_rfl) ?_; intro s hS
  refine q_seg 1 [(1, .ptr b1 0 0 10), (2, .ptr b2 0 0 10), (3, .ptr b3 0 0 10), (8, .int .i64 a0.Kind), (9, .ptr b3 0 1 1)] hS (by kernel_rfl) ?_; intro s hS
  refine q_store (v := .int .i64 a0.Kind) (cs := [.int .i64 a0.Kind]) (cells' := [.int .i64 a0.Id, .int .i64 a0.Kind, .str ⟨#[]⟩, .int .i64 0, (Sl.t (⟨true, []⟩ : Sl DValue)), (Sl.t (⟨true, []⟩ : Sl DValue)), .int .i64 0, .int .i64 0, .str ⟨#[]⟩, .int .i64 0]) rfl hS hH rfl rfl rfl (by kernel_rfl) (by kernel_rfl) ?_; intro σ s hH hS
  refine x_nil ?_
  refine sq_n ?_
  refine c_seq ?_
  refine c_region ?_
  refine q_seg 1 [(1, .ptr b1 0 0 10), (2, .ptr b2 0 0 10), (3, .ptr b3 0 0 10), (10, .ptr b1 0 2 1)] hS (by kernel_rfl) ?_; intro s hS
  refine q_load (v := .str a0.Name) 2 trivial rfl hS hH rfl rfl (by kernel_rfl) ?_; intro s hS
  refine q_seg 1 [(1, .ptr b1 0 0 10), (2, .ptr b2 0 0 10), (3, .ptr b3 0 0 10), (11, .str a0.Name), (12, .ptr b3 0 2 1)] hS (by kernel_rfl) ?_; intro s hS
  refine q_store (v := .str a0.Name) (cs := [.str a0.Name]) (cells' := [.int .i64 a0.Id, .int .i64 a0.Kind, .str a0.Name, .int .i64 0, (Sl.t (⟨true, []⟩ : Sl DValue)), (Sl.t (⟨true, []⟩ : Sl DValue)), .int .i64 0, .int .i64 0, .str ⟨#[]⟩, .int .i64 0]) rfl hS hH rfl rfl rfl (by kernel_rfl) (by kernel_rfl) ?_; intro σ s hH hS
  refine x_nil ?_
  refine sq_n ?_
  refine c_seq ?_
  refine c_region ?_
  refine q_seg 1 [(1, .ptr b1 0 0 10), (2, .ptr b2 0 0 10), (3, .ptr b3 0 0 10), (13, .ptr b1 0 3 1)] hS (by kernel_rfl) ?_; intro s hS
  refine q_load (v := .int .i64 a0.Low) 2 trivial rfl hS hH rfl rfl (by kernel_rfl) ?_; intro s hS
  refine q_seg 1 [(1, .ptr b1 0 0 10), (2, .ptr b2 0 0 10), (3, .ptr b3 0 0 10), (14, .int .i64 a0.Low), (15, .ptr b3 0 3 1)] hS (by kernel_rfl) ?_; intro s hS
  refine q_store (v := .int .i64 a0.Low) (cs := [.int .i64 a0.Low]) (cells' := [.int .i64 a0.Id, .int .i64 a0.Kind, .str a0.Name, .int .i64 a0.Low, (Sl.t (⟨true, []⟩ : Sl DValue)), (Sl.t (⟨true, []⟩ : Sl DValue)), .int .i64 0, .int .i64 0, .str ⟨#[]⟩, .int .i64 0]) rfl hS hH rfl rfl rfl (by kernel_rfl) (by kernel_rfl) ?_; intro σ s hH hS
  refine x_nil ?_
  refine sq_n ?_
  refine c_seq ?_
  refine c_region ?_
  refine q_seg 1 [(1, .ptr b1 0 0 10), (2, .ptr b2 0 0 10), (3, .ptr b3 0 0 10), (16, .ptr b1 0 4 1)] hS (by kernel_rfl) ?_; intro s hS
  refine q_load (v := (Sl.t (a0.Keys : Sl DValue))) 2 trivial rfl hS hH rfl rfl (by kernel_rfl) ?_; intro s hS
  obtain ⟨y1, hy1, h⟩ := bind_some h
  refine q_callO (ents := []) (z := false) (ts := [(Sl.t (a0.Keys : Sl DValue))]) (vs := [(Sl.t (a0.Keys : Sl DValue))]) rfl rfl hS rfl rfl rfl hH (HL.leaf (fun σ d => hold_pure σ d _) HL.nil) hy1 ?_; intro hs σ s hl hH hS
  obtain ⟨t1, rfl⟩ := len1 hl
  have hH : Heap σ0 σ [.own true 4 t1 (Sl.t (y1 : Sl DValue)), .box b3 [.int .i64 a0.Id, .int .i64 a0.Kind, .str a0.Name, .int .i64 a0.Low, (Sl.t (⟨true, []⟩ : Sl DValue)), (Sl.t (⟨true, []⟩ : Sl DValue)), .int .i64 0, .int .i64 0, .str ⟨#[]⟩, .int .i64 0], .box b2 [.int .i64 0, .int .i64 0, .str ⟨#[]⟩, .int .i64 0, (Sl.t (⟨true, []⟩ : Sl DValue)), (Sl.t (⟨true, []⟩ : Sl DValue)), .int .i64 0, .int .i64 0, .str ⟨#[]⟩, .int .i64 0], .box b1 [.int .i64 a0.Id, .int .i64 a0.Kind, .str a0.Name, .int .i64 a0.Low, (Sl.t (a0.Keys : Sl DValue)), (Sl.t (a0.Vals : Sl DValue)), .int .i64 a0.Default.Kind, .int .i64 a0.Default.Num, .str a0.Default.Text, .int .i64 a0.Default.Ref]] := hH
  have ht1 : IsOne t1 := Heap.one hH
  refine q_seg 1 [(1, .ptr b1 0 0 10), (2, .ptr b2 0 0 10), (3, .ptr b3 0 0 10), (18, t1), (19, .ptr b3 0 4 1)] hS (by kernel_rfl) ?_; intro s hS
  have hH : Heap σ0 σ [.box b3 [.int .i64 a0.Id, .int .i64 a0.Kind, .str a0.Name, .int .i64 a0.Low, (Sl.t (⟨true, []⟩ : Sl DValue)), (Sl.t (⟨true, []⟩ : Sl DValue)), .int .i64 0, .int .i64 0, .str ⟨#[]⟩, .int .i64 0], .own true 4 t1 (Sl.t (y1 : Sl DValue)), .box b2 [.int .i64 0, .int .i64 0, .str ⟨#[]⟩, .int .i64 0, (Sl.t (⟨true, []⟩ : Sl DValue)), (Sl.t (⟨true, []⟩ : Sl DValue)), .int .i64 0, .int .i64 0, .str ⟨#[]⟩, .int .i64 0], .box b1 [.int .i64 a0.Id, .int .i64 a0.Kind, .str a0.Name, .int .i64 a0.Low, (Sl.t (a0.Keys : Sl DValue)), (Sl.t (a0.Vals : Sl DValue)), .int .i64 a0.Default.Kind, .int .i64 a0.Default.Num, .str a0.Default.Text, .int .i64 a0.Default.Ref]] := hH.sel [1, 0, 2, 3] rfl (by kernel_rfl)
  refine q_store (v := t1) (cs := [t1]) (cells' := [.int .i64 a0.Id, .int .i64 a0.Kind, .str a0.Name, .int .i64 a0.Low, t1, (Sl.t (⟨true, []⟩ : Sl DValue)), .int .i64 0, .int .i64 0, .str ⟨#[]⟩, .int .i64 0]) rfl hS hH rfl rfl (by simp [ht1.1, ht1.2]) (by simp [ht1.1, ht1.2]) (by kernel_rfl) ?_; intro σ s hH hS
  refine x_nil ?_
  refine sq_n ?_
  refine c_seq ?_
  refine c_region ?_
  refine q_seg 1 [(1, .ptr b1 0 0 10), (2, .ptr b2 0 0 10), (3, .ptr b3 0 0 10), (20, .ptr b1 0 5 1)] hS (by kernel_rfl) ?_; intro s hS
  refine q_load (v := (Sl.t (a0.Vals : Sl DValue))) 3 trivial rfl hS hH rfl rfl (by kernel_rfl) ?_; intro s hS
  obtain ⟨y2, hy2, h⟩ := bind_some h
  refine q_callO (ents := []) (z := false) (ts := [(Sl.t (a0.Vals : Sl DValue))]) (vs := [(Sl.t (a0.Vals : Sl DValue))]) rfl rfl hS rfl rfl rfl hH (HL.leaf (fun σ d => hold_pure σ d _) HL.nil) hy2 ?_; intro hs σ s hl hH hS
  obtain ⟨t2, rfl⟩ := len1 hl
  have hH : Heap σ0 σ [.own true 4 t2 (Sl.t (y2 : Sl DValue)), .box b3 [.int .i64 a0.Id, .int .i64 a0.Kind, .str a0.Name, .int .i64 a0.Low, t1, (Sl.t (⟨true, []⟩ : Sl DValue)), .int .i64 0, .int .i64 0, .str ⟨#[]⟩, .int .i64 0], .own true 4 t1 (Sl.t (y1 : Sl DValue)), .box b2 [.int .i64 0, .int .i64 0, .str ⟨#[]⟩, .int .i64 0, (Sl.t (⟨true, []⟩ : Sl DValue)), (Sl.t (⟨true, []⟩ : Sl DValue)), .int .i64 0, .int .i64 0, .str ⟨#[]⟩, .int .i64 0], .box b1 [.int .i64 a0.Id, .int .i64 a0.Kind, .str a0.Name, .int .i64 a0.Low, (Sl.t (a0.Keys : Sl DValue)), (Sl.t (a0.Vals : Sl DValue)), .int .i64 a0.Default.Kind, .int .i64 a0.Default.Num, .str a0.Default.Text, .int .i64 a0.Default.Ref]] := hH
  have ht2 : IsOne t2 := Heap.one hH
  refine q_seg 1 [(1, .ptr b1 0 0 10), (2, .ptr b2 0 0 10), (3, .ptr b3 0 0 10), (22, t2), (23, .ptr b3 0 5 1)] hS (by kernel_rfl) ?_; intro s hS
  have hH : Heap σ0 σ [.box b3 [.int .i64 a0.Id, .int .i64 a0.Kind, .str a0.Name, .int .i64 a0.Low, t1, (Sl.t (⟨true, []⟩ : Sl DValue)), .int .i64 0, .int .i64 0, .str ⟨#[]⟩, .int .i64 0], .own true 4 t2 (Sl.t (y2 : Sl DValue)), .own true 4 t1 (Sl.t (y1 : Sl DValue)), .box b2 [.int .i64 0, .int .i64 0, .str ⟨#[]⟩, .int .i64 0, (Sl.t (⟨true, []⟩ : Sl DValue)), (Sl.t (⟨true, []⟩ : Sl DValue)), .int .i64 0, .int .i64 0, .str ⟨#[]⟩, .int .i64 0], .box b1 [.int .i64 a0.Id, .int .i64 a0.Kind, .str a0.Name, .int .i64 a0.Low, (Sl.t (a0.Keys : Sl DValue)), (Sl.t (a0.Vals : Sl DValue)), .int .i64 a0.Default.Kind, .int .i64 a0.Default.Num, .str a0.Default.Text, .int .i64 a0.Default.Ref]] := hH.sel [1, 0, 2, 3, 4] rfl (by kernel_rfl)
  refine q_store (v := t2) (cs := [t2]) (cells' := [.int .i64 a0.Id, .int .i64 a0.Kind, .str a0.Name, .int .i64 a0.Low, t1, t2, .int .i64 0, .int .i64 0, .str ⟨#[]⟩, .int .i64 0]) rfl hS hH rfl rfl (by simp [ht2.1, ht2.2]) (by simp [ht2.1, ht2.2]) (by kernel_rfl) ?_; intro σ s hH hS
  refine x_nil ?_
  refine sq_n ?_
  refine c_seq ?_
  refine c_region ?_
  refine q_seg 1 [(2, .ptr b2 0 0 10), (3, .ptr b3 0 0 10), (24, .ptr b1 0 6 4)] hS (by kernel_rfl) ?_; intro s hS
  refine q_load (v := .agg (DValue.cells a0.Default)) 4 trivial rfl hS hH rfl rfl (by kernel_rfl) ?_; intro s hS
  obtain ⟨y3, hy3, h⟩ := bind_some h
  refine q_callF (a := []) (b := []) (xs := [.agg (DValue.cells a0.Default)]) rfl hS rfl rfl hy3 ?_; intro s hS
  refine q_seg 1 [(2, .ptr b2 0 0 10), (3, .ptr b3 0 0 10), (26, .agg (DValue.cells y3)), (27, .ptr b3 0 6 4)] hS (by kernel_rfl) ?_; intro s hS
  refine q_store (v := .agg (DValue.cells y3)) (cs := [.int .i64 y3.Kind, .int .i64 y3.Num, .str y3.Text, .int .i64 y3.Ref]) (cells' := [.int .i64 a0.Id, .int .i64 a0.Kind, .str a0.Name, .int .i64 a0.Low, t1, t2, .int .i64 y3.Kind, .int .i64 y3.Num, .str y3.Text, .int .i64 y3.Ref]) rfl hS hH rfl rfl rfl (by kernel_rfl) (by kernel_rfl) ?_; intro σ s hH hS
  refine x_nil ?_
  refine sq_n ?_
  refine c_seq ?_
  refine c_region ?_
  refine q_load (v := .agg [.int .i64 a0.Id, .int .i64 a0.Kind, .str a0.Name, .int .i64 a0.Low, t1, t2, .int .i64 y3.Kind, .int .i64 y3.Num, .str y3.Text, .int .i64 y3.Ref]) 0 trivial rfl hS hH rfl rfl (by kernel_rfl) ?_; intro s hS
  have hH : Heap σ0 σ [.box b2 [.int .i64 0, .int .i64 0, .str ⟨#[]⟩, .int .i64 0, (Sl.t (⟨true, []⟩ : Sl DValue)), (Sl.t (⟨true, []⟩ : Sl DValue)), .int .i64 0, .int .i64 0, .str ⟨#[]⟩, .int .i64 0], .box b3 [.int .i64 a0.Id, .int .i64 a0.Kind, .str a0.Name, .int .i64 a0.Low, t1, t2, .int .i64 y3.Kind, .int .i64 y3.Num, .str y3.Text, .int .i64 y3.Ref], .own true 4 t2 (Sl.t (y2 : Sl DValue)), .own true 4 t1 (Sl.t (y1 : Sl DValue)), .box b1 [.int .i64 a0.Id, .int .i64 a0.Kind, .str a0.Name, .int .i64 a0.Low, (Sl.t (a0.Keys : Sl DValue)), (Sl.t (a0.Vals : Sl DValue)), .int .i64 a0.Default.Kind, .int .i64 a0.Default.Num, .str a0.Default.Text, .int .i64 a0.Default.Ref]] := hH.sel [3, 0, 1, 2, 4] rfl (by kernel_rfl)
  refine q_store (v := .agg [.int .i64 a0.Id, .int .i64 a0.Kind, .str a0.Name, .int .i64 a0.Low, t1, t2, .int .i64 y3.Kind, .int .i64 y3.Num, .str y3.Text, .int .i64 y3.Ref]) (cs := [.int .i64 a0.Id, .int .i64 a0.Kind, .str a0.Name, .int .i64 a0.Low, t1, t2, .int .i64 y3.Kind, .int .i64 y3.Num, .str y3.Text, .int .i64 y3.Ref]) (cells' := [.int .i64 a0.Id, .int .i64 a0.Kind, .str a0.Name, .int .i64 a0.Low, t1, t2, .int .i64 y3.Kind, .int .i64 y3.Num, .str y3.Text, .int .i64 y3.Ref]) rfl hS hH rfl rfl rfl (by simp [ht1.1, ht1.2, ht2.1, ht2.2]) (by kernel_rfl) ?_; intro σ s hH hS
  refine x_nil ?_
  refine sq_n ?_
  refine c_ret ?_
  injection h with h; subst h
  have hH : Heap σ0 σ [.own true 4 t1 (Sl.t (y1 : Sl DValue)), .own true 4 t2 (Sl.t (y2 : Sl DValue)), .box b2 [.int .i64 a0.Id, .int .i64 a0.Kind, .str a0.Name, .int .i64 a0.Low, t1, t2, .int .i64 y3.Kind, .int .i64 y3.Num, .str y3.Text, .int .i64 y3.Ref], .box b3 [.int .i64 a0.Id, .int .i64 a0.Kind, .str a0.Name, .int .i64 a0.Low, t1, t2, .int .i64 y3.Kind, .int .i64 y3.Num, .str y3.Text, .int .i64 y3.Ref], .box b1 [.int .i64 a0.Id, .int .i64 a0.Kind, .str a0.Name, .int .i64 a0.Low, (Sl.t (a0.Keys : Sl DValue)), (Sl.t (a0.Vals : Sl DValue)), .int .i64 a0.Default.Kind, .int .i64 a0.Default.Num, .str a0.Default.Text, .int .i64 a0.Default.Ref]] := hH.sel [3, 2, 0, 1, 4] rfl (by kernel_rfl)
  exact end_Ow [t1, t2] [.box b2 [.int .i64 a0.Id, .int .i64 a0.Kind, .str a0.Name, .int .i64 a0.Low, t1, t2, .int .i64 y3.Kind, .int .i64 y3.Num, .str y3.Text, .int .i64 y3.Ref], .box b3 [.int .i64 a0.Id, .int .i64 a0.Kind, .str a0.Name, .int .i64 a0.Low, t1, t2, .int .i64 y3.Kind, .int .i64 y3.Num, .str y3.Text, .int .i64 y3.Ref], .box b1 [.int .i64 a0.Id, .int .i64 a0.Kind, .str a0.Name, .int .i64 a0.Low, (Sl.t (a0.Keys : Sl DValue)), (Sl.t (a0.Vals : Sl DValue)), .int .i64 a0.Default.Kind, .int .i64 a0.Default.Num, .str a0.Default.Text, .int .i64 a0.Default.Ref]] (r_cell (v := .agg [.int .i64 a0.Id, .int .i64 a0.Kind, .str a0.Name, .int .i64 a0.Low, t1, t2, .int .i64 y3.Kind, .int .i64 y3.Num, .str y3.Text, .int .i64 y3.Ref]) hS (hH.at 2 rfl) rfl (by kernel_rfl) r_nil) (by kernel_rfl) rfl hH (by kernel_rfl)
end Go.Am
end
section
set_option maxRecDepth 100000
set_option maxHeartbeats 1000000
set_option linter.unusedVariables false
set_option linter.unusedSimpArgs false
namespace Go.Am
open Go.Proofs
noncomputable def B_laws_toBinding (a0 : DBinding) : Option DBinding := ((F_laws_toValue a0.Value).bind fun y1 => (some (⟨a0.Name, y1⟩ : DBinding)))
theorem u_laws_toBinding (a0 : DBinding) (r : DBinding) (h : B_laws_toBinding a0 = some r) : F_laws_toBinding a0 = some r := by
  unfold B_laws_toBinding at h
  refine semW_of E_DBinding_inj rfl rfl ok_99 rfl (all_cons (by kernel_rfl) all_nil) ?_
  intro σ0 s hS hH
  have hS := sub_to (L' := [(0, .agg (DBinding.cells a0))]) hS (by kernel_rfl)
  refine c_seq ?_
  refine c_region ?_
  refine q_box (v := .agg (DBinding.cells a0)) (cs := [.str a0.Name, .int .i64 a0.Value.Kind, .int .i64 a0.Value.Num, .str a0.Value.Text, .int .i64 a0.Value.Ref]) rfl hS hH rfl rfl (by kernel_rfl) ?_; intro b1 σ s hH hS
  refine q_alloc (z := [.str ⟨#[]⟩, .int .i64 0, .int .i64 0, .str ⟨#[]⟩, .int .i64 0]) rfl hS hH (by kernel_rfl) ?_; intro b2 σ s hH hS
  refine x_nil ?_
  refine sq_n ?_
  refine c_seq ?_
  refine c_region ?_
  refine q_alloc (z := [.str ⟨#[]⟩, .int .i64 0, .int .i64 0, .str ⟨#[]⟩, .int .i64 0]) rfl hS hH (by kernel_rfl) ?_; intro b3 σ s hH hS
  refine x_nil ?_
  refine sq_n ?_
  refine c_seq ?_
  refine c_region ?_
  refine q_seg 1 [(1, .ptr b1 0 0 5), (2, .ptr b2 0 0 5), (3, .ptr b3 0 0 5), (4, .ptr b1 0 0 1)] hS (by kernel_rfl) ?_; intro s hS
  refine q_load (v := .str a0.Name) 2 trivial rfl hS hH rfl rfl (by kernel_rfl) ?_; intro s hS
  refine q_seg 1 [(1, .ptr b1 0 0 5), (2, .ptr b2 0 0 5), (3, .ptr b3 0 0 5), (5, .str a0.Name), (6, .ptr b3 0 0 1)] hS (by kernel_rfl) ?_; intro s hS
  refine q_store (v := .str a0.Name) (cs := [.str a0.Name]) (cells' := [.str a0.Name, .int .i64 0, .int .i64 0, .str ⟨#[]⟩, .int .i64 0]) rfl hS hH rfl rfl rfl (by kernel_rfl) (by kernel_rfl) ?_; intro σ s hH hS
  refine x_nil ?_
  refine sq_n ?_
  refine c_seq ?_
  refine c_region ?_
  refine q_seg 1 [(2, .ptr b2 0 0 5), (3, .ptr b3 0 0 5), (7, .ptr b1 0 1 4)] hS (by kernel_rfl) ?_; intro s hS
  refine q_load (v := .agg (DValue.cells a0.Value)) 2 trivial rfl hS hH rfl rfl (by kernel_rfl) ?_; intro s hS
  obtain ⟨y1, hy1, h⟩ := bind_some h
  refine q_callF (a := []) (b := []) (xs := [.agg (DValue.cells a0.Value)]) rfl hS rfl rfl hy1 ?_; intro s hS
  refine q_seg 1 [(2, .ptr b2 0 0 5), (3, .ptr b3 0 0 5), (9, .agg (DValue.cells y1)), (10, .ptr b3 0 1 4)] hS (by kernel_rfl) ?_; intro s hS
  refine q_store (v := .agg (DValue.cells y1)) (cs := [.int .i64 y1.Kind, .int .i64 y1.Num, .str y1.Text, .int .i64 y1.Ref]) (cells' := [.str a0.Name, .int .i64 y1.Kind, .int .i64 y1.Num, .str y1.Text, .int .i64 y1.Ref]) rfl hS hH rfl rfl rfl (by kernel_rfl) (by kernel_rfl) ?_; intro σ s hH hS
  refine x_nil ?_
  refine sq_n ?_
  refine c_seq ?_
  refine c_region ?_
  refine q_load (v := .agg [.str a0.Name, .int .i64 y1.Kind, .int .i64 y1.Num, .str y1.Text, .int .i64 y1.Ref]) 0 trivial rfl hS hH rfl rfl (by kernel_rfl) ?_; intro s hS
  have hH : Heap σ0 σ [.box b2 [.str ⟨#[]⟩, .int .i64 0, .int .i64 0, .str ⟨#[]⟩, .int .i64 0], .box b3 [.str a0.Name, .int .i64 y1.Kind, .int .i64 y1.Num, .str y1.Text, .int .i64 y1.Ref], .box b1 [.str a0.Name, .int .i64 a0.Value.Kind, .int .i64 a0.Value.Num, .str a0.Value.Text, .int .i64 a0.Value.Ref]] := hH.sel [1, 0, 2] rfl (by kernel_rfl)
  refine q_store (v := .agg [.str a0.Name, .int .i64 y1.Kind, .int .i64 y1.Num, .str y1.Text, .int .i64 y1.Ref]) (cs := [.str a0.Name, .int .i64 y1.Kind, .int .i64 y1.Num, .str y1.Text, .int .i64 y1.Ref]) (cells' := [.str a0.Name, .int .i64 y1.Kind, .int .i64 y1.Num, .str y1.Text, .int .i64 y1.Ref]) rfl hS hH rfl rfl rfl (by kernel_rfl) (by kernel_rfl) ?_; intro σ s hH hS
  refine x_nil ?_
  refine sq_n ?_
  refine c_ret ?_
  injection h with h; subst h
  exact end_W hH (r_cell (v := .agg [.str a0.Name, .int .i64 y1.Kind, .int .i64 y1.Num, .str y1.Text, .int .i64 y1.Ref]) hS hH rfl (by kernel_rfl) r_nil) rfl (by kernel_rfl) (by simp [pureT, pureL, E_DBinding, DBinding.cells, DValue.cells])
end Go.Am
end
section
set_option maxRecDepth 100000
set_option maxHeartbeats 1000000
set_option linter.unusedVariables false
set_option linter.unusedSimpArgs false
namespace Go.Am
open Go.Proofs
noncomputable def B_laws_toFunction (a0 : DFunction) : Option DFunction := ((F_laws_toStringS a0.Params).bind fun y1 => ((F_laws_toStringS a0.Locals).bind fun y2 => (some (⟨a0.Name, y1, y2, a0.Label⟩ : DFunction))))
theorem u_laws_toFunction (a0 : DFunction) (r : DFunction) (h : B_laws_toFunction a0 = some r) : F_laws_toFunction a0 = some r := by
  unfold B_laws_toFunction at h
  refine semO_of rfl rfl ok_100 rfl (all_cons (by kernel_rfl) all_nil) ?_
  intro σ0 s hS hH
  have hS := sub_to (L' := [(0, .agg (DFunction.cells a0))]) hS (by kernel_rfl)
  refine c_seq ?_
  refine c_region ?_
  refine q_box (v := .agg (DFunction.cells a0)) (cs := [.str a0.Name, (Sl.t (a0.Params : Sl ByteArray)), (Sl.t (a0.Locals : Sl ByteArray)), .str a0.Label]) rfl hS hH rfl rfl (by kernel_rfl) ?_; intro b1 σ s hH hS
  refine q_alloc (z := [.str ⟨#[]⟩, (Sl.t (⟨true, []⟩ : Sl ByteArray)), (Sl.t (⟨true, []⟩ : Sl ByteArray)), .str ⟨#[]⟩]) rfl hS hH (by kernel_rfl) ?_; intro b2 σ s hH hS
  refine x_nil ?_
  refine sq_n ?_
  refine c_seq ?_
  refine c_region ?_
  refine q_alloc (z := [.str ⟨#[]⟩, (Sl.t (⟨true, []⟩ : Sl ByteArray)), (Sl.t (⟨true, []⟩ : Sl ByteArray)), .str ⟨#[]⟩]) rfl hS hH (by kernel_rfl) ?_; intro b3 σ s hH hS
  refine x_nil ?_
  refine sq_n ?_
  refine c_seq ?_
  refine c_region ?_
  refine q_seg 1 [(1, .ptr b1 0 0 4), (2, .ptr b2 0 0 4), (3, .ptr b3 0 0 4), (4, .ptr b1 0 0 1)] hS (by kernel_rfl) ?_; intro s hS
  refine q_load (v := .str a0.Name) 2 trivial rfl hS hH rfl rfl (by kernel_rfl) ?_; intro s hS
  refine q_seg 1 [(1, .ptr b1 0 0 4), (2, .ptr b2 0 0 4), (3, .ptr b3 0 0 4), (5, .str a0.Name), (6, .ptr b3 0 0 1)] hS (by kernel_rfl) ?_; intro s hS
  refine q_store (v := .str a0.Name) (cs := [.str a0.Name]) (cells' := [.str a0.Name, (Sl.t (⟨true, []⟩ : Sl ByteArray)), (Sl.t (⟨true, []⟩ : Sl ByteArray)), .str ⟨#[]⟩]) rfl hS hH rfl rfl rfl (by kernel_rfl) (by kernel_rfl) ?_; intro σ s hH hS
  refine x_nil ?_
  refine sq_n ?_
  refine c_seq ?_
  refine c_region ?_
  refine q_seg 1 [(1, .ptr b1 0 0 4), (2, .ptr b2 0 0 4), (3, .ptr b3 0 0 4), (7, .ptr b1 0 1 1)] hS (by kernel_rfl) ?_; intro s hS
  refine q_load (v := (Sl.t (a0.Params : Sl ByteArray))) 2 trivial rfl hS hH rfl rfl (by kernel_rfl) ?_; intro s hS
  obtain ⟨y1, hy1, h⟩ := bind_some h
  refine q_callO (ents := []) (z := false) (ts := [(Sl.t (a0.Params : Sl ByteArray))]) (vs := [(Sl.t (a0.Params : Sl ByteArray))]) rfl rfl hS rfl rfl rfl hH (HL.leaf (fun σ d => hold_pure σ d _) HL.nil) hy1 ?_; intro hs σ s hl hH hS
  obtain ⟨t1, rfl⟩ := len1 hl
  have hH : Heap σ0 σ [.own true 1 t1 (Sl.t (y1 : Sl ByteArray)), .box b3 [.str a0.Name, (Sl.t (⟨true, []⟩ : Sl ByteArray)), (Sl.t (⟨true, []⟩ : Sl ByteArray)), .str ⟨#[]⟩], .box b2 [.str ⟨#[]⟩, (Sl.t (⟨true, []⟩ : Sl ByteArray)), (Sl.t (⟨true, []⟩ : Sl ByteArray)), .str ⟨#[]⟩], .box b1 [.str a0.Name, (Sl.t (a0.Params : Sl ByteArray)), (Sl.t (a0.Locals : Sl ByteArray)), .str a0.Label]] := hH
  have ht1 : IsOne t1 := Heap.one hH
  refine q_seg 1 [(1, .ptr b1 0 0 4), (2, .ptr b2 0 0 4), (3, .ptr b3 0 0 4), (9, t1), (10, .ptr b3 0 1 1)] hS (by kernel_rfl) ?_; intro s hS
  have hH : Heap σ0 σ [.box b3 [.str a0.Name, (Sl.t (⟨true, []⟩ : Sl ByteArray)), (Sl.t (⟨true, []⟩ : Sl ByteArray)), .str ⟨#[]⟩], .own true 1 t1 (Sl.t (y1 : Sl ByteArray)), .box b2 [.str ⟨#[]⟩, (Sl.t (⟨true, []⟩ : Sl ByteArray)), (Sl.t (⟨true, []⟩ : Sl ByteArray)), .str ⟨#[]⟩], .box b1 [.str a0.Name, (Sl.t (a0.Params : Sl ByteArray)), (Sl.t (a0.Locals : Sl ByteArray)), .str a0.Label]] := hH.sel [1, 0, 2, 3] rfl (by kernel_rfl)
  refine q_store (v := t1) (cs := [t1]) (cells' := [.str a0.Name, t1, (Sl.t (⟨true, []⟩ : Sl ByteArray)), .str ⟨#[]⟩]) rfl hS hH rfl rfl (by simp [ht1.1, ht1.2]) (by simp [ht1.1, ht1.2]) (by kernel_rfl) ?_; intro σ s hH hS
  refine x_nil ?_
  refine sq_n ?_
  refine c_seq ?_
  refine c_region ?_
  refine q_seg 1 [(1, .ptr b1 0 0 4), (2, .ptr b2 0 0 4), (3, .ptr b3 0 0 4), (11, .ptr b1 0 2 1)] hS (by kernel_rfl) ?_; intro s hS
  refine q_load (v := (Sl.t (a0.Locals : Sl ByteArray))) 3 trivial rfl hS hH rfl rfl (by kernel_rfl) ?_; intro s hS
  obtain ⟨y2, hy2, h⟩ := bind_some h
  refine q_callO (ents := []) (z := false) (ts := [(Sl.t (a0.Locals : Sl ByteArray))]) (vs := [(Sl.t (a0.Locals : Sl ByteArray))]) rfl rfl hS rfl rfl rfl hH (HL.leaf (fun σ d => hold_pure σ d _) HL.nil) hy2 ?_; intro hs σ s hl hH hS
  obtain ⟨t2, rfl⟩ := len1 hl
  have hH : Heap σ0 σ [.own true 1 t2 (Sl.t (y2 : Sl ByteArray)), .box b3 [.str a0.Name, t1, (Sl.t (⟨true, []⟩ : Sl ByteArray)), .str ⟨#[]⟩], .own true 1 t1 (Sl.t (y1 : Sl ByteArray)), .box b2 [.str ⟨#[]⟩, (Sl.t (⟨true, []⟩ : Sl ByteArray)), (Sl.t (⟨true, []⟩ : Sl ByteArray)), .str ⟨#[]⟩], .box b1 [.str a0.Name, (Sl.t (a0.Params : Sl ByteArray)), (Sl.t (a0.Locals : Sl ByteArray)), .str a0.Label]] := hH
  have ht2 : IsOne t2 := Heap.one hH
  refine q_seg 1 [(1, .ptr b1 0 0 4), (2, .ptr b2 0 0 4), (3, .ptr b3 0 0 4), (13, t2), (14, .ptr b3 0 2 1)] hS (by kernel_rfl) ?_; intro s hS
  have hH : Heap σ0 σ [.box b3 [.str a0.Name, t1, (Sl.t (⟨true, []⟩ : Sl ByteArray)), .str ⟨#[]⟩], .own true 1 t2 (Sl.t (y2 : Sl ByteArray)), .own true 1 t1 (Sl.t (y1 : Sl ByteArray)), .box b2 [.str ⟨#[]⟩, (Sl.t (⟨true, []⟩ : Sl ByteArray)), (Sl.t (⟨true, []⟩ : Sl ByteArray)), .str ⟨#[]⟩], .box b1 [.str a0.Name, (Sl.t (a0.Params : Sl ByteArray)), (Sl.t (a0.Locals : Sl ByteArray)), .str a0.Label]] := hH.sel [1, 0, 2, 3, 4] rfl (by kernel_rfl)
  refine q_store (v := t2) (cs := [t2]) (cells' := [.str a0.Name, t1, t2, .str ⟨#[]⟩]) rfl hS hH rfl rfl (by simp [ht2.1, ht2.2]) (by simp [ht2.1, ht2.2]) (by kernel_rfl) ?_; intro σ s hH hS
  refine x_nil ?_
  refine sq_n ?_
  refine c_seq ?_
  refine c_region ?_
  refine q_seg 1 [(2, .ptr b2 0 0 4), (3, .ptr b3 0 0 4), (15, .ptr b1 0 3 1)] hS (by kernel_rfl) ?_; intro s hS
  refine q_load (v := .str a0.Label) 4 trivial rfl hS hH rfl rfl (by kernel_rfl) ?_; intro s hS
  refine q_seg 1 [(2, .ptr b2 0 0 4), (3, .ptr b3 0 0 4), (16, .str a0.Label), (17, .ptr b3 0 3 1)] hS (by kernel_rfl) ?_; intro s hS
  refine q_store (v := .str a0.Label) (cs := [.str a0.Label]) (cells' := [.str a0.Name, t1, t2, .str a0.Label]) rfl hS hH rfl rfl rfl (by kernel_rfl) (by kernel_rfl) ?_; intro σ s hH hS
  refine x_nil ?_
  refine sq_n ?_
  refine c_seq ?_
  refine c_region ?_
  refine q_load (v := .agg [.str a0.Name, t1, t2, .str a0.Label]) 0 trivial rfl hS hH rfl rfl (by kernel_rfl) ?_; intro s hS
  have hH : Heap σ0 σ [.box b2 [.str ⟨#[]⟩, (Sl.t (⟨true, []⟩ : Sl ByteArray)), (Sl.t (⟨true, []⟩ : Sl ByteArray)), .str ⟨#[]⟩], .box b3 [.str a0.Name, t1, t2, .str a0.Label], .own true 1 t2 (Sl.t (y2 : Sl ByteArray)), .own true 1 t1 (Sl.t (y1 : Sl ByteArray)), .box b1 [.str a0.Name, (Sl.t (a0.Params : Sl ByteArray)), (Sl.t (a0.Locals : Sl ByteArray)), .str a0.Label]] := hH.sel [3, 0, 1, 2, 4] rfl (by kernel_rfl)
  refine q_store (v := .agg [.str a0.Name, t1, t2, .str a0.Label]) (cs := [.str a0.Name, t1, t2, .str a0.Label]) (cells' := [.str a0.Name, t1, t2, .str a0.Label]) rfl hS hH rfl rfl rfl (by simp [ht1.1, ht1.2, ht2.1, ht2.2]) (by kernel_rfl) ?_; intro σ s hH hS
  refine x_nil ?_
  refine sq_n ?_
  refine c_ret ?_
  injection h with h; subst h
  have hH : Heap σ0 σ [.own true 1 t1 (Sl.t (y1 : Sl ByteArray)), .own true 1 t2 (Sl.t (y2 : Sl ByteArray)), .box b2 [.str a0.Name, t1, t2, .str a0.Label], .box b3 [.str a0.Name, t1, t2, .str a0.Label], .box b1 [.str a0.Name, (Sl.t (a0.Params : Sl ByteArray)), (Sl.t (a0.Locals : Sl ByteArray)), .str a0.Label]] := hH.sel [3, 2, 0, 1, 4] rfl (by kernel_rfl)
  exact end_Ow [t1, t2] [.box b2 [.str a0.Name, t1, t2, .str a0.Label], .box b3 [.str a0.Name, t1, t2, .str a0.Label], .box b1 [.str a0.Name, (Sl.t (a0.Params : Sl ByteArray)), (Sl.t (a0.Locals : Sl ByteArray)), .str a0.Label]] (r_cell (v := .agg [.str a0.Name, t1, t2, .str a0.Label]) hS (hH.at 2 rfl) rfl (by kernel_rfl) r_nil) (by kernel_rfl) rfl hH (by kernel_rfl)
end Go.Am
end
section
set_option maxRecDepth 100000
set_option maxHeartbeats 1000000
set_option linter.unusedVariables false
set_option linter.unusedSimpArgs false
namespace Go.Am
open Go.Proofs
noncomputable def B_laws_toRecordType (a0 : DRecordType) : Option DRecordType := ((F_laws_toStringS a0.Fields).bind fun y1 => (some (⟨a0.Name, y1⟩ : DRecordType)))
theorem u_laws_toRecordType (a0 : DRecordType) (r : DRecordType) (h : B_laws_toRecordType a0 = some r) : F_laws_toRecordType a0 = some r := by
  unfold B_laws_toRecordType at h
  refine semO_of rfl rfl ok_101 rfl (all_cons (by kernel_rfl) all_nil) ?_
  intro σ0 s hS hH
  have hS := sub_to (L' := [(0, .agg (DRecordType.cells a0))]) hS (by kernel_rfl)
  refine c_seq ?_
  refine c_region ?_
  refine q_box (v := .agg (DRecordType.cells a0)) (cs := [.str a0.Name, (Sl.t (a0.Fields : Sl ByteArray))]) rfl hS hH rfl rfl (by kernel_rfl) ?_; intro b1 σ s hH hS
  refine q_alloc (z := [.str ⟨#[]⟩, (Sl.t (⟨true, []⟩ : Sl ByteArray))]) rfl hS hH (by kernel_rfl) ?_; intro b2 σ s hH hS
  refine x_nil ?_
  refine sq_n ?_
  refine c_seq ?_
  refine c_region ?_
  refine q_alloc (z := [.str ⟨#[]⟩, (Sl.t (⟨true, []⟩ : Sl ByteArray))]) rfl hS hH (by kernel_rfl) ?_; intro b3 σ s hH hS
  refine x_nil ?_
  refine sq_n ?_
  refine c_seq ?_
  refine c_region ?_
  refine q_seg 1 [(1, .ptr b1 0 0 2), (2, .ptr b2 0 0 2), (3, .ptr b3 0 0 2), (4, .ptr b1 0 0 1)] hS (by kernel_rfl) ?_; intro s hS
  refine q_load (v := .str a0.Name) 2 trivial rfl hS hH rfl rfl (by kernel_rfl) ?_; intro s hS
  refine q_seg 1 [(1, .ptr b1 0 0 2), (2, .ptr b2 0 0 2), (3, .ptr b3 0 0 2), (5, .str a0.Name), (6, .ptr b3 0 0 1)] hS (by kernel_rfl) ?_; intro s hS
  refine q_store (v := .str a0.Name) (cs := [.str a0.Name]) (cells' := [.str a0.Name, (Sl.t (⟨true, []⟩ : Sl ByteArray))]) rfl hS hH rfl rfl rfl (by kernel_rfl) (by kernel_rfl) ?_; intro σ s hH hS
  refine x_nil ?_
  refine sq_n ?_
  refine c_seq ?_
  refine c_region ?_
  refine q_seg 1 [(2, .ptr b2 0 0 2), (3, .ptr b3 0 0 2), (7, .ptr b1 0 1 1)] hS (by kernel_rfl) ?_; intro s hS
  refine q_load (v := (Sl.t (a0.Fields : Sl ByteArray))) 2 trivial rfl hS hH rfl rfl (by kernel_rfl) ?_; intro s hS
  obtain ⟨y1, hy1, h⟩ := bind_some h
  refine q_callO (ents := []) (z := false) (ts := [(Sl.t (a0.Fields : Sl ByteArray))]) (vs := [(Sl.t (a0.Fields : Sl ByteArray))]) rfl rfl hS rfl rfl rfl hH (HL.leaf (fun σ d => hold_pure σ d _) HL.nil) hy1 ?_; intro hs σ s hl hH hS
  obtain ⟨t1, rfl⟩ := len1 hl
  have hH : Heap σ0 σ [.own true 1 t1 (Sl.t (y1 : Sl ByteArray)), .box b3 [.str a0.Name, (Sl.t (⟨true, []⟩ : Sl ByteArray))], .box b2 [.str ⟨#[]⟩, (Sl.t (⟨true, []⟩ : Sl ByteArray))], .box b1 [.str a0.Name, (Sl.t (a0.Fields : Sl ByteArray))]] := hH
  have ht1 : IsOne t1 := Heap.one hH
  refine q_seg 1 [(2, .ptr b2 0 0 2), (3, .ptr b3 0 0 2), (9, t1), (10, .ptr b3 0 1 1)] hS (by kernel_rfl) ?_; intro s hS
  have hH : Heap σ0 σ [.box b3 [.str a0.Name, (Sl.t (⟨true, []⟩ : Sl ByteArray))], .own true 1 t1 (Sl.t (y1 : Sl ByteArray)), .box b2 [.str ⟨#[]⟩, (Sl.t (⟨true, []⟩ : Sl ByteArray))], .box b1 [.str a0.Name, (Sl.t (a0.Fields : Sl ByteArray))]] := hH.sel [1, 0, 2, 3] rfl (by kernel_rfl)
  refine q_store (v := t1) (cs := [t1]) (cells' := [.str a0.Name, t1]) rfl hS hH rfl rfl (by simp [ht1.1, ht1.2]) (by simp [ht1.1, ht1.2]) (by kernel_rfl) ?_; intro σ s hH hS
  refine x_nil ?_
  refine sq_n ?_
  refine c_seq ?_
  refine c_region ?_
  refine q_load (v := .agg [.str a0.Name, t1]) 0 trivial rfl hS hH rfl rfl (by kernel_rfl) ?_; intro s hS
  have hH : Heap σ0 σ [.box b2 [.str ⟨#[]⟩, (Sl.t (⟨true, []⟩ : Sl ByteArray))], .box b3 [.str a0.Name, t1], .own true 1 t1 (Sl.t (y1 : Sl ByteArray)), .box b1 [.str a0.Name, (Sl.t (a0.Fields : Sl ByteArray))]] := hH.sel [2, 0, 1, 3] rfl (by kernel_rfl)
  refine q_store (v := .agg [.str a0.Name, t1]) (cs := [.str a0.Name, t1]) (cells' := [.str a0.Name, t1]) rfl hS hH rfl rfl rfl (by simp [ht1.1, ht1.2]) (by kernel_rfl) ?_; intro σ s hH hS
  refine x_nil ?_
  refine sq_n ?_
  refine c_ret ?_
  injection h with h; subst h
  have hH : Heap σ0 σ [.own true 1 t1 (Sl.t (y1 : Sl ByteArray)), .box b2 [.str a0.Name, t1], .box b3 [.str a0.Name, t1], .box b1 [.str a0.Name, (Sl.t (a0.Fields : Sl ByteArray))]] := hH.sel [2, 0, 1, 3] rfl (by kernel_rfl)
  exact end_Ow [t1] [.box b2 [.str a0.Name, t1], .box b3 [.str a0.Name, t1], .box b1 [.str a0.Name, (Sl.t (a0.Fields : Sl ByteArray))]] (r_cell (v := .agg [.str a0.Name, t1]) hS (hH.at 1 rfl) rfl (by kernel_rfl) r_nil) (by kernel_rfl) rfl hH (by kernel_rfl)
end Go.Am
end
section
set_option maxRecDepth 100000
set_option maxHeartbeats 1000000
set_option linter.unusedVariables false
set_option linter.unusedSimpArgs false
namespace Go.Am
open Go.Proofs
noncomputable def B_laws_toFile (a0 : DFile) : Option DFile := ((F_laws_toStringS a0.Lines).bind fun y1 => (some (⟨a0.Name, y1, a0.Mode, a0.At⟩ : DFile)))
theorem u_laws_toFile (a0 : DFile) (r : DFile) (h : B_laws_toFile a0 = some r) : F_laws_toFile a0 = some r := by
  unfold B_laws_toFile at h
  refine semO_of rfl rfl ok_102 rfl (all_cons (by kernel_rfl) all_nil) ?_
  intro σ0 s hS hH
  have hS := sub_to (L' := [(0, .agg (DFile.cells a0))]) hS (by kernel_rfl)
  refine c_seq ?_
  refine c_region ?_
  refine q_box (v := .agg (DFile.cells a0)) (cs := [.str a0.Name, (Sl.t (a0.Lines : Sl ByteArray)), .int .i64 a0.Mode, .int .i64 a0.At]) rfl hS hH rfl rfl (by kernel_rfl) ?_; intro b1 σ s hH hS
  refine q_alloc (z := [.str ⟨#[]⟩, (Sl.t (⟨true, []⟩ : Sl ByteArray)), .int .i64 0, .int .i64 0]) rfl hS hH (by kernel_rfl) ?_; intro b2 σ s hH hS
  refine x_nil ?_
  refine sq_n ?_
  refine c_seq ?_
  refine c_region ?_
  refine q_alloc (z := [.str ⟨#[]⟩, (Sl.t (⟨true, []⟩ : Sl ByteArray)), .int .i64 0, .int .i64 0]) rfl hS hH (by kernel_rfl) ?_; intro b3 σ s hH hS
  refine x_nil ?_
  refine sq_n ?_
  refine c_seq ?_
  refine c_region ?_
  refine q_seg 1 [(1, .ptr b1 0 0 4), (2, .ptr b2 0 0 4), (3, .ptr b3 0 0 4), (4, .ptr b1 0 0 1)] hS (by kernel_rfl) ?_; intro s hS
  refine q_load (v := .str a0.Name) 2 trivial rfl hS hH rfl rfl (by kernel_rfl) ?_; intro s hS
  refine q_seg 1 [(1, .ptr b1 0 0 4), (2, .ptr b2 0 0 4), (3, .ptr b3 0 0 4), (5, .str a0.Name), (6, .ptr b3 0 0 1)] hS (by kernel_rfl) ?_; intro s hS
  refine q_store (v := .str a0.Name) (cs := [.str a0.Name]) (cells' := [.str a0.Name, (Sl.t (⟨true, []⟩ : Sl ByteArray)), .int .i64 0, .int .i64 0]) rfl hS hH rfl rfl rfl (by kernel_rfl) (by kernel_rfl) ?_; intro σ s hH hS
  refine x_nil ?_
  refine sq_n ?_
  refine c_seq ?_
  refine c_region ?_
  refine q_seg 1 [(1, .ptr b1 0 0 4), (2, .ptr b2 0 0 4), (3, .ptr b3 0 0 4), (7, .ptr b1 0 1 1)] hS (by kernel_rfl) ?_; intro s hS
  refine q_load (v := (Sl.t (a0.Lines : Sl ByteArray))) 2 trivial rfl hS hH rfl rfl (by kernel_rfl) ?_; intro s hS
  obtain ⟨y1, hy1, h⟩ := bind_some h
  refine q_callO (ents := []) (z := false) (ts := [(Sl.t (a0.Lines : Sl ByteArray))]) (vs := [(Sl.t (a0.Lines : Sl ByteArray))]) rfl rfl hS rfl rfl rfl hH (HL.leaf (fun σ d => hold_pure σ d _) HL.nil) hy1 ?_; intro hs σ s hl hH hS
  obtain ⟨t1, rfl⟩ := len1 hl
  have hH : Heap σ0 σ [.own true 1 t1 (Sl.t (y1 : Sl ByteArray)), .box b3 [.str a0.Name, (Sl.t (⟨true, []⟩ : Sl ByteArray)), .int .i64 0, .int .i64 0], .box b2 [.str ⟨#[]⟩, (Sl.t (⟨true, []⟩ : Sl ByteArray)), .int .i64 0, .int .i64 0], .box b1 [.str a0.Name, (Sl.t (a0.Lines : Sl ByteArray)), .int .i64 a0.Mode, .int .i64 a0.At]] := hH
  have ht1 : IsOne t1 := Heap.one hH
  refine q_seg 1 [(1, .ptr b1 0 0 4), (2, .ptr b2 0 0 4), (3, .ptr b3 0 0 4), (9, t1), (10, .ptr b3 0 1 1)] hS (by kernel_rfl) ?_; intro s hS
  have hH : Heap σ0 σ [.box b3 [.str a0.Name, (Sl.t (⟨true, []⟩ : Sl ByteArray)), .int .i64 0, .int .i64 0], .own true 1 t1 (Sl.t (y1 : Sl ByteArray)), .box b2 [.str ⟨#[]⟩, (Sl.t (⟨true, []⟩ : Sl ByteArray)), .int .i64 0, .int .i64 0], .box b1 [.str a0.Name, (Sl.t (a0.Lines : Sl ByteArray)), .int .i64 a0.Mode, .int .i64 a0.At]] := hH.sel [1, 0, 2, 3] rfl (by kernel_rfl)
  refine q_store (v := t1) (cs := [t1]) (cells' := [.str a0.Name, t1, .int .i64 0, .int .i64 0]) rfl hS hH rfl rfl (by simp [ht1.1, ht1.2]) (by simp [ht1.1, ht1.2]) (by kernel_rfl) ?_; intro σ s hH hS
  refine x_nil ?_
  refine sq_n ?_
  refine c_seq ?_
  refine c_region ?_
  refine q_seg 1 [(1, .ptr b1 0 0 4), (2, .ptr b2 0 0 4), (3, .ptr b3 0 0 4), (11, .ptr b1 0 2 1)] hS (by kernel_rfl) ?_; intro s hS
  refine q_load (v := .int .i64 a0.Mode) 3 trivial rfl hS hH rfl rfl (by kernel_rfl) ?_; intro s hS
  refine q_seg 1 [(1, .ptr b1 0 0 4), (2, .ptr b2 0 0 4), (3, .ptr b3 0 0 4), (12, .int .i64 a0.Mode), (13, .ptr b3 0 2 1)] hS (by kernel_rfl) ?_; intro s hS
  refine q_store (v := .int .i64 a0.Mode) (cs := [.int .i64 a0.Mode]) (cells' := [.str a0.Name, t1, .int .i64 a0.Mode, .int .i64 0]) rfl hS hH rfl rfl rfl (by kernel_rfl) (by kernel_rfl) ?_; intro σ s hH hS
  refine x_nil ?_
  refine sq_n ?_
  refine c_seq ?_
  refine c_region ?_
  refine q_seg 1 [(2, .ptr b2 0 0 4), (3, .ptr b3 0 0 4), (14, .ptr b1 0 3 1)] hS (by kernel_rfl) ?_; intro s hS
  refine q_load (v := .int .i64 a0.At) 3 trivial rfl hS hH rfl rfl (by kernel_rfl) ?_; intro s hS
  refine q_seg 1 [(2, .ptr b2 0 0 4), (3, .ptr b3 0 0 4), (15, .int .i64 a0.At), (16, .ptr b3 0 3 1)] hS (by kernel_rfl) ?_; intro s hS
  refine q_store (v := .int .i64 a0.At) (cs := [.int .i64 a0.At]) (cells' := [.str a0.Name, t1, .int .i64 a0.Mode, .int .i64 a0.At]) rfl hS hH rfl rfl rfl (by kernel_rfl) (by kernel_rfl) ?_; intro σ s hH hS
  refine x_nil ?_
  refine sq_n ?_
  refine c_seq ?_
  refine c_region ?_
  refine q_load (v := .agg [.str a0.Name, t1, .int .i64 a0.Mode, .int .i64 a0.At]) 0 trivial rfl hS hH rfl rfl (by kernel_rfl) ?_; intro s hS
  have hH : Heap σ0 σ [.box b2 [.str ⟨#[]⟩, (Sl.t (⟨true, []⟩ : Sl ByteArray)), .int .i64 0, .int .i64 0], .box b3 [.str a0.Name, t1, .int .i64 a0.Mode, .int .i64 a0.At], .own true 1 t1 (Sl.t (y1 : Sl ByteArray)), .box b1 [.str a0.Name, (Sl.t (a0.Lines : Sl ByteArray)), .int .i64 a0.Mode, .int .i64 a0.At]] := hH.sel [2, 0, 1, 3] rfl (by kernel_rfl)
  refine q_store (v := .agg [.str a0.Name, t1, .int .i64 a0.Mode, .int .i64 a0.At]) (cs := [.str a0.Name, t1, .int .i64 a0.Mode, .int .i64 a0.At]) (cells' := [.str a0.Name, t1, .int .i64 a0.Mode, .int .i64 a0.At]) rfl hS hH rfl rfl rfl (by simp [ht1.1, ht1.2]) (by kernel_rfl) ?_; intro σ s hH hS
  refine x_nil ?_
  refine sq_n ?_
  refine c_ret ?_
  injection h with h; subst h
  have hH : Heap σ0 σ [.own true 1 t1 (Sl.t (y1 : Sl ByteArray)), .box b2 [.str a0.Name, t1, .int .i64 a0.Mode, .int .i64 a0.At], .box b3 [.str a0.Name, t1, .int .i64 a0.Mode, .int .i64 a0.At], .box b1 [.str a0.Name, (Sl.t (a0.Lines : Sl ByteArray)), .int .i64 a0.Mode, .int .i64 a0.At]] := hH.sel [2, 0, 1, 3] rfl (by kernel_rfl)
  exact end_Ow [t1] [.box b2 [.str a0.Name, t1, .int .i64 a0.Mode, .int .i64 a0.At], .box b3 [.str a0.Name, t1, .int .i64 a0.Mode, .int .i64 a0.At], .box b1 [.str a0.Name, (Sl.t (a0.Lines : Sl ByteArray)), .int .i64 a0.Mode, .int .i64 a0.At]] (r_cell (v := .agg [.str a0.Name, t1, .int .i64 a0.Mode, .int .i64 a0.At]) hS (hH.at 1 rfl) rfl (by kernel_rfl) r_nil) (by kernel_rfl) rfl hH (by kernel_rfl)
end Go.Am
end
section
set_option maxRecDepth 100000
set_option maxHeartbeats 1000000
set_option linter.unusedVariables false
set_option linter.unusedSimpArgs false
namespace Go.Am
open Go.Proofs
noncomputable def B_slices_Equal_Value (a0 : (Sl DValue)) (a1 : (Sl DValue)) : Option Bool := (if ((!decide ((a0.l.length : Int) = (a1.l.length : Int)))) = true then (some false) else ((loopO (S := Int) (R := (Unit ⊕ Bool)) (fun st1 => (if (decide (st1 < (a0.l.length : Int))) = true then ((elt a0 st1).bind fun y2 => ((elt a1 st1).bind fun y3 => (if ((!(decide (y2.Kind = y3.Kind) && (decide (y2.Num = y3.Num) && (decide (y2.Text = y3.Text) && (decide (y2.Ref = y3.Ref) && true)))))) = true then (some (.inr (.inr false))) else (some (.inl (IntKind.i64.wrap (st1 + 1))))))) else (some (.inr (.inl ()))))) 0).bind fun y1 => (Sum.elim (fun y1 => (some true)) (fun y1 => (some y1)) y1)))
theorem u_slices_Equal_Value (a0 : (Sl DValue)) (a1 : (Sl DValue)) (r : Bool) (h : B_slices_Equal_Value a0 a1 = some r) : F_slices_Equal_Value a0 a1 = some r := by
  unfold B_slices_Equal_Value at h
  refine semW_of E_bool_inj rfl rfl ok_103 rfl (all_cons (by kernel_rfl) (all_cons (by kernel_rfl) all_nil)) ?_
  intro σ0 s hS hH
  have hS := sub_to (L' := [(0, (Sl.t (a0 : Sl DValue))), (1, (Sl.t (a1 : Sl DValue)))]) hS (by kernel_rfl)
  refine c_seq ?_
  refine c_region ?_
  refine q_seg 1 [(0, (Sl.t (a0 : Sl DValue))), (1, (Sl.t (a1 : Sl DValue)))] hS (by kernel_rfl) ?_; intro s hS
  refine x_nil ?_
  refine sq_n ?_
  refine c_seq ?_
  refine c_seq ?_
  refine c_region ?_
  refine q_seg 5 [(0, (Sl.t (a0 : Sl DValue))), (1, (Sl.t (a1 : Sl DValue))), (10, .bool ((!decide ((a0.l.length : Int) = (a1.l.length : Int)))))] hS (by kernel_rfl) ?_; intro s hS
  refine x_nil ?_
  refine sq_n ?_
  by_cases hc1 : ((!decide ((a0.l.length : Int) = (a1.l.length : Int)))) = true
  · have h := it_pos hc1 h
    refine c_cond hS rfl (fun _ => ?_) (fun hf => ff_absurd hc1 hf)
    refine c_seq ?_
    refine c_region ?_
    refine q_seg 1 [(4, .bool false)] hS (by kernel_rfl) ?_; intro s hS
    refine x_nil ?_
    refine sq_n ?_
    refine c_ret ?_
    refine sq_r ?_
    injection h with h; subst h
    exact end_W hH (r_tmp (v := .bool false) hS rfl r_nil) rfl (by kernel_rfl) (by simp [pureT, pureL, E_bool])
  · have h := it_neg hc1 h
    refine c_cond hS rfl (fun hf => tt_absurd hc1 hf) (fun _ => ?_)
    refine c_skip ?_
    refine sq_n ?_
    refine c_seq ?_
    refine c_seq ?_
    refine c_region ?_
    refine q_seg 3 [(0, (Sl.t (a0 : Sl DValue))), (1, (Sl.t (a1 : Sl DValue))), (12, .int .i64 (a0.l.length : Int)), (13, .int .i64 0)] hS (by kernel_rfl) ?_; intro s hS
    refine x_nil ?_
    refine sq_n ?_
    refine c_block ?_
    obtain ⟨y1, hy1, h⟩ := bind_some h
    refine c_loop (fun (st1 : Int) (fr : Fr) => Sub [(0, (Sl.t (a0 : Sl DValue))), (1, (Sl.t (a1 : Sl DValue))), (12, .int .i64 (a0.l.length : Int)), (13, .int .i64 st1)] fr.s ∧ Heap σ0 fr.σ []) (fun (y1 : (Unit ⊕ Bool)) (e : AExit) (fr : Fr) => (Sum.elim (fun y => e = (.exit 0) ∧ Sub [] fr.s ∧ Heap σ0 fr.σ []) (fun y => e = .ret ∧ endW Try.prog (Try.f103.results.toList) σ0 (E_bool y) .ret fr)) y1) hy1 (And.intro (sub_to hS (by kernel_rfl)) hH) ?_ ?_
    · clear h hy1 hS hH; clear y1; intro st1 x fr h HI; obtain ⟨s, σ⟩ := fr; obtain ⟨hS, hH⟩ := HI
      refine c_seq ?_
      refine c_region ?_
      refine q_seg 1 [(0, (Sl.t (a0 : Sl DValue))), (1, (Sl.t (a1 : Sl DValue))), (12, .int .i64 (a0.l.length : Int)), (13, .int .i64 st1), (14, .bool (decide (st1 < (a0.l.length : Int))))] hS (by kernel_rfl) ?_; intro s hS
      refine x_nil ?_
      refine sq_n ?_
      refine c_seq ?_
      by_cases hc2 : (decide (st1 < (a0.l.length : Int))) = true
      · have h := it_pos hc2 h
        refine c_cond hS rfl (fun _ => ?_) (fun hf => ff_absurd hc2 hf)
        refine c_skip ?_
        refine sq_n ?_
        refine c_seq ?_
        refine c_block ?_
        refine c_seq ?_
        refine c_region ?_
        refine q_seg 2 [(0, (Sl.t (a0 : Sl DValue))), (1, (Sl.t (a1 : Sl DValue))), (5, .int .i64 st1), (12, .int .i64 (a0.l.length : Int)), (13, .int .i64 st1)] hS (by kernel_rfl) ?_; intro s hS
        refine x_nil ?_
        refine sq_n ?_
        refine c_seq ?_
        refine c_draw (by kernel_rfl) hH ?_; intro mb σ hH
        refine q_seg 2 [(0, (Sl.t (a0 : Sl DValue))), (1, (Sl.t (a1 : Sl DValue))), (5, .int .i64 st1), (12, .int .i64 (a0.l.length : Int)), (13, .int .i64 st1), (16, (Sl.t (a0 : Sl DValue))), (17, .int .i64 st1)] hS (by kernel_rfl) ?_; intro s hS
        obtain ⟨y2, hy2, h⟩ := bind_some h
        refine q_elt (sl := a0) (e := 113) [.int .i64 y2.Kind, .int .i64 y2.Num, .str y2.Text, .int .i64 y2.Ref] rfl hS rfl rfl (by kernel_rfl) (by kernel_rfl) hy2 rfl ?_; intro rest1 s hS
        refine q_seg 3 [(0, (Sl.t (a0 : Sl DValue))), (1, (Sl.t (a1 : Sl DValue))), (12, .int .i64 (a0.l.length : Int)), (13, .int .i64 st1), (19, .agg (DValue.cells y2)), (20, (Sl.t (a1 : Sl DValue))), (21, .int .i64 st1)] hS (by kernel_rfl) ?_; intro s hS
        obtain ⟨y3, hy3, h⟩ := bind_some h
        refine q_elt (sl := a1) (e := 113) [.int .i64 y3.Kind, .int .i64 y3.Num, .str y3.Text, .int .i64 y3.Ref] rfl hS rfl rfl (by kernel_rfl) (by kernel_rfl) hy3 rfl ?_; intro rest2 s hS
        refine q_seg 1 [(0, (Sl.t (a0 : Sl DValue))), (1, (Sl.t (a1 : Sl DValue))), (12, .int .i64 (a0.l.length : Int)), (13, .int .i64 st1), (19, .agg (DValue.cells y2)), (23, .agg (DValue.cells y3))] hS (by kernel_rfl) ?_; intro s hS
        refine q_neS (xs := [.int .i64 y2.Kind, .int .i64 y2.Num, .str y2.Text, .int .i64 y2.Ref]) (ys := [.int .i64 y3.Kind, .int .i64 y3.Num, .str y3.Text, .int .i64 y3.Ref]) (v := (decide (y2.Kind = y3.Kind) && (decide (y2.Num = y3.Num) && (decide (y2.Text = y3.Text) && (decide (y2.Ref = y3.Ref) && true))))) rfl hS rfl rfl (by kernel_rfl) (by kernel_rfl) ?_; intro s hS
        refine x_nil ?_
        refine sq_n ?_
        by_cases hc3 : ((!(decide (y2.Kind = y3.Kind) && (decide (y2.Num = y3.Num) && (decide (y2.Text = y3.Text) && (decide (y2.Ref = y3.Ref) && true)))))) = true
        · have h := it_pos hc3 h
          refine c_cond hS rfl (fun _ => ?_) (fun hf => ff_absurd hc3 hf)
          refine c_seq ?_
          refine c_region ?_
          refine q_seg 1 [(4, .bool false)] hS (by kernel_rfl) ?_; intro s hS
          refine x_nil ?_
          refine sq_n ?_
          refine c_ret ?_
          refine bk_r ?_
          refine sq_r ?_
          injection h with h; subst h
          exact And.intro rfl (end_W hH (r_tmp (v := .bool false) hS rfl r_nil) rfl (by kernel_rfl) (by simp [pureT, pureL, E_bool]))
        · have h := it_neg hc3 h
          refine c_cond hS rfl (fun hf => tt_absurd hc3 hf) (fun _ => ?_)
          refine c_skip ?_
          refine bk_n ?_
          refine sq_n ?_
          refine c_region ?_
          refine q_seg 2 [(0, (Sl.t (a0 : Sl DValue))), (1, (Sl.t (a1 : Sl DValue))), (12, .int .i64 (a0.l.length : Int)), (13, .int .i64 (IntKind.i64.wrap (st1 + 1)))] hS (by kernel_rfl) ?_; intro s hS
          refine x_nil ?_
          injection h with h; subst h
          exact And.intro (sub_to hS (by kernel_rfl)) hH
      · have h := it_neg hc2 h
        refine c_cond hS rfl (fun hf => tt_absurd hc2 hf) (fun _ => ?_)
        refine c_exit ?_
        refine sq_x ?_
        injection h with h; subst h
        exact And.intro rfl (And.intro (sub_to hS (by kernel_rfl)) hH)
    · clear hS hH; intro e fr HF; obtain ⟨s, σ⟩ := fr
      rcases y1 with y1 | y1
      · obtain ⟨rfl, hS, hH⟩ := HF
        refine bk_e ?_
        refine sq_n ?_
        refine c_seq ?_
        refine c_region ?_
        refine q_seg 1 [(4, .bool true)] hS (by kernel_rfl) ?_; intro s hS
        refine x_nil ?_
        refine sq_n ?_
        refine c_ret ?_
        injection h with h; subst h
        exact end_W hH (r_tmp (v := .bool true) hS rfl r_nil) rfl (by kernel_rfl) (by simp [pureT, pureL, E_bool])
      · obtain ⟨rfl, HE⟩ := HF
        refine bk_r ?_
        refine sq_r ?_
        injection h with h; subst h; exact HE
end Go.Am
end
