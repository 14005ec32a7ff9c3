/- Functions of the program. -/
import Derived.Test.YtnabmjlpdcpaeaaAd0
section
set_option maxRecDepth 100000
set_option maxHeartbeats 1000000
set_option linter.unusedVariables false
set_option linter.unusedSimpArgs false
namespace Go.Am
open Go.Proofs
noncomputable def B_laws_eqDesk (a0 : DDesk) (a1 : DDesk) : Option Bool := ((F_laws_eqStringS a0.Source a1.Source).bind fun y1 => (if (!y1) = true then (some false) else ((F_laws_eqStringS a0.Input a1.Input).bind fun y2 => (if (!y2) = true then (some false) else ((F_laws_eqMemory a0.Memory a1.Memory).bind fun y3 => (if (!y3) = true then (some false) else (if (!decide (a0.At = a1.At)) = true then (some false) else (if (!decide (a0.Steps = a1.Steps)) = true then (some false) else (if (!decide (a0.Image = a1.Image)) = true then (some false) else (if (!decide (a0.Saved = a1.Saved)) = true then (some false) else (some true)))))))))))
theorem u_laws_eqDesk (a0 : DDesk) (a1 : DDesk) (r : Bool) (h : B_laws_eqDesk a0 a1 = some r) : F_laws_eqDesk a0 a1 = some r := by
  unfold B_laws_eqDesk at h
  refine semW_of E_bool_inj rfl rfl ok_7 rfl (all_cons (by kernel_rfl) (all_cons (by kernel_rfl) all_nil)) ?_
  intro σ0 s hS hH
  have hS := sub_to (L' := [(0, .agg (DDesk.cells a0)), (1, .agg (DDesk.cells a1))]) hS (by kernel_rfl)
  refine c_seq ?_
  refine c_region ?_
  refine q_box (v := .agg (DDesk.cells a0)) (cs := [(Sl.t (a0.Source : Sl ByteArray)), (Sl.t (a0.Input : Sl ByteArray)), .int .i64 a0.Memory.Heap.Next, (Sl.t (a0.Memory.Heap.Objects : Sl DObject)), (Sl.t (a0.Memory.Scope.Vars : Sl DBinding)), (Sl.t (a0.Memory.Scope.Functions : Sl DFunction)), (Sl.t (a0.Memory.Scope.Types : Sl DRecordType)), (Sl.t (a0.Memory.Console.Input : Sl ByteArray)), .int .i64 a0.Memory.Console.At, (Sl.t (a0.Memory.Console.Output : Sl ByteArray)), (Sl.t (a0.Memory.Console.Files : Sl DFile)), (Sl.t (a0.Memory.Console.Trace : Sl ByteArray)), .int .i64 a0.At, .int .i64 a0.Steps, .str a0.Image, .int .i64 a0.Saved]) rfl hS hH rfl rfl (by kernel_rfl) ?_; intro b1 σ s hH hS
  refine q_box (v := .agg (DDesk.cells a1)) (cs := [(Sl.t (a1.Source : Sl ByteArray)), (Sl.t (a1.Input : Sl ByteArray)), .int .i64 a1.Memory.Heap.Next, (Sl.t (a1.Memory.Heap.Objects : Sl DObject)), (Sl.t (a1.Memory.Scope.Vars : Sl DBinding)), (Sl.t (a1.Memory.Scope.Functions : Sl DFunction)), (Sl.t (a1.Memory.Scope.Types : Sl DRecordType)), (Sl.t (a1.Memory.Console.Input : Sl ByteArray)), .int .i64 a1.Memory.Console.At, (Sl.t (a1.Memory.Console.Output : Sl ByteArray)), (Sl.t (a1.Memory.Console.Files : Sl DFile)), (Sl.t (a1.Memory.Console.Trace : Sl ByteArray)), .int .i64 a1.At, .int .i64 a1.Steps, .str a1.Image, .int .i64 a1.Saved]) rfl hS hH rfl rfl (by kernel_rfl) ?_; intro b2 σ s hH hS
  refine q_seg 1 [(2, .ptr b1 0 0 16), (3, .ptr b2 0 0 16)] hS (by kernel_rfl) ?_; intro s hS
  refine x_nil ?_
  refine sq_n ?_
  refine c_seq ?_
  refine c_seq ?_
  refine c_region ?_
  refine q_seg 1 [(2, .ptr b1 0 0 16), (3, .ptr b2 0 0 16), (5, .ptr b1 0 0 1)] hS (by kernel_rfl) ?_; intro s hS
  refine q_load (v := (Sl.t (a0.Source : Sl ByteArray))) 1 trivial rfl hS hH rfl rfl (by kernel_rfl) ?_; intro s hS
  refine q_seg 1 [(2, .ptr b1 0 0 16), (3, .ptr b2 0 0 16), (6, (Sl.t (a0.Source : Sl ByteArray))), (7, .ptr b2 0 0 1)] hS (by kernel_rfl) ?_; intro s hS
  refine q_load (v := (Sl.t (a1.Source : Sl ByteArray))) 0 trivial rfl hS hH rfl rfl (by kernel_rfl) ?_; intro s hS
  obtain ⟨y1, hy1, h⟩ := bind_some h
  refine q_callF (a := []) (b := []) (xs := [(Sl.t (a0.Source : Sl ByteArray)), (Sl.t (a1.Source : Sl ByteArray))]) rfl hS rfl rfl hy1 ?_; intro s hS
  refine q_seg 1 [(2, .ptr b1 0 0 16), (3, .ptr b2 0 0 16), (10, .bool (!y1))] hS (by kernel_rfl) ?_; intro s hS
  refine x_nil ?_
  refine sq_n ?_
  by_cases hc1 : (!y1) = true
  · have h := it_pos hc1 h
    refine c_cond hS rfl (fun _ => ?_) (fun hf => ff_absurd hc1 hf)
    refine c_seq ?_
    refine c_region ?_
    refine q_seg 1 [(4, .bool false)] hS (by kernel_rfl) ?_; intro s hS
    refine x_nil ?_
    refine sq_n ?_
    refine c_ret ?_
    refine sq_r ?_
    injection h with h; subst h
    exact end_W hH (r_tmp (v := .bool false) hS rfl r_nil) rfl (by kernel_rfl) (by simp [pureT, pureL, E_bool])
  · have h := it_neg hc1 h
    refine c_cond hS rfl (fun hf => tt_absurd hc1 hf) (fun _ => ?_)
    refine c_skip ?_
    refine sq_n ?_
    refine c_seq ?_
    refine c_seq ?_
    refine c_region ?_
    refine q_seg 1 [(2, .ptr b1 0 0 16), (3, .ptr b2 0 0 16), (11, .ptr b1 0 1 1)] hS (by kernel_rfl) ?_; intro s hS
    refine q_load (v := (Sl.t (a0.Input : Sl ByteArray))) 1 trivial rfl hS hH rfl rfl (by kernel_rfl) ?_; intro s hS
    refine q_seg 1 [(2, .ptr b1 0 0 16), (3, .ptr b2 0 0 16), (12, (Sl.t (a0.Input : Sl ByteArray))), (13, .ptr b2 0 1 1)] hS (by kernel_rfl) ?_; intro s hS
    refine q_load (v := (Sl.t (a1.Input : Sl ByteArray))) 0 trivial rfl hS hH rfl rfl (by kernel_rfl) ?_; intro s hS
    obtain ⟨y2, hy2, h⟩ := bind_some h
    refine q_callF (a := []) (b := []) (xs := [(Sl.t (a0.Input : Sl ByteArray)), (Sl.t (a1.Input : Sl ByteArray))]) rfl hS rfl rfl hy2 ?_; intro s hS
    refine q_seg 1 [(2, .ptr b1 0 0 16), (3, .ptr b2 0 0 16), (16, .bool (!y2))] hS (by kernel_rfl) ?_; intro s hS
    refine x_nil ?_
    refine sq_n ?_
    by_cases hc2 : (!y2) = true
    · have h := it_pos hc2 h
      refine c_cond hS rfl (fun _ => ?_) (fun hf => ff_absurd hc2 hf)
      refine c_seq ?_
      refine c_region ?_
      refine q_seg 1 [(4, .bool false)] hS (by kernel_rfl) ?_; intro s hS
      refine x_nil ?_
      refine sq_n ?_
      refine c_ret ?_
      refine sq_r ?_
      injection h with h; subst h
      exact end_W hH (r_tmp (v := .bool false) hS rfl r_nil) rfl (by kernel_rfl) (by simp [pureT, pureL, E_bool])
    · have h := it_neg hc2 h
      refine c_cond hS rfl (fun hf => tt_absurd hc2 hf) (fun _ => ?_)
      refine c_skip ?_
      refine sq_n ?_
      refine c_seq ?_
      refine c_seq ?_
      refine c_region ?_
      refine q_seg 1 [(2, .ptr b1 0 0 16), (3, .ptr b2 0 0 16), (17, .ptr b1 0 2 10)] hS (by kernel_rfl) ?_; intro s hS
      refine q_load (v := .agg (DMemory.cells a0.Memory)) 1 trivial rfl hS hH rfl rfl (by kernel_rfl) ?_; intro s hS
      refine q_seg 1 [(2, .ptr b1 0 0 16), (3, .ptr b2 0 0 16), (18, .agg (DMemory.cells a0.Memory)), (19, .ptr b2 0 2 10)] hS (by kernel_rfl) ?_; intro s hS
      refine q_load (v := .agg (DMemory.cells a1.Memory)) 0 trivial rfl hS hH rfl rfl (by kernel_rfl) ?_; intro s hS
      obtain ⟨y3, hy3, h⟩ := bind_some h
      refine q_callF (a := []) (b := []) (xs := [.agg (DMemory.cells a0.Memory), .agg (DMemory.cells a1.Memory)]) rfl hS rfl rfl hy3 ?_; intro s hS
      refine q_seg 1 [(2, .ptr b1 0 0 16), (3, .ptr b2 0 0 16), (22, .bool (!y3))] hS (by kernel_rfl) ?_; intro s hS
      refine x_nil ?_
      refine sq_n ?_
      by_cases hc3 : (!y3) = true
      · have h := it_pos hc3 h
        refine c_cond hS rfl (fun _ => ?_) (fun hf => ff_absurd hc3 hf)
        refine c_seq ?_
        refine c_region ?_
        refine q_seg 1 [(4, .bool false)] hS (by kernel_rfl) ?_; intro s hS
        refine x_nil ?_
        refine sq_n ?_
        refine c_ret ?_
        refine sq_r ?_
        injection h with h; subst h
        exact end_W hH (r_tmp (v := .bool false) hS rfl r_nil) rfl (by kernel_rfl) (by simp [pureT, pureL, E_bool])
      · have h := it_neg hc3 h
        refine c_cond hS rfl (fun hf => tt_absurd hc3 hf) (fun _ => ?_)
        refine c_skip ?_
        refine sq_n ?_
        refine c_seq ?_
        refine c_seq ?_
        refine c_region ?_
        refine q_seg 1 [(2, .ptr b1 0 0 16), (3, .ptr b2 0 0 16), (23, .ptr b1 0 12 1)] hS (by kernel_rfl) ?_; intro s hS
        refine q_load (v := .int .i64 a0.At) 1 trivial rfl hS hH rfl rfl (by kernel_rfl) ?_; intro s hS
        refine q_seg 1 [(2, .ptr b1 0 0 16), (3, .ptr b2 0 0 16), (24, .int .i64 a0.At), (25, .ptr b2 0 12 1)] hS (by kernel_rfl) ?_; intro s hS
        refine q_load (v := .int .i64 a1.At) 0 trivial rfl hS hH rfl rfl (by kernel_rfl) ?_; intro s hS
        refine q_seg 1 [(2, .ptr b1 0 0 16), (3, .ptr b2 0 0 16), (27, .bool (!decide (a0.At = a1.At)))] hS (by kernel_rfl) ?_; intro s hS
        refine x_nil ?_
        refine sq_n ?_
        by_cases hc4 : (!decide (a0.At = a1.At)) = true
        · have h := it_pos hc4 h
          refine c_cond hS rfl (fun _ => ?_) (fun hf => ff_absurd hc4 hf)
          refine c_seq ?_
          refine c_region ?_
          refine q_seg 1 [(4, .bool false)] hS (by kernel_rfl) ?_; intro s hS
          refine x_nil ?_
          refine sq_n ?_
          refine c_ret ?_
          refine sq_r ?_
          injection h with h; subst h
          exact end_W hH (r_tmp (v := .bool false) hS rfl r_nil) rfl (by kernel_rfl) (by simp [pureT, pureL, E_bool])
        · have h := it_neg hc4 h
          refine c_cond hS rfl (fun hf => tt_absurd hc4 hf) (fun _ => ?_)
          refine c_skip ?_
          refine sq_n ?_
          refine c_seq ?_
          refine c_seq ?_
          refine c_region ?_
          refine q_seg 1 [(2, .ptr b1 0 0 16), (3, .ptr b2 0 0 16), (28, .ptr b1 0 13 1)] hS (by kernel_rfl) ?_; intro s hS
          refine q_load (v := .int .i64 a0.Steps) 1 trivial rfl hS hH rfl rfl (by kernel_rfl) ?_; intro s hS
          refine q_seg 1 [(2, .ptr b1 0 0 16), (3, .ptr b2 0 0 16), (29, .int .i64 a0.Steps), (30, .ptr b2 0 13 1)] hS (by kernel_rfl) ?_; intro s hS
          refine q_load (v := .int .i64 a1.Steps) 0 trivial rfl hS hH rfl rfl (by kernel_rfl) ?_; intro s hS
          refine q_seg 1 [(2, .ptr b1 0 0 16), (3, .ptr b2 0 0 16), (32, .bool (!decide (a0.Steps = a1.Steps)))] hS (by kernel_rfl) ?_; intro s hS
          refine x_nil ?_
          refine sq_n ?_
          by_cases hc5 : (!decide (a0.Steps = a1.Steps)) = true
          · have h := it_pos hc5 h
            refine c_cond hS rfl (fun _ => ?_) (fun hf => ff_absurd hc5 hf)
            refine c_seq ?_
            refine c_region ?_
            refine q_seg 1 [(4, .bool false)] hS (by kernel_rfl) ?_; intro s hS
            refine x_nil ?_
            refine sq_n ?_
            refine c_ret ?_
            refine sq_r ?_
            injection h with h; subst h
            exact end_W hH (r_tmp (v := .bool false) hS rfl r_nil) rfl (by kernel_rfl) (by simp [pureT, pureL, E_bool])
          · have h := it_neg hc5 h
            refine c_cond hS rfl (fun hf => tt_absurd hc5 hf) (fun _ => ?_)
            refine c_skip ?_
            refine sq_n ?_
            refine c_seq ?_
            refine c_seq ?_
            refine c_region ?_
            refine q_seg 1 [(2, .ptr b1 0 0 16), (3, .ptr b2 0 0 16), (33, .ptr b1 0 14 1)] hS (by kernel_rfl) ?_; intro s hS
            refine q_load (v := .str a0.Image) 1 trivial rfl hS hH rfl rfl (by kernel_rfl) ?_; intro s hS
            refine q_seg 1 [(2, .ptr b1 0 0 16), (3, .ptr b2 0 0 16), (34, .str a0.Image), (35, .ptr b2 0 14 1)] hS (by kernel_rfl) ?_; intro s hS
            refine q_load (v := .str a1.Image) 0 trivial rfl hS hH rfl rfl (by kernel_rfl) ?_; intro s hS
            refine q_seg 1 [(2, .ptr b1 0 0 16), (3, .ptr b2 0 0 16), (37, .bool (!decide (a0.Image = a1.Image)))] hS (by kernel_rfl) ?_; intro s hS
            refine x_nil ?_
            refine sq_n ?_
            by_cases hc6 : (!decide (a0.Image = a1.Image)) = true
            · have h := it_pos hc6 h
              refine c_cond hS rfl (fun _ => ?_) (fun hf => ff_absurd hc6 hf)
              refine c_seq ?_
              refine c_region ?_
              refine q_seg 1 [(4, .bool false)] hS (by kernel_rfl) ?_; intro s hS
              refine x_nil ?_
              refine sq_n ?_
              refine c_ret ?_
              refine sq_r ?_
              injection h with h; subst h
              exact end_W hH (r_tmp (v := .bool false) hS rfl r_nil) rfl (by kernel_rfl) (by simp [pureT, pureL, E_bool])
            · have h := it_neg hc6 h
              refine c_cond hS rfl (fun hf => tt_absurd hc6 hf) (fun _ => ?_)
              refine c_skip ?_
              refine sq_n ?_
              refine c_seq ?_
              refine c_seq ?_
              refine c_region ?_
              refine q_seg 1 [(3, .ptr b2 0 0 16), (38, .ptr b1 0 15 1)] hS (by kernel_rfl) ?_; intro s hS
              refine q_load (v := .int .i64 a0.Saved) 1 trivial rfl hS hH rfl rfl (by kernel_rfl) ?_; intro s hS
              refine q_seg 1 [(39, .int .i64 a0.Saved), (40, .ptr b2 0 15 1)] hS (by kernel_rfl) ?_; intro s hS
              refine q_load (v := .int .i64 a1.Saved) 0 trivial rfl hS hH rfl rfl (by kernel_rfl) ?_; intro s hS
              refine q_seg 1 [(42, .bool (!decide (a0.Saved = a1.Saved)))] hS (by kernel_rfl) ?_; intro s hS
              refine x_nil ?_
              refine sq_n ?_
              by_cases hc7 : (!decide (a0.Saved = a1.Saved)) = true
              · have h := it_pos hc7 h
                refine c_cond hS rfl (fun _ => ?_) (fun hf => ff_absurd hc7 hf)
                refine c_seq ?_
                refine c_region ?_
                refine q_seg 1 [(4, .bool false)] hS (by kernel_rfl) ?_; intro s hS
                refine x_nil ?_
                refine sq_n ?_
                refine c_ret ?_
                refine sq_r ?_
                injection h with h; subst h
                exact end_W hH (r_tmp (v := .bool false) hS rfl r_nil) rfl (by kernel_rfl) (by simp [pureT, pureL, E_bool])
              · have h := it_neg hc7 h
                refine c_cond hS rfl (fun hf => tt_absurd hc7 hf) (fun _ => ?_)
                refine c_skip ?_
                refine sq_n ?_
                refine c_seq ?_
                refine c_region ?_
                refine q_seg 1 [(4, .bool true)] hS (by kernel_rfl) ?_; intro s hS
                refine x_nil ?_
                refine sq_n ?_
                refine c_ret ?_
                injection h with h; subst h
                exact end_W hH (r_tmp (v := .bool true) hS rfl r_nil) rfl (by kernel_rfl) (by simp [pureT, pureL, E_bool])
end Go.Am
end
section
set_option maxRecDepth 100000
set_option maxHeartbeats 1000000
set_option linter.unusedVariables false
set_option linter.unusedSimpArgs false
namespace Go.Am
open Go.Proofs
noncomputable def B_laws_szDesk (a0 : DDesk) (a1 : Int) : Option Int := ((F_laws_szStringS a0.Source a1).bind fun y1 => (if (decide (y1 < 0)) = true then (some (-1)) else ((F_laws_szStringS a0.Input y1).bind fun y2 => (if (decide (y2 < 0)) = true then (some (-1)) else ((F_laws_szMemory a0.Memory y2).bind fun y3 => (if (decide (y3 < 0)) = true then (some (-1)) else (if (decide ((IntKind.i64.wrap (y3 - (a0.Image.size : Int))) < 0)) = true then (some (-1)) else (some (IntKind.i64.wrap (y3 - (a0.Image.size : Int)))))))))))
theorem u_laws_szDesk (a0 : DDesk) (a1 : Int) (r : Int) (h : B_laws_szDesk a0 a1 = some r) : F_laws_szDesk a0 a1 = some r := by
  unfold B_laws_szDesk at h
  refine semW_of E_i64_inj rfl rfl ok_10 rfl (all_cons (by kernel_rfl) (all_cons (by kernel_rfl) all_nil)) ?_
  intro σ0 s hS hH
  have hS := sub_to (L' := [(0, .agg (DDesk.cells a0)), (1, .int .i64 a1)]) hS (by kernel_rfl)
  refine c_seq ?_
  refine c_region ?_
  refine q_box (v := .agg (DDesk.cells a0)) (cs := [(Sl.t (a0.Source : Sl ByteArray)), (Sl.t (a0.Input : Sl ByteArray)), .int .i64 a0.Memory.Heap.Next, (Sl.t (a0.Memory.Heap.Objects : Sl DObject)), (Sl.t (a0.Memory.Scope.Vars : Sl DBinding)), (Sl.t (a0.Memory.Scope.Functions : Sl DFunction)), (Sl.t (a0.Memory.Scope.Types : Sl DRecordType)), (Sl.t (a0.Memory.Console.Input : Sl ByteArray)), .int .i64 a0.Memory.Console.At, (Sl.t (a0.Memory.Console.Output : Sl ByteArray)), (Sl.t (a0.Memory.Console.Files : Sl DFile)), (Sl.t (a0.Memory.Console.Trace : Sl ByteArray)), .int .i64 a0.At, .int .i64 a0.Steps, .str a0.Image, .int .i64 a0.Saved]) rfl hS hH rfl rfl (by kernel_rfl) ?_; intro b1 σ s hH hS
  refine q_seg 1 [(1, .int .i64 a1), (2, .ptr b1 0 0 16)] hS (by kernel_rfl) ?_; intro s hS
  refine x_nil ?_
  refine sq_n ?_
  refine c_seq ?_
  refine c_region ?_
  refine q_seg 1 [(1, .int .i64 a1), (2, .ptr b1 0 0 16), (5, .ptr b1 0 0 1)] hS (by kernel_rfl) ?_; intro s hS
  refine q_load (v := (Sl.t (a0.Source : Sl ByteArray))) 0 trivial rfl hS hH rfl rfl (by kernel_rfl) ?_; intro s hS
  refine q_seg 1 [(2, .ptr b1 0 0 16), (6, (Sl.t (a0.Source : Sl ByteArray))), (7, .int .i64 a1)] hS (by kernel_rfl) ?_; intro s hS
  obtain ⟨y1, hy1, h⟩ := bind_some h
  refine q_callF (a := []) (b := []) (xs := [(Sl.t (a0.Source : Sl ByteArray)), .int .i64 a1]) rfl hS rfl rfl hy1 ?_; intro s hS
  refine q_seg 1 [(1, .int .i64 y1), (2, .ptr b1 0 0 16)] hS (by kernel_rfl) ?_; intro s hS
  refine x_nil ?_
  refine sq_n ?_
  refine c_seq ?_
  refine c_seq ?_
  refine c_region ?_
  refine q_seg 2 [(1, .int .i64 y1), (2, .ptr b1 0 0 16), (10, .bool (decide (y1 < 0)))] hS (by kernel_rfl) ?_; intro s hS
  refine x_nil ?_
  refine sq_n ?_
  by_cases hc1 : (decide (y1 < 0)) = true
  · have h := it_pos hc1 h
    refine c_cond hS rfl (fun _ => ?_) (fun hf => ff_absurd hc1 hf)
    refine c_seq ?_
    refine c_region ?_
    refine q_seg 1 [(4, .int .i64 (-1))] hS (by kernel_rfl) ?_; intro s hS
    refine x_nil ?_
    refine sq_n ?_
    refine c_ret ?_
    refine sq_r ?_
    injection h with h; subst h
    exact end_W hH (r_tmp (v := .int .i64 (-1)) hS rfl r_nil) rfl (by kernel_rfl) (by simp [pureT, pureL, E_i64])
  · have h := it_neg hc1 h
    refine c_cond hS rfl (fun hf => tt_absurd hc1 hf) (fun _ => ?_)
    refine c_skip ?_
    refine sq_n ?_
    refine c_seq ?_
    refine c_region ?_
    refine q_seg 1 [(1, .int .i64 y1), (2, .ptr b1 0 0 16), (11, .ptr b1 0 1 1)] hS (by kernel_rfl) ?_; intro s hS
    refine q_load (v := (Sl.t (a0.Input : Sl ByteArray))) 0 trivial rfl hS hH rfl rfl (by kernel_rfl) ?_; intro s hS
    refine q_seg 1 [(2, .ptr b1 0 0 16), (12, (Sl.t (a0.Input : Sl ByteArray))), (13, .int .i64 y1)] hS (by kernel_rfl) ?_; intro s hS
    obtain ⟨y2, hy2, h⟩ := bind_some h
    refine q_callF (a := []) (b := []) (xs := [(Sl.t (a0.Input : Sl ByteArray)), .int .i64 y1]) rfl hS rfl rfl hy2 ?_; intro s hS
    refine q_seg 1 [(1, .int .i64 y2), (2, .ptr b1 0 0 16)] hS (by kernel_rfl) ?_; intro s hS
    refine x_nil ?_
    refine sq_n ?_
    refine c_seq ?_
    refine c_seq ?_
    refine c_region ?_
    refine q_seg 2 [(1, .int .i64 y2), (2, .ptr b1 0 0 16), (16, .bool (decide (y2 < 0)))] hS (by kernel_rfl) ?_; intro s hS
    refine x_nil ?_
    refine sq_n ?_
    by_cases hc2 : (decide (y2 < 0)) = true
    · have h := it_pos hc2 h
      refine c_cond hS rfl (fun _ => ?_) (fun hf => ff_absurd hc2 hf)
      refine c_seq ?_
      refine c_region ?_
      refine q_seg 1 [(4, .int .i64 (-1))] hS (by kernel_rfl) ?_; intro s hS
      refine x_nil ?_
      refine sq_n ?_
      refine c_ret ?_
      refine sq_r ?_
      injection h with h; subst h
      exact end_W hH (r_tmp (v := .int .i64 (-1)) hS rfl r_nil) rfl (by kernel_rfl) (by simp [pureT, pureL, E_i64])
    · have h := it_neg hc2 h
      refine c_cond hS rfl (fun hf => tt_absurd hc2 hf) (fun _ => ?_)
      refine c_skip ?_
      refine sq_n ?_
      refine c_seq ?_
      refine c_region ?_
      refine q_seg 1 [(1, .int .i64 y2), (2, .ptr b1 0 0 16), (17, .ptr b1 0 2 10)] hS (by kernel_rfl) ?_; intro s hS
      refine q_load (v := .agg (DMemory.cells a0.Memory)) 0 trivial rfl hS hH rfl rfl (by kernel_rfl) ?_; intro s hS
      refine q_seg 1 [(2, .ptr b1 0 0 16), (18, .agg (DMemory.cells a0.Memory)), (19, .int .i64 y2)] hS (by kernel_rfl) ?_; intro s hS
      obtain ⟨y3, hy3, h⟩ := bind_some h
      refine q_callF (a := []) (b := []) (xs := [.agg (DMemory.cells a0.Memory), .int .i64 y2]) rfl hS rfl rfl hy3 ?_; intro s hS
      refine q_seg 1 [(1, .int .i64 y3), (2, .ptr b1 0 0 16)] hS (by kernel_rfl) ?_; intro s hS
      refine x_nil ?_
      refine sq_n ?_
      refine c_seq ?_
      refine c_seq ?_
      refine c_region ?_
      refine q_seg 2 [(1, .int .i64 y3), (2, .ptr b1 0 0 16), (22, .bool (decide (y3 < 0)))] hS (by kernel_rfl) ?_; intro s hS
      refine x_nil ?_
      refine sq_n ?_
      by_cases hc3 : (decide (y3 < 0)) = true
      · have h := it_pos hc3 h
        refine c_cond hS rfl (fun _ => ?_) (fun hf => ff_absurd hc3 hf)
        refine c_seq ?_
        refine c_region ?_
        refine q_seg 1 [(4, .int .i64 (-1))] hS (by kernel_rfl) ?_; intro s hS
        refine x_nil ?_
        refine sq_n ?_
        refine c_ret ?_
        refine sq_r ?_
        injection h with h; subst h
        exact end_W hH (r_tmp (v := .int .i64 (-1)) hS rfl r_nil) rfl (by kernel_rfl) (by simp [pureT, pureL, E_i64])
      · have h := it_neg hc3 h
        refine c_cond hS rfl (fun hf => tt_absurd hc3 hf) (fun _ => ?_)
        refine c_skip ?_
        refine sq_n ?_
        refine c_seq ?_
        refine c_region ?_
        refine q_seg 2 [(23, .int .i64 y3), (24, .ptr b1 0 14 1)] hS (by kernel_rfl) ?_; intro s hS
        refine q_load (v := .str a0.Image) 0 trivial rfl hS hH rfl rfl (by kernel_rfl) ?_; intro s hS
        refine q_seg 3 [(1, .int .i64 (IntKind.i64.wrap (y3 - (a0.Image.size : Int))))] hS (by kernel_rfl) ?_; intro s hS
        refine x_nil ?_
        refine sq_n ?_
        refine c_seq ?_
        refine c_seq ?_
        refine c_region ?_
        refine q_seg 2 [(1, .int .i64 (IntKind.i64.wrap (y3 - (a0.Image.size : Int)))), (29, .bool (decide ((IntKind.i64.wrap (y3 - (a0.Image.size : Int))) < 0)))] hS (by kernel_rfl) ?_; intro s hS
        refine x_nil ?_
        refine sq_n ?_
        by_cases hc4 : (decide ((IntKind.i64.wrap (y3 - (a0.Image.size : Int))) < 0)) = true
        · have h := it_pos hc4 h
          refine c_cond hS rfl (fun _ => ?_) (fun hf => ff_absurd hc4 hf)
          refine c_seq ?_
          refine c_region ?_
          refine q_seg 1 [(4, .int .i64 (-1))] hS (by kernel_rfl) ?_; intro s hS
          refine x_nil ?_
          refine sq_n ?_
          refine c_ret ?_
          refine sq_r ?_
          injection h with h; subst h
          exact end_W hH (r_tmp (v := .int .i64 (-1)) hS rfl r_nil) rfl (by kernel_rfl) (by simp [pureT, pureL, E_i64])
        · have h := it_neg hc4 h
          refine c_cond hS rfl (fun hf => tt_absurd hc4 hf) (fun _ => ?_)
          refine c_skip ?_
          refine sq_n ?_
          refine c_seq ?_
          refine c_region ?_
          refine q_seg 2 [(4, .int .i64 (IntKind.i64.wrap (y3 - (a0.Image.size : Int))))] hS (by kernel_rfl) ?_; intro s hS
          refine x_nil ?_
          refine sq_n ?_
          refine c_ret ?_
          injection h with h; subst h
          exact end_W hH (r_tmp (v := .int .i64 (IntKind.i64.wrap (y3 - (a0.Image.size : Int)))) hS rfl r_nil) rfl (by kernel_rfl) (by simp [pureT, pureL, E_i64])
end Go.Am
end
section
set_option maxRecDepth 100000
set_option maxHeartbeats 1000000
set_option linter.unusedVariables false
set_option linter.unusedSimpArgs false
namespace Go.Am
open Go.Proofs
noncomputable def B_spec_SameDesk (a0 : DDesk) (a1 : DDesk) : Option Bool := ((F_spec_l21SameTexts a0.Source a1.Source).bind fun y1 => (if y1 = true then ((F_spec_l21SameTexts a0.Input a1.Input).bind fun y2 => (if y2 = true then ((F_spec_SameMemory a0.Memory a1.Memory).bind fun y3 => (if y3 = true then (if (decide (a0.At = a1.At)) = true then (if (decide (a0.Steps = a1.Steps)) = true then (if (decide (a0.Image = a1.Image)) = true then (some (decide (a0.Saved = a1.Saved))) else (some false)) else (some false)) else (some false)) else (some false))) else (some false))) else (some false)))
theorem u_spec_SameDesk (a0 : DDesk) (a1 : DDesk) (r : Bool) (h : B_spec_SameDesk a0 a1 = some r) : F_spec_SameDesk a0 a1 = some r := by
  unfold B_spec_SameDesk at h
  refine semW_of E_bool_inj rfl rfl ok_11 rfl (all_cons (by kernel_rfl) (all_cons (by kernel_rfl) all_nil)) ?_
  intro σ0 s hS hH
  have hS := sub_to (L' := [(0, .agg (DDesk.cells a0)), (1, .agg (DDesk.cells a1))]) hS (by kernel_rfl)
  refine c_seq ?_
  refine c_region ?_
  refine q_box (v := .agg (DDesk.cells a0)) (cs := [(Sl.t (a0.Source : Sl ByteArray)), (Sl.t (a0.Input : Sl ByteArray)), .int .i64 a0.Memory.Heap.Next, (Sl.t (a0.Memory.Heap.Objects : Sl DObject)), (Sl.t (a0.Memory.Scope.Vars : Sl DBinding)), (Sl.t (a0.Memory.Scope.Functions : Sl DFunction)), (Sl.t (a0.Memory.Scope.Types : Sl DRecordType)), (Sl.t (a0.Memory.Console.Input : Sl ByteArray)), .int .i64 a0.Memory.Console.At, (Sl.t (a0.Memory.Console.Output : Sl ByteArray)), (Sl.t (a0.Memory.Console.Files : Sl DFile)), (Sl.t (a0.Memory.Console.Trace : Sl ByteArray)), .int .i64 a0.At, .int .i64 a0.Steps, .str a0.Image, .int .i64 a0.Saved]) rfl hS hH rfl rfl (by kernel_rfl) ?_; intro b1 σ s hH hS
  refine q_box (v := .agg (DDesk.cells a1)) (cs := [(Sl.t (a1.Source : Sl ByteArray)), (Sl.t (a1.Input : Sl ByteArray)), .int .i64 a1.Memory.Heap.Next, (Sl.t (a1.Memory.Heap.Objects : Sl DObject)), (Sl.t (a1.Memory.Scope.Vars : Sl DBinding)), (Sl.t (a1.Memory.Scope.Functions : Sl DFunction)), (Sl.t (a1.Memory.Scope.Types : Sl DRecordType)), (Sl.t (a1.Memory.Console.Input : Sl ByteArray)), .int .i64 a1.Memory.Console.At, (Sl.t (a1.Memory.Console.Output : Sl ByteArray)), (Sl.t (a1.Memory.Console.Files : Sl DFile)), (Sl.t (a1.Memory.Console.Trace : Sl ByteArray)), .int .i64 a1.At, .int .i64 a1.Steps, .str a1.Image, .int .i64 a1.Saved]) rfl hS hH rfl rfl (by kernel_rfl) ?_; intro b2 σ s hH hS
  refine q_seg 1 [(2, .ptr b1 0 0 16), (3, .ptr b2 0 0 16)] hS (by kernel_rfl) ?_; intro s hS
  refine x_nil ?_
  refine sq_n ?_
  refine c_seq ?_
  refine c_region ?_
  refine q_seg 1 [(2, .ptr b1 0 0 16), (3, .ptr b2 0 0 16), (5, .ptr b1 0 0 1)] hS (by kernel_rfl) ?_; intro s hS
  refine q_load (v := (Sl.t (a0.Source : Sl ByteArray))) 1 trivial rfl hS hH rfl rfl (by kernel_rfl) ?_; intro s hS
  refine q_seg 1 [(2, .ptr b1 0 0 16), (3, .ptr b2 0 0 16), (6, (Sl.t (a0.Source : Sl ByteArray))), (7, .ptr b2 0 0 1)] hS (by kernel_rfl) ?_; intro s hS
  refine q_load (v := (Sl.t (a1.Source : Sl ByteArray))) 0 trivial rfl hS hH rfl rfl (by kernel_rfl) ?_; intro s hS
  obtain ⟨y1, hy1, h⟩ := bind_some h
  refine q_callF (a := []) (b := []) (xs := [(Sl.t (a0.Source : Sl ByteArray)), (Sl.t (a1.Source : Sl ByteArray))]) rfl hS rfl rfl hy1 ?_; intro s hS
  refine q_seg 1 [(10, .bool y1), (2, .ptr b1 0 0 16), (3, .ptr b2 0 0 16)] hS (by kernel_rfl) ?_; intro s hS
  by_cases hc1 : y1 = true
  · have h := it_pos hc1 h
    have hS := sub_bt hS hc1
    refine q_seg 1 [(2, .ptr b1 0 0 16), (3, .ptr b2 0 0 16), (10, .bool true), (11, .ptr b1 0 1 1)] hS (by kernel_rfl) ?_; intro s hS
    refine q_load (v := (Sl.t (a0.Input : Sl ByteArray))) 1 trivial rfl hS hH rfl rfl (by kernel_rfl) ?_; intro s hS
    refine q_seg 1 [(2, .ptr b1 0 0 16), (3, .ptr b2 0 0 16), (10, .bool true), (12, (Sl.t (a0.Input : Sl ByteArray))), (13, .ptr b2 0 1 1)] hS (by kernel_rfl) ?_; intro s hS
    refine q_load (v := (Sl.t (a1.Input : Sl ByteArray))) 0 trivial rfl hS hH rfl rfl (by kernel_rfl) ?_; intro s hS
    obtain ⟨y2, hy2, h⟩ := bind_some h
    refine q_callF (a := []) (b := []) (xs := [(Sl.t (a0.Input : Sl ByteArray)), (Sl.t (a1.Input : Sl ByteArray))]) rfl hS rfl rfl hy2 ?_; intro s hS
    refine q_seg 2 [(17, .bool y2), (2, .ptr b1 0 0 16), (3, .ptr b2 0 0 16)] hS (by kernel_rfl) ?_; intro s hS
    by_cases hc2 : y2 = true
    · have h := it_pos hc2 h
      have hS := sub_bt hS hc2
      refine q_seg 1 [(2, .ptr b1 0 0 16), (3, .ptr b2 0 0 16), (17, .bool true), (18, .ptr b1 0 2 10)] hS (by kernel_rfl) ?_; intro s hS
      refine q_load (v := .agg (DMemory.cells a0.Memory)) 1 trivial rfl hS hH rfl rfl (by kernel_rfl) ?_; intro s hS
      refine q_seg 1 [(2, .ptr b1 0 0 16), (3, .ptr b2 0 0 16), (17, .bool true), (19, .agg (DMemory.cells a0.Memory)), (20, .ptr b2 0 2 10)] hS (by kernel_rfl) ?_; intro s hS
      refine q_load (v := .agg (DMemory.cells a1.Memory)) 0 trivial rfl hS hH rfl rfl (by kernel_rfl) ?_; intro s hS
      obtain ⟨y3, hy3, h⟩ := bind_some h
      refine q_callF (a := []) (b := []) (xs := [.agg (DMemory.cells a0.Memory), .agg (DMemory.cells a1.Memory)]) rfl hS rfl rfl hy3 ?_; intro s hS
      refine q_seg 2 [(24, .bool y3), (2, .ptr b1 0 0 16), (3, .ptr b2 0 0 16)] hS (by kernel_rfl) ?_; intro s hS
      by_cases hc3 : y3 = true
      · have h := it_pos hc3 h
        have hS := sub_bt hS hc3
        refine q_seg 1 [(2, .ptr b1 0 0 16), (3, .ptr b2 0 0 16), (24, .bool true), (25, .ptr b1 0 12 1)] hS (by kernel_rfl) ?_; intro s hS
        refine q_load (v := .int .i64 a0.At) 1 trivial rfl hS hH rfl rfl (by kernel_rfl) ?_; intro s hS
        refine q_seg 1 [(2, .ptr b1 0 0 16), (3, .ptr b2 0 0 16), (24, .bool true), (26, .int .i64 a0.At), (27, .ptr b2 0 12 1)] hS (by kernel_rfl) ?_; intro s hS
        refine q_load (v := .int .i64 a1.At) 0 trivial rfl hS hH rfl rfl (by kernel_rfl) ?_; intro s hS
        refine q_seg 3 [(31, .bool (decide (a0.At = a1.At))), (2, .ptr b1 0 0 16), (3, .ptr b2 0 0 16)] hS (by kernel_rfl) ?_; intro s hS
        by_cases hc4 : (decide (a0.At = a1.At)) = true
        · have h := it_pos hc4 h
          have hS := sub_bt hS hc4
          refine q_seg 1 [(2, .ptr b1 0 0 16), (3, .ptr b2 0 0 16), (31, .bool true), (32, .ptr b1 0 13 1)] hS (by kernel_rfl) ?_; intro s hS
          refine q_load (v := .int .i64 a0.Steps) 1 trivial rfl hS hH rfl rfl (by kernel_rfl) ?_; intro s hS
          refine q_seg 1 [(2, .ptr b1 0 0 16), (3, .ptr b2 0 0 16), (31, .bool true), (33, .int .i64 a0.Steps), (34, .ptr b2 0 13 1)] hS (by kernel_rfl) ?_; intro s hS
          refine q_load (v := .int .i64 a1.Steps) 0 trivial rfl hS hH rfl rfl (by kernel_rfl) ?_; intro s hS
          refine q_seg 3 [(38, .bool (decide (a0.Steps = a1.Steps))), (2, .ptr b1 0 0 16), (3, .ptr b2 0 0 16)] hS (by kernel_rfl) ?_; intro s hS
          by_cases hc5 : (decide (a0.Steps = a1.Steps)) = true
          · have h := it_pos hc5 h
            have hS := sub_bt hS hc5
            refine q_seg 1 [(2, .ptr b1 0 0 16), (3, .ptr b2 0 0 16), (38, .bool true), (39, .ptr b1 0 14 1)] hS (by kernel_rfl) ?_; intro s hS
            refine q_load (v := .str a0.Image) 1 trivial rfl hS hH rfl rfl (by kernel_rfl) ?_; intro s hS
            refine q_seg 1 [(2, .ptr b1 0 0 16), (3, .ptr b2 0 0 16), (38, .bool true), (40, .str a0.Image), (41, .ptr b2 0 14 1)] hS (by kernel_rfl) ?_; intro s hS
            refine q_load (v := .str a1.Image) 0 trivial rfl hS hH rfl rfl (by kernel_rfl) ?_; intro s hS
            refine q_seg 3 [(45, .bool (decide (a0.Image = a1.Image))), (2, .ptr b1 0 0 16), (3, .ptr b2 0 0 16)] hS (by kernel_rfl) ?_; intro s hS
            by_cases hc6 : (decide (a0.Image = a1.Image)) = true
            · have h := it_pos hc6 h
              have hS := sub_bt hS hc6
              refine q_seg 1 [(3, .ptr b2 0 0 16), (45, .bool true), (46, .ptr b1 0 15 1)] hS (by kernel_rfl) ?_; intro s hS
              refine q_load (v := .int .i64 a0.Saved) 1 trivial rfl hS hH rfl rfl (by kernel_rfl) ?_; intro s hS
              refine q_seg 1 [(45, .bool true), (47, .int .i64 a0.Saved), (48, .ptr b2 0 15 1)] hS (by kernel_rfl) ?_; intro s hS
              refine q_load (v := .int .i64 a1.Saved) 0 trivial rfl hS hH rfl rfl (by kernel_rfl) ?_; intro s hS
              refine q_seg 3 [(4, .bool (decide (a0.Saved = a1.Saved)))] hS (by kernel_rfl) ?_; intro s hS
              refine x_nil ?_
              refine sq_n ?_
              refine c_ret ?_
              injection h with h; subst h
              exact end_W hH (r_tmp (v := .bool (decide (a0.Saved = a1.Saved))) hS rfl r_nil) rfl (by kernel_rfl) (by simp [pureT, pureL, E_bool])
            · have h := it_neg hc6 h
              have hS := sub_bt hS (tt_of hc6)
              refine q_seg 7 [(4, .bool false)] hS (by kernel_rfl) ?_; intro s hS
              refine x_nil ?_
              refine sq_n ?_
              refine c_ret ?_
              injection h with h; subst h
              exact end_W hH (r_tmp (v := .bool false) hS rfl r_nil) rfl (by kernel_rfl) (by simp [pureT, pureL, E_bool])
          · have h := it_neg hc5 h
            have hS := sub_bt hS (tt_of hc5)
            refine q_seg 14 [(4, .bool false)] hS (by kernel_rfl) ?_; intro s hS
            refine x_nil ?_
            refine sq_n ?_
            refine c_ret ?_
            injection h with h; subst h
            exact end_W hH (r_tmp (v := .bool false) hS rfl r_nil) rfl (by kernel_rfl) (by simp [pureT, pureL, E_bool])
        · have h := it_neg hc4 h
          have hS := sub_bt hS (tt_of hc4)
          refine q_seg 21 [(4, .bool false)] hS (by kernel_rfl) ?_; intro s hS
          refine x_nil ?_
          refine sq_n ?_
          refine c_ret ?_
          injection h with h; subst h
          exact end_W hH (r_tmp (v := .bool false) hS rfl r_nil) rfl (by kernel_rfl) (by simp [pureT, pureL, E_bool])
      · have h := it_neg hc3 h
        have hS := sub_bt hS (tt_of hc3)
        refine q_seg 28 [(4, .bool false)] hS (by kernel_rfl) ?_; intro s hS
        refine x_nil ?_
        refine sq_n ?_
        refine c_ret ?_
        injection h with h; subst h
        exact end_W hH (r_tmp (v := .bool false) hS rfl r_nil) rfl (by kernel_rfl) (by simp [pureT, pureL, E_bool])
    · have h := it_neg hc2 h
      have hS := sub_bt hS (tt_of hc2)
      refine q_seg 35 [(4, .bool false)] hS (by kernel_rfl) ?_; intro s hS
      refine x_nil ?_
      refine sq_n ?_
      refine c_ret ?_
      injection h with h; subst h
      exact end_W hH (r_tmp (v := .bool false) hS rfl r_nil) rfl (by kernel_rfl) (by simp [pureT, pureL, E_bool])
  · have h := it_neg hc1 h
    have hS := sub_bt hS (tt_of hc1)
    refine q_seg 42 [(4, .bool false)] hS (by kernel_rfl) ?_; intro s hS
    refine x_nil ?_
    refine sq_n ?_
    refine c_ret ?_
    injection h with h; subst h
    exact end_W hH (r_tmp (v := .bool false) hS rfl r_nil) rfl (by kernel_rfl) (by simp [pureT, pureL, E_bool])
end Go.Am
end
section
set_option maxRecDepth 100000
set_option maxHeartbeats 1000000
set_option linter.unusedVariables false
set_option linter.unusedSimpArgs false
namespace Go.Am
open Go.Proofs
noncomputable def B_laws_toDesk (a0 : DDesk) : Option DDesk := ((F_laws_toStringS a0.Source).bind fun y1 => ((F_laws_toStringS a0.Input).bind fun y2 => ((F_laws_toMemory a0.Memory).bind fun y3 => (some (⟨y1, y2, y3, a0.At, a0.Steps, a0.Image, a0.Saved⟩ : DDesk)))))
theorem u_laws_toDesk (a0 : DDesk) (r : DDesk) (h : B_laws_toDesk a0 = some r) : F_laws_toDesk a0 = some r := by
  unfold B_laws_toDesk at h
  refine semO_of rfl rfl ok_12 rfl (all_cons (by kernel_rfl) all_nil) ?_
  intro σ0 s hS hH
  have hS := sub_to (L' := [(0, .agg (DDesk.cells a0))]) hS (by kernel_rfl)
  refine c_seq ?_
  refine c_region ?_
  refine q_box (v := .agg (DDesk.cells a0)) (cs := [(Sl.t (a0.Source : Sl ByteArray)), (Sl.t (a0.Input : Sl ByteArray)), .int .i64 a0.Memory.Heap.Next, (Sl.t (a0.Memory.Heap.Objects : Sl DObject)), (Sl.t (a0.Memory.Scope.Vars : Sl DBinding)), (Sl.t (a0.Memory.Scope.Functions : Sl DFunction)), (Sl.t (a0.Memory.Scope.Types : Sl DRecordType)), (Sl.t (a0.Memory.Console.Input : Sl ByteArray)), .int .i64 a0.Memory.Console.At, (Sl.t (a0.Memory.Console.Output : Sl ByteArray)), (Sl.t (a0.Memory.Console.Files : Sl DFile)), (Sl.t (a0.Memory.Console.Trace : Sl ByteArray)), .int .i64 a0.At, .int .i64 a0.Steps, .str a0.Image, .int .i64 a0.Saved]) rfl hS hH rfl rfl (by kernel_rfl) ?_; intro b1 σ s hH hS
  refine q_alloc (z := [(Sl.t (⟨true, []⟩ : Sl ByteArray)), (Sl.t (⟨true, []⟩ : Sl ByteArray)), .int .i64 0, (Sl.t (⟨true, []⟩ : Sl DObject)), (Sl.t (⟨true, []⟩ : Sl DBinding)), (Sl.t (⟨true, []⟩ : Sl DFunction)), (Sl.t (⟨true, []⟩ : Sl DRecordType)), (Sl.t (⟨true, []⟩ : Sl ByteArray)), .int .i64 0, (Sl.t (⟨true, []⟩ : Sl ByteArray)), (Sl.t (⟨true, []⟩ : Sl DFile)), (Sl.t (⟨true, []⟩ : Sl ByteArray)), .int .i64 0, .int .i64 0, .str ⟨#[]⟩, .int .i64 0]) rfl hS hH (by kernel_rfl) ?_; intro b2 σ s hH hS
  refine x_nil ?_
  refine sq_n ?_
  refine c_seq ?_
  refine c_region ?_
  refine q_alloc (z := [(Sl.t (⟨true, []⟩ : Sl ByteArray)), (Sl.t (⟨true, []⟩ : Sl ByteArray)), .int .i64 0, (Sl.t (⟨true, []⟩ : Sl DObject)), (Sl.t (⟨true, []⟩ : Sl DBinding)), (Sl.t (⟨true, []⟩ : Sl DFunction)), (Sl.t (⟨true, []⟩ : Sl DRecordType)), (Sl.t (⟨true, []⟩ : Sl ByteArray)), .int .i64 0, (Sl.t (⟨true, []⟩ : Sl ByteArray)), (Sl.t (⟨true, []⟩ : Sl DFile)), (Sl.t (⟨true, []⟩ : Sl ByteArray)), .int .i64 0, .int .i64 0, .str ⟨#[]⟩, .int .i64 0]) rfl hS hH (by kernel_rfl) ?_; intro b3 σ s hH hS
  refine x_nil ?_
  refine sq_n ?_
  refine c_seq ?_
  refine c_region ?_
  refine q_seg 1 [(1, .ptr b1 0 0 16), (2, .ptr b2 0 0 16), (3, .ptr b3 0 0 16), (4, .ptr b1 0 0 1)] hS (by kernel_rfl) ?_; intro s hS
  refine q_load (v := (Sl.t (a0.Source : Sl ByteArray))) 2 trivial rfl hS hH rfl rfl (by kernel_rfl) ?_; intro s hS
  obtain ⟨y1, hy1, h⟩ := bind_some h
  refine q_callO (ents := []) (z := false) (ts := [(Sl.t (a0.Source : Sl ByteArray))]) (vs := [(Sl.t (a0.Source : Sl ByteArray))]) rfl rfl hS rfl rfl rfl hH (HL.leaf (fun σ d => hold_pure σ d _) HL.nil) hy1 ?_; intro hs σ s hl hH hS
  obtain ⟨t1, rfl⟩ := len1 hl
  have hH : Heap σ0 σ [.own true 1 t1 (Sl.t (y1 : Sl ByteArray)), .box b3 [(Sl.t (⟨true, []⟩ : Sl ByteArray)), (Sl.t (⟨true, []⟩ : Sl ByteArray)), .int .i64 0, (Sl.t (⟨true, []⟩ : Sl DObject)), (Sl.t (⟨true, []⟩ : Sl DBinding)), (Sl.t (⟨true, []⟩ : Sl DFunction)), (Sl.t (⟨true, []⟩ : Sl DRecordType)), (Sl.t (⟨true, []⟩ : Sl ByteArray)), .int .i64 0, (Sl.t (⟨true, []⟩ : Sl ByteArray)), (Sl.t (⟨true, []⟩ : Sl DFile)), (Sl.t (⟨true, []⟩ : Sl ByteArray)), .int .i64 0, .int .i64 0, .str ⟨#[]⟩, .int .i64 0], .box b2 [(Sl.t (⟨true, []⟩ : Sl ByteArray)), (Sl.t (⟨true, []⟩ : Sl ByteArray)), .int .i64 0, (Sl.t (⟨true, []⟩ : Sl DObject)), (Sl.t (⟨true, []⟩ : Sl DBinding)), (Sl.t (⟨true, []⟩ : Sl DFunction)), (Sl.t (⟨true, []⟩ : Sl DRecordType)), (Sl.t (⟨true, []⟩ : Sl ByteArray)), .int .i64 0, (Sl.t (⟨true, []⟩ : Sl ByteArray)), (Sl.t (⟨true, []⟩ : Sl DFile)), (Sl.t (⟨true, []⟩ : Sl ByteArray)), .int .i64 0, .int .i64 0, .str ⟨#[]⟩, .int .i64 0], .box b1 [(Sl.t (a0.Source : Sl ByteArray)), (Sl.t (a0.Input : Sl ByteArray)), .int .i64 a0.Memory.Heap.Next, (Sl.t (a0.Memory.Heap.Objects : Sl DObject)), (Sl.t (a0.Memory.Scope.Vars : Sl DBinding)), (Sl.t (a0.Memory.Scope.Functions : Sl DFunction)), (Sl.t (a0.Memory.Scope.Types : Sl DRecordType)), (Sl.t (a0.Memory.Console.Input : Sl ByteArray)), .int .i64 a0.Memory.Console.At, (Sl.t (a0.Memory.Console.Output : Sl ByteArray)), (Sl.t (a0.Memory.Console.Files : Sl DFile)), (Sl.t (a0.Memory.Console.Trace : Sl ByteArray)), .int .i64 a0.At, .int .i64 a0.Steps, .str a0.Image, .int .i64 a0.Saved]] := hH
  have ht1 : IsOne t1 := Heap.one hH
  refine q_seg 1 [(1, .ptr b1 0 0 16), (2, .ptr b2 0 0 16), (3, .ptr b3 0 0 16), (6, t1), (7, .ptr b3 0 0 1)] hS (by kernel_rfl) ?_; intro s hS
  have hH : Heap σ0 σ [.box b3 [(Sl.t (⟨true, []⟩ : Sl ByteArray)), (Sl.t (⟨true, []⟩ : Sl ByteArray)), .int .i64 0, (Sl.t (⟨true, []⟩ : Sl DObject)), (Sl.t (⟨true, []⟩ : Sl DBinding)), (Sl.t (⟨true, []⟩ : Sl DFunction)), (Sl.t (⟨true, []⟩ : Sl DRecordType)), (Sl.t (⟨true, []⟩ : Sl ByteArray)), .int .i64 0, (Sl.t (⟨true, []⟩ : Sl ByteArray)), (Sl.t (⟨true, []⟩ : Sl DFile)), (Sl.t (⟨true, []⟩ : Sl ByteArray)), .int .i64 0, .int .i64 0, .str ⟨#[]⟩, .int .i64 0], .own true 1 t1 (Sl.t (y1 : Sl ByteArray)), .box b2 [(Sl.t (⟨true, []⟩ : Sl ByteArray)), (Sl.t (⟨true, []⟩ : Sl ByteArray)), .int .i64 0, (Sl.t (⟨true, []⟩ : Sl DObject)), (Sl.t (⟨true, []⟩ : Sl DBinding)), (Sl.t (⟨true, []⟩ : Sl DFunction)), (Sl.t (⟨true, []⟩ : Sl DRecordType)), (Sl.t (⟨true, []⟩ : Sl ByteArray)), .int .i64 0, (Sl.t (⟨true, []⟩ : Sl ByteArray)), (Sl.t (⟨true, []⟩ : Sl DFile)), (Sl.t (⟨true, []⟩ : Sl ByteArray)), .int .i64 0, .int .i64 0, .str ⟨#[]⟩, .int .i64 0], .box b1 [(Sl.t (a0.Source : Sl ByteArray)), (Sl.t (a0.Input : Sl ByteArray)), .int .i64 a0.Memory.Heap.Next, (Sl.t (a0.Memory.Heap.Objects : Sl DObject)), (Sl.t (a0.Memory.Scope.Vars : Sl DBinding)), (Sl.t (a0.Memory.Scope.Functions : Sl DFunction)), (Sl.t (a0.Memory.Scope.Types : Sl DRecordType)), (Sl.t (a0.Memory.Console.Input : Sl ByteArray)), .int .i64 a0.Memory.Console.At, (Sl.t (a0.Memory.Console.Output : Sl ByteArray)), (Sl.t (a0.Memory.Console.Files : Sl DFile)), (Sl.t (a0.Memory.Console.Trace : Sl ByteArray)), .int .i64 a0.At, .int .i64 a0.Steps, .str a0.Image, .int .i64 a0.Saved]] := hH.sel [1, 0, 2, 3] rfl (by kernel_rfl)
  refine q_store (v := t1) (cs := [t1]) (cells' := [t1, (Sl.t (⟨true, []⟩ : Sl ByteArray)), .int .i64 0, (Sl.t (⟨true, []⟩ : Sl DObject)), (Sl.t (⟨true, []⟩ : Sl DBinding)), (Sl.t (⟨true, []⟩ : Sl DFunction)), (Sl.t (⟨true, []⟩ : Sl DRecordType)), (Sl.t (⟨true, []⟩ : Sl ByteArray)), .int .i64 0, (Sl.t (⟨true, []⟩ : Sl ByteArray)), (Sl.t (⟨true, []⟩ : Sl DFile)), (Sl.t (⟨true, []⟩ : Sl ByteArray)), .int .i64 0, .int .i64 0, .str ⟨#[]⟩, .int .i64 0]) rfl hS hH rfl rfl (by simp [ht1.1, ht1.2]) (by simp [ht1.1, ht1.2]) (by kernel_rfl) ?_; intro σ s hH hS
  refine x_nil ?_
  refine sq_n ?_
  refine c_seq ?_
  refine c_region ?_
  refine q_seg 1 [(1, .ptr b1 0 0 16), (2, .ptr b2 0 0 16), (3, .ptr b3 0 0 16), (8, .ptr b1 0 1 1)] hS (by kernel_rfl) ?_; intro s hS
  refine q_load (v := (Sl.t (a0.Input : Sl ByteArray))) 3 trivial rfl hS hH rfl rfl (by kernel_rfl) ?_; intro s hS
  obtain ⟨y2, hy2, h⟩ := bind_some h
  refine q_callO (ents := []) (z := false) (ts := [(Sl.t (a0.Input : Sl ByteArray))]) (vs := [(Sl.t (a0.Input : Sl ByteArray))]) rfl rfl hS rfl rfl rfl hH (HL.leaf (fun σ d => hold_pure σ d _) HL.nil) hy2 ?_; intro hs σ s hl hH hS
  obtain ⟨t2, rfl⟩ := len1 hl
  have hH : Heap σ0 σ [.own true 1 t2 (Sl.t (y2 : Sl ByteArray)), .box b3 [t1, (Sl.t (⟨true, []⟩ : Sl ByteArray)), .int .i64 0, (Sl.t (⟨true, []⟩ : Sl DObject)), (Sl.t (⟨true, []⟩ : Sl DBinding)), (Sl.t (⟨true, []⟩ : Sl DFunction)), (Sl.t (⟨true, []⟩ : Sl DRecordType)), (Sl.t (⟨true, []⟩ : Sl ByteArray)), .int .i64 0, (Sl.t (⟨true, []⟩ : Sl ByteArray)), (Sl.t (⟨true, []⟩ : Sl DFile)), (Sl.t (⟨true, []⟩ : Sl ByteArray)), .int .i64 0, .int .i64 0, .str ⟨#[]⟩, .int .i64 0], .own true 1 t1 (Sl.t (y1 : Sl ByteArray)), .box b2 [(Sl.t (⟨true, []⟩ : Sl ByteArray)), (Sl.t (⟨true, []⟩ : Sl ByteArray)), .int .i64 0, (Sl.t (⟨true, []⟩ : Sl DObject)), (Sl.t (⟨true, []⟩ : Sl DBinding)), (Sl.t (⟨true, []⟩ : Sl DFunction)), (Sl.t (⟨true, []⟩ : Sl DRecordType)), (Sl.t (⟨true, []⟩ : Sl ByteArray)), .int .i64 0, (Sl.t (⟨true, []⟩ : Sl ByteArray)), (Sl.t (⟨true, []⟩ : Sl DFile)), (Sl.t (⟨true, []⟩ : Sl ByteArray)), .int .i64 0, .int .i64 0, .str ⟨#[]⟩, .int .i64 0], .box b1 [(Sl.t (a0.Source : Sl ByteArray)), (Sl.t (a0.Input : Sl ByteArray)), .int .i64 a0.Memory.Heap.Next, (Sl.t (a0.Memory.Heap.Objects : Sl DObject)), (Sl.t (a0.Memory.Scope.Vars : Sl DBinding)), (Sl.t (a0.Memory.Scope.Functions : Sl DFunction)), (Sl.t (a0.Memory.Scope.Types : Sl DRecordType)), (Sl.t (a0.Memory.Console.Input : Sl ByteArray)), .int .i64 a0.Memory.Console.At, (Sl.t (a0.Memory.Console.Output : Sl ByteArray)), (Sl.t (a0.Memory.Console.Files : Sl DFile)), (Sl.t (a0.Memory.Console.Trace : Sl ByteArray)), .int .i64 a0.At, .int .i64 a0.Steps, .str a0.Image, .int .i64 a0.Saved]] := hH
  have ht2 : IsOne t2 := Heap.one hH
  refine q_seg 1 [(1, .ptr b1 0 0 16), (2, .ptr b2 0 0 16), (3, .ptr b3 0 0 16), (10, t2), (11, .ptr b3 0 1 1)] hS (by kernel_rfl) ?_; intro s hS
  have hH : Heap σ0 σ [.box b3 [t1, (Sl.t (⟨true, []⟩ : Sl ByteArray)), .int .i64 0, (Sl.t (⟨true, []⟩ : Sl DObject)), (Sl.t (⟨true, []⟩ : Sl DBinding)), (Sl.t (⟨true, []⟩ : Sl DFunction)), (Sl.t (⟨true, []⟩ : Sl DRecordType)), (Sl.t (⟨true, []⟩ : Sl ByteArray)), .int .i64 0, (Sl.t (⟨true, []⟩ : Sl ByteArray)), (Sl.t (⟨true, []⟩ : Sl DFile)), (Sl.t (⟨true, []⟩ : Sl ByteArray)), .int .i64 0, .int .i64 0, .str ⟨#[]⟩, .int .i64 0], .own true 1 t2 (Sl.t (y2 : Sl ByteArray)), .own true 1 t1 (Sl.t (y1 : Sl ByteArray)), .box b2 [(Sl.t (⟨true, []⟩ : Sl ByteArray)), (Sl.t (⟨true, []⟩ : Sl ByteArray)), .int .i64 0, (Sl.t (⟨true, []⟩ : Sl DObject)), (Sl.t (⟨true, []⟩ : Sl DBinding)), (Sl.t (⟨true, []⟩ : Sl DFunction)), (Sl.t (⟨true, []⟩ : Sl DRecordType)), (Sl.t (⟨true, []⟩ : Sl ByteArray)), .int .i64 0, (Sl.t (⟨true, []⟩ : Sl ByteArray)), (Sl.t (⟨true, []⟩ : Sl DFile)), (Sl.t (⟨true, []⟩ : Sl ByteArray)), .int .i64 0, .int .i64 0, .str ⟨#[]⟩, .int .i64 0], .box b1 [(Sl.t (a0.Source : Sl ByteArray)), (Sl.t (a0.Input : Sl ByteArray)), .int .i64 a0.Memory.Heap.Next, (Sl.t (a0.Memory.Heap.Objects : Sl DObject)), (Sl.t (a0.Memory.Scope.Vars : Sl DBinding)), (Sl.t (a0.Memory.Scope.Functions : Sl DFunction)), (Sl.t (a0.Memory.Scope.Types : Sl DRecordType)), (Sl.t (a0.Memory.Console.Input : Sl ByteArray)), .int .i64 a0.Memory.Console.At, (Sl.t (a0.Memory.Console.Output : Sl ByteArray)), (Sl.t (a0.Memory.Console.Files : Sl DFile)), (Sl.t (a0.Memory.Console.Trace : Sl ByteArray)), .int .i64 a0.At, .int .i64 a0.Steps, .str a0.Image, .int .i64 a0.Saved]] := hH.sel [1, 0, 2, 3, 4] rfl (by kernel_rfl)
  refine q_store (v := t2) (cs := [t2]) (cells' := [t1, t2, .int .i64 0, (Sl.t (⟨true, []⟩ : Sl DObject)), (Sl.t (⟨true, []⟩ : Sl DBinding)), (Sl.t (⟨true, []⟩ : Sl DFunction)), (Sl.t (⟨true, []⟩ : Sl DRecordType)), (Sl.t (⟨true, []⟩ : Sl ByteArray)), .int .i64 0, (Sl.t (⟨true, []⟩ : Sl ByteArray)), (Sl.t (⟨true, []⟩ : Sl DFile)), (Sl.t (⟨true, []⟩ : Sl ByteArray)), .int .i64 0, .int .i64 0, .str ⟨#[]⟩, .int .i64 0]) rfl hS hH rfl rfl (by simp [ht2.1, ht2.2]) (by simp [ht2.1, ht2.2]) (by kernel_rfl) ?_; intro σ s hH hS
  refine x_nil ?_
  refine sq_n ?_
  refine c_seq ?_
  refine c_region ?_
  refine q_seg 1 [(1, .ptr b1 0 0 16), (2, .ptr b2 0 0 16), (3, .ptr b3 0 0 16), (12, .ptr b1 0 2 10)] hS (by kernel_rfl) ?_; intro s hS
  refine q_load (v := .agg (DMemory.cells a0.Memory)) 4 trivial rfl hS hH rfl rfl (by kernel_rfl) ?_; intro s hS
  obtain ⟨y3, hy3, h⟩ := bind_some h
  refine q_callO (ents := []) (z := false) (ts := [.agg (DMemory.cells a0.Memory)]) (vs := [.agg (DMemory.cells a0.Memory)]) rfl rfl hS rfl rfl rfl hH (HL.agg (es1 := []) (es2 := []) (HL.leaf (fun σ d => hold_int _ σ d _ _) (HL.leaf (fun σ d => hold_pure σ d _) (HL.leaf (fun σ d => hold_pure σ d _) (HL.leaf (fun σ d => hold_pure σ d _) (HL.leaf (fun σ d => hold_pure σ d _) (HL.leaf (fun σ d => hold_pure σ d _) (HL.leaf (fun σ d => hold_int _ σ d _ _) (HL.leaf (fun σ d => hold_pure σ d _) (HL.leaf (fun σ d => hold_pure σ d _) (HL.leaf (fun σ d => hold_pure σ d _) HL.nil)))))))))) HL.nil) hy3 ?_; intro hs σ s hl hH hS
  obtain ⟨t3, t4, t5, t6, t7, t8, t9, t10, rfl⟩ := len8 hl
  have hH : Heap σ0 σ [.own true 10 t3 (Sl.t (y3.Heap.Objects : Sl DObject)), .own true 5 t4 (Sl.t (y3.Scope.Vars : Sl DBinding)), .own true 4 t5 (Sl.t (y3.Scope.Functions : Sl DFunction)), .own true 2 t6 (Sl.t (y3.Scope.Types : Sl DRecordType)), .own true 1 t7 (Sl.t (y3.Console.Input : Sl ByteArray)), .own true 1 t8 (Sl.t (y3.Console.Output : Sl ByteArray)), .own true 4 t9 (Sl.t (y3.Console.Files : Sl DFile)), .own true 1 t10 (Sl.t (y3.Console.Trace : Sl ByteArray)), .box b3 [t1, t2, .int .i64 0, (Sl.t (⟨true, []⟩ : Sl DObject)), (Sl.t (⟨true, []⟩ : Sl DBinding)), (Sl.t (⟨true, []⟩ : Sl DFunction)), (Sl.t (⟨true, []⟩ : Sl DRecordType)), (Sl.t (⟨true, []⟩ : Sl ByteArray)), .int .i64 0, (Sl.t (⟨true, []⟩ : Sl ByteArray)), (Sl.t (⟨true, []⟩ : Sl DFile)), (Sl.t (⟨true, []⟩ : Sl ByteArray)), .int .i64 0, .int .i64 0, .str ⟨#[]⟩, .int .i64 0], .own true 1 t2 (Sl.t (y2 : Sl ByteArray)), .own true 1 t1 (Sl.t (y1 : Sl ByteArray)), .box b2 [(Sl.t (⟨true, []⟩ : Sl ByteArray)), (Sl.t (⟨true, []⟩ : Sl ByteArray)), .int .i64 0, (Sl.t (⟨true, []⟩ : Sl DObject)), (Sl.t (⟨true, []⟩ : Sl DBinding)), (Sl.t (⟨true, []⟩ : Sl DFunction)), (Sl.t (⟨true, []⟩ : Sl DRecordType)), (Sl.t (⟨true, []⟩ : Sl ByteArray)), .int .i64 0, (Sl.t (⟨true, []⟩ : Sl ByteArray)), (Sl.t (⟨true, []⟩ : Sl DFile)), (Sl.t (⟨true, []⟩ : Sl ByteArray)), .int .i64 0, .int .i64 0, .str ⟨#[]⟩, .int .i64 0], .box b1 [(Sl.t (a0.Source : Sl ByteArray)), (Sl.t (a0.Input : Sl ByteArray)), .int .i64 a0.Memory.Heap.Next, (Sl.t (a0.Memory.Heap.Objects : Sl DObject)), (Sl.t (a0.Memory.Scope.Vars : Sl DBinding)), (Sl.t (a0.Memory.Scope.Functions : Sl DFunction)), (Sl.t (a0.Memory.Scope.Types : Sl DRecordType)), (Sl.t (a0.Memory.Console.Input : Sl ByteArray)), .int .i64 a0.Memory.Console.At, (Sl.t (a0.Memory.Console.Output : Sl ByteArray)), (Sl.t (a0.Memory.Console.Files : Sl DFile)), (Sl.t (a0.Memory.Console.Trace : Sl ByteArray)), .int .i64 a0.At, .int .i64 a0.Steps, .str a0.Image, .int .i64 a0.Saved]] := hH
  have ht3 : IsOne t3 := Heap.one hH
  have ht4 : IsOne t4 := Heap.one (hH.at 1 rfl)
  have ht5 : IsOne t5 := Heap.one (hH.at 2 rfl)
  have ht6 : IsOne t6 := Heap.one (hH.at 3 rfl)
  have ht7 : IsOne t7 := Heap.one (hH.at 4 rfl)
  have ht8 : IsOne t8 := Heap.one (hH.at 5 rfl)
  have ht9 : IsOne t9 := Heap.one (hH.at 6 rfl)
  have ht10 : IsOne t10 := Heap.one (hH.at 7 rfl)
  refine q_seg 1 [(1, .ptr b1 0 0 16), (2, .ptr b2 0 0 16), (3, .ptr b3 0 0 16), (14, .agg [.int .i64 y3.Heap.Next, t3, t4, t5, t6, t7, .int .i64 y3.Console.At, t8, t9, t10]), (15, .ptr b3 0 2 10)] hS (by kernel_rfl) ?_; intro s hS
  have hH : Heap σ0 σ [.box b3 [t1, t2, .int .i64 0, (Sl.t (⟨true, []⟩ : Sl DObject)), (Sl.t (⟨true, []⟩ : Sl DBinding)), (Sl.t (⟨true, []⟩ : Sl DFunction)), (Sl.t (⟨true, []⟩ : Sl DRecordType)), (Sl.t (⟨true, []⟩ : Sl ByteArray)), .int .i64 0, (Sl.t (⟨true, []⟩ : Sl ByteArray)), (Sl.t (⟨true, []⟩ : Sl DFile)), (Sl.t (⟨true, []⟩ : Sl ByteArray)), .int .i64 0, .int .i64 0, .str ⟨#[]⟩, .int .i64 0], .own true 10 t3 (Sl.t (y3.Heap.Objects : Sl DObject)), .own true 5 t4 (Sl.t (y3.Scope.Vars : Sl DBinding)), .own true 4 t5 (Sl.t (y3.Scope.Functions : Sl DFunction)), .own true 2 t6 (Sl.t (y3.Scope.Types : Sl DRecordType)), .own true 1 t7 (Sl.t (y3.Console.Input : Sl ByteArray)), .own true 1 t8 (Sl.t (y3.Console.Output : Sl ByteArray)), .own true 4 t9 (Sl.t (y3.Console.Files : Sl DFile)), .own true 1 t10 (Sl.t (y3.Console.Trace : Sl ByteArray)), .own true 1 t2 (Sl.t (y2 : Sl ByteArray)), .own true 1 t1 (Sl.t (y1 : Sl ByteArray)), .box b2 [(Sl.t (⟨true, []⟩ : Sl ByteArray)), (Sl.t (⟨true, []⟩ : Sl ByteArray)), .int .i64 0, (Sl.t (⟨true, []⟩ : Sl DObject)), (Sl.t (⟨true, []⟩ : Sl DBinding)), (Sl.t (⟨true, []⟩ : Sl DFunction)), (Sl.t (⟨true, []⟩ : Sl DRecordType)), (Sl.t (⟨true, []⟩ : Sl ByteArray)), .int .i64 0, (Sl.t (⟨true, []⟩ : Sl ByteArray)), (Sl.t (⟨true, []⟩ : Sl DFile)), (Sl.t (⟨true, []⟩ : Sl ByteArray)), .int .i64 0, .int .i64 0, .str ⟨#[]⟩, .int .i64 0], .box b1 [(Sl.t (a0.Source : Sl ByteArray)), (Sl.t (a0.Input : Sl ByteArray)), .int .i64 a0.Memory.Heap.Next, (Sl.t (a0.Memory.Heap.Objects : Sl DObject)), (Sl.t (a0.Memory.Scope.Vars : Sl DBinding)), (Sl.t (a0.Memory.Scope.Functions : Sl DFunction)), (Sl.t (a0.Memory.Scope.Types : Sl DRecordType)), (Sl.t (a0.Memory.Console.Input : Sl ByteArray)), .int .i64 a0.Memory.Console.At, (Sl.t (a0.Memory.Console.Output : Sl ByteArray)), (Sl.t (a0.Memory.Console.Files : Sl DFile)), (Sl.t (a0.Memory.Console.Trace : Sl ByteArray)), .int .i64 a0.At, .int .i64 a0.Steps, .str a0.Image, .int .i64 a0.Saved]] := hH.sel [8, 0, 1, 2, 3, 4, 5, 6, 7, 9, 10, 11, 12] rfl (by kernel_rfl)
  refine q_store (v := .agg [.int .i64 y3.Heap.Next, t3, t4, t5, t6, t7, .int .i64 y3.Console.At, t8, t9, t10]) (cs := [.int .i64 y3.Heap.Next, t3, t4, t5, t6, t7, .int .i64 y3.Console.At, t8, t9, t10]) (cells' := [t1, t2, .int .i64 y3.Heap.Next, t3, t4, t5, t6, t7, .int .i64 y3.Console.At, t8, t9, t10, .int .i64 0, .int .i64 0, .str ⟨#[]⟩, .int .i64 0]) rfl hS hH rfl rfl rfl (by simp [ht10.1, ht10.2, ht3.1, ht3.2, ht4.1, ht4.2, ht5.1, ht5.2, ht6.1, ht6.2, ht7.1, ht7.2, ht8.1, ht8.2, ht9.1, ht9.2]) (by kernel_rfl) ?_; intro σ s hH hS
  refine x_nil ?_
  refine sq_n ?_
  refine c_seq ?_
  refine c_region ?_
  refine q_seg 1 [(1, .ptr b1 0 0 16), (2, .ptr b2 0 0 16), (3, .ptr b3 0 0 16), (16, .ptr b1 0 12 1)] hS (by kernel_rfl) ?_; intro s hS
  refine q_load (v := .int .i64 a0.At) 12 trivial rfl hS hH rfl rfl (by kernel_rfl) ?_; intro s hS
  refine q_seg 1 [(1, .ptr b1 0 0 16), (2, .ptr b2 0 0 16), (3, .ptr b3 0 0 16), (17, .int .i64 a0.At), (18, .ptr b3 0 12 1)] hS (by kernel_rfl) ?_; intro s hS
  refine q_store (v := .int .i64 a0.At) (cs := [.int .i64 a0.At]) (cells' := [t1, t2, .int .i64 y3.Heap.Next, t3, t4, t5, t6, t7, .int .i64 y3.Console.At, t8, t9, t10, .int .i64 a0.At, .int .i64 0, .str ⟨#[]⟩, .int .i64 0]) rfl hS hH rfl rfl rfl (by kernel_rfl) (by kernel_rfl) ?_; intro σ s hH hS
  refine x_nil ?_
  refine sq_n ?_
  refine c_seq ?_
  refine c_region ?_
  refine q_seg 1 [(1, .ptr b1 0 0 16), (2, .ptr b2 0 0 16), (3, .ptr b3 0 0 16), (19, .ptr b1 0 13 1)] hS (by kernel_rfl) ?_; intro s hS
  refine q_load (v := .int .i64 a0.Steps) 12 trivial rfl hS hH rfl rfl (by kernel_rfl) ?_; intro s hS
  refine q_seg 1 [(1, .ptr b1 0 0 16), (2, .ptr b2 0 0 16), (3, .ptr b3 0 0 16), (20, .int .i64 a0.Steps), (21, .ptr b3 0 13 1)] hS (by kernel_rfl) ?_; intro s hS
  refine q_store (v := .int .i64 a0.Steps) (cs := [.int .i64 a0.Steps]) (cells' := [t1, t2, .int .i64 y3.Heap.Next, t3, t4, t5, t6, t7, .int .i64 y3.Console.At, t8, t9, t10, .int .i64 a0.At, .int .i64 a0.Steps, .str ⟨#[]⟩, .int .i64 0]) rfl hS hH rfl rfl rfl (by kernel_rfl) (by kernel_rfl) ?_; intro σ s hH hS
  refine x_nil ?_
  refine sq_n ?_
  refine c_seq ?_
  refine c_region ?_
  refine q_seg 1 [(1, .ptr b1 0 0 16), (2, .ptr b2 0 0 16), (3, .ptr b3 0 0 16), (22, .ptr b1 0 14 1)] hS (by kernel_rfl) ?_; intro s hS
  refine q_load (v := .str a0.Image) 12 trivial rfl hS hH rfl rfl (by kernel_rfl) ?_; intro s hS
  refine q_seg 1 [(1, .ptr b1 0 0 16), (2, .ptr b2 0 0 16), (3, .ptr b3 0 0 16), (23, .str a0.Image), (24, .ptr b3 0 14 1)] hS (by kernel_rfl) ?_; intro s hS
  refine q_store (v := .str a0.Image) (cs := [.str a0.Image]) (cells' := [t1, t2, .int .i64 y3.Heap.Next, t3, t4, t5, t6, t7, .int .i64 y3.Console.At, t8, t9, t10, .int .i64 a0.At, .int .i64 a0.Steps, .str a0.Image, .int .i64 0]) rfl hS hH rfl rfl rfl (by kernel_rfl) (by kernel_rfl) ?_; intro σ s hH hS
  refine x_nil ?_
  refine sq_n ?_
  refine c_seq ?_
  refine c_region ?_
  refine q_seg 1 [(2, .ptr b2 0 0 16), (3, .ptr b3 0 0 16), (25, .ptr b1 0 15 1)] hS (by kernel_rfl) ?_; intro s hS
  refine q_load (v := .int .i64 a0.Saved) 12 trivial rfl hS hH rfl rfl (by kernel_rfl) ?_; intro s hS
  refine q_seg 1 [(2, .ptr b2 0 0 16), (3, .ptr b3 0 0 16), (26, .int .i64 a0.Saved), (27, .ptr b3 0 15 1)] hS (by kernel_rfl) ?_; intro s hS
  refine q_store (v := .int .i64 a0.Saved) (cs := [.int .i64 a0.Saved]) (cells' := [t1, t2, .int .i64 y3.Heap.Next, t3, t4, t5, t6, t7, .int .i64 y3.Console.At, t8, t9, t10, .int .i64 a0.At, .int .i64 a0.Steps, .str a0.Image, .int .i64 a0.Saved]) rfl hS hH rfl rfl rfl (by kernel_rfl) (by kernel_rfl) ?_; intro σ s hH hS
  refine x_nil ?_
  refine sq_n ?_
  refine c_seq ?_
  refine c_region ?_
  refine q_load (v := .agg [t1, t2, .int .i64 y3.Heap.Next, t3, t4, t5, t6, t7, .int .i64 y3.Console.At, t8, t9, t10, .int .i64 a0.At, .int .i64 a0.Steps, .str a0.Image, .int .i64 a0.Saved]) 0 trivial rfl hS hH rfl rfl (by kernel_rfl) ?_; intro s hS
  have hH : Heap σ0 σ [.box b2 [(Sl.t (⟨true, []⟩ : Sl ByteArray)), (Sl.t (⟨true, []⟩ : Sl ByteArray)), .int .i64 0, (Sl.t (⟨true, []⟩ : Sl DObject)), (Sl.t (⟨true, []⟩ : Sl DBinding)), (Sl.t (⟨true, []⟩ : Sl DFunction)), (Sl.t (⟨true, []⟩ : Sl DRecordType)), (Sl.t (⟨true, []⟩ : Sl ByteArray)), .int .i64 0, (Sl.t (⟨true, []⟩ : Sl ByteArray)), (Sl.t (⟨true, []⟩ : Sl DFile)), (Sl.t (⟨true, []⟩ : Sl ByteArray)), .int .i64 0, .int .i64 0, .str ⟨#[]⟩, .int .i64 0], .box b3 [t1, t2, .int .i64 y3.Heap.Next, t3, t4, t5, t6, t7, .int .i64 y3.Console.At, t8, t9, t10, .int .i64 a0.At, .int .i64 a0.Steps, .str a0.Image, .int .i64 a0.Saved], .own true 10 t3 (Sl.t (y3.Heap.Objects : Sl DObject)), .own true 5 t4 (Sl.t (y3.Scope.Vars : Sl DBinding)), .own true 4 t5 (Sl.t (y3.Scope.Functions : Sl DFunction)), .own true 2 t6 (Sl.t (y3.Scope.Types : Sl DRecordType)), .own true 1 t7 (Sl.t (y3.Console.Input : Sl ByteArray)), .own true 1 t8 (Sl.t (y3.Console.Output : Sl ByteArray)), .own true 4 t9 (Sl.t (y3.Console.Files : Sl DFile)), .own true 1 t10 (Sl.t (y3.Console.Trace : Sl ByteArray)), .own true 1 t2 (Sl.t (y2 : Sl ByteArray)), .own true 1 t1 (Sl.t (y1 : Sl ByteArray)), .box b1 [(Sl.t (a0.Source : Sl ByteArray)), (Sl.t (a0.Input : Sl ByteArray)), .int .i64 a0.Memory.Heap.Next, (Sl.t (a0.Memory.Heap.Objects : Sl DObject)), (Sl.t (a0.Memory.Scope.Vars : Sl DBinding)), (Sl.t (a0.Memory.Scope.Functions : Sl DFunction)), (Sl.t (a0.Memory.Scope.Types : Sl DRecordType)), (Sl.t (a0.Memory.Console.Input : Sl ByteArray)), .int .i64 a0.Memory.Console.At, (Sl.t (a0.Memory.Console.Output : Sl ByteArray)), (Sl.t (a0.Memory.Console.Files : Sl DFile)), (Sl.t (a0.Memory.Console.Trace : Sl ByteArray)), .int .i64 a0.At, .int .i64 a0.Steps, .str a0.Image, .int .i64 a0.Saved]] := hH.sel [11, 0, 1, 2, 3, 4, 5, 6, 7, 8, 9, 10, 12] rfl (by kernel_rfl)
  refine q_store (v := .agg [t1, t2, .int .i64 y3.Heap.Next, t3, t4, t5, t6, t7, .int .i64 y3.Console.At, t8, t9, t10, .int .i64 a0.At, .int .i64 a0.Steps, .str a0.Image, .int .i64 a0.Saved]) (cs := [t1, t2, .int .i64 y3.Heap.Next, t3, t4, t5, t6, t7, .int .i64 y3.Console.At, t8, t9, t10, .int .i64 a0.At, .int .i64 a0.Steps, .str a0.Image, .int .i64 a0.Saved]) (cells' := [t1, t2, .int .i64 y3.Heap.Next, t3, t4, t5, t6, t7, .int .i64 y3.Console.At, t8, t9, t10, .int .i64 a0.At, .int .i64 a0.Steps, .str a0.Image, .int .i64 a0.Saved]) rfl hS hH rfl rfl rfl (by simp [ht1.1, ht1.2, ht10.1, ht10.2, ht2.1, ht2.2, ht3.1, ht3.2, ht4.1, ht4.2, ht5.1, ht5.2, ht6.1, ht6.2, ht7.1, ht7.2, ht8.1, ht8.2, ht9.1, ht9.2]) (by kernel_rfl) ?_; intro σ s hH hS
  refine x_nil ?_
  refine sq_n ?_
  refine c_ret ?_
  injection h with h; subst h
  have hH : Heap σ0 σ [.own true 1 t1 (Sl.t (y1 : Sl ByteArray)), .own true 1 t2 (Sl.t (y2 : Sl ByteArray)), .own true 10 t3 (Sl.t (y3.Heap.Objects : Sl DObject)), .own true 5 t4 (Sl.t (y3.Scope.Vars : Sl DBinding)), .own true 4 t5 (Sl.t (y3.Scope.Functions : Sl DFunction)), .own true 2 t6 (Sl.t (y3.Scope.Types : Sl DRecordType)), .own true 1 t7 (Sl.t (y3.Console.Input : Sl ByteArray)), .own true 1 t8 (Sl.t (y3.Console.Output : Sl ByteArray)), .own true 4 t9 (Sl.t (y3.Console.Files : Sl DFile)), .own true 1 t10 (Sl.t (y3.Console.Trace : Sl ByteArray)), .box b2 [t1, t2, .int .i64 y3.Heap.Next, t3, t4, t5, t6, t7, .int .i64 y3.Console.At, t8, t9, t10, .int .i64 a0.At, .int .i64 a0.Steps, .str a0.Image, .int .i64 a0.Saved], .box b3 [t1, t2, .int .i64 y3.Heap.Next, t3, t4, t5, t6, t7, .int .i64 y3.Console.At, t8, t9, t10, .int .i64 a0.At, .int .i64 a0.Steps, .str a0.Image, .int .i64 a0.Saved], .box b1 [(Sl.t (a0.Source : Sl ByteArray)), (Sl.t (a0.Input : Sl ByteArray)), .int .i64 a0.Memory.Heap.Next, (Sl.t (a0.Memory.Heap.Objects : Sl DObject)), (Sl.t (a0.Memory.Scope.Vars : Sl DBinding)), (Sl.t (a0.Memory.Scope.Functions : Sl DFunction)), (Sl.t (a0.Memory.Scope.Types : Sl DRecordType)), (Sl.t (a0.Memory.Console.Input : Sl ByteArray)), .int .i64 a0.Memory.Console.At, (Sl.t (a0.Memory.Console.Output : Sl ByteArray)), (Sl.t (a0.Memory.Console.Files : Sl DFile)), (Sl.t (a0.Memory.Console.Trace : Sl ByteArray)), .int .i64 a0.At, .int .i64 a0.Steps, .str a0.Image, .int .i64 a0.Saved]] := hH.sel [11, 10, 2, 3, 4, 5, 6, 7, 8, 9, 0, 1, 12] rfl (by kernel_rfl)
  exact end_Ow [t1, t2, t3, t4, t5, t6, t7, t8, t9, t10] [.box b2 [t1, t2, .int .i64 y3.Heap.Next, t3, t4, t5, t6, t7, .int .i64 y3.Console.At, t8, t9, t10, .int .i64 a0.At, .int .i64 a0.Steps, .str a0.Image, .int .i64 a0.Saved], .box b3 [t1, t2, .int .i64 y3.Heap.Next, t3, t4, t5, t6, t7, .int .i64 y3.Console.At, t8, t9, t10, .int .i64 a0.At, .int .i64 a0.Steps, .str a0.Image, .int .i64 a0.Saved], .box b1 [(Sl.t (a0.Source : Sl ByteArray)), (Sl.t (a0.Input : Sl ByteArray)), .int .i64 a0.Memory.Heap.Next, (Sl.t (a0.Memory.Heap.Objects : Sl DObject)), (Sl.t (a0.Memory.Scope.Vars : Sl DBinding)), (Sl.t (a0.Memory.Scope.Functions : Sl DFunction)), (Sl.t (a0.Memory.Scope.Types : Sl DRecordType)), (Sl.t (a0.Memory.Console.Input : Sl ByteArray)), .int .i64 a0.Memory.Console.At, (Sl.t (a0.Memory.Console.Output : Sl ByteArray)), (Sl.t (a0.Memory.Console.Files : Sl DFile)), (Sl.t (a0.Memory.Console.Trace : Sl ByteArray)), .int .i64 a0.At, .int .i64 a0.Steps, .str a0.Image, .int .i64 a0.Saved]] (r_cell (v := .agg [t1, t2, .int .i64 y3.Heap.Next, t3, t4, t5, t6, t7, .int .i64 y3.Console.At, t8, t9, t10, .int .i64 a0.At, .int .i64 a0.Steps, .str a0.Image, .int .i64 a0.Saved]) hS (hH.at 10 rfl) rfl (by kernel_rfl) r_nil) (by kernel_rfl) rfl hH (by kernel_rfl)
end Go.Am
end
section
set_option maxRecDepth 100000
set_option maxHeartbeats 1000000
set_option linter.unusedVariables false
set_option linter.unusedSimpArgs false
namespace Go.Am
open Go.Proofs
noncomputable def B_impl_SameDesk (a0 : DDesk) (a1 : DDesk) : Option Bool := ((((F_slices_Equal_string a0.Source a1.Source).bind fun y3 => (if y3 = true then ((F_slices_Equal_string a0.Input a1.Input).bind fun y4 => (if y4 = true then (some (decide (a0.Image = a1.Image))) else (some false))) else (some false))) : Option Bool).bind fun y1 => (if y1 = true then ((F_impl_SameMemory a0.Memory a1.Memory).bind fun y2 => (if y2 = true then (if (decide (a0.At = a1.At)) = true then (if (decide (a0.Steps = a1.Steps)) = true then (some (decide (a0.Saved = a1.Saved))) else (some false)) else (some false)) else (some false))) else (some false)))
theorem u_impl_SameDesk (a0 : DDesk) (a1 : DDesk) (r : Bool) (h : B_impl_SameDesk a0 a1 = some r) : F_impl_SameDesk a0 a1 = some r := by
  unfold B_impl_SameDesk at h
  refine semW_of E_bool_inj rfl rfl ok_13 rfl (all_cons (by kernel_rfl) (all_cons (by kernel_rfl) all_nil)) ?_
  intro σ0 s hS hH
  have hS := sub_to (L' := [(0, .agg (DDesk.cells a0)), (1, .agg (DDesk.cells a1))]) hS (by kernel_rfl)
  refine c_seq ?_
  refine c_region ?_
  refine q_box (v := .agg (DDesk.cells a0)) (cs := [(Sl.t (a0.Source : Sl ByteArray)), (Sl.t (a0.Input : Sl ByteArray)), .int .i64 a0.Memory.Heap.Next, (Sl.t (a0.Memory.Heap.Objects : Sl DObject)), (Sl.t (a0.Memory.Scope.Vars : Sl DBinding)), (Sl.t (a0.Memory.Scope.Functions : Sl DFunction)), (Sl.t (a0.Memory.Scope.Types : Sl DRecordType)), (Sl.t (a0.Memory.Console.Input : Sl ByteArray)), .int .i64 a0.Memory.Console.At, (Sl.t (a0.Memory.Console.Output : Sl ByteArray)), (Sl.t (a0.Memory.Console.Files : Sl DFile)), (Sl.t (a0.Memory.Console.Trace : Sl ByteArray)), .int .i64 a0.At, .int .i64 a0.Steps, .str a0.Image, .int .i64 a0.Saved]) rfl hS hH rfl rfl (by kernel_rfl) ?_; intro b1 σ s hH hS
  refine q_box (v := .agg (DDesk.cells a1)) (cs := [(Sl.t (a1.Source : Sl ByteArray)), (Sl.t (a1.Input : Sl ByteArray)), .int .i64 a1.Memory.Heap.Next, (Sl.t (a1.Memory.Heap.Objects : Sl DObject)), (Sl.t (a1.Memory.Scope.Vars : Sl DBinding)), (Sl.t (a1.Memory.Scope.Functions : Sl DFunction)), (Sl.t (a1.Memory.Scope.Types : Sl DRecordType)), (Sl.t (a1.Memory.Console.Input : Sl ByteArray)), .int .i64 a1.Memory.Console.At, (Sl.t (a1.Memory.Console.Output : Sl ByteArray)), (Sl.t (a1.Memory.Console.Files : Sl DFile)), (Sl.t (a1.Memory.Console.Trace : Sl ByteArray)), .int .i64 a1.At, .int .i64 a1.Steps, .str a1.Image, .int .i64 a1.Saved]) rfl hS hH rfl rfl (by kernel_rfl) ?_; intro b2 σ s hH hS
  refine q_seg 1 [(2, .ptr b1 0 0 16), (3, .ptr b2 0 0 16)] hS (by kernel_rfl) ?_; intro s hS
  refine x_nil ?_
  refine sq_n ?_
  refine c_seq ?_
  obtain ⟨y1, hy1, h⟩ := bind_some h
  refine codeQ_mono (Q := fun e fr => e = .normal ∧ Sub [(2, .ptr b1 0 0 16), (3, .ptr b2 0 0 16), (5, .bool y1)] fr.s ∧ Heap σ0 fr.σ [.box b2 [(Sl.t (a1.Source : Sl ByteArray)), (Sl.t (a1.Input : Sl ByteArray)), .int .i64 a1.Memory.Heap.Next, (Sl.t (a1.Memory.Heap.Objects : Sl DObject)), (Sl.t (a1.Memory.Scope.Vars : Sl DBinding)), (Sl.t (a1.Memory.Scope.Functions : Sl DFunction)), (Sl.t (a1.Memory.Scope.Types : Sl DRecordType)), (Sl.t (a1.Memory.Console.Input : Sl ByteArray)), .int .i64 a1.Memory.Console.At, (Sl.t (a1.Memory.Console.Output : Sl ByteArray)), (Sl.t (a1.Memory.Console.Files : Sl DFile)), (Sl.t (a1.Memory.Console.Trace : Sl ByteArray)), .int .i64 a1.At, .int .i64 a1.Steps, .str a1.Image, .int .i64 a1.Saved], .box b1 [(Sl.t (a0.Source : Sl ByteArray)), (Sl.t (a0.Input : Sl ByteArray)), .int .i64 a0.Memory.Heap.Next, (Sl.t (a0.Memory.Heap.Objects : Sl DObject)), (Sl.t (a0.Memory.Scope.Vars : Sl DBinding)), (Sl.t (a0.Memory.Scope.Functions : Sl DFunction)), (Sl.t (a0.Memory.Scope.Types : Sl DRecordType)), (Sl.t (a0.Memory.Console.Input : Sl ByteArray)), .int .i64 a0.Memory.Console.At, (Sl.t (a0.Memory.Console.Output : Sl ByteArray)), (Sl.t (a0.Memory.Console.Files : Sl DFile)), (Sl.t (a0.Memory.Console.Trace : Sl ByteArray)), .int .i64 a0.At, .int .i64 a0.Steps, .str a0.Image, .int .i64 a0.Saved]]) ?_ ?_
  · intro e fr HF; obtain ⟨s, σ⟩ := fr
    obtain ⟨rfl, hS, hH⟩ := HF
    refine sq_n ?_
    refine c_seq ?_
    refine c_region ?_
    refine q_seg 2 [(26, .bool y1), (2, .ptr b1 0 0 16), (3, .ptr b2 0 0 16)] hS (by kernel_rfl) ?_; intro s hS
    by_cases hc1 : y1 = true
    · have h := it_pos hc1 h
      have hS := sub_bt hS hc1
      refine q_seg 1 [(2, .ptr b1 0 0 16), (3, .ptr b2 0 0 16), (26, .bool true), (27, .ptr b1 0 2 10)] hS (by kernel_rfl) ?_; intro s hS
      refine q_load (v := .agg (DMemory.cells a0.Memory)) 1 trivial rfl hS hH rfl rfl (by kernel_rfl) ?_; intro s hS
      refine q_seg 1 [(2, .ptr b1 0 0 16), (3, .ptr b2 0 0 16), (26, .bool true), (28, .agg (DMemory.cells a0.Memory)), (29, .ptr b2 0 2 10)] hS (by kernel_rfl) ?_; intro s hS
      refine q_load (v := .agg (DMemory.cells a1.Memory)) 0 trivial rfl hS hH rfl rfl (by kernel_rfl) ?_; intro s hS
      obtain ⟨y2, hy2, h⟩ := bind_some h
      refine q_callF (a := []) (b := []) (xs := [.agg (DMemory.cells a0.Memory), .agg (DMemory.cells a1.Memory)]) rfl hS rfl rfl hy2 ?_; intro s hS
      refine q_seg 2 [(33, .bool y2), (2, .ptr b1 0 0 16), (3, .ptr b2 0 0 16)] hS (by kernel_rfl) ?_; intro s hS
      by_cases hc2 : y2 = true
      · have h := it_pos hc2 h
        have hS := sub_bt hS hc2
        refine q_seg 1 [(2, .ptr b1 0 0 16), (3, .ptr b2 0 0 16), (33, .bool true), (34, .ptr b1 0 12 1)] hS (by kernel_rfl) ?_; intro s hS
        refine q_load (v := .int .i64 a0.At) 1 trivial rfl hS hH rfl rfl (by kernel_rfl) ?_; intro s hS
        refine q_seg 1 [(2, .ptr b1 0 0 16), (3, .ptr b2 0 0 16), (33, .bool true), (35, .int .i64 a0.At), (36, .ptr b2 0 12 1)] hS (by kernel_rfl) ?_; intro s hS
        refine q_load (v := .int .i64 a1.At) 0 trivial rfl hS hH rfl rfl (by kernel_rfl) ?_; intro s hS
        refine q_seg 3 [(40, .bool (decide (a0.At = a1.At))), (2, .ptr b1 0 0 16), (3, .ptr b2 0 0 16)] hS (by kernel_rfl) ?_; intro s hS
        by_cases hc3 : (decide (a0.At = a1.At)) = true
        · have h := it_pos hc3 h
          have hS := sub_bt hS hc3
          refine q_seg 1 [(2, .ptr b1 0 0 16), (3, .ptr b2 0 0 16), (40, .bool true), (41, .ptr b1 0 13 1)] hS (by kernel_rfl) ?_; intro s hS
          refine q_load (v := .int .i64 a0.Steps) 1 trivial rfl hS hH rfl rfl (by kernel_rfl) ?_; intro s hS
          refine q_seg 1 [(2, .ptr b1 0 0 16), (3, .ptr b2 0 0 16), (40, .bool true), (42, .int .i64 a0.Steps), (43, .ptr b2 0 13 1)] hS (by kernel_rfl) ?_; intro s hS
          refine q_load (v := .int .i64 a1.Steps) 0 trivial rfl hS hH rfl rfl (by kernel_rfl) ?_; intro s hS
          refine q_seg 3 [(47, .bool (decide (a0.Steps = a1.Steps))), (2, .ptr b1 0 0 16), (3, .ptr b2 0 0 16)] hS (by kernel_rfl) ?_; intro s hS
          by_cases hc4 : (decide (a0.Steps = a1.Steps)) = true
          · have h := it_pos hc4 h
            have hS := sub_bt hS hc4
            refine q_seg 1 [(3, .ptr b2 0 0 16), (47, .bool true), (48, .ptr b1 0 15 1)] hS (by kernel_rfl) ?_; intro s hS
            refine q_load (v := .int .i64 a0.Saved) 1 trivial rfl hS hH rfl rfl (by kernel_rfl) ?_; intro s hS
            refine q_seg 1 [(47, .bool true), (49, .int .i64 a0.Saved), (50, .ptr b2 0 15 1)] hS (by kernel_rfl) ?_; intro s hS
            refine q_load (v := .int .i64 a1.Saved) 0 trivial rfl hS hH rfl rfl (by kernel_rfl) ?_; intro s hS
            refine q_seg 3 [(4, .bool (decide (a0.Saved = a1.Saved)))] hS (by kernel_rfl) ?_; intro s hS
            refine x_nil ?_
            refine sq_n ?_
            refine c_ret ?_
            injection h with h; subst h
            exact end_W hH (r_tmp (v := .bool (decide (a0.Saved = a1.Saved))) hS rfl r_nil) rfl (by kernel_rfl) (by simp [pureT, pureL, E_bool])
          · have h := it_neg hc4 h
            have hS := sub_bt hS (tt_of hc4)
            refine q_seg 7 [(4, .bool false)] hS (by kernel_rfl) ?_; intro s hS
            refine x_nil ?_
            refine sq_n ?_
            refine c_ret ?_
            injection h with h; subst h
            exact end_W hH (r_tmp (v := .bool false) hS rfl r_nil) rfl (by kernel_rfl) (by simp [pureT, pureL, E_bool])
        · have h := it_neg hc3 h
          have hS := sub_bt hS (tt_of hc3)
          refine q_seg 14 [(4, .bool false)] hS (by kernel_rfl) ?_; intro s hS
          refine x_nil ?_
          refine sq_n ?_
          refine c_ret ?_
          injection h with h; subst h
          exact end_W hH (r_tmp (v := .bool false) hS rfl r_nil) rfl (by kernel_rfl) (by simp [pureT, pureL, E_bool])
      · have h := it_neg hc2 h
        have hS := sub_bt hS (tt_of hc2)
        refine q_seg 21 [(4, .bool false)] hS (by kernel_rfl) ?_; intro s hS
        refine x_nil ?_
        refine sq_n ?_
        refine c_ret ?_
        injection h with h; subst h
        exact end_W hH (r_tmp (v := .bool false) hS rfl r_nil) rfl (by kernel_rfl) (by simp [pureT, pureL, E_bool])
    · have h := it_neg hc1 h
      have hS := sub_bt hS (tt_of hc1)
      refine q_seg 28 [(4, .bool false)] hS (by kernel_rfl) ?_; intro s hS
      refine x_nil ?_
      refine sq_n ?_
      refine c_ret ?_
      injection h with h; subst h
      exact end_W hH (r_tmp (v := .bool false) hS rfl r_nil) rfl (by kernel_rfl) (by simp [pureT, pureL, E_bool])
  · clear h; have h := hy1
    refine c_region ?_
    refine q_seg 1 [(2, .ptr b1 0 0 16), (3, .ptr b2 0 0 16), (6, .ptr b1 0 0 1)] hS (by kernel_rfl) ?_; intro s hS
    refine q_load (v := (Sl.t (a0.Source : Sl ByteArray))) 1 trivial rfl hS hH rfl rfl (by kernel_rfl) ?_; intro s hS
    refine q_seg 1 [(2, .ptr b1 0 0 16), (3, .ptr b2 0 0 16), (7, (Sl.t (a0.Source : Sl ByteArray))), (8, .ptr b2 0 0 1)] hS (by kernel_rfl) ?_; intro s hS
    refine q_load (v := (Sl.t (a1.Source : Sl ByteArray))) 0 trivial rfl hS hH rfl rfl (by kernel_rfl) ?_; intro s hS
    obtain ⟨y3, hy3, h⟩ := bind_some h
    refine q_callF (a := []) (b := []) (xs := [(Sl.t (a0.Source : Sl ByteArray)), (Sl.t (a1.Source : Sl ByteArray))]) rfl hS rfl rfl hy3 ?_; intro s hS
    refine q_seg 1 [(11, .bool y3), (2, .ptr b1 0 0 16), (3, .ptr b2 0 0 16)] hS (by kernel_rfl) ?_; intro s hS
    by_cases hc5 : y3 = true
    · have h := it_pos hc5 h
      have hS := sub_bt hS hc5
      refine q_seg 1 [(2, .ptr b1 0 0 16), (3, .ptr b2 0 0 16), (11, .bool true), (12, .ptr b1 0 1 1)] hS (by kernel_rfl) ?_; intro s hS
      refine q_load (v := (Sl.t (a0.Input : Sl ByteArray))) 1 trivial rfl hS hH rfl rfl (by kernel_rfl) ?_; intro s hS
      refine q_seg 1 [(2, .ptr b1 0 0 16), (3, .ptr b2 0 0 16), (11, .bool true), (13, (Sl.t (a0.Input : Sl ByteArray))), (14, .ptr b2 0 1 1)] hS (by kernel_rfl) ?_; intro s hS
      refine q_load (v := (Sl.t (a1.Input : Sl ByteArray))) 0 trivial rfl hS hH rfl rfl (by kernel_rfl) ?_; intro s hS
      obtain ⟨y4, hy4, h⟩ := bind_some h
      refine q_callF (a := []) (b := []) (xs := [(Sl.t (a0.Input : Sl ByteArray)), (Sl.t (a1.Input : Sl ByteArray))]) rfl hS rfl rfl hy4 ?_; intro s hS
      refine q_seg 2 [(18, .bool y4), (2, .ptr b1 0 0 16), (3, .ptr b2 0 0 16)] hS (by kernel_rfl) ?_; intro s hS
      by_cases hc6 : y4 = true
      · have h := it_pos hc6 h
        have hS := sub_bt hS hc6
        refine q_seg 1 [(2, .ptr b1 0 0 16), (3, .ptr b2 0 0 16), (18, .bool true), (19, .ptr b1 0 14 1)] hS (by kernel_rfl) ?_; intro s hS
        refine q_load (v := .str a0.Image) 1 trivial rfl hS hH rfl rfl (by kernel_rfl) ?_; intro s hS
        refine q_seg 1 [(2, .ptr b1 0 0 16), (3, .ptr b2 0 0 16), (18, .bool true), (20, .str a0.Image), (21, .ptr b2 0 14 1)] hS (by kernel_rfl) ?_; intro s hS
        refine q_load (v := .str a1.Image) 0 trivial rfl hS hH rfl rfl (by kernel_rfl) ?_; intro s hS
        refine q_seg 3 [(2, .ptr b1 0 0 16), (3, .ptr b2 0 0 16), (5, .bool (decide (a0.Image = a1.Image)))] hS (by kernel_rfl) ?_; intro s hS
        refine x_nil ?_
        injection h with h; subst h
        exact And.intro rfl (And.intro (sub_to hS (by kernel_rfl)) hH)
      · have h := it_neg hc6 h
        have hS := sub_bt hS (tt_of hc6)
        refine q_seg 7 [(2, .ptr b1 0 0 16), (3, .ptr b2 0 0 16), (5, .bool false)] hS (by kernel_rfl) ?_; intro s hS
        refine x_nil ?_
        injection h with h; subst h
        exact And.intro rfl (And.intro (sub_to hS (by kernel_rfl)) hH)
    · have h := it_neg hc5 h
      have hS := sub_bt hS (tt_of hc5)
      refine q_seg 14 [(2, .ptr b1 0 0 16), (3, .ptr b2 0 0 16), (5, .bool false)] hS (by kernel_rfl) ?_; intro s hS
      refine x_nil ?_
      injection h with h; subst h
      exact And.intro rfl (And.intro (sub_to hS (by kernel_rfl)) hH)
end Go.Am
end
section
set_option maxRecDepth 100000
set_option maxHeartbeats 1000000
set_option linter.unusedVariables false
set_option linter.unusedSimpArgs false
namespace Go.Am
open Go.Proofs
noncomputable def B_laws_eqStringS (a0 : (Sl ByteArray)) (a1 : (Sl ByteArray)) : Option Bool := (if ((!decide ((a0.l.length : Int) = (a1.l.length : Int)))) = true then (some false) else ((loopO (S := Int) (R := (Unit ⊕ Bool)) (fun st1 => (if (decide (st1 < (a0.l.length : Int))) = true then ((elt a0 st1).bind fun y2 => ((elt a1 st1).bind fun y3 => (if (!decide (y2 = y3)) = true then (some (.inr (.inr false))) else (some (.inl (IntKind.i64.wrap (st1 + 1))))))) else (some (.inr (.inl ()))))) 0).bind fun y1 => (Sum.elim (fun y1 => (some true)) (fun y1 => (some y1)) y1)))
theorem u_laws_eqStringS (a0 : (Sl ByteArray)) (a1 : (Sl ByteArray)) (r : Bool) (h : B_laws_eqStringS a0 a1 = some r) : F_laws_eqStringS a0 a1 = some r := by
  unfold B_laws_eqStringS at h
  refine semW_of E_bool_inj rfl rfl ok_14 rfl (all_cons (by kernel_rfl) (all_cons (by kernel_rfl) all_nil)) ?_
  intro σ0 s hS hH
  have hS := sub_to (L' := [(0, (Sl.t (a0 : Sl ByteArray))), (1, (Sl.t (a1 : Sl ByteArray)))]) hS (by kernel_rfl)
  refine c_seq ?_
  refine c_region ?_
  refine q_seg 1 [(0, (Sl.t (a0 : Sl ByteArray))), (1, (Sl.t (a1 : Sl ByteArray)))] hS (by kernel_rfl) ?_; intro s hS
  refine x_nil ?_
  refine sq_n ?_
  refine c_seq ?_
  refine c_seq ?_
  refine c_region ?_
  refine q_seg 5 [(0, (Sl.t (a0 : Sl ByteArray))), (1, (Sl.t (a1 : Sl ByteArray))), (10, .bool ((!decide ((a0.l.length : Int) = (a1.l.length : Int)))))] hS (by kernel_rfl) ?_; intro s hS
  refine x_nil ?_
  refine sq_n ?_
  by_cases hc1 : ((!decide ((a0.l.length : Int) = (a1.l.length : Int)))) = true
  · have h := it_pos hc1 h
    refine c_cond hS rfl (fun _ => ?_) (fun hf => ff_absurd hc1 hf)
    refine c_seq ?_
    refine c_region ?_
    refine q_seg 1 [(4, .bool false)] hS (by kernel_rfl) ?_; intro s hS
    refine x_nil ?_
    refine sq_n ?_
    refine c_ret ?_
    refine sq_r ?_
    injection h with h; subst h
    exact end_W hH (r_tmp (v := .bool false) hS rfl r_nil) rfl (by kernel_rfl) (by simp [pureT, pureL, E_bool])
  · have h := it_neg hc1 h
    refine c_cond hS rfl (fun hf => tt_absurd hc1 hf) (fun _ => ?_)
    refine c_skip ?_
    refine sq_n ?_
    refine c_seq ?_
    refine c_seq ?_
    refine c_region ?_
    refine q_seg 1 [(0, (Sl.t (a0 : Sl ByteArray))), (1, (Sl.t (a1 : Sl ByteArray))), (5, .int .i64 0)] hS (by kernel_rfl) ?_; intro s hS
    refine x_nil ?_
    refine sq_n ?_
    refine c_block ?_
    obtain ⟨y1, hy1, h⟩ := bind_some h
    refine c_loop (fun (st1 : Int) (fr : Fr) => Sub [(0, (Sl.t (a0 : Sl ByteArray))), (1, (Sl.t (a1 : Sl ByteArray))), (5, .int .i64 st1)] fr.s ∧ Heap σ0 fr.σ []) (fun (y1 : (Unit ⊕ Bool)) (e : AExit) (fr : Fr) => (Sum.elim (fun y => e = (.exit 0) ∧ Sub [] fr.s ∧ Heap σ0 fr.σ []) (fun y => e = .ret ∧ endW Try.prog (Try.f14.results.toList) σ0 (E_bool y) .ret fr)) y1) hy1 (And.intro (sub_to hS (by kernel_rfl)) hH) ?_ ?_
    · clear h hy1 hS hH; clear y1; intro st1 x fr h HI; obtain ⟨s, σ⟩ := fr; obtain ⟨hS, hH⟩ := HI
      refine c_seq ?_
      refine c_seq ?_
      refine c_region ?_
      refine q_seg 4 [(0, (Sl.t (a0 : Sl ByteArray))), (1, (Sl.t (a1 : Sl ByteArray))), (5, .int .i64 st1), (14, .bool (decide (st1 < (a0.l.length : Int))))] hS (by kernel_rfl) ?_; intro s hS
      refine x_nil ?_
      refine sq_n ?_
      by_cases hc2 : (decide (st1 < (a0.l.length : Int))) = true
      · have h := it_pos hc2 h
        refine c_cond hS rfl (fun _ => ?_) (fun hf => ff_absurd hc2 hf)
        refine c_skip ?_
        refine sq_n ?_
        refine c_seq ?_
        refine c_block ?_
        refine c_seq ?_
        refine c_draw (by kernel_rfl) hH ?_; intro mb σ hH
        refine q_seg 2 [(0, (Sl.t (a0 : Sl ByteArray))), (1, (Sl.t (a1 : Sl ByteArray))), (5, .int .i64 st1), (17, (Sl.t (a0 : Sl ByteArray))), (18, .int .i64 st1)] hS (by kernel_rfl) ?_; intro s hS
        obtain ⟨y2, hy2, h⟩ := bind_some h
        refine q_elt (sl := a0) (e := 9) [.str y2] rfl hS rfl rfl (by kernel_rfl) (by kernel_rfl) hy2 rfl ?_; intro rest1 s hS
        refine q_seg 3 [(0, (Sl.t (a0 : Sl ByteArray))), (1, (Sl.t (a1 : Sl ByteArray))), (5, .int .i64 st1), (20, .str y2), (21, (Sl.t (a1 : Sl ByteArray))), (22, .int .i64 st1)] hS (by kernel_rfl) ?_; intro s hS
        obtain ⟨y3, hy3, h⟩ := bind_some h
        refine q_elt (sl := a1) (e := 9) [.str y3] rfl hS rfl rfl (by kernel_rfl) (by kernel_rfl) hy3 rfl ?_; intro rest2 s hS
        refine q_seg 2 [(0, (Sl.t (a0 : Sl ByteArray))), (1, (Sl.t (a1 : Sl ByteArray))), (5, .int .i64 st1), (25, .bool (!decide (y2 = y3)))] hS (by kernel_rfl) ?_; intro s hS
        refine x_nil ?_
        refine sq_n ?_
        by_cases hc3 : (!decide (y2 = y3)) = true
        · have h := it_pos hc3 h
          refine c_cond hS rfl (fun _ => ?_) (fun hf => ff_absurd hc3 hf)
          refine c_seq ?_
          refine c_region ?_
          refine q_seg 1 [(4, .bool false)] hS (by kernel_rfl) ?_; intro s hS
          refine x_nil ?_
          refine sq_n ?_
          refine c_ret ?_
          refine bk_r ?_
          refine sq_r ?_
          injection h with h; subst h
          exact And.intro rfl (end_W hH (r_tmp (v := .bool false) hS rfl r_nil) rfl (by kernel_rfl) (by simp [pureT, pureL, E_bool]))
        · have h := it_neg hc3 h
          refine c_cond hS rfl (fun hf => tt_absurd hc3 hf) (fun _ => ?_)
          refine c_skip ?_
          refine bk_n ?_
          refine sq_n ?_
          refine c_region ?_
          refine q_seg 3 [(0, (Sl.t (a0 : Sl ByteArray))), (1, (Sl.t (a1 : Sl ByteArray))), (5, .int .i64 (IntKind.i64.wrap (st1 + 1)))] hS (by kernel_rfl) ?_; intro s hS
          refine x_nil ?_
          injection h with h; subst h
          exact And.intro (sub_to hS (by kernel_rfl)) hH
      · have h := it_neg hc2 h
        refine c_cond hS rfl (fun hf => tt_absurd hc2 hf) (fun _ => ?_)
        refine c_exit ?_
        refine sq_x ?_
        injection h with h; subst h
        exact And.intro rfl (And.intro (sub_to hS (by kernel_rfl)) hH)
    · clear hS hH; intro e fr HF; obtain ⟨s, σ⟩ := fr
      rcases y1 with y1 | y1
      · obtain ⟨rfl, hS, hH⟩ := HF
        refine bk_e ?_
        refine sq_n ?_
        refine c_seq ?_
        refine c_region ?_
        refine q_seg 1 [(4, .bool true)] hS (by kernel_rfl) ?_; intro s hS
        refine x_nil ?_
        refine sq_n ?_
        refine c_ret ?_
        injection h with h; subst h
        exact end_W hH (r_tmp (v := .bool true) hS rfl r_nil) rfl (by kernel_rfl) (by simp [pureT, pureL, E_bool])
      · obtain ⟨rfl, HE⟩ := HF
        refine bk_r ?_
        refine sq_r ?_
        injection h with h; subst h; exact HE
end Go.Am
end
section
set_option maxRecDepth 100000
set_option maxHeartbeats 1000000
set_option linter.unusedVariables false
set_option linter.unusedSimpArgs false
namespace Go.Am
open Go.Proofs
noncomputable def B_laws_eqMemory (a0 : DMemory) (a1 : DMemory) : Option Bool := ((F_laws_eqHeap a0.Heap a1.Heap).bind fun y1 => (if (!y1) = true then (some false) else ((F_laws_eqScope a0.Scope a1.Scope).bind fun y2 => (if (!y2) = true then (some false) else ((F_laws_eqConsole a0.Console a1.Console).bind fun y3 => (if (!y3) = true then (some false) else (some true)))))))
theorem u_laws_eqMemory (a0 : DMemory) (a1 : DMemory) (r : Bool) (h : B_laws_eqMemory a0 a1 = some r) : F_laws_eqMemory a0 a1 = some r := by
  unfold B_laws_eqMemory at h
  refine semW_of E_bool_inj rfl rfl ok_15 rfl (all_cons (by kernel_rfl) (all_cons (by kernel_rfl) all_nil)) ?_
  intro σ0 s hS hH
  have hS := sub_to (L' := [(0, .agg (DMemory.cells a0)), (1, .agg (DMemory.cells a1))]) hS (by kernel_rfl)
  refine c_seq ?_
  refine c_region ?_
  refine q_box (v := .agg (DMemory.cells a0)) (cs := [.int .i64 a0.Heap.Next, (Sl.t (a0.Heap.Objects : Sl DObject)), (Sl.t (a0.Scope.Vars : Sl DBinding)), (Sl.t (a0.Scope.Functions : Sl DFunction)), (Sl.t (a0.Scope.Types : Sl DRecordType)), (Sl.t (a0.Console.Input : Sl ByteArray)), .int .i64 a0.Console.At, (Sl.t (a0.Console.Output : Sl ByteArray)), (Sl.t (a0.Console.Files : Sl DFile)), (Sl.t (a0.Console.Trace : Sl ByteArray))]) rfl hS hH rfl rfl (by kernel_rfl) ?_; intro b1 σ s hH hS
  refine q_box (v := .agg (DMemory.cells a1)) (cs := [.int .i64 a1.Heap.Next, (Sl.t (a1.Heap.Objects : Sl DObject)), (Sl.t (a1.Scope.Vars : Sl DBinding)), (Sl.t (a1.Scope.Functions : Sl DFunction)), (Sl.t (a1.Scope.Types : Sl DRecordType)), (Sl.t (a1.Console.Input : Sl ByteArray)), .int .i64 a1.Console.At, (Sl.t (a1.Console.Output : Sl ByteArray)), (Sl.t (a1.Console.Files : Sl DFile)), (Sl.t (a1.Console.Trace : Sl ByteArray))]) rfl hS hH rfl rfl (by kernel_rfl) ?_; intro b2 σ s hH hS
  refine q_seg 1 [(2, .ptr b1 0 0 10), (3, .ptr b2 0 0 10)] hS (by kernel_rfl) ?_; intro s hS
  refine x_nil ?_
  refine sq_n ?_
  refine c_seq ?_
  refine c_seq ?_
  refine c_region ?_
  refine q_seg 1 [(2, .ptr b1 0 0 10), (3, .ptr b2 0 0 10), (5, .ptr b1 0 0 2)] hS (by kernel_rfl) ?_; intro s hS
  refine q_load (v := .agg (DHeap.cells a0.Heap)) 1 trivial rfl hS hH rfl rfl (by kernel_rfl) ?_; intro s hS
  refine q_seg 1 [(2, .ptr b1 0 0 10), (3, .ptr b2 0 0 10), (6, .agg (DHeap.cells a0.Heap)), (7, .ptr b2 0 0 2)] hS (by kernel_rfl) ?_; intro s hS
  refine q_load (v := .agg (DHeap.cells a1.Heap)) 0 trivial rfl hS hH rfl rfl (by kernel_rfl) ?_; intro s hS
  obtain ⟨y1, hy1, h⟩ := bind_some h
  refine q_callF (a := []) (b := []) (xs := [.agg (DHeap.cells a0.Heap), .agg (DHeap.cells a1.Heap)]) rfl hS rfl rfl hy1 ?_; intro s hS
  refine q_seg 1 [(2, .ptr b1 0 0 10), (3, .ptr b2 0 0 10), (10, .bool (!y1))] hS (by kernel_rfl) ?_; intro s hS
  refine x_nil ?_
  refine sq_n ?_
  by_cases hc1 : (!y1) = true
  · have h := it_pos hc1 h
    refine c_cond hS rfl (fun _ => ?_) (fun hf => ff_absurd hc1 hf)
    refine c_seq ?_
    refine c_region ?_
    refine q_seg 1 [(4, .bool false)] hS (by kernel_rfl) ?_; intro s hS
    refine x_nil ?_
    refine sq_n ?_
    refine c_ret ?_
    refine sq_r ?_
    injection h with h; subst h
    exact end_W hH (r_tmp (v := .bool false) hS rfl r_nil) rfl (by kernel_rfl) (by simp [pureT, pureL, E_bool])
  · have h := it_neg hc1 h
    refine c_cond hS rfl (fun hf => tt_absurd hc1 hf) (fun _ => ?_)
    refine c_skip ?_
    refine sq_n ?_
    refine c_seq ?_
    refine c_seq ?_
    refine c_region ?_
    refine q_seg 1 [(2, .ptr b1 0 0 10), (3, .ptr b2 0 0 10), (11, .ptr b1 0 2 3)] hS (by kernel_rfl) ?_; intro s hS
    refine q_load (v := .agg (DScope.cells a0.Scope)) 1 trivial rfl hS hH rfl rfl (by kernel_rfl) ?_; intro s hS
    refine q_seg 1 [(2, .ptr b1 0 0 10), (3, .ptr b2 0 0 10), (12, .agg (DScope.cells a0.Scope)), (13, .ptr b2 0 2 3)] hS (by kernel_rfl) ?_; intro s hS
    refine q_load (v := .agg (DScope.cells a1.Scope)) 0 trivial rfl hS hH rfl rfl (by kernel_rfl) ?_; intro s hS
    obtain ⟨y2, hy2, h⟩ := bind_some h
    refine q_callF (a := []) (b := []) (xs := [.agg (DScope.cells a0.Scope), .agg (DScope.cells a1.Scope)]) rfl hS rfl rfl hy2 ?_; intro s hS
    refine q_seg 1 [(2, .ptr b1 0 0 10), (3, .ptr b2 0 0 10), (16, .bool (!y2))] hS (by kernel_rfl) ?_; intro s hS
    refine x_nil ?_
    refine sq_n ?_
    by_cases hc2 : (!y2) = true
    · have h := it_pos hc2 h
      refine c_cond hS rfl (fun _ => ?_) (fun hf => ff_absurd hc2 hf)
      refine c_seq ?_
      refine c_region ?_
      refine q_seg 1 [(4, .bool false)] hS (by kernel_rfl) ?_; intro s hS
      refine x_nil ?_
      refine sq_n ?_
      refine c_ret ?_
      refine sq_r ?_
      injection h with h; subst h
      exact end_W hH (r_tmp (v := .bool false) hS rfl r_nil) rfl (by kernel_rfl) (by simp [pureT, pureL, E_bool])
    · have h := it_neg hc2 h
      refine c_cond hS rfl (fun hf => tt_absurd hc2 hf) (fun _ => ?_)
      refine c_skip ?_
      refine sq_n ?_
      refine c_seq ?_
      refine c_seq ?_
      refine c_region ?_
      refine q_seg 1 [(3, .ptr b2 0 0 10), (17, .ptr b1 0 5 5)] hS (by kernel_rfl) ?_; intro s hS
      refine q_load (v := .agg (DConsole.cells a0.Console)) 1 trivial rfl hS hH rfl rfl (by kernel_rfl) ?_; intro s hS
      refine q_seg 1 [(18, .agg (DConsole.cells a0.Console)), (19, .ptr b2 0 5 5)] hS (by kernel_rfl) ?_; intro s hS
      refine q_load (v := .agg (DConsole.cells a1.Console)) 0 trivial rfl hS hH rfl rfl (by kernel_rfl) ?_; intro s hS
      obtain ⟨y3, hy3, h⟩ := bind_some h
      refine q_callF (a := []) (b := []) (xs := [.agg (DConsole.cells a0.Console), .agg (DConsole.cells a1.Console)]) rfl hS rfl rfl hy3 ?_; intro s hS
      refine q_seg 1 [(22, .bool (!y3))] hS (by kernel_rfl) ?_; intro s hS
      refine x_nil ?_
      refine sq_n ?_
      by_cases hc3 : (!y3) = true
      · have h := it_pos hc3 h
        refine c_cond hS rfl (fun _ => ?_) (fun hf => ff_absurd hc3 hf)
        refine c_seq ?_
        refine c_region ?_
        refine q_seg 1 [(4, .bool false)] hS (by kernel_rfl) ?_; intro s hS
        refine x_nil ?_
        refine sq_n ?_
        refine c_ret ?_
        refine sq_r ?_
        injection h with h; subst h
        exact end_W hH (r_tmp (v := .bool false) hS rfl r_nil) rfl (by kernel_rfl) (by simp [pureT, pureL, E_bool])
      · have h := it_neg hc3 h
        refine c_cond hS rfl (fun hf => tt_absurd hc3 hf) (fun _ => ?_)
        refine c_skip ?_
        refine sq_n ?_
        refine c_seq ?_
        refine c_region ?_
        refine q_seg 1 [(4, .bool true)] hS (by kernel_rfl) ?_; intro s hS
        refine x_nil ?_
        refine sq_n ?_
        refine c_ret ?_
        injection h with h; subst h
        exact end_W hH (r_tmp (v := .bool true) hS rfl r_nil) rfl (by kernel_rfl) (by simp [pureT, pureL, E_bool])
end Go.Am
end
