/- Functions of the program. -/
import Derived.Test.YtnabmjlpdcpaeaaAd0
section
set_option maxRecDepth 100000
set_option maxHeartbeats 1000000
set_option linter.unusedVariables false
set_option linter.unusedSimpArgs false
namespace Go.Am
open Go.Proofs
noncomputable def B_laws_szStringS (a0 : (Sl ByteArray)) (a1 : Int) : Option Int := (if (decide ((IntKind.i64.wrap (a1 - (a0.l.length : Int))) < 0)) = true then (some (-1)) else ((loopO (S := (Int × Int)) (R := (Int ⊕ Int)) (fun st1 => (if (decide (st1.2 < (a0.l.length : Int))) = true then ((elt a0 st1.2).bind fun y2 => (if (decide ((IntKind.i64.wrap (st1.1 - (y2.size : Int))) < 0)) = true then (some (.inr (.inr (-1)))) else (some (.inl ((IntKind.i64.wrap (st1.1 - (y2.size : Int))), (IntKind.i64.wrap (st1.2 + 1))))))) else (some (.inr (.inl st1.1))))) ((IntKind.i64.wrap (a1 - (a0.l.length : Int))), 0)).bind fun y1 => (Sum.elim (fun y1 => (some y1)) (fun y1 => (some y1)) y1)))
theorem u_laws_szStringS (a0 : (Sl ByteArray)) (a1 : Int) (r : Int) (h : B_laws_szStringS a0 a1 = some r) : F_laws_szStringS a0 a1 = some r := by
  unfold B_laws_szStringS at h
  refine semW_of E_i64_inj rfl rfl ok_20 rfl (all_cons (by kernel_rfl) (all_cons (by kernel_rfl) all_nil)) ?_
  intro σ0 s hS hH
  have hS := sub_to (L' := [(0, (Sl.t (a0 : Sl ByteArray))), (1, .int .i64 a1)]) hS (by kernel_rfl)
  refine c_seq ?_
  refine c_region ?_
  refine q_seg 1 [(0, (Sl.t (a0 : Sl ByteArray))), (1, .int .i64 a1)] hS (by kernel_rfl) ?_; intro s hS
  refine x_nil ?_
  refine sq_n ?_
  refine c_seq ?_
  refine c_region ?_
  refine q_seg 5 [(0, (Sl.t (a0 : Sl ByteArray))), (1, .int .i64 (IntKind.i64.wrap (a1 - (a0.l.length : Int))))] hS (by kernel_rfl) ?_; intro s hS
  refine x_nil ?_
  refine sq_n ?_
  refine c_seq ?_
  refine c_seq ?_
  refine c_region ?_
  refine q_seg 2 [(0, (Sl.t (a0 : Sl ByteArray))), (1, .int .i64 (IntKind.i64.wrap (a1 - (a0.l.length : Int)))), (11, .bool (decide ((IntKind.i64.wrap (a1 - (a0.l.length : Int))) < 0)))] hS (by kernel_rfl) ?_; intro s hS
  refine x_nil ?_
  refine sq_n ?_
  by_cases hc1 : (decide ((IntKind.i64.wrap (a1 - (a0.l.length : Int))) < 0)) = true
  · have h := it_pos hc1 h
    refine c_cond hS rfl (fun _ => ?_) (fun hf => ff_absurd hc1 hf)
    refine c_seq ?_
    refine c_region ?_
    refine q_seg 1 [(4, .int .i64 (-1))] hS (by kernel_rfl) ?_; intro s hS
    refine x_nil ?_
    refine sq_n ?_
    refine c_ret ?_
    refine sq_r ?_
    injection h with h; subst h
    exact end_W hH (r_tmp (v := .int .i64 (-1)) hS rfl r_nil) rfl (by kernel_rfl) (by simp [pureT, pureL, E_i64])
  · have h := it_neg hc1 h
    refine c_cond hS rfl (fun hf => tt_absurd hc1 hf) (fun _ => ?_)
    refine c_skip ?_
    refine sq_n ?_
    refine c_seq ?_
    refine c_seq ?_
    refine c_region ?_
    refine q_seg 1 [(0, (Sl.t (a0 : Sl ByteArray))), (1, .int .i64 (IntKind.i64.wrap (a1 - (a0.l.length : Int)))), (5, .int .i64 0)] hS (by kernel_rfl) ?_; intro s hS
    refine x_nil ?_
    refine sq_n ?_
    refine c_block ?_
    obtain ⟨y1, hy1, h⟩ := bind_some h
    refine c_loop (fun (st1 : (Int × Int)) (fr : Fr) => Sub [(0, (Sl.t (a0 : Sl ByteArray))), (1, .int .i64 st1.1), (5, .int .i64 st1.2)] fr.s ∧ Heap σ0 fr.σ []) (fun (y1 : (Int ⊕ Int)) (e : AExit) (fr : Fr) => (Sum.elim (fun y => e = (.exit 0) ∧ Sub [(1, .int .i64 y)] fr.s ∧ Heap σ0 fr.σ []) (fun y => e = .ret ∧ endW Try.prog (Try.f20.results.toList) σ0 (E_i64 y) .ret fr)) y1) hy1 (And.intro (sub_to hS (by kernel_rfl)) hH) ?_ ?_
    · clear h hy1 hS hH; clear y1; intro st1 x fr h HI; obtain ⟨s, σ⟩ := fr; obtain ⟨hS, hH⟩ := HI
      refine c_seq ?_
      refine c_seq ?_
      refine c_region ?_
      refine q_seg 4 [(0, (Sl.t (a0 : Sl ByteArray))), (1, .int .i64 st1.1), (5, .int .i64 st1.2), (15, .bool (decide (st1.2 < (a0.l.length : Int))))] hS (by kernel_rfl) ?_; intro s hS
      refine x_nil ?_
      refine sq_n ?_
      by_cases hc2 : (decide (st1.2 < (a0.l.length : Int))) = true
      · have h := it_pos hc2 h
        refine c_cond hS rfl (fun _ => ?_) (fun hf => ff_absurd hc2 hf)
        refine c_skip ?_
        refine sq_n ?_
        refine c_seq ?_
        refine c_block ?_
        refine c_seq ?_
        refine c_region ?_
        refine q_seg 3 [(0, (Sl.t (a0 : Sl ByteArray))), (5, .int .i64 st1.2), (18, .int .i64 st1.1), (19, (Sl.t (a0 : Sl ByteArray))), (20, .int .i64 st1.2)] hS (by kernel_rfl) ?_; intro s hS
        obtain ⟨y2, hy2, h⟩ := bind_some h
        refine q_elt (sl := a0) (e := 9) [.str y2] rfl hS rfl rfl (by kernel_rfl) (by kernel_rfl) hy2 rfl ?_; intro rest1 s hS
        refine q_seg 4 [(0, (Sl.t (a0 : Sl ByteArray))), (1, .int .i64 (IntKind.i64.wrap (st1.1 - (y2.size : Int)))), (5, .int .i64 st1.2)] hS (by kernel_rfl) ?_; intro s hS
        refine x_nil ?_
        refine sq_n ?_
        refine c_seq ?_
        refine c_region ?_
        refine q_seg 2 [(0, (Sl.t (a0 : Sl ByteArray))), (1, .int .i64 (IntKind.i64.wrap (st1.1 - (y2.size : Int)))), (5, .int .i64 st1.2), (26, .bool (decide ((IntKind.i64.wrap (st1.1 - (y2.size : Int))) < 0)))] hS (by kernel_rfl) ?_; intro s hS
        refine x_nil ?_
        refine sq_n ?_
        by_cases hc3 : (decide ((IntKind.i64.wrap (st1.1 - (y2.size : Int))) < 0)) = true
        · have h := it_pos hc3 h
          refine c_cond hS rfl (fun _ => ?_) (fun hf => ff_absurd hc3 hf)
          refine c_seq ?_
          refine c_region ?_
          refine q_seg 1 [(4, .int .i64 (-1))] hS (by kernel_rfl) ?_; intro s hS
          refine x_nil ?_
          refine sq_n ?_
          refine c_ret ?_
          refine bk_r ?_
          refine sq_r ?_
          injection h with h; subst h
          exact And.intro rfl (end_W hH (r_tmp (v := .int .i64 (-1)) hS rfl r_nil) rfl (by kernel_rfl) (by simp [pureT, pureL, E_i64]))
        · have h := it_neg hc3 h
          refine c_cond hS rfl (fun hf => tt_absurd hc3 hf) (fun _ => ?_)
          refine c_skip ?_
          refine bk_n ?_
          refine sq_n ?_
          refine c_region ?_
          refine q_seg 3 [(0, (Sl.t (a0 : Sl ByteArray))), (1, .int .i64 (IntKind.i64.wrap (st1.1 - (y2.size : Int)))), (5, .int .i64 (IntKind.i64.wrap (st1.2 + 1)))] hS (by kernel_rfl) ?_; intro s hS
          refine x_nil ?_
          injection h with h; subst h
          exact And.intro (sub_to hS (by kernel_rfl)) hH
      · have h := it_neg hc2 h
        refine c_cond hS rfl (fun hf => tt_absurd hc2 hf) (fun _ => ?_)
        refine c_exit ?_
        refine sq_x ?_
        injection h with h; subst h
        exact And.intro rfl (And.intro (sub_to hS (by kernel_rfl)) hH)
    · clear hS hH; intro e fr HF; obtain ⟨s, σ⟩ := fr
      rcases y1 with y1 | y1
      · obtain ⟨rfl, hS, hH⟩ := HF
        refine bk_e ?_
        refine sq_n ?_
        refine c_seq ?_
        refine c_region ?_
        refine q_seg 2 [(4, .int .i64 y1)] hS (by kernel_rfl) ?_; intro s hS
        refine x_nil ?_
        refine sq_n ?_
        refine c_ret ?_
        injection h with h; subst h
        exact end_W hH (r_tmp (v := .int .i64 y1) hS rfl r_nil) rfl (by kernel_rfl) (by simp [pureT, pureL, E_i64])
      · obtain ⟨rfl, HE⟩ := HF
        refine bk_r ?_
        refine sq_r ?_
        injection h with h; subst h; exact HE
end Go.Am
end
section
set_option maxRecDepth 100000
set_option maxHeartbeats 1000000
set_option linter.unusedVariables false
set_option linter.unusedSimpArgs false
namespace Go.Am
open Go.Proofs
noncomputable def B_laws_szMemory (a0 : DMemory) (a1 : Int) : Option Int := ((F_laws_szHeap a0.Heap a1).bind fun y1 => (if (decide (y1 < 0)) = true then (some (-1)) else ((F_laws_szScope a0.Scope y1).bind fun y2 => (if (decide (y2 < 0)) = true then (some (-1)) else ((F_laws_szConsole a0.Console y2).bind fun y3 => (if (decide (y3 < 0)) = true then (some (-1)) else (some y3)))))))
theorem u_laws_szMemory (a0 : DMemory) (a1 : Int) (r : Int) (h : B_laws_szMemory a0 a1 = some r) : F_laws_szMemory a0 a1 = some r := by
  unfold B_laws_szMemory at h
  refine semW_of E_i64_inj rfl rfl ok_21 rfl (all_cons (by kernel_rfl) (all_cons (by kernel_rfl) all_nil)) ?_
  intro σ0 s hS hH
  have hS := sub_to (L' := [(0, .agg (DMemory.cells a0)), (1, .int .i64 a1)]) hS (by kernel_rfl)
  refine c_seq ?_
  refine c_region ?_
  refine q_box (v := .agg (DMemory.cells a0)) (cs := [.int .i64 a0.Heap.Next, (Sl.t (a0.Heap.Objects : Sl DObject)), (Sl.t (a0.Scope.Vars : Sl DBinding)), (Sl.t (a0.Scope.Functions : Sl DFunction)), (Sl.t (a0.Scope.Types : Sl DRecordType)), (Sl.t (a0.Console.Input : Sl ByteArray)), .int .i64 a0.Console.At, (Sl.t (a0.Console.Output : Sl ByteArray)), (Sl.t (a0.Console.Files : Sl DFile)), (Sl.t (a0.Console.Trace : Sl ByteArray))]) rfl hS hH rfl rfl (by kernel_rfl) ?_; intro b1 σ s hH hS
  refine q_seg 1 [(1, .int .i64 a1), (2, .ptr b1 0 0 10)] hS (by kernel_rfl) ?_; intro s hS
  refine x_nil ?_
  refine sq_n ?_
  refine c_seq ?_
  refine c_region ?_
  refine q_seg 1 [(1, .int .i64 a1), (2, .ptr b1 0 0 10), (5, .ptr b1 0 0 2)] hS (by kernel_rfl) ?_; intro s hS
  refine q_load (v := .agg (DHeap.cells a0.Heap)) 0 trivial rfl hS hH rfl rfl (by kernel_rfl) ?_; intro s hS
  refine q_seg 1 [(2, .ptr b1 0 0 10), (6, .agg (DHeap.cells a0.Heap)), (7, .int .i64 a1)] hS (by kernel_rfl) ?_; intro s hS
  obtain ⟨y1, hy1, h⟩ := bind_some h
  refine q_callF (a := []) (b := []) (xs := [.agg (DHeap.cells a0.Heap), .int .i64 a1]) rfl hS rfl rfl hy1 ?_; intro s hS
  refine q_seg 1 [(1, .int .i64 y1), (2, .ptr b1 0 0 10)] hS (by kernel_rfl) ?_; intro s hS
  refine x_nil ?_
  refine sq_n ?_
  refine c_seq ?_
  refine c_seq ?_
  refine c_region ?_
  refine q_seg 2 [(1, .int .i64 y1), (2, .ptr b1 0 0 10), (10, .bool (decide (y1 < 0)))] hS (by kernel_rfl) ?_; intro s hS
  refine x_nil ?_
  refine sq_n ?_
  by_cases hc1 : (decide (y1 < 0)) = true
  · have h := it_pos hc1 h
    refine c_cond hS rfl (fun _ => ?_) (fun hf => ff_absurd hc1 hf)
    refine c_seq ?_
    refine c_region ?_
    refine q_seg 1 [(4, .int .i64 (-1))] hS (by kernel_rfl) ?_; intro s hS
    refine x_nil ?_
    refine sq_n ?_
    refine c_ret ?_
    refine sq_r ?_
    injection h with h; subst h
    exact end_W hH (r_tmp (v := .int .i64 (-1)) hS rfl r_nil) rfl (by kernel_rfl) (by simp [pureT, pureL, E_i64])
  · have h := it_neg hc1 h
    refine c_cond hS rfl (fun hf => tt_absurd hc1 hf) (fun _ => ?_)
    refine c_skip ?_
    refine sq_n ?_
    refine c_seq ?_
    refine c_region ?_
    refine q_seg 1 [(1, .int .i64 y1), (2, .ptr b1 0 0 10), (11, .ptr b1 0 2 3)] hS (by kernel_rfl) ?_; intro s hS
    refine q_load (v := .agg (DScope.cells a0.Scope)) 0 trivial rfl hS hH rfl rfl (by kernel_rfl) ?_; intro s hS
    refine q_seg 1 [(2, .ptr b1 0 0 10), (12, .agg (DScope.cells a0.Scope)), (13, .int .i64 y1)] hS (by kernel_rfl) ?_; intro s hS
    obtain ⟨y2, hy2, h⟩ := bind_some h
    refine q_callF (a := []) (b := []) (xs := [.agg (DScope.cells a0.Scope), .int .i64 y1]) rfl hS rfl rfl hy2 ?_; intro s hS
    refine q_seg 1 [(1, .int .i64 y2), (2, .ptr b1 0 0 10)] hS (by kernel_rfl) ?_; intro s hS
    refine x_nil ?_
    refine sq_n ?_
    refine c_seq ?_
    refine c_seq ?_
    refine c_region ?_
    refine q_seg 2 [(1, .int .i64 y2), (2, .ptr b1 0 0 10), (16, .bool (decide (y2 < 0)))] hS (by kernel_rfl) ?_; intro s hS
    refine x_nil ?_
    refine sq_n ?_
    by_cases hc2 : (decide (y2 < 0)) = true
    · have h := it_pos hc2 h
      refine c_cond hS rfl (fun _ => ?_) (fun hf => ff_absurd hc2 hf)
      refine c_seq ?_
      refine c_region ?_
      refine q_seg 1 [(4, .int .i64 (-1))] hS (by kernel_rfl) ?_; intro s hS
      refine x_nil ?_
      refine sq_n ?_
      refine c_ret ?_
      refine sq_r ?_
      injection h with h; subst h
      exact end_W hH (r_tmp (v := .int .i64 (-1)) hS rfl r_nil) rfl (by kernel_rfl) (by simp [pureT, pureL, E_i64])
    · have h := it_neg hc2 h
      refine c_cond hS rfl (fun hf => tt_absurd hc2 hf) (fun _ => ?_)
      refine c_skip ?_
      refine sq_n ?_
      refine c_seq ?_
      refine c_region ?_
      refine q_seg 1 [(1, .int .i64 y2), (17, .ptr b1 0 5 5)] hS (by kernel_rfl) ?_; intro s hS
      refine q_load (v := .agg (DConsole.cells a0.Console)) 0 trivial rfl hS hH rfl rfl (by kernel_rfl) ?_; intro s hS
      refine q_seg 1 [(18, .agg (DConsole.cells a0.Console)), (19, .int .i64 y2)] hS (by kernel_rfl) ?_; intro s hS
      obtain ⟨y3, hy3, h⟩ := bind_some h
      refine q_callF (a := []) (b := []) (xs := [.agg (DConsole.cells a0.Console), .int .i64 y2]) rfl hS rfl rfl hy3 ?_; intro s hS
      refine q_seg 1 [(1, .int .i64 y3)] hS (by kernel_rfl) ?_; intro s hS
      refine x_nil ?_
      refine sq_n ?_
      refine c_seq ?_
      refine c_seq ?_
      refine c_region ?_
      refine q_seg 2 [(1, .int .i64 y3), (22, .bool (decide (y3 < 0)))] hS (by kernel_rfl) ?_; intro s hS
      refine x_nil ?_
      refine sq_n ?_
      by_cases hc3 : (decide (y3 < 0)) = true
      · have h := it_pos hc3 h
        refine c_cond hS rfl (fun _ => ?_) (fun hf => ff_absurd hc3 hf)
        refine c_seq ?_
        refine c_region ?_
        refine q_seg 1 [(4, .int .i64 (-1))] hS (by kernel_rfl) ?_; intro s hS
        refine x_nil ?_
        refine sq_n ?_
        refine c_ret ?_
        refine sq_r ?_
        injection h with h; subst h
        exact end_W hH (r_tmp (v := .int .i64 (-1)) hS rfl r_nil) rfl (by kernel_rfl) (by simp [pureT, pureL, E_i64])
      · have h := it_neg hc3 h
        refine c_cond hS rfl (fun hf => tt_absurd hc3 hf) (fun _ => ?_)
        refine c_skip ?_
        refine sq_n ?_
        refine c_seq ?_
        refine c_region ?_
        refine q_seg 2 [(4, .int .i64 y3)] hS (by kernel_rfl) ?_; intro s hS
        refine x_nil ?_
        refine sq_n ?_
        refine c_ret ?_
        injection h with h; subst h
        exact end_W hH (r_tmp (v := .int .i64 y3) hS rfl r_nil) rfl (by kernel_rfl) (by simp [pureT, pureL, E_i64])
end Go.Am
end
section
set_option maxRecDepth 100000
set_option maxHeartbeats 1000000
set_option linter.unusedVariables false
set_option linter.unusedSimpArgs false
namespace Go.Am
open Go.Proofs
noncomputable def B_spec_l21SameTexts (a0 : (Sl ByteArray)) (a1 : (Sl ByteArray)) : Option Bool := (if ((!decide ((a0.l.length : Int) = (a1.l.length : Int)))) = true then (some false) else ((loopO (S := Int) (R := (Unit ⊕ Bool)) (fun st1 => (if (decide (st1 < (a0.l.length : Int))) = true then ((elt a0 st1).bind fun y2 => ((elt a1 st1).bind fun y3 => (if (!decide (y2 = y3)) = true then (some (.inr (.inr false))) else (some (.inl (IntKind.i64.wrap (st1 + 1))))))) else (some (.inr (.inl ()))))) 0).bind fun y1 => (Sum.elim (fun y1 => (some true)) (fun y1 => (some y1)) y1)))
theorem u_spec_l21SameTexts (a0 : (Sl ByteArray)) (a1 : (Sl ByteArray)) (r : Bool) (h : B_spec_l21SameTexts a0 a1 = some r) : F_spec_l21SameTexts a0 a1 = some r := by
  unfold B_spec_l21SameTexts at h
  refine semW_of E_bool_inj rfl rfl ok_22 rfl (all_cons (by kernel_rfl) (all_cons (by kernel_rfl) all_nil)) ?_
  intro σ0 s hS hH
  have hS := sub_to (L' := [(0, (Sl.t (a0 : Sl ByteArray))), (1, (Sl.t (a1 : Sl ByteArray)))]) hS (by kernel_rfl)
  refine c_seq ?_
  refine c_region ?_
  refine q_seg 1 [(0, (Sl.t (a0 : Sl ByteArray))), (1, (Sl.t (a1 : Sl ByteArray)))] hS (by kernel_rfl) ?_; intro s hS
  refine x_nil ?_
  refine sq_n ?_
  refine c_seq ?_
  refine c_seq ?_
  refine c_region ?_
  refine q_seg 5 [(0, (Sl.t (a0 : Sl ByteArray))), (1, (Sl.t (a1 : Sl ByteArray))), (10, .bool ((!decide ((a0.l.length : Int) = (a1.l.length : Int)))))] hS (by kernel_rfl) ?_; intro s hS
  refine x_nil ?_
  refine sq_n ?_
  by_cases hc1 : ((!decide ((a0.l.length : Int) = (a1.l.length : Int)))) = true
  · have h := it_pos hc1 h
    refine c_cond hS rfl (fun _ => ?_) (fun hf => ff_absurd hc1 hf)
    refine c_seq ?_
    refine c_region ?_
    refine q_seg 1 [(4, .bool false)] hS (by kernel_rfl) ?_; intro s hS
    refine x_nil ?_
    refine sq_n ?_
    refine c_ret ?_
    refine sq_r ?_
    injection h with h; subst h
    exact end_W hH (r_tmp (v := .bool false) hS rfl r_nil) rfl (by kernel_rfl) (by simp [pureT, pureL, E_bool])
  · have h := it_neg hc1 h
    refine c_cond hS rfl (fun hf => tt_absurd hc1 hf) (fun _ => ?_)
    refine c_skip ?_
    refine sq_n ?_
    refine c_seq ?_
    refine c_seq ?_
    refine c_region ?_
    refine q_seg 1 [(0, (Sl.t (a0 : Sl ByteArray))), (1, (Sl.t (a1 : Sl ByteArray))), (5, .int .i64 0)] hS (by kernel_rfl) ?_; intro s hS
    refine x_nil ?_
    refine sq_n ?_
    refine c_block ?_
    obtain ⟨y1, hy1, h⟩ := bind_some h
    refine c_loop (fun (st1 : Int) (fr : Fr) => Sub [(0, (Sl.t (a0 : Sl ByteArray))), (1, (Sl.t (a1 : Sl ByteArray))), (5, .int .i64 st1)] fr.s ∧ Heap σ0 fr.σ []) (fun (y1 : (Unit ⊕ Bool)) (e : AExit) (fr : Fr) => (Sum.elim (fun y => e = (.exit 0) ∧ Sub [] fr.s ∧ Heap σ0 fr.σ []) (fun y => e = .ret ∧ endW Try.prog (Try.f22.results.toList) σ0 (E_bool y) .ret fr)) y1) hy1 (And.intro (sub_to hS (by kernel_rfl)) hH) ?_ ?_
    · clear h hy1 hS hH; clear y1; intro st1 x fr h HI; obtain ⟨s, σ⟩ := fr; obtain ⟨hS, hH⟩ := HI
      refine c_seq ?_
      refine c_seq ?_
      refine c_region ?_
      refine q_seg 4 [(0, (Sl.t (a0 : Sl ByteArray))), (1, (Sl.t (a1 : Sl ByteArray))), (5, .int .i64 st1), (14, .bool (decide (st1 < (a0.l.length : Int))))] hS (by kernel_rfl) ?_; intro s hS
      refine x_nil ?_
      refine sq_n ?_
      by_cases hc2 : (decide (st1 < (a0.l.length : Int))) = true
      · have h := it_pos hc2 h
        refine c_cond hS rfl (fun _ => ?_) (fun hf => ff_absurd hc2 hf)
        refine c_skip ?_
        refine sq_n ?_
        refine c_seq ?_
        refine c_block ?_
        refine c_seq ?_
        refine c_draw (by kernel_rfl) hH ?_; intro mb σ hH
        refine q_seg 2 [(0, (Sl.t (a0 : Sl ByteArray))), (1, (Sl.t (a1 : Sl ByteArray))), (5, .int .i64 st1), (17, (Sl.t (a0 : Sl ByteArray))), (18, .int .i64 st1)] hS (by kernel_rfl) ?_; intro s hS
        obtain ⟨y2, hy2, h⟩ := bind_some h
        refine q_elt (sl := a0) (e := 9) [.str y2] rfl hS rfl rfl (by kernel_rfl) (by kernel_rfl) hy2 rfl ?_; intro rest1 s hS
        refine q_seg 3 [(0, (Sl.t (a0 : Sl ByteArray))), (1, (Sl.t (a1 : Sl ByteArray))), (5, .int .i64 st1), (20, .str y2), (21, (Sl.t (a1 : Sl ByteArray))), (22, .int .i64 st1)] hS (by kernel_rfl) ?_; intro s hS
        obtain ⟨y3, hy3, h⟩ := bind_some h
        refine q_elt (sl := a1) (e := 9) [.str y3] rfl hS rfl rfl (by kernel_rfl) (by kernel_rfl) hy3 rfl ?_; intro rest2 s hS
        refine q_seg 2 [(0, (Sl.t (a0 : Sl ByteArray))), (1, (Sl.t (a1 : Sl ByteArray))), (5, .int .i64 st1), (25, .bool (!decide (y2 = y3)))] hS (by kernel_rfl) ?_; intro s hS
        refine x_nil ?_
        refine sq_n ?_
        by_cases hc3 : (!decide (y2 = y3)) = true
        · have h := it_pos hc3 h
          refine c_cond hS rfl (fun _ => ?_) (fun hf => ff_absurd hc3 hf)
          refine c_seq ?_
          refine c_region ?_
          refine q_seg 1 [(4, .bool false)] hS (by kernel_rfl) ?_; intro s hS
          refine x_nil ?_
          refine sq_n ?_
          refine c_ret ?_
          refine bk_r ?_
          refine sq_r ?_
          injection h with h; subst h
          exact And.intro rfl (end_W hH (r_tmp (v := .bool false) hS rfl r_nil) rfl (by kernel_rfl) (by simp [pureT, pureL, E_bool]))
        · have h := it_neg hc3 h
          refine c_cond hS rfl (fun hf => tt_absurd hc3 hf) (fun _ => ?_)
          refine c_skip ?_
          refine bk_n ?_
          refine sq_n ?_
          refine c_region ?_
          refine q_seg 3 [(0, (Sl.t (a0 : Sl ByteArray))), (1, (Sl.t (a1 : Sl ByteArray))), (5, .int .i64 (IntKind.i64.wrap (st1 + 1)))] hS (by kernel_rfl) ?_; intro s hS
          refine x_nil ?_
          injection h with h; subst h
          exact And.intro (sub_to hS (by kernel_rfl)) hH
      · have h := it_neg hc2 h
        refine c_cond hS rfl (fun hf => tt_absurd hc2 hf) (fun _ => ?_)
        refine c_exit ?_
        refine sq_x ?_
        injection h with h; subst h
        exact And.intro rfl (And.intro (sub_to hS (by kernel_rfl)) hH)
    · clear hS hH; intro e fr HF; obtain ⟨s, σ⟩ := fr
      rcases y1 with y1 | y1
      · obtain ⟨rfl, hS, hH⟩ := HF
        refine bk_e ?_
        refine sq_n ?_
        refine c_seq ?_
        refine c_region ?_
        refine q_seg 1 [(4, .bool true)] hS (by kernel_rfl) ?_; intro s hS
        refine x_nil ?_
        refine sq_n ?_
        refine c_ret ?_
        injection h with h; subst h
        exact end_W hH (r_tmp (v := .bool true) hS rfl r_nil) rfl (by kernel_rfl) (by simp [pureT, pureL, E_bool])
      · obtain ⟨rfl, HE⟩ := HF
        refine bk_r ?_
        refine sq_r ?_
        injection h with h; subst h; exact HE
end Go.Am
end
section
set_option maxRecDepth 100000
set_option maxHeartbeats 1000000
set_option linter.unusedVariables false
set_option linter.unusedSimpArgs false
namespace Go.Am
open Go.Proofs
noncomputable def B_spec_SameMemory (a0 : DMemory) (a1 : DMemory) : Option Bool := ((F_spec_SameHeap a0.Heap a1.Heap).bind fun y1 => (if y1 = true then ((F_spec_SameScope a0.Scope a1.Scope).bind fun y2 => (if y2 = true then ((F_spec_SameConsole a0.Console a1.Console).bind fun y3 => (some y3)) else (some false))) else (some false)))
theorem u_spec_SameMemory (a0 : DMemory) (a1 : DMemory) (r : Bool) (h : B_spec_SameMemory a0 a1 = some r) : F_spec_SameMemory a0 a1 = some r := by
  unfold B_spec_SameMemory at h
  refine semW_of E_bool_inj rfl rfl ok_23 rfl (all_cons (by kernel_rfl) (all_cons (by kernel_rfl) all_nil)) ?_
  intro σ0 s hS hH
  have hS := sub_to (L' := [(0, .agg (DMemory.cells a0)), (1, .agg (DMemory.cells a1))]) hS (by kernel_rfl)
  refine c_seq ?_
  refine c_region ?_
  refine q_box (v := .agg (DMemory.cells a0)) (cs := [.int .i64 a0.Heap.Next, (Sl.t (a0.Heap.Objects : Sl DObject)), (Sl.t (a0.Scope.Vars : Sl DBinding)), (Sl.t (a0.Scope.Functions : Sl DFunction)), (Sl.t (a0.Scope.Types : Sl DRecordType)), (Sl.t (a0.Console.Input : Sl ByteArray)), .int .i64 a0.Console.At, (Sl.t (a0.Console.Output : Sl ByteArray)), (Sl.t (a0.Console.Files : Sl DFile)), (Sl.t (a0.Console.Trace : Sl ByteArray))]) rfl hS hH rfl rfl (by kernel_rfl) ?_; intro b1 σ s hH hS
  refine q_box (v := .agg (DMemory.cells a1)) (cs := [.int .i64 a1.Heap.Next, (Sl.t (a1.Heap.Objects : Sl DObject)), (Sl.t (a1.Scope.Vars : Sl DBinding)), (Sl.t (a1.Scope.Functions : Sl DFunction)), (Sl.t (a1.Scope.Types : Sl DRecordType)), (Sl.t (a1.Console.Input : Sl ByteArray)), .int .i64 a1.Console.At, (Sl.t (a1.Console.Output : Sl ByteArray)), (Sl.t (a1.Console.Files : Sl DFile)), (Sl.t (a1.Console.Trace : Sl ByteArray))]) rfl hS hH rfl rfl (by kernel_rfl) ?_; intro b2 σ s hH hS
  refine q_seg 1 [(2, .ptr b1 0 0 10), (3, .ptr b2 0 0 10)] hS (by kernel_rfl) ?_; intro s hS
  refine x_nil ?_
  refine sq_n ?_
  refine c_seq ?_
  refine c_region ?_
  refine q_seg 1 [(2, .ptr b1 0 0 10), (3, .ptr b2 0 0 10), (5, .ptr b1 0 0 2)] hS (by kernel_rfl) ?_; intro s hS
  refine q_load (v := .agg (DHeap.cells a0.Heap)) 1 trivial rfl hS hH rfl rfl (by kernel_rfl) ?_; intro s hS
  refine q_seg 1 [(2, .ptr b1 0 0 10), (3, .ptr b2 0 0 10), (6, .agg (DHeap.cells a0.Heap)), (7, .ptr b2 0 0 2)] hS (by kernel_rfl) ?_; intro s hS
  refine q_load (v := .agg (DHeap.cells a1.Heap)) 0 trivial rfl hS hH rfl rfl (by kernel_rfl) ?_; intro s hS
  obtain ⟨y1, hy1, h⟩ := bind_some h
  refine q_callF (a := []) (b := []) (xs := [.agg (DHeap.cells a0.Heap), .agg (DHeap.cells a1.Heap)]) rfl hS rfl rfl hy1 ?_; intro s hS
  refine q_seg 1 [(10, .bool y1), (2, .ptr b1 0 0 10), (3, .ptr b2 0 0 10)] hS (by kernel_rfl) ?_; intro s hS
  by_cases hc1 : y1 = true
  · have h := it_pos hc1 h
    have hS := sub_bt hS hc1
    refine q_seg 1 [(2, .ptr b1 0 0 10), (3, .ptr b2 0 0 10), (10, .bool true), (11, .ptr b1 0 2 3)] hS (by kernel_rfl) ?_; intro s hS
    refine q_load (v := .agg (DScope.cells a0.Scope)) 1 trivial rfl hS hH rfl rfl (by kernel_rfl) ?_; intro s hS
    refine q_seg 1 [(2, .ptr b1 0 0 10), (3, .ptr b2 0 0 10), (10, .bool true), (12, .agg (DScope.cells a0.Scope)), (13, .ptr b2 0 2 3)] hS (by kernel_rfl) ?_; intro s hS
    refine q_load (v := .agg (DScope.cells a1.Scope)) 0 trivial rfl hS hH rfl rfl (by kernel_rfl) ?_; intro s hS
    obtain ⟨y2, hy2, h⟩ := bind_some h
    refine q_callF (a := []) (b := []) (xs := [.agg (DScope.cells a0.Scope), .agg (DScope.cells a1.Scope)]) rfl hS rfl rfl hy2 ?_; intro s hS
    refine q_seg 2 [(17, .bool y2), (2, .ptr b1 0 0 10), (3, .ptr b2 0 0 10)] hS (by kernel_rfl) ?_; intro s hS
    by_cases hc2 : y2 = true
    · have h := it_pos hc2 h
      have hS := sub_bt hS hc2
      refine q_seg 1 [(3, .ptr b2 0 0 10), (17, .bool true), (18, .ptr b1 0 5 5)] hS (by kernel_rfl) ?_; intro s hS
      refine q_load (v := .agg (DConsole.cells a0.Console)) 1 trivial rfl hS hH rfl rfl (by kernel_rfl) ?_; intro s hS
      refine q_seg 1 [(17, .bool true), (19, .agg (DConsole.cells a0.Console)), (20, .ptr b2 0 5 5)] hS (by kernel_rfl) ?_; intro s hS
      refine q_load (v := .agg (DConsole.cells a1.Console)) 0 trivial rfl hS hH rfl rfl (by kernel_rfl) ?_; intro s hS
      obtain ⟨y3, hy3, h⟩ := bind_some h
      refine q_callF (a := []) (b := []) (xs := [.agg (DConsole.cells a0.Console), .agg (DConsole.cells a1.Console)]) rfl hS rfl rfl hy3 ?_; intro s hS
      refine q_seg 2 [(4, .bool y3)] hS (by kernel_rfl) ?_; intro s hS
      refine x_nil ?_
      refine sq_n ?_
      refine c_ret ?_
      injection h with h; subst h
      exact end_W hH (r_tmp (v := .bool y3) hS rfl r_nil) rfl (by kernel_rfl) (by simp [pureT, pureL, E_bool])
    · have h := it_neg hc2 h
      have hS := sub_bt hS (tt_of hc2)
      refine q_seg 7 [(4, .bool false)] hS (by kernel_rfl) ?_; intro s hS
      refine x_nil ?_
      refine sq_n ?_
      refine c_ret ?_
      injection h with h; subst h
      exact end_W hH (r_tmp (v := .bool false) hS rfl r_nil) rfl (by kernel_rfl) (by simp [pureT, pureL, E_bool])
  · have h := it_neg hc1 h
    have hS := sub_bt hS (tt_of hc1)
    refine q_seg 14 [(4, .bool false)] hS (by kernel_rfl) ?_; intro s hS
    refine x_nil ?_
    refine sq_n ?_
    refine c_ret ?_
    injection h with h; subst h
    exact end_W hH (r_tmp (v := .bool false) hS rfl r_nil) rfl (by kernel_rfl) (by simp [pureT, pureL, E_bool])
end Go.Am
end
section
set_option maxRecDepth 100000
set_option maxHeartbeats 1000000
set_option linter.unusedVariables false
set_option linter.unusedSimpArgs false
namespace Go.Am
open Go.Proofs
noncomputable def B_laws_toStringS (a0 : (Sl ByteArray)) : Option (Sl ByteArray) := ((mkS 16 (⟨#[]⟩ : ByteArray) (a0.l.length : Int) (a0.l.length : Int)).bind fun y1 => ((loopO (S := (Int × (Sl ByteArray))) (R := (Sl ByteArray)) (fun st1 => (if (decide (st1.1 < (a0.l.length : Int))) = true then ((elt a0 st1.1).bind fun y3 => ((elt st1.2 st1.1).bind fun y4 => (some (.inl ((IntKind.i64.wrap (st1.1 + 1)), (setS st1.2 st1.1 (y3 : ByteArray))))))) else (some (.inr st1.2)))) (0, y1)).bind fun y2 => (some y2)))
theorem u_laws_toStringS (a0 : (Sl ByteArray)) (r : (Sl ByteArray)) (h : B_laws_toStringS a0 = some r) : F_laws_toStringS a0 = some r := by
  unfold B_laws_toStringS at h
  refine semO_of rfl rfl ok_24 rfl (all_cons (by kernel_rfl) all_nil) ?_
  intro σ0 s hS hH
  have hS := sub_to (L' := [(0, (Sl.t (a0 : Sl ByteArray)))]) hS (by kernel_rfl)
  refine c_seq ?_
  refine c_region ?_
  refine q_seg 1 [(0, (Sl.t (a0 : Sl ByteArray)))] hS (by kernel_rfl) ?_; intro s hS
  refine x_nil ?_
  refine sq_n ?_
  refine c_seq ?_
  refine c_region ?_
  refine q_seg 2 [(0, (Sl.t (a0 : Sl ByteArray))), (6, .int .i64 (a0.l.length : Int))] hS (by kernel_rfl) ?_; intro s hS
  obtain ⟨y1, hy1, h⟩ := bind_some h
  refine q_make (z := true) (e := 9) (by_ := 16) (x0 := (⟨#[]⟩ : ByteArray)) (fun σ d => by simp [Enc.cells, hold_str, Iv]) rfl hS hH rfl rfl (by kernel_rfl) (by kernel_rfl) (by kernel_rfl) (by kernel_rfl) rfl hy1 ?_; intro t1 σ s ht1 hH hS
  refine q_seg 1 [(0, (Sl.t (a0 : Sl ByteArray))), (3, t1)] hS (by kernel_rfl) ?_; intro s hS
  refine x_nil ?_
  refine sq_n ?_
  refine c_seq ?_
  refine c_seq ?_
  refine c_region ?_
  refine q_seg 1 [(0, (Sl.t (a0 : Sl ByteArray))), (3, t1), (4, .int .i64 0)] hS (by kernel_rfl) ?_; intro s hS
  refine x_nil ?_
  refine sq_n ?_
  refine c_block ?_
  obtain ⟨y2, hy2, h⟩ := bind_some h
  refine c_loop (fun (st1 : (Int × (Sl ByteArray))) (fr : Fr) => Sub [(0, (Sl.t (a0 : Sl ByteArray))), (3, t1), (4, .int .i64 st1.1)] fr.s ∧ Heap σ0 fr.σ [.own true 1 t1 (Sl.t (st1.2 : Sl ByteArray))]) (fun (y2 : (Sl ByteArray)) (e : AExit) (fr : Fr) => e = (.exit 0) ∧ Sub [(3, t1)] fr.s ∧ Heap σ0 fr.σ [.own true 1 t1 (Sl.t (y2 : Sl ByteArray))]) hy2 (And.intro (sub_to hS (by kernel_rfl)) hH) ?_ ?_
  · clear h hy2 hS hH; clear y2; intro st1 x fr h HI; obtain ⟨s, σ⟩ := fr; obtain ⟨hS, hH⟩ := HI
    refine c_seq ?_
    refine c_seq ?_
    refine c_region ?_
    refine q_seg 4 [(0, (Sl.t (a0 : Sl ByteArray))), (3, t1), (4, .int .i64 st1.1), (11, .bool (decide (st1.1 < (a0.l.length : Int))))] hS (by kernel_rfl) ?_; intro s hS
    refine x_nil ?_
    refine sq_n ?_
    by_cases hc1 : (decide (st1.1 < (a0.l.length : Int))) = true
    · have h := it_pos hc1 h
      refine c_cond hS rfl (fun _ => ?_) (fun hf => ff_absurd hc1 hf)
      refine c_skip ?_
      refine sq_n ?_
      refine c_seq ?_
      refine c_block ?_
      refine c_region ?_
      refine q_seg 4 [(0, (Sl.t (a0 : Sl ByteArray))), (3, t1), (4, .int .i64 st1.1), (14, t1), (15, .int .i64 st1.1), (16, (Sl.t (a0 : Sl ByteArray))), (17, .int .i64 st1.1)] hS (by kernel_rfl) ?_; intro s hS
      obtain ⟨y3, hy3, h⟩ := bind_some h
      refine q_elt (sl := a0) (e := 9) [.str y3] rfl hS rfl rfl (by kernel_rfl) (by kernel_rfl) hy3 rfl ?_; intro rest1 s hS
      refine q_seg 1 [(0, (Sl.t (a0 : Sl ByteArray))), (3, t1), (4, .int .i64 st1.1), (14, t1), (15, .int .i64 st1.1), (19, .str y3)] hS (by kernel_rfl) ?_; intro s hS
      obtain ⟨y4, hy4, h⟩ := bind_some h
      refine q_hidx (a := st1.2) (e := 9) rfl rfl hS hH rfl rfl (by kernel_rfl) (by kernel_rfl) hy4 ?_; intro hb1 hb1e s hl_hb1 hS
      refine q_hstore (ents := []) (a := st1.2) (j := st1.1) (y := y4) (y' := (y3 : ByteArray)) (off := 0) (c := [.str y4]) (us := [.str y3]) (vs := [.str y3]) (v := .str y3) rfl hS hH hl_hb1 rfl rfl rfl (by kernel_rfl) (by kernel_rfl) rfl hy4 rfl (HL.leaf (fun σ d => hold_str _ σ d _) HL.nil) rfl (by kernel_rfl) ?_; intro σ s hH hS
      refine x_nil ?_
      refine bk_n ?_
      refine sq_n ?_
      refine c_region ?_
      refine q_seg 3 [(0, (Sl.t (a0 : Sl ByteArray))), (3, t1), (4, .int .i64 (IntKind.i64.wrap (st1.1 + 1)))] hS (by kernel_rfl) ?_; intro s hS
      refine x_nil ?_
      injection h with h; subst h
      exact And.intro (sub_to hS (by kernel_rfl)) hH
    · have h := it_neg hc1 h
      refine c_cond hS rfl (fun hf => tt_absurd hc1 hf) (fun _ => ?_)
      refine c_exit ?_
      refine sq_x ?_
      injection h with h; subst h
      exact And.intro rfl (And.intro (sub_to hS (by kernel_rfl)) hH)
  · clear hS hH; intro e fr HF; obtain ⟨s, σ⟩ := fr
    obtain ⟨rfl, hS, hH⟩ := HF
    refine bk_e ?_
    refine sq_n ?_
    refine c_seq ?_
    refine c_region ?_
    refine q_seg 2 [(2, t1)] hS (by kernel_rfl) ?_; intro s hS
    refine x_nil ?_
    refine sq_n ?_
    refine c_ret ?_
    injection h with h; subst h
    exact end_Ow [t1] [] (r_tmp (v := t1) hS rfl r_nil) (by kernel_rfl) rfl hH (by kernel_rfl)
end Go.Am
end
section
set_option maxRecDepth 100000
set_option maxHeartbeats 1000000
set_option linter.unusedVariables false
set_option linter.unusedSimpArgs false
namespace Go.Am
open Go.Proofs
noncomputable def B_laws_toMemory (a0 : DMemory) : Option DMemory := ((F_laws_toHeap a0.Heap).bind fun y1 => ((F_laws_toScope a0.Scope).bind fun y2 => ((F_laws_toConsole a0.Console).bind fun y3 => (some (⟨y1, y2, y3⟩ : DMemory)))))
theorem u_laws_toMemory (a0 : DMemory) (r : DMemory) (h : B_laws_toMemory a0 = some r) : F_laws_toMemory a0 = some r := by
  unfold B_laws_toMemory at h
  refine semO_of rfl rfl ok_25 rfl (all_cons (by kernel_rfl) all_nil) ?_
  intro σ0 s hS hH
  have hS := sub_to (L' := [(0, .agg (DMemory.cells a0))]) hS (by kernel_rfl)
  refine c_seq ?_
  refine c_region ?_
  refine q_box (v := .agg (DMemory.cells a0)) (cs := [.int .i64 a0.Heap.Next, (Sl.t (a0.Heap.Objects : Sl DObject)), (Sl.t (a0.Scope.Vars : Sl DBinding)), (Sl.t (a0.Scope.Functions : Sl DFunction)), (Sl.t (a0.Scope.Types : Sl DRecordType)), (Sl.t (a0.Console.Input : Sl ByteArray)), .int .i64 a0.Console.At, (Sl.t (a0.Console.Output : Sl ByteArray)), (Sl.t (a0.Console.Files : Sl DFile)), (Sl.t (a0.Console.Trace : Sl ByteArray))]) rfl hS hH rfl rfl (by kernel_rfl) ?_; intro b1 σ s hH hS
  refine q_alloc (z := [.int .i64 0, (Sl.t (⟨true, []⟩ : Sl DObject)), (Sl.t (⟨true, []⟩ : Sl DBinding)), (Sl.t (⟨true, []⟩ : Sl DFunction)), (Sl.t (⟨true, []⟩ : Sl DRecordType)), (Sl.t (⟨true, []⟩ : Sl ByteArray)), .int .i64 0, (Sl.t (⟨true, []⟩ : Sl ByteArray)), (Sl.t (⟨true, []⟩ : Sl DFile)), (Sl.t (⟨true, []⟩ : Sl ByteArray))]) rfl hS hH (by kernel_rfl) ?_; intro b2 σ s hH hS
  refine x_nil ?_
  refine sq_n ?_
  refine c_seq ?_
  refine c_region ?_
  refine q_alloc (z := [.int .i64 0, (Sl.t (⟨true, []⟩ : Sl DObject)), (Sl.t (⟨true, []⟩ : Sl DBinding)), (Sl.t (⟨true, []⟩ : Sl DFunction)), (Sl.t (⟨true, []⟩ : Sl DRecordType)), (Sl.t (⟨true, []⟩ : Sl ByteArray)), .int .i64 0, (Sl.t (⟨true, []⟩ : Sl ByteArray)), (Sl.t (⟨true, []⟩ : Sl DFile)), (Sl.t (⟨true, []⟩ : Sl ByteArray))]) rfl hS hH (by kernel_rfl) ?_; intro b3 σ s hH hS
  refine x_nil ?_
  refine sq_n ?_
  refine c_seq ?_
  refine c_region ?_
  refine q_seg 1 [(1, .ptr b1 0 0 10), (2, .ptr b2 0 0 10), (3, .ptr b3 0 0 10), (4, .ptr b1 0 0 2)] hS (by kernel_rfl) ?_; intro s hS
  refine q_load (v := .agg (DHeap.cells a0.Heap)) 2 trivial rfl hS hH rfl rfl (by kernel_rfl) ?_; intro s hS
  obtain ⟨y1, hy1, h⟩ := bind_some h
  refine q_callO (ents := []) (z := false) (ts := [.agg (DHeap.cells a0.Heap)]) (vs := [.agg (DHeap.cells a0.Heap)]) rfl rfl hS rfl rfl rfl hH (HL.agg (es1 := []) (es2 := []) (HL.leaf (fun σ d => hold_int _ σ d _ _) (HL.leaf (fun σ d => hold_pure σ d _) HL.nil)) HL.nil) hy1 ?_; intro hs σ s hl hH hS
  obtain ⟨t1, rfl⟩ := len1 hl
  have hH : Heap σ0 σ [.own true 10 t1 (Sl.t (y1.Objects : Sl DObject)), .box b3 [.int .i64 0, (Sl.t (⟨true, []⟩ : Sl DObject)), (Sl.t (⟨true, []⟩ : Sl DBinding)), (Sl.t (⟨true, []⟩ : Sl DFunction)), (Sl.t (⟨true, []⟩ : Sl DRecordType)), (Sl.t (⟨true, []⟩ : Sl ByteArray)), .int .i64 0, (Sl.t (⟨true, []⟩ : Sl ByteArray)), (Sl.t (⟨true, []⟩ : Sl DFile)), (Sl.t (⟨true, []⟩ : Sl ByteArray))], .box b2 [.int .i64 0, (Sl.t (⟨true, []⟩ : Sl DObject)), (Sl.t (⟨true, []⟩ : Sl DBinding)), (Sl.t (⟨true, []⟩ : Sl DFunction)), (Sl.t (⟨true, []⟩ : Sl DRecordType)), (Sl.t (⟨true, []⟩ : Sl ByteArray)), .int .i64 0, (Sl.t (⟨true, []⟩ : Sl ByteArray)), (Sl.t (⟨true, []⟩ : Sl DFile)), (Sl.t (⟨true, []⟩ : Sl ByteArray))], .box b1 [.int .i64 a0.Heap.Next, (Sl.t (a0.Heap.Objects : Sl DObject)), (Sl.t (a0.Scope.Vars : Sl DBinding)), (Sl.t (a0.Scope.Functions : Sl DFunction)), (Sl.t (a0.Scope.Types : Sl DRecordType)), (Sl.t (a0.Console.Input : Sl ByteArray)), .int .i64 a0.Console.At, (Sl.t (a0.Console.Output : Sl ByteArray)), (Sl.t (a0.Console.Files : Sl DFile)), (Sl.t (a0.Console.Trace : Sl ByteArray))]] := hH
  have ht1 : IsOne t1 := Heap.one hH
  refine q_seg 1 [(1, .ptr b1 0 0 10), (2, .ptr b2 0 0 10), (3, .ptr b3 0 0 10), (6, .agg [.int .i64 y1.Next, t1]), (7, .ptr b3 0 0 2)] hS (by kernel_rfl) ?_; intro s hS
  have hH : Heap σ0 σ [.box b3 [.int .i64 0, (Sl.t (⟨true, []⟩ : Sl DObject)), (Sl.t (⟨true, []⟩ : Sl DBinding)), (Sl.t (⟨true, []⟩ : Sl DFunction)), (Sl.t (⟨true, []⟩ : Sl DRecordType)), (Sl.t (⟨true, []⟩ : Sl ByteArray)), .int .i64 0, (Sl.t (⟨true, []⟩ : Sl ByteArray)), (Sl.t (⟨true, []⟩ : Sl DFile)), (Sl.t (⟨true, []⟩ : Sl ByteArray))], .own true 10 t1 (Sl.t (y1.Objects : Sl DObject)), .box b2 [.int .i64 0, (Sl.t (⟨true, []⟩ : Sl DObject)), (Sl.t (⟨true, []⟩ : Sl DBinding)), (Sl.t (⟨true, []⟩ : Sl DFunction)), (Sl.t (⟨true, []⟩ : Sl DRecordType)), (Sl.t (⟨true, []⟩ : Sl ByteArray)), .int .i64 0, (Sl.t (⟨true, []⟩ : Sl ByteArray)), (Sl.t (⟨true, []⟩ : Sl DFile)), (Sl.t (⟨true, []⟩ : Sl ByteArray))], .box b1 [.int .i64 a0.Heap.Next, (Sl.t (a0.Heap.Objects : Sl DObject)), (Sl.t (a0.Scope.Vars : Sl DBinding)), (Sl.t (a0.Scope.Functions : Sl DFunction)), (Sl.t (a0.Scope.Types : Sl DRecordType)), (Sl.t (a0.Console.Input : Sl ByteArray)), .int .i64 a0.Console.At, (Sl.t (a0.Console.Output : Sl ByteArray)), (Sl.t (a0.Console.Files : Sl DFile)), (Sl.t (a0.Console.Trace : Sl ByteArray))]] := hH.sel [1, 0, 2, 3] rfl (by kernel_rfl)
  refine q_store (v := .agg [.int .i64 y1.Next, t1]) (cs := [.int .i64 y1.Next, t1]) (cells' := [.int .i64 y1.Next, t1, (Sl.t (⟨true, []⟩ : Sl DBinding)), (Sl.t (⟨true, []⟩ : Sl DFunction)), (Sl.t (⟨true, []⟩ : Sl DRecordType)), (Sl.t (⟨true, []⟩ : Sl ByteArray)), .int .i64 0, (Sl.t (⟨true, []⟩ : Sl ByteArray)), (Sl.t (⟨true, []⟩ : Sl DFile)), (Sl.t (⟨true, []⟩ : Sl ByteArray))]) rfl hS hH rfl rfl rfl (by simp [ht1.1, ht1.2]) (by kernel_rfl) ?_; intro σ s hH hS
  refine x_nil ?_
  refine sq_n ?_
  refine c_seq ?_
  refine c_region ?_
  refine q_seg 1 [(1, .ptr b1 0 0 10), (2, .ptr b2 0 0 10), (3, .ptr b3 0 0 10), (8, .ptr b1 0 2 3)] hS (by kernel_rfl) ?_; intro s hS
  refine q_load (v := .agg (DScope.cells a0.Scope)) 3 trivial rfl hS hH rfl rfl (by kernel_rfl) ?_; intro s hS
  obtain ⟨y2, hy2, h⟩ := bind_some h
  refine q_callO (ents := []) (z := false) (ts := [.agg (DScope.cells a0.Scope)]) (vs := [.agg (DScope.cells a0.Scope)]) rfl rfl hS rfl rfl rfl hH (HL.agg (es1 := []) (es2 := []) (HL.leaf (fun σ d => hold_pure σ d _) (HL.leaf (fun σ d => hold_pure σ d _) (HL.leaf (fun σ d => hold_pure σ d _) HL.nil))) HL.nil) hy2 ?_; intro hs σ s hl hH hS
  obtain ⟨t2, t3, t4, rfl⟩ := len3 hl
  have hH : Heap σ0 σ [.own true 5 t2 (Sl.t (y2.Vars : Sl DBinding)), .own true 4 t3 (Sl.t (y2.Functions : Sl DFunction)), .own true 2 t4 (Sl.t (y2.Types : Sl DRecordType)), .box b3 [.int .i64 y1.Next, t1, (Sl.t (⟨true, []⟩ : Sl DBinding)), (Sl.t (⟨true, []⟩ : Sl DFunction)), (Sl.t (⟨true, []⟩ : Sl DRecordType)), (Sl.t (⟨true, []⟩ : Sl ByteArray)), .int .i64 0, (Sl.t (⟨true, []⟩ : Sl ByteArray)), (Sl.t (⟨true, []⟩ : Sl DFile)), (Sl.t (⟨true, []⟩ : Sl ByteArray))], .own true 10 t1 (Sl.t (y1.Objects : Sl DObject)), .box b2 [.int .i64 0, (Sl.t (⟨true, []⟩ : Sl DObject)), (Sl.t (⟨true, []⟩ : Sl DBinding)), (Sl.t (⟨true, []⟩ : Sl DFunction)), (Sl.t (⟨true, []⟩ : Sl DRecordType)), (Sl.t (⟨true, []⟩ : Sl ByteArray)), .int .i64 0, (Sl.t (⟨true, []⟩ : Sl ByteArray)), (Sl.t (⟨true, []⟩ : Sl DFile)), (Sl.t (⟨true, []⟩ : Sl ByteArray))], .box b1 [.int .i64 a0.Heap.Next, (Sl.t (a0.Heap.Objects : Sl DObject)), (Sl.t (a0.Scope.Vars : Sl DBinding)), (Sl.t (a0.Scope.Functions : Sl DFunction)), (Sl.t (a0.Scope.Types : Sl DRecordType)), (Sl.t (a0.Console.Input : Sl ByteArray)), .int .i64 a0.Console.At, (Sl.t (a0.Console.Output : Sl ByteArray)), (Sl.t (a0.Console.Files : Sl DFile)), (Sl.t (a0.Console.Trace : Sl ByteArray))]] := hH
  have ht2 : IsOne t2 := Heap.one hH
  have ht3 : IsOne t3 := Heap.one (hH.at 1 rfl)
  have ht4 : IsOne t4 := Heap.one (hH.at 2 rfl)
  refine q_seg 1 [(1, .ptr b1 0 0 10), (2, .ptr b2 0 0 10), (3, .ptr b3 0 0 10), (10, .agg [t2, t3, t4]), (11, .ptr b3 0 2 3)] hS (by kernel_rfl) ?_; intro s hS
  have hH : Heap σ0 σ [.box b3 [.int .i64 y1.Next, t1, (Sl.t (⟨true, []⟩ : Sl DBinding)), (Sl.t (⟨true, []⟩ : Sl DFunction)), (Sl.t (⟨true, []⟩ : Sl DRecordType)), (Sl.t (⟨true, []⟩ : Sl ByteArray)), .int .i64 0, (Sl.t (⟨true, []⟩ : Sl ByteArray)), (Sl.t (⟨true, []⟩ : Sl DFile)), (Sl.t (⟨true, []⟩ : Sl ByteArray))], .own true 5 t2 (Sl.t (y2.Vars : Sl DBinding)), .own true 4 t3 (Sl.t (y2.Functions : Sl DFunction)), .own true 2 t4 (Sl.t (y2.Types : Sl DRecordType)), .own true 10 t1 (Sl.t (y1.Objects : Sl DObject)), .box b2 [.int .i64 0, (Sl.t (⟨true, []⟩ : Sl DObject)), (Sl.t (⟨true, []⟩ : Sl DBinding)), (Sl.t (⟨true, []⟩ : Sl DFunction)), (Sl.t (⟨true, []⟩ : Sl DRecordType)), (Sl.t (⟨true, []⟩ : Sl ByteArray)), .int .i64 0, (Sl.t (⟨true, []⟩ : Sl ByteArray)), (Sl.t (⟨true, []⟩ : Sl DFile)), (Sl.t (⟨true, []⟩ : Sl ByteArray))], .box b1 [.int .i64 a0.Heap.Next, (Sl.t (a0.Heap.Objects : Sl DObject)), (Sl.t (a0.Scope.Vars : Sl DBinding)), (Sl.t (a0.Scope.Functions : Sl DFunction)), (Sl.t (a0.Scope.Types : Sl DRecordType)), (Sl.t (a0.Console.Input : Sl ByteArray)), .int .i64 a0.Console.At, (Sl.t (a0.Console.Output : Sl ByteArray)), (Sl.t (a0.Console.Files : Sl DFile)), (Sl.t (a0.Console.Trace : Sl ByteArray))]] := hH.sel [3, 0, 1, 2, 4, 5, 6] rfl (by kernel_rfl)
  refine q_store (v := .agg [t2, t3, t4]) (cs := [t2, t3, t4]) (cells' := [.int .i64 y1.Next, t1, t2, t3, t4, (Sl.t (⟨true, []⟩ : Sl ByteArray)), .int .i64 0, (Sl.t (⟨true, []⟩ : Sl ByteArray)), (Sl.t (⟨true, []⟩ : Sl DFile)), (Sl.t (⟨true, []⟩ : Sl ByteArray))]) rfl hS hH rfl rfl rfl (by simp [ht2.1, ht2.2, ht3.1, ht3.2, ht4.1, ht4.2]) (by kernel_rfl) ?_; intro σ s hH hS
  refine x_nil ?_
  refine sq_n ?_
  refine c_seq ?_
  refine c_region ?_
  refine q_seg 1 [(2, .ptr b2 0 0 10), (3, .ptr b3 0 0 10), (12, .ptr b1 0 5 5)] hS (by kernel_rfl) ?_; intro s hS
  refine q_load (v := .agg (DConsole.cells a0.Console)) 6 trivial rfl hS hH rfl rfl (by kernel_rfl) ?_; intro s hS
  obtain ⟨y3, hy3, h⟩ := bind_some h
  refine q_callO (ents := []) (z := false) (ts := [.agg (DConsole.cells a0.Console)]) (vs := [.agg (DConsole.cells a0.Console)]) rfl rfl hS rfl rfl rfl hH (HL.agg (es1 := []) (es2 := []) (HL.leaf (fun σ d => hold_pure σ d _) (HL.leaf (fun σ d => hold_int _ σ d _ _) (HL.leaf (fun σ d => hold_pure σ d _) (HL.leaf (fun σ d => hold_pure σ d _) (HL.leaf (fun σ d => hold_pure σ d _) HL.nil))))) HL.nil) hy3 ?_; intro hs σ s hl hH hS
  obtain ⟨t5, t6, t7, t8, rfl⟩ := len4 hl
  have hH : Heap σ0 σ [.own true 1 t5 (Sl.t (y3.Input : Sl ByteArray)), .own true 1 t6 (Sl.t (y3.Output : Sl ByteArray)), .own true 4 t7 (Sl.t (y3.Files : Sl DFile)), .own true 1 t8 (Sl.t (y3.Trace : Sl ByteArray)), .box b3 [.int .i64 y1.Next, t1, t2, t3, t4, (Sl.t (⟨true, []⟩ : Sl ByteArray)), .int .i64 0, (Sl.t (⟨true, []⟩ : Sl ByteArray)), (Sl.t (⟨true, []⟩ : Sl DFile)), (Sl.t (⟨true, []⟩ : Sl ByteArray))], .own true 5 t2 (Sl.t (y2.Vars : Sl DBinding)), .own true 4 t3 (Sl.t (y2.Functions : Sl DFunction)), .own true 2 t4 (Sl.t (y2.Types : Sl DRecordType)), .own true 10 t1 (Sl.t (y1.Objects : Sl DObject)), .box b2 [.int .i64 0, (Sl.t (⟨true, []⟩ : Sl DObject)), (Sl.t (⟨true, []⟩ : Sl DBinding)), (Sl.t (⟨true, []⟩ : Sl DFunction)), (Sl.t (⟨true, []⟩ : Sl DRecordType)), (Sl.t (⟨true, []⟩ : Sl ByteArray)), .int .i64 0, (Sl.t (⟨true, []⟩ : Sl ByteArray)), (Sl.t (⟨true, []⟩ : Sl DFile)), (Sl.t (⟨true, []⟩ : Sl ByteArray))], .box b1 [.int .i64 a0.Heap.Next, (Sl.t (a0.Heap.Objects : Sl DObject)), (Sl.t (a0.Scope.Vars : Sl DBinding)), (Sl.t (a0.Scope.Functions : Sl DFunction)), (Sl.t (a0.Scope.Types : Sl DRecordType)), (Sl.t (a0.Console.Input : Sl ByteArray)), .int .i64 a0.Console.At, (Sl.t (a0.Console.Output : Sl ByteArray)), (Sl.t (a0.Console.Files : Sl DFile)), (Sl.t (a0.Console.Trace : Sl ByteArray))]] := hH
  have ht5 : IsOne t5 := Heap.one hH
  have ht6 : IsOne t6 := Heap.one (hH.at 1 rfl)
  have ht7 : IsOne t7 := Heap.one (hH.at 2 rfl)
  have ht8 : IsOne t8 := Heap.one (hH.at 3 rfl)
  refine q_seg 1 [(2, .ptr b2 0 0 10), (3, .ptr b3 0 0 10), (14, .agg [t5, .int .i64 y3.At, t6, t7, t8]), (15, .ptr b3 0 5 5)] hS (by kernel_rfl) ?_; intro s hS
  have hH : Heap σ0 σ [.box b3 [.int .i64 y1.Next, t1, t2, t3, t4, (Sl.t (⟨true, []⟩ : Sl ByteArray)), .int .i64 0, (Sl.t (⟨true, []⟩ : Sl ByteArray)), (Sl.t (⟨true, []⟩ : Sl DFile)), (Sl.t (⟨true, []⟩ : Sl ByteArray))], .own true 1 t5 (Sl.t (y3.Input : Sl ByteArray)), .own true 1 t6 (Sl.t (y3.Output : Sl ByteArray)), .own true 4 t7 (Sl.t (y3.Files : Sl DFile)), .own true 1 t8 (Sl.t (y3.Trace : Sl ByteArray)), .own true 5 t2 (Sl.t (y2.Vars : Sl DBinding)), .own true 4 t3 (Sl.t (y2.Functions : Sl DFunction)), .own true 2 t4 (Sl.t (y2.Types : Sl DRecordType)), .own true 10 t1 (Sl.t (y1.Objects : Sl DObject)), .box b2 [.int .i64 0, (Sl.t (⟨true, []⟩ : Sl DObject)), (Sl.t (⟨true, []⟩ : Sl DBinding)), (Sl.t (⟨true, []⟩ : Sl DFunction)), (Sl.t (⟨true, []⟩ : Sl DRecordType)), (Sl.t (⟨true, []⟩ : Sl ByteArray)), .int .i64 0, (Sl.t (⟨true, []⟩ : Sl ByteArray)), (Sl.t (⟨true, []⟩ : Sl DFile)), (Sl.t (⟨true, []⟩ : Sl ByteArray))], .box b1 [.int .i64 a0.Heap.Next, (Sl.t (a0.Heap.Objects : Sl DObject)), (Sl.t (a0.Scope.Vars : Sl DBinding)), (Sl.t (a0.Scope.Functions : Sl DFunction)), (Sl.t (a0.Scope.Types : Sl DRecordType)), (Sl.t (a0.Console.Input : Sl ByteArray)), .int .i64 a0.Console.At, (Sl.t (a0.Console.Output : Sl ByteArray)), (Sl.t (a0.Console.Files : Sl DFile)), (Sl.t (a0.Console.Trace : Sl ByteArray))]] := hH.sel [4, 0, 1, 2, 3, 5, 6, 7, 8, 9, 10] rfl (by kernel_rfl)
  refine q_store (v := .agg [t5, .int .i64 y3.At, t6, t7, t8]) (cs := [t5, .int .i64 y3.At, t6, t7, t8]) (cells' := [.int .i64 y1.Next, t1, t2, t3, t4, t5, .int .i64 y3.At, t6, t7, t8]) rfl hS hH rfl rfl rfl (by simp [ht5.1, ht5.2, ht6.1, ht6.2, ht7.1, ht7.2, ht8.1, ht8.2]) (by kernel_rfl) ?_; intro σ s hH hS
  refine x_nil ?_
  refine sq_n ?_
  refine c_seq ?_
  refine c_region ?_
  refine q_load (v := .agg [.int .i64 y1.Next, t1, t2, t3, t4, t5, .int .i64 y3.At, t6, t7, t8]) 0 trivial rfl hS hH rfl rfl (by kernel_rfl) ?_; intro s hS
  have hH : Heap σ0 σ [.box b2 [.int .i64 0, (Sl.t (⟨true, []⟩ : Sl DObject)), (Sl.t (⟨true, []⟩ : Sl DBinding)), (Sl.t (⟨true, []⟩ : Sl DFunction)), (Sl.t (⟨true, []⟩ : Sl DRecordType)), (Sl.t (⟨true, []⟩ : Sl ByteArray)), .int .i64 0, (Sl.t (⟨true, []⟩ : Sl ByteArray)), (Sl.t (⟨true, []⟩ : Sl DFile)), (Sl.t (⟨true, []⟩ : Sl ByteArray))], .box b3 [.int .i64 y1.Next, t1, t2, t3, t4, t5, .int .i64 y3.At, t6, t7, t8], .own true 1 t5 (Sl.t (y3.Input : Sl ByteArray)), .own true 1 t6 (Sl.t (y3.Output : Sl ByteArray)), .own true 4 t7 (Sl.t (y3.Files : Sl DFile)), .own true 1 t8 (Sl.t (y3.Trace : Sl ByteArray)), .own true 5 t2 (Sl.t (y2.Vars : Sl DBinding)), .own true 4 t3 (Sl.t (y2.Functions : Sl DFunction)), .own true 2 t4 (Sl.t (y2.Types : Sl DRecordType)), .own true 10 t1 (Sl.t (y1.Objects : Sl DObject)), .box b1 [.int .i64 a0.Heap.Next, (Sl.t (a0.Heap.Objects : Sl DObject)), (Sl.t (a0.Scope.Vars : Sl DBinding)), (Sl.t (a0.Scope.Functions : Sl DFunction)), (Sl.t (a0.Scope.Types : Sl DRecordType)), (Sl.t (a0.Console.Input : Sl ByteArray)), .int .i64 a0.Console.At, (Sl.t (a0.Console.Output : Sl ByteArray)), (Sl.t (a0.Console.Files : Sl DFile)), (Sl.t (a0.Console.Trace : Sl ByteArray))]] := hH.sel [9, 0, 1, 2, 3, 4, 5, 6, 7, 8, 10] rfl (by kernel_rfl)
  refine q_store (v := .agg [.int .i64 y1.Next, t1, t2, t3, t4, t5, .int .i64 y3.At, t6, t7, t8]) (cs := [.int .i64 y1.Next, t1, t2, t3, t4, t5, .int .i64 y3.At, t6, t7, t8]) (cells' := [.int .i64 y1.Next, t1, t2, t3, t4, t5, .int .i64 y3.At, t6, t7, t8]) rfl hS hH rfl rfl rfl (by simp [ht1.1, ht1.2, ht2.1, ht2.2, ht3.1, ht3.2, ht4.1, ht4.2, ht5.1, ht5.2, ht6.1, ht6.2, ht7.1, ht7.2, ht8.1, ht8.2]) (by kernel_rfl) ?_; intro σ s hH hS
  refine x_nil ?_
  refine sq_n ?_
  refine c_ret ?_
  injection h with h; subst h
  have hH : Heap σ0 σ [.own true 10 t1 (Sl.t (y1.Objects : Sl DObject)), .own true 5 t2 (Sl.t (y2.Vars : Sl DBinding)), .own true 4 t3 (Sl.t (y2.Functions : Sl DFunction)), .own true 2 t4 (Sl.t (y2.Types : Sl DRecordType)), .own true 1 t5 (Sl.t (y3.Input : Sl ByteArray)), .own true 1 t6 (Sl.t (y3.Output : Sl ByteArray)), .own true 4 t7 (Sl.t (y3.Files : Sl DFile)), .own true 1 t8 (Sl.t (y3.Trace : Sl ByteArray)), .box b2 [.int .i64 y1.Next, t1, t2, t3, t4, t5, .int .i64 y3.At, t6, t7, t8], .box b3 [.int .i64 y1.Next, t1, t2, t3, t4, t5, .int .i64 y3.At, t6, t7, t8], .box b1 [.int .i64 a0.Heap.Next, (Sl.t (a0.Heap.Objects : Sl DObject)), (Sl.t (a0.Scope.Vars : Sl DBinding)), (Sl.t (a0.Scope.Functions : Sl DFunction)), (Sl.t (a0.Scope.Types : Sl DRecordType)), (Sl.t (a0.Console.Input : Sl ByteArray)), .int .i64 a0.Console.At, (Sl.t (a0.Console.Output : Sl ByteArray)), (Sl.t (a0.Console.Files : Sl DFile)), (Sl.t (a0.Console.Trace : Sl ByteArray))]] := hH.sel [9, 6, 7, 8, 2, 3, 4, 5, 0, 1, 10] rfl (by kernel_rfl)
  exact end_Ow [t1, t2, t3, t4, t5, t6, t7, t8] [.box b2 [.int .i64 y1.Next, t1, t2, t3, t4, t5, .int .i64 y3.At, t6, t7, t8], .box b3 [.int .i64 y1.Next, t1, t2, t3, t4, t5, .int .i64 y3.At, t6, t7, t8], .box b1 [.int .i64 a0.Heap.Next, (Sl.t (a0.Heap.Objects : Sl DObject)), (Sl.t (a0.Scope.Vars : Sl DBinding)), (Sl.t (a0.Scope.Functions : Sl DFunction)), (Sl.t (a0.Scope.Types : Sl DRecordType)), (Sl.t (a0.Console.Input : Sl ByteArray)), .int .i64 a0.Console.At, (Sl.t (a0.Console.Output : Sl ByteArray)), (Sl.t (a0.Console.Files : Sl DFile)), (Sl.t (a0.Console.Trace : Sl ByteArray))]] (r_cell (v := .agg [.int .i64 y1.Next, t1, t2, t3, t4, t5, .int .i64 y3.At, t6, t7, t8]) hS (hH.at 8 rfl) rfl (by kernel_rfl) r_nil) (by kernel_rfl) rfl hH (by kernel_rfl)
end Go.Am
end
section
set_option maxRecDepth 100000
set_option maxHeartbeats 1000000
set_option linter.unusedVariables false
set_option linter.unusedSimpArgs false
namespace Go.Am
open Go.Proofs
noncomputable def B_slices_Equal_string (a0 : (Sl ByteArray)) (a1 : (Sl ByteArray)) : Option Bool := (if ((!decide ((a0.l.length : Int) = (a1.l.length : Int)))) = true then (some false) else ((loopO (S := Int) (R := (Unit ⊕ Bool)) (fun st1 => (if (decide (st1 < (a0.l.length : Int))) = true then ((elt a0 st1).bind fun y2 => ((elt a1 st1).bind fun y3 => (if (!decide (y2 = y3)) = true then (some (.inr (.inr false))) else (some (.inl (IntKind.i64.wrap (st1 + 1))))))) else (some (.inr (.inl ()))))) 0).bind fun y1 => (Sum.elim (fun y1 => (some true)) (fun y1 => (some y1)) y1)))
theorem u_slices_Equal_string (a0 : (Sl ByteArray)) (a1 : (Sl ByteArray)) (r : Bool) (h : B_slices_Equal_string a0 a1 = some r) : F_slices_Equal_string a0 a1 = some r := by
  unfold B_slices_Equal_string at h
  refine semW_of E_bool_inj rfl rfl ok_26 rfl (all_cons (by kernel_rfl) (all_cons (by kernel_rfl) all_nil)) ?_
  intro σ0 s hS hH
  have hS := sub_to (L' := [(0, (Sl.t (a0 : Sl ByteArray))), (1, (Sl.t (a1 : Sl ByteArray)))]) hS (by kernel_rfl)
  refine c_seq ?_
  refine c_region ?_
  refine q_seg 1 [(0, (Sl.t (a0 : Sl ByteArray))), (1, (Sl.t (a1 : Sl ByteArray)))] hS (by kernel_rfl) ?_; intro s hS
  refine x_nil ?_
  refine sq_n ?_
  refine c_seq ?_
  refine c_seq ?_
  refine c_region ?_
  refine q_seg 5 [(0, (Sl.t (a0 : Sl ByteArray))), (1, (Sl.t (a1 : Sl ByteArray))), (10, .bool ((!decide ((a0.l.length : Int) = (a1.l.length : Int)))))] hS (by kernel_rfl) ?_; intro s hS
  refine x_nil ?_
  refine sq_n ?_
  by_cases hc1 : ((!decide ((a0.l.length : Int) = (a1.l.length : Int)))) = true
  · have h := it_pos hc1 h
    refine c_cond hS rfl (fun _ => ?_) (fun hf => ff_absurd hc1 hf)
    refine c_seq ?_
    refine c_region ?_
    refine q_seg 1 [(4, .bool false)] hS (by kernel_rfl) ?_; intro s hS
    refine x_nil ?_
    refine sq_n ?_
    refine c_ret ?_
    refine sq_r ?_
    injection h with h; subst h
    exact end_W hH (r_tmp (v := .bool false) hS rfl r_nil) rfl (by kernel_rfl) (by simp [pureT, pureL, E_bool])
  · have h := it_neg hc1 h
    refine c_cond hS rfl (fun hf => tt_absurd hc1 hf) (fun _ => ?_)
    refine c_skip ?_
    refine sq_n ?_
    refine c_seq ?_
    refine c_seq ?_
    refine c_region ?_
    refine q_seg 3 [(0, (Sl.t (a0 : Sl ByteArray))), (1, (Sl.t (a1 : Sl ByteArray))), (12, .int .i64 (a0.l.length : Int)), (13, .int .i64 0)] hS (by kernel_rfl) ?_; intro s hS
    refine x_nil ?_
    refine sq_n ?_
    refine c_block ?_
    obtain ⟨y1, hy1, h⟩ := bind_some h
    refine c_loop (fun (st1 : Int) (fr : Fr) => Sub [(0, (Sl.t (a0 : Sl ByteArray))), (1, (Sl.t (a1 : Sl ByteArray))), (12, .int .i64 (a0.l.length : Int)), (13, .int .i64 st1)] fr.s ∧ Heap σ0 fr.σ []) (fun (y1 : (Unit ⊕ Bool)) (e : AExit) (fr : Fr) => (Sum.elim (fun y => e = (.exit 0) ∧ Sub [] fr.s ∧ Heap σ0 fr.σ []) (fun y => e = .ret ∧ endW Try.prog (Try.f26.results.toList) σ0 (E_bool y) .ret fr)) y1) hy1 (And.intro (sub_to hS (by kernel_rfl)) hH) ?_ ?_
    · clear h hy1 hS hH; clear y1; intro st1 x fr h HI; obtain ⟨s, σ⟩ := fr; obtain ⟨hS, hH⟩ := HI
      refine c_seq ?_
      refine c_region ?_
      refine q_seg 1 [(0, (Sl.t (a0 : Sl ByteArray))), (1, (Sl.t (a1 : Sl ByteArray))), (12, .int .i64 (a0.l.length : Int)), (13, .int .i64 st1), (14, .bool (decide (st1 < (a0.l.length : Int))))] hS (by kernel_rfl) ?_; intro s hS
      refine x_nil ?_
      refine sq_n ?_
      refine c_seq ?_
      by_cases hc2 : (decide (st1 < (a0.l.length : Int))) = true
      · have h := it_pos hc2 h
        refine c_cond hS rfl (fun _ => ?_) (fun hf => ff_absurd hc2 hf)
        refine c_skip ?_
        refine sq_n ?_
        refine c_seq ?_
        refine c_block ?_
        refine c_seq ?_
        refine c_region ?_
        refine q_seg 2 [(0, (Sl.t (a0 : Sl ByteArray))), (1, (Sl.t (a1 : Sl ByteArray))), (5, .int .i64 st1), (12, .int .i64 (a0.l.length : Int)), (13, .int .i64 st1)] hS (by kernel_rfl) ?_; intro s hS
        refine x_nil ?_
        refine sq_n ?_
        refine c_seq ?_
        refine c_draw (by kernel_rfl) hH ?_; intro mb σ hH
        refine q_seg 2 [(0, (Sl.t (a0 : Sl ByteArray))), (1, (Sl.t (a1 : Sl ByteArray))), (5, .int .i64 st1), (12, .int .i64 (a0.l.length : Int)), (13, .int .i64 st1), (16, (Sl.t (a0 : Sl ByteArray))), (17, .int .i64 st1)] hS (by kernel_rfl) ?_; intro s hS
        obtain ⟨y2, hy2, h⟩ := bind_some h
        refine q_elt (sl := a0) (e := 9) [.str y2] rfl hS rfl rfl (by kernel_rfl) (by kernel_rfl) hy2 rfl ?_; intro rest1 s hS
        refine q_seg 3 [(0, (Sl.t (a0 : Sl ByteArray))), (1, (Sl.t (a1 : Sl ByteArray))), (12, .int .i64 (a0.l.length : Int)), (13, .int .i64 st1), (19, .str y2), (20, (Sl.t (a1 : Sl ByteArray))), (21, .int .i64 st1)] hS (by kernel_rfl) ?_; intro s hS
        obtain ⟨y3, hy3, h⟩ := bind_some h
        refine q_elt (sl := a1) (e := 9) [.str y3] rfl hS rfl rfl (by kernel_rfl) (by kernel_rfl) hy3 rfl ?_; intro rest2 s hS
        refine q_seg 2 [(0, (Sl.t (a0 : Sl ByteArray))), (1, (Sl.t (a1 : Sl ByteArray))), (12, .int .i64 (a0.l.length : Int)), (13, .int .i64 st1), (24, .bool (!decide (y2 = y3)))] hS (by kernel_rfl) ?_; intro s hS
        refine x_nil ?_
        refine sq_n ?_
        by_cases hc3 : (!decide (y2 = y3)) = true
        · have h := it_pos hc3 h
          refine c_cond hS rfl (fun _ => ?_) (fun hf => ff_absurd hc3 hf)
          refine c_seq ?_
          refine c_region ?_
          refine q_seg 1 [(4, .bool false)] hS (by kernel_rfl) ?_; intro s hS
          refine x_nil ?_
          refine sq_n ?_
          refine c_ret ?_
          refine bk_r ?_
          refine sq_r ?_
          injection h with h; subst h
          exact And.intro rfl (end_W hH (r_tmp (v := .bool false) hS rfl r_nil) rfl (by kernel_rfl) (by simp [pureT, pureL, E_bool]))
        · have h := it_neg hc3 h
          refine c_cond hS rfl (fun hf => tt_absurd hc3 hf) (fun _ => ?_)
          refine c_skip ?_
          refine bk_n ?_
          refine sq_n ?_
          refine c_region ?_
          refine q_seg 2 [(0, (Sl.t (a0 : Sl ByteArray))), (1, (Sl.t (a1 : Sl ByteArray))), (12, .int .i64 (a0.l.length : Int)), (13, .int .i64 (IntKind.i64.wrap (st1 + 1)))] hS (by kernel_rfl) ?_; intro s hS
          refine x_nil ?_
          injection h with h; subst h
          exact And.intro (sub_to hS (by kernel_rfl)) hH
      · have h := it_neg hc2 h
        refine c_cond hS rfl (fun hf => tt_absurd hc2 hf) (fun _ => ?_)
        refine c_exit ?_
        refine sq_x ?_
        injection h with h; subst h
        exact And.intro rfl (And.intro (sub_to hS (by kernel_rfl)) hH)
    · clear hS hH; intro e fr HF; obtain ⟨s, σ⟩ := fr
      rcases y1 with y1 | y1
      · obtain ⟨rfl, hS, hH⟩ := HF
        refine bk_e ?_
        refine sq_n ?_
        refine c_seq ?_
        refine c_region ?_
        refine q_seg 1 [(4, .bool true)] hS (by kernel_rfl) ?_; intro s hS
        refine x_nil ?_
        refine sq_n ?_
        refine c_ret ?_
        injection h with h; subst h
        exact end_W hH (r_tmp (v := .bool true) hS rfl r_nil) rfl (by kernel_rfl) (by simp [pureT, pureL, E_bool])
      · obtain ⟨rfl, HE⟩ := HF
        refine bk_r ?_
        refine sq_r ?_
        injection h with h; subst h; exact HE
end Go.Am
end
section
set_option maxRecDepth 100000
set_option maxHeartbeats 1000000
set_option linter.unusedVariables false
set_option linter.unusedSimpArgs false
namespace Go.Am
open Go.Proofs
noncomputable def B_impl_SameMemory (a0 : DMemory) (a1 : DMemory) : Option Bool := ((F_impl_SameHeap a0.Heap a1.Heap).bind fun y1 => (if y1 = true then ((F_impl_SameScope a0.Scope a1.Scope).bind fun y2 => (if y2 = true then ((F_impl_SameConsole a0.Console a1.Console).bind fun y3 => (some y3)) else (some false))) else (some false)))
theorem u_impl_SameMemory (a0 : DMemory) (a1 : DMemory) (r : Bool) (h : B_impl_SameMemory a0 a1 = some r) : F_impl_SameMemory a0 a1 = some r := by
  unfold B_impl_SameMemory at h
  refine semW_of E_bool_inj rfl rfl ok_27 rfl (all_cons (by kernel_rfl) (all_cons (by kernel_rfl) all_nil)) ?_
  intro σ0 s hS hH
  have hS := sub_to (L' := [(0, .agg (DMemory.cells a0)), (1, .agg (DMemory.cells a1))]) hS (by kernel_rfl)
  refine c_seq ?_
  refine c_region ?_
  refine q_box (v := .agg (DMemory.cells a0)) (cs := [.int .i64 a0.Heap.Next, (Sl.t (a0.Heap.Objects : Sl DObject)), (Sl.t (a0.Scope.Vars : Sl DBinding)), (Sl.t (a0.Scope.Functions : Sl DFunction)), (Sl.t (a0.Scope.Types : Sl DRecordType)), (Sl.t (a0.Console.Input : Sl ByteArray)), .int .i64 a0.Console.At, (Sl.t (a0.Console.Output : Sl ByteArray)), (Sl.t (a0.Console.Files : Sl DFile)), (Sl.t (a0.Console.Trace : Sl ByteArray))]) rfl hS hH rfl rfl (by kernel_rfl) ?_; intro b1 σ s hH hS
  refine q_box (v := .agg (DMemory.cells a1)) (cs := [.int .i64 a1.Heap.Next, (Sl.t (a1.Heap.Objects : Sl DObject)), (Sl.t (a1.Scope.Vars : Sl DBinding)), (Sl.t (a1.Scope.Functions : Sl DFunction)), (Sl.t (a1.Scope.Types : Sl DRecordType)), (Sl.t (a1.Console.Input : Sl ByteArray)), .int .i64 a1.Console.At, (Sl.t (a1.Console.Output : Sl ByteArray)), (Sl.t (a1.Console.Files : Sl DFile)), (Sl.t (a1.Console.Trace : Sl ByteArray))]) rfl hS hH rfl rfl (by kernel_rfl) ?_; intro b2 σ s hH hS
  refine q_seg 1 [(2, .ptr b1 0 0 10), (3, .ptr b2 0 0 10)] hS (by kernel_rfl) ?_; intro s hS
  refine x_nil ?_
  refine sq_n ?_
  refine c_seq ?_
  refine c_region ?_
  refine q_seg 1 [(2, .ptr b1 0 0 10), (3, .ptr b2 0 0 10), (5, .ptr b1 0 0 2)] hS (by kernel_rfl) ?_; intro s hS
  refine q_load (v := .agg (DHeap.cells a0.Heap)) 1 trivial rfl hS hH rfl rfl (by kernel_rfl) ?_; intro s hS
  refine q_seg 1 [(2, .ptr b1 0 0 10), (3, .ptr b2 0 0 10), (6, .agg (DHeap.cells a0.Heap)), (7, .ptr b2 0 0 2)] hS (by kernel_rfl) ?_; intro s hS
  refine q_load (v := .agg (DHeap.cells a1.Heap)) 0 trivial rfl hS hH rfl rfl (by kernel_rfl) ?_; intro s hS
  obtain ⟨y1, hy1, h⟩ := bind_some h
  refine q_callF (a := []) (b := []) (xs := [.agg (DHeap.cells a0.Heap), .agg (DHeap.cells a1.Heap)]) rfl hS rfl rfl hy1 ?_; intro s hS
  refine q_seg 1 [(10, .bool y1), (2, .ptr b1 0 0 10), (3, .ptr b2 0 0 10)] hS (by kernel_rfl) ?_; intro s hS
  by_cases hc1 : y1 = true
  · have h := it_pos hc1 h
    have hS := sub_bt hS hc1
    refine q_seg 1 [(2, .ptr b1 0 0 10), (3, .ptr b2 0 0 10), (10, .bool true), (11, .ptr b1 0 2 3)] hS (by kernel_rfl) ?_; intro s hS
    refine q_load (v := .agg (DScope.cells a0.Scope)) 1 trivial rfl hS hH rfl rfl (by kernel_rfl) ?_; intro s hS
    refine q_seg 1 [(2, .ptr b1 0 0 10), (3, .ptr b2 0 0 10), (10, .bool true), (12, .agg (DScope.cells a0.Scope)), (13, .ptr b2 0 2 3)] hS (by kernel_rfl) ?_; intro s hS
    refine q_load (v := .agg (DScope.cells a1.Scope)) 0 trivial rfl hS hH rfl rfl (by kernel_rfl) ?_; intro s hS
    obtain ⟨y2, hy2, h⟩ := bind_some h
    refine q_callF (a := []) (b := []) (xs := [.agg (DScope.cells a0.Scope), .agg (DScope.cells a1.Scope)]) rfl hS rfl rfl hy2 ?_; intro s hS
    refine q_seg 2 [(17, .bool y2), (2, .ptr b1 0 0 10), (3, .ptr b2 0 0 10)] hS (by kernel_rfl) ?_; intro s hS
    by_cases hc2 : y2 = true
    · have h := it_pos hc2 h
      have hS := sub_bt hS hc2
      refine q_seg 1 [(3, .ptr b2 0 0 10), (17, .bool true), (18, .ptr b1 0 5 5)] hS (by kernel_rfl) ?_; intro s hS
      refine q_load (v := .agg (DConsole.cells a0.Console)) 1 trivial rfl hS hH rfl rfl (by kernel_rfl) ?_; intro s hS
      refine q_seg 1 [(17, .bool true), (19, .agg (DConsole.cells a0.Console)), (20, .ptr b2 0 5 5)] hS (by kernel_rfl) ?_; intro s hS
      refine q_load (v := .agg (DConsole.cells a1.Console)) 0 trivial rfl hS hH rfl rfl (by kernel_rfl) ?_; intro s hS
      obtain ⟨y3, hy3, h⟩ := bind_some h
      refine q_callF (a := []) (b := []) (xs := [.agg (DConsole.cells a0.Console), .agg (DConsole.cells a1.Console)]) rfl hS rfl rfl hy3 ?_; intro s hS
      refine q_seg 2 [(4, .bool y3)] hS (by kernel_rfl) ?_; intro s hS
      refine x_nil ?_
      refine sq_n ?_
      refine c_ret ?_
      injection h with h; subst h
      exact end_W hH (r_tmp (v := .bool y3) hS rfl r_nil) rfl (by kernel_rfl) (by simp [pureT, pureL, E_bool])
    · have h := it_neg hc2 h
      have hS := sub_bt hS (tt_of hc2)
      refine q_seg 7 [(4, .bool false)] hS (by kernel_rfl) ?_; intro s hS
      refine x_nil ?_
      refine sq_n ?_
      refine c_ret ?_
      injection h with h; subst h
      exact end_W hH (r_tmp (v := .bool false) hS rfl r_nil) rfl (by kernel_rfl) (by simp [pureT, pureL, E_bool])
  · have h := it_neg hc1 h
    have hS := sub_bt hS (tt_of hc1)
    refine q_seg 14 [(4, .bool false)] hS (by kernel_rfl) ?_; intro s hS
    refine x_nil ?_
    refine sq_n ?_
    refine c_ret ?_
    injection h with h; subst h
    exact end_W hH (r_tmp (v := .bool false) hS rfl r_nil) rfl (by kernel_rfl) (by simp [pureT, pureL, E_bool])
end Go.Am
end
section
set_option maxRecDepth 100000
set_option maxHeartbeats 1000000
set_option linter.unusedVariables false
set_option linter.unusedSimpArgs false
namespace Go.Am
open Go.Proofs
noncomputable def B_laws_eqHeap (a0 : DHeap) (a1 : DHeap) : Option Bool := (if (!decide (a0.Next = a1.Next)) = true then (some false) else ((F_laws_eqObjectS a0.Objects a1.Objects).bind fun y1 => (if (!y1) = true then (some false) else (some true))))
theorem u_laws_eqHeap (a0 : DHeap) (a1 : DHeap) (r : Bool) (h : B_laws_eqHeap a0 a1 = some r) : F_laws_eqHeap a0 a1 = some r := by
  unfold B_laws_eqHeap at h
  refine semW_of E_bool_inj rfl rfl ok_28 rfl (all_cons (by kernel_rfl) (all_cons (by kernel_rfl) all_nil)) ?_
  intro σ0 s hS hH
  have hS := sub_to (L' := [(0, .agg (DHeap.cells a0)), (1, .agg (DHeap.cells a1))]) hS (by kernel_rfl)
  refine c_seq ?_
  refine c_region ?_
  refine q_box (v := .agg (DHeap.cells a0)) (cs := [.int .i64 a0.Next, (Sl.t (a0.Objects : Sl DObject))]) rfl hS hH rfl rfl (by kernel_rfl) ?_; intro b1 σ s hH hS
  refine q_box (v := .agg (DHeap.cells a1)) (cs := [.int .i64 a1.Next, (Sl.t (a1.Objects : Sl DObject))]) rfl hS hH rfl rfl (by kernel_rfl) ?_; intro b2 σ s hH hS
  refine q_seg 1 [(2, .ptr b1 0 0 2), (3, .ptr b2 0 0 2)] hS (by kernel_rfl) ?_; intro s hS
  refine x_nil ?_
  refine sq_n ?_
  refine c_seq ?_
  refine c_seq ?_
  refine c_region ?_
  refine q_seg 1 [(2, .ptr b1 0 0 2), (3, .ptr b2 0 0 2), (5, .ptr b1 0 0 1)] hS (by kernel_rfl) ?_; intro s hS
  refine q_load (v := .int .i64 a0.Next) 1 trivial rfl hS hH rfl rfl (by kernel_rfl) ?_; intro s hS
  refine q_seg 1 [(2, .ptr b1 0 0 2), (3, .ptr b2 0 0 2), (6, .int .i64 a0.Next), (7, .ptr b2 0 0 1)] hS (by kernel_rfl) ?_; intro s hS
  refine q_load (v := .int .i64 a1.Next) 0 trivial rfl hS hH rfl rfl (by kernel_rfl) ?_; intro s hS
  refine q_seg 1 [(2, .ptr b1 0 0 2), (3, .ptr b2 0 0 2), (9, .bool (!decide (a0.Next = a1.Next)))] hS (by kernel_rfl) ?_; intro s hS
  refine x_nil ?_
  refine sq_n ?_
  by_cases hc1 : (!decide (a0.Next = a1.Next)) = true
  · have h := it_pos hc1 h
    refine c_cond hS rfl (fun _ => ?_) (fun hf => ff_absurd hc1 hf)
    refine c_seq ?_
    refine c_region ?_
    refine q_seg 1 [(4, .bool false)] hS (by kernel_rfl) ?_; intro s hS
    refine x_nil ?_
    refine sq_n ?_
    refine c_ret ?_
    refine sq_r ?_
    injection h with h; subst h
    exact end_W hH (r_tmp (v := .bool false) hS rfl r_nil) rfl (by kernel_rfl) (by simp [pureT, pureL, E_bool])
  · have h := it_neg hc1 h
    refine c_cond hS rfl (fun hf => tt_absurd hc1 hf) (fun _ => ?_)
    refine c_skip ?_
    refine sq_n ?_
    refine c_seq ?_
    refine c_seq ?_
    refine c_region ?_
    refine q_seg 1 [(3, .ptr b2 0 0 2), (10, .ptr b1 0 1 1)] hS (by kernel_rfl) ?_; intro s hS
    refine q_load (v := (Sl.t (a0.Objects : Sl DObject))) 1 trivial rfl hS hH rfl rfl (by kernel_rfl) ?_; intro s hS
    refine q_seg 1 [(11, (Sl.t (a0.Objects : Sl DObject))), (12, .ptr b2 0 1 1)] hS (by kernel_rfl) ?_; intro s hS
    refine q_load (v := (Sl.t (a1.Objects : Sl DObject))) 0 trivial rfl hS hH rfl rfl (by kernel_rfl) ?_; intro s hS
    obtain ⟨y1, hy1, h⟩ := bind_some h
    refine q_callF (a := []) (b := []) (xs := [(Sl.t (a0.Objects : Sl DObject)), (Sl.t (a1.Objects : Sl DObject))]) rfl hS rfl rfl hy1 ?_; intro s hS
    refine q_seg 1 [(15, .bool (!y1))] hS (by kernel_rfl) ?_; intro s hS
    refine x_nil ?_
    refine sq_n ?_
    by_cases hc2 : (!y1) = true
    · have h := it_pos hc2 h
      refine c_cond hS rfl (fun _ => ?_) (fun hf => ff_absurd hc2 hf)
      refine c_seq ?_
      refine c_region ?_
      refine q_seg 1 [(4, .bool false)] hS (by kernel_rfl) ?_; intro s hS
      refine x_nil ?_
      refine sq_n ?_
      refine c_ret ?_
      refine sq_r ?_
      injection h with h; subst h
      exact end_W hH (r_tmp (v := .bool false) hS rfl r_nil) rfl (by kernel_rfl) (by simp [pureT, pureL, E_bool])
    · have h := it_neg hc2 h
      refine c_cond hS rfl (fun hf => tt_absurd hc2 hf) (fun _ => ?_)
      refine c_skip ?_
      refine sq_n ?_
      refine c_seq ?_
      refine c_region ?_
      refine q_seg 1 [(4, .bool true)] hS (by kernel_rfl) ?_; intro s hS
      refine x_nil ?_
      refine sq_n ?_
      refine c_ret ?_
      injection h with h; subst h
      exact end_W hH (r_tmp (v := .bool true) hS rfl r_nil) rfl (by kernel_rfl) (by simp [pureT, pureL, E_bool])
end Go.Am
end
section
set_option maxRecDepth 100000
set_option maxHeartbeats 1000000
set_option linter.unusedVariables false
set_option linter.unusedSimpArgs false
namespace Go.Am
open Go.Proofs
noncomputable def B_laws_eqScope (a0 : DScope) (a1 : DScope) : Option Bool := ((F_laws_eqBindingS a0.Vars a1.Vars).bind fun y1 => (if (!y1) = true then (some false) else ((F_laws_eqFunctionS a0.Functions a1.Functions).bind fun y2 => (if (!y2) = true then (some false) else ((F_laws_eqRecordTypeS a0.Types a1.Types).bind fun y3 => (if (!y3) = true then (some false) else (some true)))))))
theorem u_laws_eqScope (a0 : DScope) (a1 : DScope) (r : Bool) (h : B_laws_eqScope a0 a1 = some r) : F_laws_eqScope a0 a1 = some r := by
  unfold B_laws_eqScope at h
  refine semW_of E_bool_inj rfl rfl ok_29 rfl (all_cons (by kernel_rfl) (all_cons (by kernel_rfl) all_nil)) ?_
  intro σ0 s hS hH
  have hS := sub_to (L' := [(0, .agg (DScope.cells a0)), (1, .agg (DScope.cells a1))]) hS (by kernel_rfl)
  refine c_seq ?_
  refine c_region ?_
  refine q_box (v := .agg (DScope.cells a0)) (cs := [(Sl.t (a0.Vars : Sl DBinding)), (Sl.t (a0.Functions : Sl DFunction)), (Sl.t (a0.Types : Sl DRecordType))]) rfl hS hH rfl rfl (by kernel_rfl) ?_; intro b1 σ s hH hS
  refine q_box (v := .agg (DScope.cells a1)) (cs := [(Sl.t (a1.Vars : Sl DBinding)), (Sl.t (a1.Functions : Sl DFunction)), (Sl.t (a1.Types : Sl DRecordType))]) rfl hS hH rfl rfl (by kernel_rfl) ?_; intro b2 σ s hH hS
  refine q_seg 1 [(2, .ptr b1 0 0 3), (3, .ptr b2 0 0 3)] hS (by kernel_rfl) ?_; intro s hS
  refine x_nil ?_
  refine sq_n ?_
  refine c_seq ?_
  refine c_seq ?_
  refine c_region ?_
  refine q_seg 1 [(2, .ptr b1 0 0 3), (3, .ptr b2 0 0 3), (5, .ptr b1 0 0 1)] hS (by kernel_rfl) ?_; intro s hS
  refine q_load (v := (Sl.t (a0.Vars : Sl DBinding))) 1 trivial rfl hS hH rfl rfl (by kernel_rfl) ?_; intro s hS
  refine q_seg 1 [(2, .ptr b1 0 0 3), (3, .ptr b2 0 0 3), (6, (Sl.t (a0.Vars : Sl DBinding))), (7, .ptr b2 0 0 1)] hS (by kernel_rfl) ?_; intro s hS
  refine q_load (v := (Sl.t (a1.Vars : Sl DBinding))) 0 trivial rfl hS hH rfl rfl (by kernel_rfl) ?_; intro s hS
  obtain ⟨y1, hy1, h⟩ := bind_some h
  refine q_callF (a := []) (b := []) (xs := [(Sl.t (a0.Vars : Sl DBinding)), (Sl.t (a1.Vars : Sl DBinding))]) rfl hS rfl rfl hy1 ?_; intro s hS
  refine q_seg 1 [(2, .ptr b1 0 0 3), (3, .ptr b2 0 0 3), (10, .bool (!y1))] hS (by kernel_rfl) ?_; intro s hS
  refine x_nil ?_
  refine sq_n ?_
  by_cases hc1 : (!y1) = true
  · have h := it_pos hc1 h
    refine c_cond hS rfl (fun _ => ?_) (fun hf => ff_absurd hc1 hf)
    refine c_seq ?_
    refine c_region ?_
    refine q_seg 1 [(4, .bool false)] hS (by kernel_rfl) ?_; intro s hS
    refine x_nil ?_
    refine sq_n ?_
    refine c_ret ?_
    refine sq_r ?_
    injection h with h; subst h
    exact end_W hH (r_tmp (v := .bool false) hS rfl r_nil) rfl (by kernel_rfl) (by simp [pureT, pureL, E_bool])
  · have h := it_neg hc1 h
    refine c_cond hS rfl (fun hf => tt_absurd hc1 hf) (fun _ => ?_)
    refine c_skip ?_
    refine sq_n ?_
    refine c_seq ?_
    refine c_seq ?_
    refine c_region ?_
    refine q_seg 1 [(2, .ptr b1 0 0 3), (3, .ptr b2 0 0 3), (11, .ptr b1 0 1 1)] hS (by kernel_rfl) ?_; intro s hS
    refine q_load (v := (Sl.t (a0.Functions : Sl DFunction))) 1 trivial rfl hS hH rfl rfl (by kernel_rfl) ?_; intro s hS
    refine q_seg 1 [(2, .ptr b1 0 0 3), (3, .ptr b2 0 0 3), (12, (Sl.t (a0.Functions : Sl DFunction))), (13, .ptr b2 0 1 1)] hS (by kernel_rfl) ?_; intro s hS
    refine q_load (v := (Sl.t (a1.Functions : Sl DFunction))) 0 trivial rfl hS hH rfl rfl (by kernel_rfl) ?_; intro s hS
    obtain ⟨y2, hy2, h⟩ := bind_some h
    refine q_callF (a := []) (b := []) (xs := [(Sl.t (a0.Functions : Sl DFunction)), (Sl.t (a1.Functions : Sl DFunction))]) rfl hS rfl rfl hy2 ?_; intro s hS
    refine q_seg 1 [(2, .ptr b1 0 0 3), (3, .ptr b2 0 0 3), (16, .bool (!y2))] hS (by kernel_rfl) ?_; intro s hS
    refine x_nil ?_
    refine sq_n ?_
    by_cases hc2 : (!y2) = true
    · have h := it_pos hc2 h
      refine c_cond hS rfl (fun _ => ?_) (fun hf => ff_absurd hc2 hf)
      refine c_seq ?_
      refine c_region ?_
      refine q_seg 1 [(4, .bool false)] hS (by kernel_rfl) ?_; intro s hS
      refine x_nil ?_
      refine sq_n ?_
      refine c_ret ?_
      refine sq_r ?_
      injection h with h; subst h
      exact end_W hH (r_tmp (v := .bool false) hS rfl r_nil) rfl (by kernel_rfl) (by simp [pureT, pureL, E_bool])
    · have h := it_neg hc2 h
      refine c_cond hS rfl (fun hf => tt_absurd hc2 hf) (fun _ => ?_)
      refine c_skip ?_
      refine sq_n ?_
      refine c_seq ?_
      refine c_seq ?_
      refine c_region ?_
      refine q_seg 1 [(3, .ptr b2 0 0 3), (17, .ptr b1 0 2 1)] hS (by kernel_rfl) ?_; intro s hS
      refine q_load (v := (Sl.t (a0.Types : Sl DRecordType))) 1 trivial rfl hS hH rfl rfl (by kernel_rfl) ?_; intro s hS
      refine q_seg 1 [(18, (Sl.t (a0.Types : Sl DRecordType))), (19, .ptr b2 0 2 1)] hS (by kernel_rfl) ?_; intro s hS
      refine q_load (v := (Sl.t (a1.Types : Sl DRecordType))) 0 trivial rfl hS hH rfl rfl (by kernel_rfl) ?_; intro s hS
      obtain ⟨y3, hy3, h⟩ := bind_some h
      refine q_callF (a := []) (b := []) (xs := [(Sl.t (a0.Types : Sl DRecordType)), (Sl.t (a1.Types : Sl DRecordType))]) rfl hS rfl rfl hy3 ?_; intro s hS
      refine q_seg 1 [(22, .bool (!y3))] hS (by kernel_rfl) ?_; intro s hS
      refine x_nil ?_
      refine sq_n ?_
      by_cases hc3 : (!y3) = true
      · have h := it_pos hc3 h
        refine c_cond hS rfl (fun _ => ?_) (fun hf => ff_absurd hc3 hf)
        refine c_seq ?_
        refine c_region ?_
        refine q_seg 1 [(4, .bool false)] hS (by kernel_rfl) ?_; intro s hS
        refine x_nil ?_
        refine sq_n ?_
        refine c_ret ?_
        refine sq_r ?_
        injection h with h; subst h
        exact end_W hH (r_tmp (v := .bool false) hS rfl r_nil) rfl (by kernel_rfl) (by simp [pureT, pureL, E_bool])
      · have h := it_neg hc3 h
        refine c_cond hS rfl (fun hf => tt_absurd hc3 hf) (fun _ => ?_)
        refine c_skip ?_
        refine sq_n ?_
        refine c_seq ?_
        refine c_region ?_
        refine q_seg 1 [(4, .bool true)] hS (by kernel_rfl) ?_; intro s hS
        refine x_nil ?_
        refine sq_n ?_
        refine c_ret ?_
        injection h with h; subst h
        exact end_W hH (r_tmp (v := .bool true) hS rfl r_nil) rfl (by kernel_rfl) (by simp [pureT, pureL, E_bool])
end Go.Am
end
section
set_option maxRecDepth 100000
set_option maxHeartbeats 1000000
set_option linter.unusedVariables false
set_option linter.unusedSimpArgs false
namespace Go.Am
open Go.Proofs
noncomputable def B_laws_eqConsole (a0 : DConsole) (a1 : DConsole) : Option Bool := ((F_laws_eqStringS a0.Input a1.Input).bind fun y1 => (if (!y1) = true then (some false) else (if (!decide (a0.At = a1.At)) = true then (some false) else ((F_laws_eqStringS a0.Output a1.Output).bind fun y2 => (if (!y2) = true then (some false) else ((F_laws_eqFileS a0.Files a1.Files).bind fun y3 => (if (!y3) = true then (some false) else ((F_laws_eqStringS a0.Trace a1.Trace).bind fun y4 => (if (!y4) = true then (some false) else (some true))))))))))
theorem u_laws_eqConsole (a0 : DConsole) (a1 : DConsole) (r : Bool) (h : B_laws_eqConsole a0 a1 = some r) : F_laws_eqConsole a0 a1 = some r := by
  unfold B_laws_eqConsole at h
  refine semW_of E_bool_inj rfl rfl ok_30 rfl (all_cons (by kernel_rfl) (all_cons (by kernel_rfl) all_nil)) ?_
  intro σ0 s hS hH
  have hS := sub_to (L' := [(0, .agg (DConsole.cells a0)), (1, .agg (DConsole.cells a1))]) hS (by kernel_rfl)
  refine c_seq ?_
  refine c_region ?_
  refine q_box (v := .agg (DConsole.cells a0)) (cs := [(Sl.t (a0.Input : Sl ByteArray)), .int .i64 a0.At, (Sl.t (a0.Output : Sl ByteArray)), (Sl.t (a0.Files : Sl DFile)), (Sl.t (a0.Trace : Sl ByteArray))]) rfl hS hH rfl rfl (by kernel_rfl) ?_; intro b1 σ s hH hS
  refine q_box (v := .agg (DConsole.cells a1)) (cs := [(Sl.t (a1.Input : Sl ByteArray)), .int .i64 a1.At, (Sl.t (a1.Output : Sl ByteArray)), (Sl.t (a1.Files : Sl DFile)), (Sl.t (a1.Trace : Sl ByteArray))]) rfl hS hH rfl rfl (by kernel_rfl) ?_; intro b2 σ s hH hS
  refine q_seg 1 [(2, .ptr b1 0 0 5), (3, .ptr b2 0 0 5)] hS (by kernel_rfl) ?_; intro s hS
  refine x_nil ?_
  refine sq_n ?_
  refine c_seq ?_
  refine c_seq ?_
  refine c_region ?_
  refine q_seg 1 [(2, .ptr b1 0 0 5), (3, .ptr b2 0 0 5), (5, .ptr b1 0 0 1)] hS (by kernel_rfl) ?_; intro s hS
  refine q_load (v := (Sl.t (a0.Input : Sl ByteArray))) 1 trivial rfl hS hH rfl rfl (by kernel_rfl) ?_; intro s hS
  refine q_seg 1 [(2, .ptr b1 0 0 5), (3, .ptr b2 0 0 5), (6, (Sl.t (a0.Input : Sl ByteArray))), (7, .ptr b2 0 0 1)] hS (by kernel_rfl) ?_; intro s hS
  refine q_load (v := (Sl.t (a1.Input : Sl ByteArray))) 0 trivial rfl hS hH rfl rfl (by kernel_rfl) ?_; intro s hS
  obtain ⟨y1, hy1, h⟩ := bind_some h
  refine q_callF (a := []) (b := []) (xs := [(Sl.t (a0.Input : Sl ByteArray)), (Sl.t (a1.Input : Sl ByteArray))]) rfl hS rfl rfl hy1 ?_; intro s hS
  refine q_seg 1 [(2, .ptr b1 0 0 5), (3, .ptr b2 0 0 5), (10, .bool (!y1))] hS (by kernel_rfl) ?_; intro s hS
  refine x_nil ?_
  refine sq_n ?_
  by_cases hc1 : (!y1) = true
  · have h := it_pos hc1 h
    refine c_cond hS rfl (fun _ => ?_) (fun hf => ff_absurd hc1 hf)
    refine c_seq ?_
    refine c_region ?_
    refine q_seg 1 [(4, .bool false)] hS (by kernel_rfl) ?_; intro s hS
    refine x_nil ?_
    refine sq_n ?_
    refine c_ret ?_
    refine sq_r ?_
    injection h with h; subst h
    exact end_W hH (r_tmp (v := .bool false) hS rfl r_nil) rfl (by kernel_rfl) (by simp [pureT, pureL, E_bool])
  · have h := it_neg hc1 h
    refine c_cond hS rfl (fun hf => tt_absurd hc1 hf) (fun _ => ?_)
    refine c_skip ?_
    refine sq_n ?_
    refine c_seq ?_
    refine c_seq ?_
    refine c_region ?_
    refine q_seg 1 [(2, .ptr b1 0 0 5), (3, .ptr b2 0 0 5), (11, .ptr b1 0 1 1)] hS (by kernel_rfl) ?_; intro s hS
    refine q_load (v := .int .i64 a0.At) 1 trivial rfl hS hH rfl rfl (by kernel_rfl) ?_; intro s hS
    refine q_seg 1 [(2, .ptr b1 0 0 5), (3, .ptr b2 0 0 5), (12, .int .i64 a0.At), (13, .ptr b2 0 1 1)] hS (by kernel_rfl) ?_; intro s hS
    refine q_load (v := .int .i64 a1.At) 0 trivial rfl hS hH rfl rfl (by kernel_rfl) ?_; intro s hS
    refine q_seg 1 [(2, .ptr b1 0 0 5), (3, .ptr b2 0 0 5), (15, .bool (!decide (a0.At = a1.At)))] hS (by kernel_rfl) ?_; intro s hS
    refine x_nil ?_
    refine sq_n ?_
    by_cases hc2 : (!decide (a0.At = a1.At)) = true
    · have h := it_pos hc2 h
      refine c_cond hS rfl (fun _ => ?_) (fun hf => ff_absurd hc2 hf)
      refine c_seq ?_
      refine c_region ?_
      refine q_seg 1 [(4, .bool false)] hS (by kernel_rfl) ?_; intro s hS
      refine x_nil ?_
      refine sq_n ?_
      refine c_ret ?_
      refine sq_r ?_
      injection h with h; subst h
      exact end_W hH (r_tmp (v := .bool false) hS rfl r_nil) rfl (by kernel_rfl) (by simp [pureT, pureL, E_bool])
    · have h := it_neg hc2 h
      refine c_cond hS rfl (fun hf => tt_absurd hc2 hf) (fun _ => ?_)
      refine c_skip ?_
      refine sq_n ?_
      refine c_seq ?_
      refine c_seq ?_
      refine c_region ?_
      refine q_seg 1 [(2, .ptr b1 0 0 5), (3, .ptr b2 0 0 5), (16, .ptr b1 0 2 1)] hS (by kernel_rfl) ?_; intro s hS
      refine q_load (v := (Sl.t (a0.Output : Sl ByteArray))) 1 trivial rfl hS hH rfl rfl (by kernel_rfl) ?_; intro s hS
      refine q_seg 1 [(2, .ptr b1 0 0 5), (3, .ptr b2 0 0 5), (17, (Sl.t (a0.Output : Sl ByteArray))), (18, .ptr b2 0 2 1)] hS (by kernel_rfl) ?_; intro s hS
      refine q_load (v := (Sl.t (a1.Output : Sl ByteArray))) 0 trivial rfl hS hH rfl rfl (by kernel_rfl) ?_; intro s hS
      obtain ⟨y2, hy2, h⟩ := bind_some h
      refine q_callF (a := []) (b := []) (xs := [(Sl.t (a0.Output : Sl ByteArray)), (Sl.t (a1.Output : Sl ByteArray))]) rfl hS rfl rfl hy2 ?_; intro s hS
      refine q_seg 1 [(2, .ptr b1 0 0 5), (3, .ptr b2 0 0 5), (21, .bool (!y2))] hS (by kernel_rfl) ?_; intro s hS
      refine x_nil ?_
      refine sq_n ?_
      by_cases hc3 : (!y2) = true
      · have h := it_pos hc3 h
        refine c_cond hS rfl (fun _ => ?_) (fun hf => ff_absurd hc3 hf)
        refine c_seq ?_
        refine c_region ?_
        refine q_seg 1 [(4, .bool false)] hS (by kernel_rfl) ?_; intro s hS
        refine x_nil ?_
        refine sq_n ?_
        refine c_ret ?_
        refine sq_r ?_
        injection h with h; subst h
        exact end_W hH (r_tmp (v := .bool false) hS rfl r_nil) rfl (by kernel_rfl) (by simp [pureT, pureL, E_bool])
      · have h := it_neg hc3 h
        refine c_cond hS rfl (fun hf => tt_absurd hc3 hf) (fun _ => ?_)
        refine c_skip ?_
        refine sq_n ?_
        refine c_seq ?_
        refine c_seq ?_
        refine c_region ?_
        refine q_seg 1 [(2, .ptr b1 0 0 5), (3, .ptr b2 0 0 5), (22, .ptr b1 0 3 1)] hS (by kernel_rfl) ?_; intro s hS
        refine q_load (v := (Sl.t (a0.Files : Sl DFile))) 1 trivial rfl hS hH rfl rfl (by kernel_rfl) ?_; intro s hS
        refine q_seg 1 [(2, .ptr b1 0 0 5), (3, .ptr b2 0 0 5), (23, (Sl.t (a0.Files : Sl DFile))), (24, .ptr b2 0 3 1)] hS (by kernel_rfl) ?_; intro s hS
        refine q_load (v := (Sl.t (a1.Files : Sl DFile))) 0 trivial rfl hS hH rfl rfl (by kernel_rfl) ?_; intro s hS
        obtain ⟨y3, hy3, h⟩ := bind_some h
        refine q_callF (a := []) (b := []) (xs := [(Sl.t (a0.Files : Sl DFile)), (Sl.t (a1.Files : Sl DFile))]) rfl hS rfl rfl hy3 ?_; intro s hS
        refine q_seg 1 [(2, .ptr b1 0 0 5), (3, .ptr b2 0 0 5), (27, .bool (!y3))] hS (by kernel_rfl) ?_; intro s hS
        refine x_nil ?_
        refine sq_n ?_
        by_cases hc4 : (!y3) = true
        · have h := it_pos hc4 h
          refine c_cond hS rfl (fun _ => ?_) (fun hf => ff_absurd hc4 hf)
          refine c_seq ?_
          refine c_region ?_
          refine q_seg 1 [(4, .bool false)] hS (by kernel_rfl) ?_; intro s hS
          refine x_nil ?_
          refine sq_n ?_
          refine c_ret ?_
          refine sq_r ?_
          injection h with h; subst h
          exact end_W hH (r_tmp (v := .bool false) hS rfl r_nil) rfl (by kernel_rfl) (by simp [pureT, pureL, E_bool])
        · have h := it_neg hc4 h
          refine c_cond hS rfl (fun hf => tt_absurd hc4 hf) (fun _ => ?_)
          refine c_skip ?_
          refine sq_n ?_
          refine c_seq ?_
          refine c_seq ?_
          refine c_region ?_
          refine q_seg 1 [(3, .ptr b2 0 0 5), (28, .ptr b1 0 4 1)] hS (by kernel_rfl) ?_; intro s hS
          refine q_load (v := (Sl.t (a0.Trace : Sl ByteArray))) 1 trivial rfl hS hH rfl rfl (by kernel_rfl) ?_; intro s hS
          refine q_seg 1 [(29, (Sl.t (a0.Trace : Sl ByteArray))), (30, .ptr b2 0 4 1)] hS (by kernel_rfl) ?_; intro s hS
          refine q_load (v := (Sl.t (a1.Trace : Sl ByteArray))) 0 trivial rfl hS hH rfl rfl (by kernel_rfl) ?_; intro s hS
          obtain ⟨y4, hy4, h⟩ := bind_some h
          refine q_callF (a := []) (b := []) (xs := [(Sl.t (a0.Trace : Sl ByteArray)), (Sl.t (a1.Trace : Sl ByteArray))]) rfl hS rfl rfl hy4 ?_; intro s hS
          refine q_seg 1 [(33, .bool (!y4))] hS (by kernel_rfl) ?_; intro s hS
          refine x_nil ?_
          refine sq_n ?_
          by_cases hc5 : (!y4) = true
          · have h := it_pos hc5 h
            refine c_cond hS rfl (fun _ => ?_) (fun hf => ff_absurd hc5 hf)
            refine c_seq ?_
            refine c_region ?_
            refine q_seg 1 [(4, .bool false)] hS (by kernel_rfl) ?_; intro s hS
            refine x_nil ?_
            refine sq_n ?_
            refine c_ret ?_
            refine sq_r ?_
            injection h with h; subst h
            exact end_W hH (r_tmp (v := .bool false) hS rfl r_nil) rfl (by kernel_rfl) (by simp [pureT, pureL, E_bool])
          · have h := it_neg hc5 h
            refine c_cond hS rfl (fun hf => tt_absurd hc5 hf) (fun _ => ?_)
            refine c_skip ?_
            refine sq_n ?_
            refine c_seq ?_
            refine c_region ?_
            refine q_seg 1 [(4, .bool true)] hS (by kernel_rfl) ?_; intro s hS
            refine x_nil ?_
            refine sq_n ?_
            refine c_ret ?_
            injection h with h; subst h
            exact end_W hH (r_tmp (v := .bool true) hS rfl r_nil) rfl (by kernel_rfl) (by simp [pureT, pureL, E_bool])
end Go.Am
end
section
set_option maxRecDepth 100000
set_option maxHeartbeats 1000000
set_option linter.unusedVariables false
set_option linter.unusedSimpArgs false
namespace Go.Am
open Go.Proofs
noncomputable def B_laws_szHeap (a0 : DHeap) (a1 : Int) : Option Int := ((F_laws_szObjectS a0.Objects a1).bind fun y1 => (if (decide (y1 < 0)) = true then (some (-1)) else (some y1)))
theorem u_laws_szHeap (a0 : DHeap) (a1 : Int) (r : Int) (h : B_laws_szHeap a0 a1 = some r) : F_laws_szHeap a0 a1 = some r := by
  unfold B_laws_szHeap at h
  refine semW_of E_i64_inj rfl rfl ok_38 rfl (all_cons (by kernel_rfl) (all_cons (by kernel_rfl) all_nil)) ?_
  intro σ0 s hS hH
  have hS := sub_to (L' := [(0, .agg (DHeap.cells a0)), (1, .int .i64 a1)]) hS (by kernel_rfl)
  refine c_seq ?_
  refine c_region ?_
  refine q_box (v := .agg (DHeap.cells a0)) (cs := [.int .i64 a0.Next, (Sl.t (a0.Objects : Sl DObject))]) rfl hS hH rfl rfl (by kernel_rfl) ?_; intro b1 σ s hH hS
  refine q_seg 1 [(1, .int .i64 a1), (2, .ptr b1 0 0 2)] hS (by kernel_rfl) ?_; intro s hS
  refine x_nil ?_
  refine sq_n ?_
  refine c_seq ?_
  refine c_region ?_
  refine q_seg 1 [(1, .int .i64 a1), (5, .ptr b1 0 1 1)] hS (by kernel_rfl) ?_; intro s hS
  refine q_load (v := (Sl.t (a0.Objects : Sl DObject))) 0 trivial rfl hS hH rfl rfl (by kernel_rfl) ?_; intro s hS
  refine q_seg 1 [(6, (Sl.t (a0.Objects : Sl DObject))), (7, .int .i64 a1)] hS (by kernel_rfl) ?_; intro s hS
  obtain ⟨y1, hy1, h⟩ := bind_some h
  refine q_callF (a := []) (b := []) (xs := [(Sl.t (a0.Objects : Sl DObject)), .int .i64 a1]) rfl hS rfl rfl hy1 ?_; intro s hS
  refine q_seg 1 [(1, .int .i64 y1)] hS (by kernel_rfl) ?_; intro s hS
  refine x_nil ?_
  refine sq_n ?_
  refine c_seq ?_
  refine c_seq ?_
  refine c_region ?_
  refine q_seg 2 [(1, .int .i64 y1), (10, .bool (decide (y1 < 0)))] hS (by kernel_rfl) ?_; intro s hS
  refine x_nil ?_
  refine sq_n ?_
  by_cases hc1 : (decide (y1 < 0)) = true
  · have h := it_pos hc1 h
    refine c_cond hS rfl (fun _ => ?_) (fun hf => ff_absurd hc1 hf)
    refine c_seq ?_
    refine c_region ?_
    refine q_seg 1 [(4, .int .i64 (-1))] hS (by kernel_rfl) ?_; intro s hS
    refine x_nil ?_
    refine sq_n ?_
    refine c_ret ?_
    refine sq_r ?_
    injection h with h; subst h
    exact end_W hH (r_tmp (v := .int .i64 (-1)) hS rfl r_nil) rfl (by kernel_rfl) (by simp [pureT, pureL, E_i64])
  · have h := it_neg hc1 h
    refine c_cond hS rfl (fun hf => tt_absurd hc1 hf) (fun _ => ?_)
    refine c_skip ?_
    refine sq_n ?_
    refine c_seq ?_
    refine c_region ?_
    refine q_seg 2 [(4, .int .i64 y1)] hS (by kernel_rfl) ?_; intro s hS
    refine x_nil ?_
    refine sq_n ?_
    refine c_ret ?_
    injection h with h; subst h
    exact end_W hH (r_tmp (v := .int .i64 y1) hS rfl r_nil) rfl (by kernel_rfl) (by simp [pureT, pureL, E_i64])
end Go.Am
end
