/- Functions of the program. -/
import Derived.Test.YtnabmjlpdcpaeaaAd0
section
set_option maxRecDepth 100000
set_option maxHeartbeats 4000000
set_option linter.unusedVariables false
set_option linter.unusedSimpArgs false
namespace Go.Am
open Go.Proofs
noncomputable def B_laws_heldBindingS (a0 : (Sl DBinding)) (a1 : Int) : Option Int := ((loopO (S := (Int × Int)) (R := (Int ⊕ Int)) (fun st1 => (if (decide (st1.2 < (a0.l.length : Int))) = true then ((elt a0 st1.2).bind fun y2 => ((F_laws_markText st1.1).bind fun y3 => (if (!decide (y2.Name = y3)) = true then (some (.inr (.inr (-1)))) else ((elt a0 st1.2).bind fun y4 => (if (!decide (y4.Value.Kind = (IntKind.i64.wrap (st1.1 + 1)))) = true then (some (.inr (.inr (-1)))) else ((elt a0 st1.2).bind fun y5 => (if (!decide (y5.Value.Num = (IntKind.i64.wrap ((IntKind.i64.wrap (st1.1 + 1)) + 1)))) = true then (some (.inr (.inr (-1)))) else ((elt a0 st1.2).bind fun y6 => ((F_laws_markText (IntKind.i64.wrap ((IntKind.i64.wrap ((IntKind.i64.wrap (st1.1 + 1)) + 1)) + 1))).bind fun y7 => (if (!decide (y6.Value.Text = y7)) = true then (some (.inr (.inr (-1)))) else ((elt a0 st1.2).bind fun y8 => (if (!decide (y8.Value.Ref = (IntKind.i64.wrap ((IntKind.i64.wrap ((IntKind.i64.wrap ((IntKind.i64.wrap (st1.1 + 1)) + 1)) + 1)) + 1)))) = true then (some (.inr (.inr (-1)))) else (some (.inl ((IntKind.i64.wrap ((IntKind.i64.wrap ((IntKind.i64.wrap ((IntKind.i64.wrap ((IntKind.i64.wrap (st1.1 + 1)) + 1)) + 1)) + 1)) + 1)), (IntKind.i64.wrap (st1.2 + 1))))))))))))))))) else (some (.inr (.inl st1.1))))) (a1, 0)).bind fun y1 => (Sum.elim (fun y1 => (some y1)) (fun y1 => (some y1)) y1))
theorem u_laws_heldBindingS (a0 : (Sl DBinding)) (a1 : Int) (r : Int) (h : B_laws_heldBindingS a0 a1 = some r) : F_laws_heldBindingS a0 a1 = some r := by
  unfold B_laws_heldBindingS at h
  refine semW_of E_i64_inj rfl rfl ok_61 rfl (all_cons (by kernel_rfl) (all_cons (by kernel_rfl) all_nil)) ?_
  intro σ0 s hS hH
  have hS := sub_to (L' := [(0, (Sl.t (a0 : Sl DBinding))), (1, .int .i64 a1)]) hS (by kernel_rfl)
  refine c_seq ?_
  refine c_region ?_
  refine q_seg 1 [(0, (Sl.t (a0 : Sl DBinding))), (1, .int .i64 a1)] hS (by kernel_rfl) ?_; intro s hS
  refine x_nil ?_
  refine sq_n ?_
  refine c_seq ?_
  refine c_seq ?_
  refine c_region ?_
  refine q_seg 1 [(0, (Sl.t (a0 : Sl DBinding))), (1, .int .i64 a1), (5, .int .i64 0)] hS (by kernel_rfl) ?_; intro s hS
  refine x_nil ?_
  refine sq_n ?_
  refine c_block ?_
  obtain ⟨y1, hy1, h⟩ := bind_some h
  refine c_loop (fun (st1 : (Int × Int)) (fr : Fr) => Sub [(0, (Sl.t (a0 : Sl DBinding))), (1, .int .i64 st1.1), (5, .int .i64 st1.2)] fr.s ∧ Heap σ0 fr.σ []) (fun (y1 : (Int ⊕ Int)) (e : AExit) (fr : Fr) => (Sum.elim (fun y => e = (.exit 0) ∧ Sub [(1, .int .i64 y)] fr.s ∧ Heap σ0 fr.σ []) (fun y => e = .ret ∧ endW Try.prog (Try.f61.results.toList) σ0 (E_i64 y) .ret fr)) y1) hy1 (And.intro (sub_to hS (by kernel_rfl)) hH) ?_ ?_
  · clear h hy1 hS hH; clear y1; intro st1 x fr h HI; obtain ⟨s, σ⟩ := fr; obtain ⟨hS, hH⟩ := HI
    refine c_seq ?_
    refine c_seq ?_
    refine c_region ?_
    refine q_seg 4 [(0, (Sl.t (a0 : Sl DBinding))), (1, .int .i64 st1.1), (5, .int .i64 st1.2), (9, .bool (decide (st1.2 < (a0.l.length : Int))))] hS (by kernel_rfl) ?_; intro s hS
    refine x_nil ?_
    refine sq_n ?_
    by_cases hc1 : (decide (st1.2 < (a0.l.length : Int))) = true
    · have h := it_pos hc1 h
      refine c_cond hS rfl (fun _ => ?_) (fun hf => ff_absurd hc1 hf)
      refine c_skip ?_
      refine sq_n ?_
      refine c_seq ?_
      refine c_block ?_
      refine c_seq ?_
      refine c_seq ?_
      refine c_draw (by kernel_rfl) hH ?_; intro mb σ hH
      refine q_seg 2 [(0, (Sl.t (a0 : Sl DBinding))), (1, .int .i64 st1.1), (5, .int .i64 st1.2), (12, (Sl.t (a0 : Sl DBinding))), (13, .int .i64 st1.2)] hS (by kernel_rfl) ?_; intro s hS
      obtain ⟨y2, hy2, h⟩ := bind_some h
      refine q_elt (sl := a0) (e := 118) [.str y2.Name, .int .i64 y2.Value.Kind, .int .i64 y2.Value.Num, .str y2.Value.Text, .int .i64 y2.Value.Ref] rfl hS rfl rfl (by kernel_rfl) (by kernel_rfl) hy2 rfl ?_; intro rest1 s hS
      refine q_seg 3 [(0, (Sl.t (a0 : Sl DBinding))), (1, .int .i64 st1.1), (5, .int .i64 st1.2), (16, .str y2.Name), (17, .int .i64 st1.1)] hS (by kernel_rfl) ?_; intro s hS
      obtain ⟨y3, hy3, h⟩ := bind_some h
      refine q_callF (a := []) (b := []) (xs := [.int .i64 st1.1]) rfl hS rfl rfl hy3 ?_; intro s hS
      refine q_seg 1 [(0, (Sl.t (a0 : Sl DBinding))), (1, .int .i64 st1.1), (5, .int .i64 st1.2), (19, .bool (!decide (y2.Name = y3)))] hS (by kernel_rfl) ?_; intro s hS
      refine x_nil ?_
      refine sq_n ?_
      by_cases hc2 : (!decide (y2.Name = y3)) = true
      · have h := it_pos hc2 h
        refine c_cond hS rfl (fun _ => ?_) (fun hf => ff_absurd hc2 hf)
        refine c_seq ?_
        refine c_region ?_
        refine q_seg 1 [(4, .int .i64 (-1))] hS (by kernel_rfl) ?_; intro s hS
        refine x_nil ?_
        refine sq_n ?_
        refine c_ret ?_
        refine sq_r ?_
        refine bk_r ?_
        refine sq_r ?_
        injection h with h; subst h
        exact And.intro rfl (end_W hH (r_tmp (v := .int .i64 (-1)) hS rfl r_nil) rfl (by kernel_rfl) (by simp [pureT, pureL, E_i64]))
      · have h := it_neg hc2 h
        refine c_cond hS rfl (fun hf => tt_absurd hc2 hf) (fun _ => ?_)
        refine c_skip ?_
        refine sq_n ?_
        refine c_seq ?_
        refine c_region ?_
        refine q_seg 3 [(0, (Sl.t (a0 : Sl DBinding))), (1, .int .i64 (IntKind.i64.wrap (st1.1 + 1))), (5, .int .i64 st1.2)] hS (by kernel_rfl) ?_; intro s hS
        refine x_nil ?_
        refine sq_n ?_
        refine c_seq ?_
        refine c_seq ?_
        refine c_region ?_
        refine q_seg 2 [(0, (Sl.t (a0 : Sl DBinding))), (1, .int .i64 (IntKind.i64.wrap (st1.1 + 1))), (5, .int .i64 st1.2), (22, (Sl.t (a0 : Sl DBinding))), (23, .int .i64 st1.2)] hS (by kernel_rfl) ?_; intro s hS
        obtain ⟨y4, hy4, h⟩ := bind_some h
        refine q_elt (sl := a0) (e := 118) [.str y4.Name, .int .i64 y4.Value.Kind, .int .i64 y4.Value.Num, .str y4.Value.Text, .int .i64 y4.Value.Ref] rfl hS rfl rfl (by kernel_rfl) (by kernel_rfl) hy4 rfl ?_; intro rest2 s hS
        refine q_seg 5 [(0, (Sl.t (a0 : Sl DBinding))), (1, .int .i64 (IntKind.i64.wrap (st1.1 + 1))), (5, .int .i64 st1.2), (29, .bool (!decide (y4.Value.Kind = (IntKind.i64.wrap (st1.1 + 1)))))] hS (by kernel_rfl) ?_; intro s hS
        refine x_nil ?_
        refine sq_n ?_
        by_cases hc3 : (!decide (y4.Value.Kind = (IntKind.i64.wrap (st1.1 + 1)))) = true
        · have h := it_pos hc3 h
          refine c_cond hS rfl (fun _ => ?_) (fun hf => ff_absurd hc3 hf)
          refine c_seq ?_
          refine c_region ?_
          refine q_seg 1 [(4, .int .i64 (-1))] hS (by kernel_rfl) ?_; intro s hS
          refine x_nil ?_
          refine sq_n ?_
          refine c_ret ?_
          refine sq_r ?_
          refine bk_r ?_
          refine sq_r ?_
          injection h with h; subst h
          exact And.intro rfl (end_W hH (r_tmp (v := .int .i64 (-1)) hS rfl r_nil) rfl (by kernel_rfl) (by simp [pureT, pureL, E_i64]))
        · have h := it_neg hc3 h
          refine c_cond hS rfl (fun hf => tt_absurd hc3 hf) (fun _ => ?_)
          refine c_skip ?_
          refine sq_n ?_
          refine c_seq ?_
          refine c_region ?_
          refine q_seg 3 [(0, (Sl.t (a0 : Sl DBinding))), (1, .int .i64 (IntKind.i64.wrap ((IntKind.i64.wrap (st1.1 + 1)) + 1))), (5, .int .i64 st1.2)] hS (by kernel_rfl) ?_; intro s hS
          refine x_nil ?_
          refine sq_n ?_
          refine c_seq ?_
          refine c_seq ?_
          refine c_region ?_
          refine q_seg 2 [(0, (Sl.t (a0 : Sl DBinding))), (1, .int .i64 (IntKind.i64.wrap ((IntKind.i64.wrap (st1.1 + 1)) + 1))), (5, .int .i64 st1.2), (32, (Sl.t (a0 : Sl DBinding))), (33, .int .i64 st1.2)] hS (by kernel_rfl) ?_; intro s hS
          obtain ⟨y5, hy5, h⟩ := bind_some h
          refine q_elt (sl := a0) (e := 118) [.str y5.Name, .int .i64 y5.Value.Kind, .int .i64 y5.Value.Num, .str y5.Value.Text, .int .i64 y5.Value.Ref] rfl hS rfl rfl (by kernel_rfl) (by kernel_rfl) hy5 rfl ?_; intro rest3 s hS
          refine q_seg 5 [(0, (Sl.t (a0 : Sl DBinding))), (1, .int .i64 (IntKind.i64.wrap ((IntKind.i64.wrap (st1.1 + 1)) + 1))), (5, .int .i64 st1.2), (39, .bool (!decide (y5.Value.Num = (IntKind.i64.wrap ((IntKind.i64.wrap (st1.1 + 1)) + 1)))))] hS (by kernel_rfl) ?_; intro s hS
          refine x_nil ?_
          refine sq_n ?_
          by_cases hc4 : (!decide (y5.Value.Num = (IntKind.i64.wrap ((IntKind.i64.wrap (st1.1 + 1)) + 1)))) = true
          · have h := it_pos hc4 h
            refine c_cond hS rfl (fun _ => ?_) (fun hf => ff_absurd hc4 hf)
            refine c_seq ?_
            refine c_region ?_
            refine q_seg 1 [(4, .int .i64 (-1))] hS (by kernel_rfl) ?_; intro s hS
            refine x_nil ?_
            refine sq_n ?_
            refine c_ret ?_
            refine sq_r ?_
            refine bk_r ?_
            refine sq_r ?_
            injection h with h; subst h
            exact And.intro rfl (end_W hH (r_tmp (v := .int .i64 (-1)) hS rfl r_nil) rfl (by kernel_rfl) (by simp [pureT, pureL, E_i64]))
          · have h := it_neg hc4 h
            refine c_cond hS rfl (fun hf => tt_absurd hc4 hf) (fun _ => ?_)
            refine c_skip ?_
            refine sq_n ?_
            refine c_seq ?_
            refine c_region ?_
            refine q_seg 3 [(0, (Sl.t (a0 : Sl DBinding))), (1, .int .i64 (IntKind.i64.wrap ((IntKind.i64.wrap ((IntKind.i64.wrap (st1.1 + 1)) + 1)) + 1))), (5, .int .i64 st1.2)] hS (by kernel_rfl) ?_; intro s hS
            refine x_nil ?_
            refine sq_n ?_
            refine c_seq ?_
            refine c_seq ?_
            refine c_draw (by kernel_rfl) hH ?_; intro mb σ hH
            refine q_seg 2 [(0, (Sl.t (a0 : Sl DBinding))), (1, .int .i64 (IntKind.i64.wrap ((IntKind.i64.wrap ((IntKind.i64.wrap (st1.1 + 1)) + 1)) + 1))), (5, .int .i64 st1.2), (42, (Sl.t (a0 : Sl DBinding))), (43, .int .i64 st1.2)] hS (by kernel_rfl) ?_; intro s hS
            obtain ⟨y6, hy6, h⟩ := bind_some h
            refine q_elt (sl := a0) (e := 118) [.str y6.Name, .int .i64 y6.Value.Kind, .int .i64 y6.Value.Num, .str y6.Value.Text, .int .i64 y6.Value.Ref] rfl hS rfl rfl (by kernel_rfl) (by kernel_rfl) hy6 rfl ?_; intro rest4 s hS
            refine q_seg 4 [(0, (Sl.t (a0 : Sl DBinding))), (1, .int .i64 (IntKind.i64.wrap ((IntKind.i64.wrap ((IntKind.i64.wrap (st1.1 + 1)) + 1)) + 1))), (5, .int .i64 st1.2), (47, .str y6.Value.Text), (48, .int .i64 (IntKind.i64.wrap ((IntKind.i64.wrap ((IntKind.i64.wrap (st1.1 + 1)) + 1)) + 1)))] hS (by kernel_rfl) ?_; intro s hS
            obtain ⟨y7, hy7, h⟩ := bind_some h
            refine q_callF (a := []) (b := []) (xs := [.int .i64 (IntKind.i64.wrap ((IntKind.i64.wrap ((IntKind.i64.wrap (st1.1 + 1)) + 1)) + 1))]) rfl hS rfl rfl hy7 ?_; intro s hS
            refine q_seg 1 [(0, (Sl.t (a0 : Sl DBinding))), (1, .int .i64 (IntKind.i64.wrap ((IntKind.i64.wrap ((IntKind.i64.wrap (st1.1 + 1)) + 1)) + 1))), (5, .int .i64 st1.2), (50, .bool (!decide (y6.Value.Text = y7)))] hS (by kernel_rfl) ?_; intro s hS
            refine x_nil ?_
            refine sq_n ?_
            by_cases hc5 : (!decide (y6.Value.Text = y7)) = true
            · have h := it_pos hc5 h
              refine c_cond hS rfl (fun _ => ?_) (fun hf => ff_absurd hc5 hf)
              refine c_seq ?_
              refine c_region ?_
              refine q_seg 1 [(4, .int .i64 (-1))] hS (by kernel_rfl) ?_; intro s hS
              refine x_nil ?_
              refine sq_n ?_
              refine c_ret ?_
              refine sq_r ?_
              refine bk_r ?_
              refine sq_r ?_
              injection h with h; subst h
              exact And.intro rfl (end_W hH (r_tmp (v := .int .i64 (-1)) hS rfl r_nil) rfl (by kernel_rfl) (by simp [pureT, pureL, E_i64]))
            · have h := it_neg hc5 h
              refine c_cond hS rfl (fun hf => tt_absurd hc5 hf) (fun _ => ?_)
              refine c_skip ?_
              refine sq_n ?_
              refine c_seq ?_
              refine c_region ?_
              refine q_seg 3 [(0, (Sl.t (a0 : Sl DBinding))), (1, .int .i64 (IntKind.i64.wrap ((IntKind.i64.wrap ((IntKind.i64.wrap ((IntKind.i64.wrap (st1.1 + 1)) + 1)) + 1)) + 1))), (5, .int .i64 st1.2)] hS (by kernel_rfl) ?_; intro s hS
              refine x_nil ?_
              refine sq_n ?_
              refine c_seq ?_
              refine c_seq ?_
              refine c_region ?_
              refine q_seg 2 [(0, (Sl.t (a0 : Sl DBinding))), (1, .int .i64 (IntKind.i64.wrap ((IntKind.i64.wrap ((IntKind.i64.wrap ((IntKind.i64.wrap (st1.1 + 1)) + 1)) + 1)) + 1))), (5, .int .i64 st1.2), (53, (Sl.t (a0 : Sl DBinding))), (54, .int .i64 st1.2)] hS (by kernel_rfl) ?_; intro s hS
              obtain ⟨y8, hy8, h⟩ := bind_some h
              refine q_elt (sl := a0) (e := 118) [.str y8.Name, .int .i64 y8.Value.Kind, .int .i64 y8.Value.Num, .str y8.Value.Text, .int .i64 y8.Value.Ref] rfl hS rfl rfl (by kernel_rfl) (by kernel_rfl) hy8 rfl ?_; intro rest5 s hS
              refine q_seg 5 [(0, (Sl.t (a0 : Sl DBinding))), (1, .int .i64 (IntKind.i64.wrap ((IntKind.i64.wrap ((IntKind.i64.wrap ((IntKind.i64.wrap (st1.1 + 1)) + 1)) + 1)) + 1))), (5, .int .i64 st1.2), (60, .bool (!decide (y8.Value.Ref = (IntKind.i64.wrap ((IntKind.i64.wrap ((IntKind.i64.wrap ((IntKind.i64.wrap (st1.1 + 1)) + 1)) + 1)) + 1)))))] hS (by kernel_rfl) ?_; intro s hS
              refine x_nil ?_
              refine sq_n ?_
              by_cases hc6 : (!decide (y8.Value.Ref = (IntKind.i64.wrap ((IntKind.i64.wrap ((IntKind.i64.wrap ((IntKind.i64.wrap (st1.1 + 1)) + 1)) + 1)) + 1)))) = true
              · have h := it_pos hc6 h
                refine c_cond hS rfl (fun _ => ?_) (fun hf => ff_absurd hc6 hf)
                refine c_seq ?_
                refine c_region ?_
                refine q_seg 1 [(4, .int .i64 (-1))] hS (by kernel_rfl) ?_; intro s hS
                refine x_nil ?_
                refine sq_n ?_
                refine c_ret ?_
                refine sq_r ?_
                refine bk_r ?_
                refine sq_r ?_
                injection h with h; subst h
                exact And.intro rfl (end_W hH (r_tmp (v := .int .i64 (-1)) hS rfl r_nil) rfl (by kernel_rfl) (by simp [pureT, pureL, E_i64]))
              · have h := it_neg hc6 h
                refine c_cond hS rfl (fun hf => tt_absurd hc6 hf) (fun _ => ?_)
                refine c_skip ?_
                refine sq_n ?_
                refine c_region ?_
                refine q_seg 3 [(0, (Sl.t (a0 : Sl DBinding))), (1, .int .i64 (IntKind.i64.wrap ((IntKind.i64.wrap ((IntKind.i64.wrap ((IntKind.i64.wrap ((IntKind.i64.wrap (st1.1 + 1)) + 1)) + 1)) + 1)) + 1))), (5, .int .i64 st1.2)] hS (by kernel_rfl) ?_; intro s hS
                refine x_nil ?_
                refine bk_n ?_
                refine sq_n ?_
                refine c_region ?_
                refine q_seg 3 [(0, (Sl.t (a0 : Sl DBinding))), (1, .int .i64 (IntKind.i64.wrap ((IntKind.i64.wrap ((IntKind.i64.wrap ((IntKind.i64.wrap ((IntKind.i64.wrap (st1.1 + 1)) + 1)) + 1)) + 1)) + 1))), (5, .int .i64 (IntKind.i64.wrap (st1.2 + 1)))] hS (by kernel_rfl) ?_; intro s hS
                refine x_nil ?_
                injection h with h; subst h
                exact And.intro (sub_to hS (by kernel_rfl)) hH
    · have h := it_neg hc1 h
      refine c_cond hS rfl (fun hf => tt_absurd hc1 hf) (fun _ => ?_)
      refine c_exit ?_
      refine sq_x ?_
      injection h with h; subst h
      exact And.intro rfl (And.intro (sub_to hS (by kernel_rfl)) hH)
  · clear hS hH; intro e fr HF; obtain ⟨s, σ⟩ := fr
    rcases y1 with y1 | y1
    · obtain ⟨rfl, hS, hH⟩ := HF
      refine bk_e ?_
      refine sq_n ?_
      refine c_seq ?_
      refine c_region ?_
      refine q_seg 2 [(4, .int .i64 y1)] hS (by kernel_rfl) ?_; intro s hS
      refine x_nil ?_
      refine sq_n ?_
      refine c_ret ?_
      injection h with h; subst h
      exact end_W hH (r_tmp (v := .int .i64 y1) hS rfl r_nil) rfl (by kernel_rfl) (by simp [pureT, pureL, E_i64])
    · obtain ⟨rfl, HE⟩ := HF
      refine bk_r ?_
      refine sq_r ?_
      injection h with h; subst h; exact HE
end Go.Am
end
section
set_option maxRecDepth 100000
set_option maxHeartbeats 4000000
set_option linter.unusedVariables false
set_option linter.unusedSimpArgs false
namespace Go.Am
open Go.Proofs
noncomputable def B_laws_heldFunctionS (a0 : (Sl DFunction)) (a1 : Int) : Option Int := ((loopO (S := (Int × Int)) (R := (Int ⊕ Int)) (fun st1 => (if (decide (st1.2 < (a0.l.length : Int))) = true then ((elt a0 st1.2).bind fun y2 => ((F_laws_markText st1.1).bind fun y3 => (if (!decide (y2.Name = y3)) = true then (some (.inr (.inr (-1)))) else ((elt a0 st1.2).bind fun y4 => ((F_laws_heldStringS y4.Params (IntKind.i64.wrap (st1.1 + 1))).bind fun y5 => (if (decide (y5 < 0)) = true then (some (.inr (.inr (-1)))) else ((elt a0 st1.2).bind fun y6 => ((F_laws_heldStringS y6.Locals y5).bind fun y7 => (if (decide (y7 < 0)) = true then (some (.inr (.inr (-1)))) else ((elt a0 st1.2).bind fun y8 => ((F_laws_markText y7).bind fun y9 => (if (!decide (y8.Label = y9)) = true then (some (.inr (.inr (-1)))) else (some (.inl ((IntKind.i64.wrap (y7 + 1)), (IntKind.i64.wrap (st1.2 + 1))))))))))))))))) else (some (.inr (.inl st1.1))))) (a1, 0)).bind fun y1 => (Sum.elim (fun y1 => (some y1)) (fun y1 => (some y1)) y1))
theorem u_laws_heldFunctionS (a0 : (Sl DFunction)) (a1 : Int) (r : Int) (h : B_laws_heldFunctionS a0 a1 = some r) : F_laws_heldFunctionS a0 a1 = some r := by
  unfold B_laws_heldFunctionS at h
  refine semW_of E_i64_inj rfl rfl ok_62 rfl (all_cons (by kernel_rfl) (all_cons (by kernel_rfl) all_nil)) ?_
  intro σ0 s hS hH
  have hS := sub_to (L' := [(0, (Sl.t (a0 : Sl DFunction))), (1, .int .i64 a1)]) hS (by kernel_rfl)
  refine c_seq ?_
  refine c_region ?_
  refine q_seg 1 [(0, (Sl.t (a0 : Sl DFunction))), (1, .int .i64 a1)] hS (by kernel_rfl) ?_; intro s hS
  refine x_nil ?_
  refine sq_n ?_
  refine c_seq ?_
  refine c_seq ?_
  refine c_region ?_
  refine q_seg 1 [(0, (Sl.t (a0 : Sl DFunction))), (1, .int .i64 a1), (5, .int .i64 0)] hS (by kernel_rfl) ?_; intro s hS
  refine x_nil ?_
  refine sq_n ?_
  refine c_block ?_
  obtain ⟨y1, hy1, h⟩ := bind_some h
  refine c_loop (fun (st1 : (Int × Int)) (fr : Fr) => Sub [(0, (Sl.t (a0 : Sl DFunction))), (1, .int .i64 st1.1), (5, .int .i64 st1.2)] fr.s ∧ Heap σ0 fr.σ []) (fun (y1 : (Int ⊕ Int)) (e : AExit) (fr : Fr) => (Sum.elim (fun y => e = (.exit 0) ∧ Sub [(1, .int .i64 y)] fr.s ∧ Heap σ0 fr.σ []) (fun y => e = .ret ∧ endW Try.prog (Try.f62.results.toList) σ0 (E_i64 y) .ret fr)) y1) hy1 (And.intro (sub_to hS (by kernel_rfl)) hH) ?_ ?_
  · clear h hy1 hS hH; clear y1; intro st1 x fr h HI; obtain ⟨s, σ⟩ := fr; obtain ⟨hS, hH⟩ := HI
    refine c_seq ?_
    refine c_seq ?_
    refine c_region ?_
    refine q_seg 4 [(0, (Sl.t (a0 : Sl DFunction))), (1, .int .i64 st1.1), (5, .int .i64 st1.2), (9, .bool (decide (st1.2 < (a0.l.length : Int))))] hS (by kernel_rfl) ?_; intro s hS
    refine x_nil ?_
    refine sq_n ?_
    by_cases hc1 : (decide (st1.2 < (a0.l.length : Int))) = true
    · have h := it_pos hc1 h
      refine c_cond hS rfl (fun _ => ?_) (fun hf => ff_absurd hc1 hf)
      refine c_skip ?_
      refine sq_n ?_
      refine c_seq ?_
      refine c_block ?_
      refine c_seq ?_
      refine c_seq ?_
      refine c_draw (by kernel_rfl) hH ?_; intro mb σ hH
      refine q_seg 2 [(0, (Sl.t (a0 : Sl DFunction))), (1, .int .i64 st1.1), (5, .int .i64 st1.2), (12, (Sl.t (a0 : Sl DFunction))), (13, .int .i64 st1.2)] hS (by kernel_rfl) ?_; intro s hS
      obtain ⟨y2, hy2, h⟩ := bind_some h
      refine q_elt (sl := a0) (e := 99) [.str y2.Name, (Sl.t (y2.Params : Sl ByteArray)), (Sl.t (y2.Locals : Sl ByteArray)), .str y2.Label] rfl hS rfl rfl (by kernel_rfl) (by kernel_rfl) hy2 rfl ?_; intro rest1 s hS
      refine q_seg 3 [(0, (Sl.t (a0 : Sl DFunction))), (1, .int .i64 st1.1), (5, .int .i64 st1.2), (16, .str y2.Name), (17, .int .i64 st1.1)] hS (by kernel_rfl) ?_; intro s hS
      obtain ⟨y3, hy3, h⟩ := bind_some h
      refine q_callF (a := []) (b := []) (xs := [.int .i64 st1.1]) rfl hS rfl rfl hy3 ?_; intro s hS
      refine q_seg 1 [(0, (Sl.t (a0 : Sl DFunction))), (1, .int .i64 st1.1), (5, .int .i64 st1.2), (19, .bool (!decide (y2.Name = y3)))] hS (by kernel_rfl) ?_; intro s hS
      refine x_nil ?_
      refine sq_n ?_
      by_cases hc2 : (!decide (y2.Name = y3)) = true
      · have h := it_pos hc2 h
        refine c_cond hS rfl (fun _ => ?_) (fun hf => ff_absurd hc2 hf)
        refine c_seq ?_
        refine c_region ?_
        refine q_seg 1 [(4, .int .i64 (-1))] hS (by kernel_rfl) ?_; intro s hS
        refine x_nil ?_
        refine sq_n ?_
        refine c_ret ?_
        refine sq_r ?_
        refine bk_r ?_
        refine sq_r ?_
        injection h with h; subst h
        exact And.intro rfl (end_W hH (r_tmp (v := .int .i64 (-1)) hS rfl r_nil) rfl (by kernel_rfl) (by simp [pureT, pureL, E_i64]))
      · have h := it_neg hc2 h
        refine c_cond hS rfl (fun hf => tt_absurd hc2 hf) (fun _ => ?_)
        refine c_skip ?_
        refine sq_n ?_
        refine c_seq ?_
        refine c_region ?_
        refine q_seg 3 [(0, (Sl.t (a0 : Sl DFunction))), (1, .int .i64 (IntKind.i64.wrap (st1.1 + 1))), (5, .int .i64 st1.2)] hS (by kernel_rfl) ?_; intro s hS
        refine x_nil ?_
        refine sq_n ?_
        refine c_seq ?_
        refine c_region ?_
        refine q_seg 2 [(0, (Sl.t (a0 : Sl DFunction))), (1, .int .i64 (IntKind.i64.wrap (st1.1 + 1))), (5, .int .i64 st1.2), (22, (Sl.t (a0 : Sl DFunction))), (23, .int .i64 st1.2)] hS (by kernel_rfl) ?_; intro s hS
        obtain ⟨y4, hy4, h⟩ := bind_some h
        refine q_elt (sl := a0) (e := 99) [.str y4.Name, (Sl.t (y4.Params : Sl ByteArray)), (Sl.t (y4.Locals : Sl ByteArray)), .str y4.Label] rfl hS rfl rfl (by kernel_rfl) (by kernel_rfl) hy4 rfl ?_; intro rest2 s hS
        refine q_seg 3 [(0, (Sl.t (a0 : Sl DFunction))), (5, .int .i64 st1.2), (26, (Sl.t (y4.Params : Sl ByteArray))), (27, .int .i64 (IntKind.i64.wrap (st1.1 + 1)))] hS (by kernel_rfl) ?_; intro s hS
        obtain ⟨y5, hy5, h⟩ := bind_some h
        refine q_callF (a := []) (b := []) (xs := [(Sl.t (y4.Params : Sl ByteArray)), .int .i64 (IntKind.i64.wrap (st1.1 + 1))]) rfl hS rfl rfl hy5 ?_; intro s hS
        refine q_seg 1 [(0, (Sl.t (a0 : Sl DFunction))), (1, .int .i64 y5), (5, .int .i64 st1.2)] hS (by kernel_rfl) ?_; intro s hS
        refine x_nil ?_
        refine sq_n ?_
        refine c_seq ?_
        refine c_seq ?_
        refine c_region ?_
        refine q_seg 2 [(0, (Sl.t (a0 : Sl DFunction))), (1, .int .i64 y5), (5, .int .i64 st1.2), (30, .bool (decide (y5 < 0)))] hS (by kernel_rfl) ?_; intro s hS
        refine x_nil ?_
        refine sq_n ?_
        by_cases hc3 : (decide (y5 < 0)) = true
        · have h := it_pos hc3 h
          refine c_cond hS rfl (fun _ => ?_) (fun hf => ff_absurd hc3 hf)
          refine c_seq ?_
          refine c_region ?_
          refine q_seg 1 [(4, .int .i64 (-1))] hS (by kernel_rfl) ?_; intro s hS
          refine x_nil ?_
          refine sq_n ?_
          refine c_ret ?_
          refine sq_r ?_
          refine bk_r ?_
          refine sq_r ?_
          injection h with h; subst h
          exact And.intro rfl (end_W hH (r_tmp (v := .int .i64 (-1)) hS rfl r_nil) rfl (by kernel_rfl) (by simp [pureT, pureL, E_i64]))
        · have h := it_neg hc3 h
          refine c_cond hS rfl (fun hf => tt_absurd hc3 hf) (fun _ => ?_)
          refine c_skip ?_
          refine sq_n ?_
          refine c_seq ?_
          refine c_region ?_
          refine q_seg 2 [(0, (Sl.t (a0 : Sl DFunction))), (1, .int .i64 y5), (5, .int .i64 st1.2), (31, (Sl.t (a0 : Sl DFunction))), (32, .int .i64 st1.2)] hS (by kernel_rfl) ?_; intro s hS
          obtain ⟨y6, hy6, h⟩ := bind_some h
          refine q_elt (sl := a0) (e := 99) [.str y6.Name, (Sl.t (y6.Params : Sl ByteArray)), (Sl.t (y6.Locals : Sl ByteArray)), .str y6.Label] rfl hS rfl rfl (by kernel_rfl) (by kernel_rfl) hy6 rfl ?_; intro rest3 s hS
          refine q_seg 3 [(0, (Sl.t (a0 : Sl DFunction))), (5, .int .i64 st1.2), (35, (Sl.t (y6.Locals : Sl ByteArray))), (36, .int .i64 y5)] hS (by kernel_rfl) ?_; intro s hS
          obtain ⟨y7, hy7, h⟩ := bind_some h
          refine q_callF (a := []) (b := []) (xs := [(Sl.t (y6.Locals : Sl ByteArray)), .int .i64 y5]) rfl hS rfl rfl hy7 ?_; intro s hS
          refine q_seg 1 [(0, (Sl.t (a0 : Sl DFunction))), (1, .int .i64 y7), (5, .int .i64 st1.2)] hS (by kernel_rfl) ?_; intro s hS
          refine x_nil ?_
          refine sq_n ?_
          refine c_seq ?_
          refine c_seq ?_
          refine c_region ?_
          refine q_seg 2 [(0, (Sl.t (a0 : Sl DFunction))), (1, .int .i64 y7), (5, .int .i64 st1.2), (39, .bool (decide (y7 < 0)))] hS (by kernel_rfl) ?_; intro s hS
          refine x_nil ?_
          refine sq_n ?_
          by_cases hc4 : (decide (y7 < 0)) = true
          · have h := it_pos hc4 h
            refine c_cond hS rfl (fun _ => ?_) (fun hf => ff_absurd hc4 hf)
            refine c_seq ?_
            refine c_region ?_
            refine q_seg 1 [(4, .int .i64 (-1))] hS (by kernel_rfl) ?_; intro s hS
            refine x_nil ?_
            refine sq_n ?_
            refine c_ret ?_
            refine sq_r ?_
            refine bk_r ?_
            refine sq_r ?_
            injection h with h; subst h
            exact And.intro rfl (end_W hH (r_tmp (v := .int .i64 (-1)) hS rfl r_nil) rfl (by kernel_rfl) (by simp [pureT, pureL, E_i64]))
          · have h := it_neg hc4 h
            refine c_cond hS rfl (fun hf => tt_absurd hc4 hf) (fun _ => ?_)
            refine c_skip ?_
            refine sq_n ?_
            refine c_seq ?_
            refine c_seq ?_
            refine c_draw (by kernel_rfl) hH ?_; intro mb σ hH
            refine q_seg 2 [(0, (Sl.t (a0 : Sl DFunction))), (1, .int .i64 y7), (5, .int .i64 st1.2), (40, (Sl.t (a0 : Sl DFunction))), (41, .int .i64 st1.2)] hS (by kernel_rfl) ?_; intro s hS
            obtain ⟨y8, hy8, h⟩ := bind_some h
            refine q_elt (sl := a0) (e := 99) [.str y8.Name, (Sl.t (y8.Params : Sl ByteArray)), (Sl.t (y8.Locals : Sl ByteArray)), .str y8.Label] rfl hS rfl rfl (by kernel_rfl) (by kernel_rfl) hy8 rfl ?_; intro rest4 s hS
            refine q_seg 3 [(0, (Sl.t (a0 : Sl DFunction))), (1, .int .i64 y7), (5, .int .i64 st1.2), (44, .str y8.Label), (45, .int .i64 y7)] hS (by kernel_rfl) ?_; intro s hS
            obtain ⟨y9, hy9, h⟩ := bind_some h
            refine q_callF (a := []) (b := []) (xs := [.int .i64 y7]) rfl hS rfl rfl hy9 ?_; intro s hS
            refine q_seg 1 [(0, (Sl.t (a0 : Sl DFunction))), (1, .int .i64 y7), (5, .int .i64 st1.2), (47, .bool (!decide (y8.Label = y9)))] hS (by kernel_rfl) ?_; intro s hS
            refine x_nil ?_
            refine sq_n ?_
            by_cases hc5 : (!decide (y8.Label = y9)) = true
            · have h := it_pos hc5 h
              refine c_cond hS rfl (fun _ => ?_) (fun hf => ff_absurd hc5 hf)
              refine c_seq ?_
              refine c_region ?_
              refine q_seg 1 [(4, .int .i64 (-1))] hS (by kernel_rfl) ?_; intro s hS
              refine x_nil ?_
              refine sq_n ?_
              refine c_ret ?_
              refine sq_r ?_
              refine bk_r ?_
              refine sq_r ?_
              injection h with h; subst h
              exact And.intro rfl (end_W hH (r_tmp (v := .int .i64 (-1)) hS rfl r_nil) rfl (by kernel_rfl) (by simp [pureT, pureL, E_i64]))
            · have h := it_neg hc5 h
              refine c_cond hS rfl (fun hf => tt_absurd hc5 hf) (fun _ => ?_)
              refine c_skip ?_
              refine sq_n ?_
              refine c_region ?_
              refine q_seg 3 [(0, (Sl.t (a0 : Sl DFunction))), (1, .int .i64 (IntKind.i64.wrap (y7 + 1))), (5, .int .i64 st1.2)] hS (by kernel_rfl) ?_; intro s hS
              refine x_nil ?_
              refine bk_n ?_
              refine sq_n ?_
              refine c_region ?_
              refine q_seg 3 [(0, (Sl.t (a0 : Sl DFunction))), (1, .int .i64 (IntKind.i64.wrap (y7 + 1))), (5, .int .i64 (IntKind.i64.wrap (st1.2 + 1)))] hS (by kernel_rfl) ?_; intro s hS
              refine x_nil ?_
              injection h with h; subst h
              exact And.intro (sub_to hS (by kernel_rfl)) hH
    · have h := it_neg hc1 h
      refine c_cond hS rfl (fun hf => tt_absurd hc1 hf) (fun _ => ?_)
      refine c_exit ?_
      refine sq_x ?_
      injection h with h; subst h
      exact And.intro rfl (And.intro (sub_to hS (by kernel_rfl)) hH)
  · clear hS hH; intro e fr HF; obtain ⟨s, σ⟩ := fr
    rcases y1 with y1 | y1
    · obtain ⟨rfl, hS, hH⟩ := HF
      refine bk_e ?_
      refine sq_n ?_
      refine c_seq ?_
      refine c_region ?_
      refine q_seg 2 [(4, .int .i64 y1)] hS (by kernel_rfl) ?_; intro s hS
      refine x_nil ?_
      refine sq_n ?_
      refine c_ret ?_
      injection h with h; subst h
      exact end_W hH (r_tmp (v := .int .i64 y1) hS rfl r_nil) rfl (by kernel_rfl) (by simp [pureT, pureL, E_i64])
    · obtain ⟨rfl, HE⟩ := HF
      refine bk_r ?_
      refine sq_r ?_
      injection h with h; subst h; exact HE
end Go.Am
end
section
set_option maxRecDepth 100000
set_option maxHeartbeats 4000000
set_option linter.unusedVariables false
set_option linter.unusedSimpArgs false
namespace Go.Am
open Go.Proofs
noncomputable def B_laws_heldRecordTypeS (a0 : (Sl DRecordType)) (a1 : Int) : Option Int := ((loopO (S := (Int × Int)) (R := (Int ⊕ Int)) (fun st1 => (if (decide (st1.2 < (a0.l.length : Int))) = true then ((elt a0 st1.2).bind fun y2 => ((F_laws_markText st1.1).bind fun y3 => (if (!decide (y2.Name = y3)) = true then (some (.inr (.inr (-1)))) else ((elt a0 st1.2).bind fun y4 => ((F_laws_heldStringS y4.Fields (IntKind.i64.wrap (st1.1 + 1))).bind fun y5 => (if (decide (y5 < 0)) = true then (some (.inr (.inr (-1)))) else (some (.inl (y5, (IntKind.i64.wrap (st1.2 + 1))))))))))) else (some (.inr (.inl st1.1))))) (a1, 0)).bind fun y1 => (Sum.elim (fun y1 => (some y1)) (fun y1 => (some y1)) y1))
theorem u_laws_heldRecordTypeS (a0 : (Sl DRecordType)) (a1 : Int) (r : Int) (h : B_laws_heldRecordTypeS a0 a1 = some r) : F_laws_heldRecordTypeS a0 a1 = some r := by
  unfold B_laws_heldRecordTypeS at h
  refine semW_of E_i64_inj rfl rfl ok_63 rfl (all_cons (by kernel_rfl) (all_cons (by kernel_rfl) all_nil)) ?_
  intro σ0 s hS hH
  have hS := sub_to (L' := [(0, (Sl.t (a0 : Sl DRecordType))), (1, .int .i64 a1)]) hS (by kernel_rfl)
  refine c_seq ?_
  refine c_region ?_
  refine q_seg 1 [(0, (Sl.t (a0 : Sl DRecordType))), (1, .int .i64 a1)] hS (by kernel_rfl) ?_; intro s hS
  refine x_nil ?_
  refine sq_n ?_
  refine c_seq ?_
  refine c_seq ?_
  refine c_region ?_
  refine q_seg 1 [(0, (Sl.t (a0 : Sl DRecordType))), (1, .int .i64 a1), (5, .int .i64 0)] hS (by kernel_rfl) ?_; intro s hS
  refine x_nil ?_
  refine sq_n ?_
  refine c_block ?_
  obtain ⟨y1, hy1, h⟩ := bind_some h
  refine c_loop (fun (st1 : (Int × Int)) (fr : Fr) => Sub [(0, (Sl.t (a0 : Sl DRecordType))), (1, .int .i64 st1.1), (5, .int .i64 st1.2)] fr.s ∧ Heap σ0 fr.σ []) (fun (y1 : (Int ⊕ Int)) (e : AExit) (fr : Fr) => (Sum.elim (fun y => e = (.exit 0) ∧ Sub [(1, .int .i64 y)] fr.s ∧ Heap σ0 fr.σ []) (fun y => e = .ret ∧ endW Try.prog (Try.f63.results.toList) σ0 (E_i64 y) .ret fr)) y1) hy1 (And.intro (sub_to hS (by kernel_rfl)) hH) ?_ ?_
  · clear h hy1 hS hH; clear y1; intro st1 x fr h HI; obtain ⟨s, σ⟩ := fr; obtain ⟨hS, hH⟩ := HI
    refine c_seq ?_
    refine c_seq ?_
    refine c_region ?_
    refine q_seg 4 [(0, (Sl.t (a0 : Sl DRecordType))), (1, .int .i64 st1.1), (5, .int .i64 st1.2), (9, .bool (decide (st1.2 < (a0.l.length : Int))))] hS (by kernel_rfl) ?_; intro s hS
    refine x_nil ?_
    refine sq_n ?_
    by_cases hc1 : (decide (st1.2 < (a0.l.length : Int))) = true
    · have h := it_pos hc1 h
      refine c_cond hS rfl (fun _ => ?_) (fun hf => ff_absurd hc1 hf)
      refine c_skip ?_
      refine sq_n ?_
      refine c_seq ?_
      refine c_block ?_
      refine c_seq ?_
      refine c_seq ?_
      refine c_draw (by kernel_rfl) hH ?_; intro mb σ hH
      refine q_seg 2 [(0, (Sl.t (a0 : Sl DRecordType))), (1, .int .i64 st1.1), (5, .int .i64 st1.2), (12, (Sl.t (a0 : Sl DRecordType))), (13, .int .i64 st1.2)] hS (by kernel_rfl) ?_; intro s hS
      obtain ⟨y2, hy2, h⟩ := bind_some h
      refine q_elt (sl := a0) (e := 101) [.str y2.Name, (Sl.t (y2.Fields : Sl ByteArray))] rfl hS rfl rfl (by kernel_rfl) (by kernel_rfl) hy2 rfl ?_; intro rest1 s hS
      refine q_seg 3 [(0, (Sl.t (a0 : Sl DRecordType))), (1, .int .i64 st1.1), (5, .int .i64 st1.2), (16, .str y2.Name), (17, .int .i64 st1.1)] hS (by kernel_rfl) ?_; intro s hS
      obtain ⟨y3, hy3, h⟩ := bind_some h
      refine q_callF (a := []) (b := []) (xs := [.int .i64 st1.1]) rfl hS rfl rfl hy3 ?_; intro s hS
      refine q_seg 1 [(0, (Sl.t (a0 : Sl DRecordType))), (1, .int .i64 st1.1), (5, .int .i64 st1.2), (19, .bool (!decide (y2.Name = y3)))] hS (by kernel_rfl) ?_; intro s hS
      refine x_nil ?_
      refine sq_n ?_
      by_cases hc2 : (!decide (y2.Name = y3)) = true
      · have h := it_pos hc2 h
        refine c_cond hS rfl (fun _ => ?_) (fun hf => ff_absurd hc2 hf)
        refine c_seq ?_
        refine c_region ?_
        refine q_seg 1 [(4, .int .i64 (-1))] hS (by kernel_rfl) ?_; intro s hS
        refine x_nil ?_
        refine sq_n ?_
        refine c_ret ?_
        refine sq_r ?_
        refine bk_r ?_
        refine sq_r ?_
        injection h with h; subst h
        exact And.intro rfl (end_W hH (r_tmp (v := .int .i64 (-1)) hS rfl r_nil) rfl (by kernel_rfl) (by simp [pureT, pureL, E_i64]))
      · have h := it_neg hc2 h
        refine c_cond hS rfl (fun hf => tt_absurd hc2 hf) (fun _ => ?_)
        refine c_skip ?_
        refine sq_n ?_
        refine c_seq ?_
        refine c_region ?_
        refine q_seg 3 [(0, (Sl.t (a0 : Sl DRecordType))), (1, .int .i64 (IntKind.i64.wrap (st1.1 + 1))), (5, .int .i64 st1.2)] hS (by kernel_rfl) ?_; intro s hS
        refine x_nil ?_
        refine sq_n ?_
        refine c_seq ?_
        refine c_region ?_
        refine q_seg 2 [(0, (Sl.t (a0 : Sl DRecordType))), (1, .int .i64 (IntKind.i64.wrap (st1.1 + 1))), (5, .int .i64 st1.2), (22, (Sl.t (a0 : Sl DRecordType))), (23, .int .i64 st1.2)] hS (by kernel_rfl) ?_; intro s hS
        obtain ⟨y4, hy4, h⟩ := bind_some h
        refine q_elt (sl := a0) (e := 101) [.str y4.Name, (Sl.t (y4.Fields : Sl ByteArray))] rfl hS rfl rfl (by kernel_rfl) (by kernel_rfl) hy4 rfl ?_; intro rest2 s hS
        refine q_seg 3 [(0, (Sl.t (a0 : Sl DRecordType))), (5, .int .i64 st1.2), (26, (Sl.t (y4.Fields : Sl ByteArray))), (27, .int .i64 (IntKind.i64.wrap (st1.1 + 1)))] hS (by kernel_rfl) ?_; intro s hS
        obtain ⟨y5, hy5, h⟩ := bind_some h
        refine q_callF (a := []) (b := []) (xs := [(Sl.t (y4.Fields : Sl ByteArray)), .int .i64 (IntKind.i64.wrap (st1.1 + 1))]) rfl hS rfl rfl hy5 ?_; intro s hS
        refine q_seg 1 [(0, (Sl.t (a0 : Sl DRecordType))), (1, .int .i64 y5), (5, .int .i64 st1.2)] hS (by kernel_rfl) ?_; intro s hS
        refine x_nil ?_
        refine sq_n ?_
        refine c_seq ?_
        refine c_region ?_
        refine q_seg 2 [(0, (Sl.t (a0 : Sl DRecordType))), (1, .int .i64 y5), (5, .int .i64 st1.2), (30, .bool (decide (y5 < 0)))] hS (by kernel_rfl) ?_; intro s hS
        refine x_nil ?_
        refine sq_n ?_
        by_cases hc3 : (decide (y5 < 0)) = true
        · have h := it_pos hc3 h
          refine c_cond hS rfl (fun _ => ?_) (fun hf => ff_absurd hc3 hf)
          refine c_seq ?_
          refine c_region ?_
          refine q_seg 1 [(4, .int .i64 (-1))] hS (by kernel_rfl) ?_; intro s hS
          refine x_nil ?_
          refine sq_n ?_
          refine c_ret ?_
          refine bk_r ?_
          refine sq_r ?_
          injection h with h; subst h
          exact And.intro rfl (end_W hH (r_tmp (v := .int .i64 (-1)) hS rfl r_nil) rfl (by kernel_rfl) (by simp [pureT, pureL, E_i64]))
        · have h := it_neg hc3 h
          refine c_cond hS rfl (fun hf => tt_absurd hc3 hf) (fun _ => ?_)
          refine c_skip ?_
          refine bk_n ?_
          refine sq_n ?_
          refine c_region ?_
          refine q_seg 3 [(0, (Sl.t (a0 : Sl DRecordType))), (1, .int .i64 y5), (5, .int .i64 (IntKind.i64.wrap (st1.2 + 1)))] hS (by kernel_rfl) ?_; intro s hS
          refine x_nil ?_
          injection h with h; subst h
          exact And.intro (sub_to hS (by kernel_rfl)) hH
    · have h := it_neg hc1 h
      refine c_cond hS rfl (fun hf => tt_absurd hc1 hf) (fun _ => ?_)
      refine c_exit ?_
      refine sq_x ?_
      injection h with h; subst h
      exact And.intro rfl (And.intro (sub_to hS (by kernel_rfl)) hH)
  · clear hS hH; intro e fr HF; obtain ⟨s, σ⟩ := fr
    rcases y1 with y1 | y1
    · obtain ⟨rfl, hS, hH⟩ := HF
      refine bk_e ?_
      refine sq_n ?_
      refine c_seq ?_
      refine c_region ?_
      refine q_seg 2 [(4, .int .i64 y1)] hS (by kernel_rfl) ?_; intro s hS
      refine x_nil ?_
      refine sq_n ?_
      refine c_ret ?_
      injection h with h; subst h
      exact end_W hH (r_tmp (v := .int .i64 y1) hS rfl r_nil) rfl (by kernel_rfl) (by simp [pureT, pureL, E_i64])
    · obtain ⟨rfl, HE⟩ := HF
      refine bk_r ?_
      refine sq_r ?_
      injection h with h; subst h; exact HE
end Go.Am
end
section
set_option maxRecDepth 100000
set_option maxHeartbeats 4000000
set_option linter.unusedVariables false
set_option linter.unusedSimpArgs false
namespace Go.Am
open Go.Proofs
noncomputable def B_laws_heldFileS (a0 : (Sl DFile)) (a1 : Int) : Option Int := ((loopO (S := (Int × Int)) (R := (Int ⊕ Int)) (fun st1 => (if (decide (st1.2 < (a0.l.length : Int))) = true then ((elt a0 st1.2).bind fun y2 => ((F_laws_markText st1.1).bind fun y3 => (if (!decide (y2.Name = y3)) = true then (some (.inr (.inr (-1)))) else ((elt a0 st1.2).bind fun y4 => ((F_laws_heldStringS y4.Lines (IntKind.i64.wrap (st1.1 + 1))).bind fun y5 => (if (decide (y5 < 0)) = true then (some (.inr (.inr (-1)))) else ((elt a0 st1.2).bind fun y6 => (if (!decide (y6.Mode = y5)) = true then (some (.inr (.inr (-1)))) else ((elt a0 st1.2).bind fun y7 => (if (!decide (y7.At = (IntKind.i64.wrap (y5 + 1)))) = true then (some (.inr (.inr (-1)))) else (some (.inl ((IntKind.i64.wrap ((IntKind.i64.wrap (y5 + 1)) + 1)), (IntKind.i64.wrap (st1.2 + 1))))))))))))))) else (some (.inr (.inl st1.1))))) (a1, 0)).bind fun y1 => (Sum.elim (fun y1 => (some y1)) (fun y1 => (some y1)) y1))
theorem u_laws_heldFileS (a0 : (Sl DFile)) (a1 : Int) (r : Int) (h : B_laws_heldFileS a0 a1 = some r) : F_laws_heldFileS a0 a1 = some r := by
  unfold B_laws_heldFileS at h
  refine semW_of E_i64_inj rfl rfl ok_64 rfl (all_cons (by kernel_rfl) (all_cons (by kernel_rfl) all_nil)) ?_
  intro σ0 s hS hH
  have hS := sub_to (L' := [(0, (Sl.t (a0 : Sl DFile))), (1, .int .i64 a1)]) hS (by kernel_rfl)
  refine c_seq ?_
  refine c_region ?_
  refine q_seg 1 [(0, (Sl.t (a0 : Sl DFile))), (1, .int .i64 a1)] hS (by kernel_rfl) ?_; intro s hS
  refine x_nil ?_
  refine sq_n ?_
  refine c_seq ?_
  refine c_seq ?_
  refine c_region ?_
  refine q_seg 1 [(0, (Sl.t (a0 : Sl DFile))), (1, .int .i64 a1), (5, .int .i64 0)] hS (by kernel_rfl) ?_; intro s hS
  refine x_nil ?_
  refine sq_n ?_
  refine c_block ?_
  obtain ⟨y1, hy1, h⟩ := bind_some h
  refine c_loop (fun (st1 : (Int × Int)) (fr : Fr) => Sub [(0, (Sl.t (a0 : Sl DFile))), (1, .int .i64 st1.1), (5, .int .i64 st1.2)] fr.s ∧ Heap σ0 fr.σ []) (fun (y1 : (Int ⊕ Int)) (e : AExit) (fr : Fr) => (Sum.elim (fun y => e = (.exit 0) ∧ Sub [(1, .int .i64 y)] fr.s ∧ Heap σ0 fr.σ []) (fun y => e = .ret ∧ endW Try.prog (Try.f64.results.toList) σ0 (E_i64 y) .ret fr)) y1) hy1 (And.intro (sub_to hS (by kernel_rfl)) hH) ?_ ?_
  · clear h hy1 hS hH; clear y1; intro st1 x fr h HI; obtain ⟨s, σ⟩ := fr; obtain ⟨hS, hH⟩ := HI
    refine c_seq ?_
    refine c_seq ?_
    refine c_region ?_
    refine q_seg 4 [(0, (Sl.t (a0 : Sl DFile))), (1, .int .i64 st1.1), (5, .int .i64 st1.2), (9, .bool (decide (st1.2 < (a0.l.length : Int))))] hS (by kernel_rfl) ?_; intro s hS
    refine x_nil ?_
    refine sq_n ?_
    by_cases hc1 : (decide (st1.2 < (a0.l.length : Int))) = true
    · have h := it_pos hc1 h
      refine c_cond hS rfl (fun _ => ?_) (fun hf => ff_absurd hc1 hf)
      refine c_skip ?_
      refine sq_n ?_
      refine c_seq ?_
      refine c_block ?_
      refine c_seq ?_
      refine c_seq ?_
      refine c_draw (by kernel_rfl) hH ?_; intro mb σ hH
      refine q_seg 2 [(0, (Sl.t (a0 : Sl DFile))), (1, .int .i64 st1.1), (5, .int .i64 st1.2), (12, (Sl.t (a0 : Sl DFile))), (13, .int .i64 st1.2)] hS (by kernel_rfl) ?_; intro s hS
      obtain ⟨y2, hy2, h⟩ := bind_some h
      refine q_elt (sl := a0) (e := 104) [.str y2.Name, (Sl.t (y2.Lines : Sl ByteArray)), .int .i64 y2.Mode, .int .i64 y2.At] rfl hS rfl rfl (by kernel_rfl) (by kernel_rfl) hy2 rfl ?_; intro rest1 s hS
      refine q_seg 3 [(0, (Sl.t (a0 : Sl DFile))), (1, .int .i64 st1.1), (5, .int .i64 st1.2), (16, .str y2.Name), (17, .int .i64 st1.1)] hS (by kernel_rfl) ?_; intro s hS
      obtain ⟨y3, hy3, h⟩ := bind_some h
      refine q_callF (a := []) (b := []) (xs := [.int .i64 st1.1]) rfl hS rfl rfl hy3 ?_; intro s hS
      refine q_seg 1 [(0, (Sl.t (a0 : Sl DFile))), (1, .int .i64 st1.1), (5, .int .i64 st1.2), (19, .bool (!decide (y2.Name = y3)))] hS (by kernel_rfl) ?_; intro s hS
      refine x_nil ?_
      refine sq_n ?_
      by_cases hc2 : (!decide (y2.Name = y3)) = true
      · have h := it_pos hc2 h
        refine c_cond hS rfl (fun _ => ?_) (fun hf => ff_absurd hc2 hf)
        refine c_seq ?_
        refine c_region ?_
        refine q_seg 1 [(4, .int .i64 (-1))] hS (by kernel_rfl) ?_; intro s hS
        refine x_nil ?_
        refine sq_n ?_
        refine c_ret ?_
        refine sq_r ?_
        refine bk_r ?_
        refine sq_r ?_
        injection h with h; subst h
        exact And.intro rfl (end_W hH (r_tmp (v := .int .i64 (-1)) hS rfl r_nil) rfl (by kernel_rfl) (by simp [pureT, pureL, E_i64]))
      · have h := it_neg hc2 h
        refine c_cond hS rfl (fun hf => tt_absurd hc2 hf) (fun _ => ?_)
        refine c_skip ?_
        refine sq_n ?_
        refine c_seq ?_
        refine c_region ?_
        refine q_seg 3 [(0, (Sl.t (a0 : Sl DFile))), (1, .int .i64 (IntKind.i64.wrap (st1.1 + 1))), (5, .int .i64 st1.2)] hS (by kernel_rfl) ?_; intro s hS
        refine x_nil ?_
        refine sq_n ?_
        refine c_seq ?_
        refine c_region ?_
        refine q_seg 2 [(0, (Sl.t (a0 : Sl DFile))), (1, .int .i64 (IntKind.i64.wrap (st1.1 + 1))), (5, .int .i64 st1.2), (22, (Sl.t (a0 : Sl DFile))), (23, .int .i64 st1.2)] hS (by kernel_rfl) ?_; intro s hS
        obtain ⟨y4, hy4, h⟩ := bind_some h
        refine q_elt (sl := a0) (e := 104) [.str y4.Name, (Sl.t (y4.Lines : Sl ByteArray)), .int .i64 y4.Mode, .int .i64 y4.At] rfl hS rfl rfl (by kernel_rfl) (by kernel_rfl) hy4 rfl ?_; intro rest2 s hS
        refine q_seg 3 [(0, (Sl.t (a0 : Sl DFile))), (5, .int .i64 st1.2), (26, (Sl.t (y4.Lines : Sl ByteArray))), (27, .int .i64 (IntKind.i64.wrap (st1.1 + 1)))] hS (by kernel_rfl) ?_; intro s hS
        obtain ⟨y5, hy5, h⟩ := bind_some h
        refine q_callF (a := []) (b := []) (xs := [(Sl.t (y4.Lines : Sl ByteArray)), .int .i64 (IntKind.i64.wrap (st1.1 + 1))]) rfl hS rfl rfl hy5 ?_; intro s hS
        refine q_seg 1 [(0, (Sl.t (a0 : Sl DFile))), (1, .int .i64 y5), (5, .int .i64 st1.2)] hS (by kernel_rfl) ?_; intro s hS
        refine x_nil ?_
        refine sq_n ?_
        refine c_seq ?_
        refine c_seq ?_
        refine c_region ?_
        refine q_seg 2 [(0, (Sl.t (a0 : Sl DFile))), (1, .int .i64 y5), (5, .int .i64 st1.2), (30, .bool (decide (y5 < 0)))] hS (by kernel_rfl) ?_; intro s hS
        refine x_nil ?_
        refine sq_n ?_
        by_cases hc3 : (decide (y5 < 0)) = true
        · have h := it_pos hc3 h
          refine c_cond hS rfl (fun _ => ?_) (fun hf => ff_absurd hc3 hf)
          refine c_seq ?_
          refine c_region ?_
          refine q_seg 1 [(4, .int .i64 (-1))] hS (by kernel_rfl) ?_; intro s hS
          refine x_nil ?_
          refine sq_n ?_
          refine c_ret ?_
          refine sq_r ?_
          refine bk_r ?_
          refine sq_r ?_
          injection h with h; subst h
          exact And.intro rfl (end_W hH (r_tmp (v := .int .i64 (-1)) hS rfl r_nil) rfl (by kernel_rfl) (by simp [pureT, pureL, E_i64]))
        · have h := it_neg hc3 h
          refine c_cond hS rfl (fun hf => tt_absurd hc3 hf) (fun _ => ?_)
          refine c_skip ?_
          refine sq_n ?_
          refine c_seq ?_
          refine c_seq ?_
          refine c_region ?_
          refine q_seg 2 [(0, (Sl.t (a0 : Sl DFile))), (1, .int .i64 y5), (5, .int .i64 st1.2), (31, (Sl.t (a0 : Sl DFile))), (32, .int .i64 st1.2)] hS (by kernel_rfl) ?_; intro s hS
          obtain ⟨y6, hy6, h⟩ := bind_some h
          refine q_elt (sl := a0) (e := 104) [.str y6.Name, (Sl.t (y6.Lines : Sl ByteArray)), .int .i64 y6.Mode, .int .i64 y6.At] rfl hS rfl rfl (by kernel_rfl) (by kernel_rfl) hy6 rfl ?_; intro rest3 s hS
          refine q_seg 4 [(0, (Sl.t (a0 : Sl DFile))), (1, .int .i64 y5), (5, .int .i64 st1.2), (37, .bool (!decide (y6.Mode = y5)))] hS (by kernel_rfl) ?_; intro s hS
          refine x_nil ?_
          refine sq_n ?_
          by_cases hc4 : (!decide (y6.Mode = y5)) = true
          · have h := it_pos hc4 h
            refine c_cond hS rfl (fun _ => ?_) (fun hf => ff_absurd hc4 hf)
            refine c_seq ?_
            refine c_region ?_
            refine q_seg 1 [(4, .int .i64 (-1))] hS (by kernel_rfl) ?_; intro s hS
            refine x_nil ?_
            refine sq_n ?_
            refine c_ret ?_
            refine sq_r ?_
            refine bk_r ?_
            refine sq_r ?_
            injection h with h; subst h
            exact And.intro rfl (end_W hH (r_tmp (v := .int .i64 (-1)) hS rfl r_nil) rfl (by kernel_rfl) (by simp [pureT, pureL, E_i64]))
          · have h := it_neg hc4 h
            refine c_cond hS rfl (fun hf => tt_absurd hc4 hf) (fun _ => ?_)
            refine c_skip ?_
            refine sq_n ?_
            refine c_seq ?_
            refine c_region ?_
            refine q_seg 3 [(0, (Sl.t (a0 : Sl DFile))), (1, .int .i64 (IntKind.i64.wrap (y5 + 1))), (5, .int .i64 st1.2)] hS (by kernel_rfl) ?_; intro s hS
            refine x_nil ?_
            refine sq_n ?_
            refine c_seq ?_
            refine c_seq ?_
            refine c_region ?_
            refine q_seg 2 [(0, (Sl.t (a0 : Sl DFile))), (1, .int .i64 (IntKind.i64.wrap (y5 + 1))), (5, .int .i64 st1.2), (40, (Sl.t (a0 : Sl DFile))), (41, .int .i64 st1.2)] hS (by kernel_rfl) ?_; intro s hS
            obtain ⟨y7, hy7, h⟩ := bind_some h
            refine q_elt (sl := a0) (e := 104) [.str y7.Name, (Sl.t (y7.Lines : Sl ByteArray)), .int .i64 y7.Mode, .int .i64 y7.At] rfl hS rfl rfl (by kernel_rfl) (by kernel_rfl) hy7 rfl ?_; intro rest4 s hS
            refine q_seg 4 [(0, (Sl.t (a0 : Sl DFile))), (1, .int .i64 (IntKind.i64.wrap (y5 + 1))), (5, .int .i64 st1.2), (46, .bool (!decide (y7.At = (IntKind.i64.wrap (y5 + 1)))))] hS (by kernel_rfl) ?_; intro s hS
            refine x_nil ?_
            refine sq_n ?_
            by_cases hc5 : (!decide (y7.At = (IntKind.i64.wrap (y5 + 1)))) = true
            · have h := it_pos hc5 h
              refine c_cond hS rfl (fun _ => ?_) (fun hf => ff_absurd hc5 hf)
              refine c_seq ?_
              refine c_region ?_
              refine q_seg 1 [(4, .int .i64 (-1))] hS (by kernel_rfl) ?_; intro s hS
              refine x_nil ?_
              refine sq_n ?_
              refine c_ret ?_
              refine sq_r ?_
              refine bk_r ?_
              refine sq_r ?_
              injection h with h; subst h
              exact And.intro rfl (end_W hH (r_tmp (v := .int .i64 (-1)) hS rfl r_nil) rfl (by kernel_rfl) (by simp [pureT, pureL, E_i64]))
            · have h := it_neg hc5 h
              refine c_cond hS rfl (fun hf => tt_absurd hc5 hf) (fun _ => ?_)
              refine c_skip ?_
              refine sq_n ?_
              refine c_region ?_
              refine q_seg 3 [(0, (Sl.t (a0 : Sl DFile))), (1, .int .i64 (IntKind.i64.wrap ((IntKind.i64.wrap (y5 + 1)) + 1))), (5, .int .i64 st1.2)] hS (by kernel_rfl) ?_; intro s hS
              refine x_nil ?_
              refine bk_n ?_
              refine sq_n ?_
              refine c_region ?_
              refine q_seg 3 [(0, (Sl.t (a0 : Sl DFile))), (1, .int .i64 (IntKind.i64.wrap ((IntKind.i64.wrap (y5 + 1)) + 1))), (5, .int .i64 (IntKind.i64.wrap (st1.2 + 1)))] hS (by kernel_rfl) ?_; intro s hS
              refine x_nil ?_
              injection h with h; subst h
              exact And.intro (sub_to hS (by kernel_rfl)) hH
    · have h := it_neg hc1 h
      refine c_cond hS rfl (fun hf => tt_absurd hc1 hf) (fun _ => ?_)
      refine c_exit ?_
      refine sq_x ?_
      injection h with h; subst h
      exact And.intro rfl (And.intro (sub_to hS (by kernel_rfl)) hH)
  · clear hS hH; intro e fr HF; obtain ⟨s, σ⟩ := fr
    rcases y1 with y1 | y1
    · obtain ⟨rfl, hS, hH⟩ := HF
      refine bk_e ?_
      refine sq_n ?_
      refine c_seq ?_
      refine c_region ?_
      refine q_seg 2 [(4, .int .i64 y1)] hS (by kernel_rfl) ?_; intro s hS
      refine x_nil ?_
      refine sq_n ?_
      refine c_ret ?_
      injection h with h; subst h
      exact end_W hH (r_tmp (v := .int .i64 y1) hS rfl r_nil) rfl (by kernel_rfl) (by simp [pureT, pureL, E_i64])
    · obtain ⟨rfl, HE⟩ := HF
      refine bk_r ?_
      refine sq_r ?_
      injection h with h; subst h; exact HE
end Go.Am
end
section
set_option maxRecDepth 100000
set_option maxHeartbeats 4000000
set_option linter.unusedVariables false
set_option linter.unusedSimpArgs false
namespace Go.Am
open Go.Proofs
noncomputable def B_laws_eqObject (a0 : DObject) (a1 : DObject) : Option Bool := (if (!decide (a0.Id = a1.Id)) = true then (some false) else (if (!decide (a0.Kind = a1.Kind)) = true then (some false) else (if (!decide (a0.Name = a1.Name)) = true then (some false) else (if (!decide (a0.Low = a1.Low)) = true then (some false) else ((F_laws_eqValueS a0.Keys a1.Keys).bind fun y1 => (if (!y1) = true then (some false) else ((F_laws_eqValueS a0.Vals a1.Vals).bind fun y2 => (if (!y2) = true then (some false) else ((F_laws_eqValue a0.Default a1.Default).bind fun y3 => (if (!y3) = true then (some false) else (some true)))))))))))
theorem u_laws_eqObject (a0 : DObject) (a1 : DObject) (r : Bool) (h : B_laws_eqObject a0 a1 = some r) : F_laws_eqObject a0 a1 = some r := by
  unfold B_laws_eqObject at h
  refine semW_of E_bool_inj rfl rfl ok_85 rfl (all_cons (by kernel_rfl) (all_cons (by kernel_rfl) all_nil)) ?_
  intro σ0 s hS hH
  have hS := sub_to (L' := [(0, .agg (DObject.cells a0)), (1, .agg (DObject.cells a1))]) hS (by kernel_rfl)
  refine c_seq ?_
  refine c_region ?_
  refine q_box (v := .agg (DObject.cells a0)) (cs := [.int .i64 a0.Id, .int .i64 a0.Kind, .str a0.Name, .int .i64 a0.Low, (Sl.t (a0.Keys : Sl DValue)), (Sl.t (a0.Vals : Sl DValue)), .int .i64 a0.Default.Kind, .int .i64 a0.Default.Num, .str a0.Default.Text, .int .i64 a0.Default.Ref]) rfl hS hH rfl rfl (by kernel_rfl) ?_; intro b1 σ s hH hS
  refine q_box (v := .agg (DObject.cells a1)) (cs := [.int .i64 a1.Id, .int .i64 a1.Kind, .str a1.Name, .int .i64 a1.Low, (Sl.t (a1.Keys : Sl DValue)), (Sl.t (a1.Vals : Sl DValue)), .int .i64 a1.Default.Kind, .int .i64 a1.Default.Num, .str a1.Default.Text, .int .i64 a1.Default.Ref]) rfl hS hH rfl rfl (by kernel_rfl) ?_; intro b2 σ s hH hS
  refine q_seg 1 [(2, .ptr b1 0 0 10), (3, .ptr b2 0 0 10)] hS (by kernel_rfl) ?_; intro s hS
  refine x_nil ?_
  refine sq_n ?_
  refine c_seq ?_
  refine c_seq ?_
  refine c_region ?_
  refine q_seg 1 [(2, .ptr b1 0 0 10), (3, .ptr b2 0 0 10), (5, .ptr b1 0 0 1)] hS (by kernel_rfl) ?_; intro s hS
  refine q_load (v := .int .i64 a0.Id) 1 trivial rfl hS hH rfl rfl (by kernel_rfl) ?_; intro s hS
  refine q_seg 1 [(2, .ptr b1 0 0 10), (3, .ptr b2 0 0 10), (6, .int .i64 a0.Id), (7, .ptr b2 0 0 1)] hS (by kernel_rfl) ?_; intro s hS
  refine q_load (v := .int .i64 a1.Id) 0 trivial rfl hS hH rfl rfl (by kernel_rfl) ?_; intro s hS
  refine q_seg 1 [(2, .ptr b1 0 0 10), (3, .ptr b2 0 0 10), (9, .bool (!decide (a0.Id = a1.Id)))] hS (by kernel_rfl) ?_; intro s hS
  refine x_nil ?_
  refine sq_n ?_
  by_cases hc1 : (!decide (a0.Id = a1.Id)) = true
  · have h := it_pos hc1 h
    refine c_cond hS rfl (fun _ => ?_) (fun hf => ff_absurd hc1 hf)
    refine c_seq ?_
    refine c_region ?_
    refine q_seg 1 [(4, .bool false)] hS (by kernel_rfl) ?_; intro s hS
    refine x_nil ?_
    refine sq_n ?_
    refine c_ret ?_
    refine sq_r ?_
    injection h with h; subst h
    exact end_W hH (r_tmp (v := .bool false) hS rfl r_nil) rfl (by kernel_rfl) (by simp [pureT, pureL, E_bool])
  · have h := it_neg hc1 h
    refine c_cond hS rfl (fun hf => tt_absurd hc1 hf) (fun _ => ?_)
    refine c_skip ?_
    refine sq_n ?_
    refine c_seq ?_
    refine c_seq ?_
    refine c_region ?_
    refine q_seg 1 [(2, .ptr b1 0 0 10), (3, .ptr b2 0 0 10), (10, .ptr b1 0 1 1)] hS (by kernel_rfl) ?_; intro s hS
    refine q_load (v := .int .i64 a0.Kind) 1 trivial rfl hS hH rfl rfl (by kernel_rfl) ?_; intro s hS
    refine q_seg 1 [(2, .ptr b1 0 0 10), (3, .ptr b2 0 0 10), (11, .int .i64 a0.Kind), (12, .ptr b2 0 1 1)] hS (by kernel_rfl) ?_; intro s hS
    refine q_load (v := .int .i64 a1.Kind) 0 trivial rfl hS hH rfl rfl (by kernel_rfl) ?_; intro s hS
    refine q_seg 1 [(2, .ptr b1 0 0 10), (3, .ptr b2 0 0 10), (14, .bool (!decide (a0.Kind = a1.Kind)))] hS (by kernel_rfl) ?_; intro s hS
    refine x_nil ?_
    refine sq_n ?_
    by_cases hc2 : (!decide (a0.Kind = a1.Kind)) = true
    · have h := it_pos hc2 h
      refine c_cond hS rfl (fun _ => ?_) (fun hf => ff_absurd hc2 hf)
      refine c_seq ?_
      refine c_region ?_
      refine q_seg 1 [(4, .bool false)] hS (by kernel_rfl) ?_; intro s hS
      refine x_nil ?_
      refine sq_n ?_
      refine c_ret ?_
      refine sq_r ?_
      injection h with h; subst h
      exact end_W hH (r_tmp (v := .bool false) hS rfl r_nil) rfl (by kernel_rfl) (by simp [pureT, pureL, E_bool])
    · have h := it_neg hc2 h
      refine c_cond hS rfl (fun hf => tt_absurd hc2 hf) (fun _ => ?_)
      refine c_skip ?_
      refine sq_n ?_
      refine c_seq ?_
      refine c_seq ?_
      refine c_region ?_
      refine q_seg 1 [(2, .ptr b1 0 0 10), (3, .ptr b2 0 0 10), (15, .ptr b1 0 2 1)] hS (by kernel_rfl) ?_; intro s hS
      refine q_load (v := .str a0.Name) 1 trivial rfl hS hH rfl rfl (by kernel_rfl) ?_; intro s hS
      refine q_seg 1 [(2, .ptr b1 0 0 10), (3, .ptr b2 0 0 10), (16, .str a0.Name), (17, .ptr b2 0 2 1)] hS (by kernel_rfl) ?_; intro s hS
      refine q_load (v := .str a1.Name) 0 trivial rfl hS hH rfl rfl (by kernel_rfl) ?_; intro s hS
      refine q_seg 1 [(2, .ptr b1 0 0 10), (3, .ptr b2 0 0 10), (19, .bool (!decide (a0.Name = a1.Name)))] hS (by kernel_rfl) ?_; intro s hS
      refine x_nil ?_
      refine sq_n ?_
      by_cases hc3 : (!decide (a0.Name = a1.Name)) = true
      · have h := it_pos hc3 h
        refine c_cond hS rfl (fun _ => ?_) (fun hf => ff_absurd hc3 hf)
        refine c_seq ?_
        refine c_region ?_
        refine q_seg 1 [(4, .bool false)] hS (by kernel_rfl) ?_; intro s hS
        refine x_nil ?_
        refine sq_n ?_
        refine c_ret ?_
        refine sq_r ?_
        injection h with h; subst h
        exact end_W hH (r_tmp (v := .bool false) hS rfl r_nil) rfl (by kernel_rfl) (by simp [pureT, pureL, E_bool])
      · have h := it_neg hc3 h
        refine c_cond hS rfl (fun hf => tt_absurd hc3 hf) (fun _ => ?_)
        refine c_skip ?_
        refine sq_n ?_
        refine c_seq ?_
        refine c_seq ?_
        refine c_region ?_
        refine q_seg 1 [(2, .ptr b1 0 0 10), (3, .ptr b2 0 0 10), (20, .ptr b1 0 3 1)] hS (by kernel_rfl) ?_; intro s hS
        refine q_load (v := .int .i64 a0.Low) 1 trivial rfl hS hH rfl rfl (by kernel_rfl) ?_; intro s hS
        refine q_seg 1 [(2, .ptr b1 0 0 10), (3, .ptr b2 0 0 10), (21, .int .i64 a0.Low), (22, .ptr b2 0 3 1)] hS (by kernel_rfl) ?_; intro s hS
        refine q_load (v := .int .i64 a1.Low) 0 trivial rfl hS hH rfl rfl (by kernel_rfl) ?_; intro s hS
        refine q_seg 1 [(2, .ptr b1 0 0 10), (3, .ptr b2 0 0 10), (24, .bool (!decide (a0.Low = a1.Low)))] hS (by kernel_rfl) ?_; intro s hS
        refine x_nil ?_
        refine sq_n ?_
        by_cases hc4 : (!decide (a0.Low = a1.Low)) = true
        · have h := it_pos hc4 h
          refine c_cond hS rfl (fun _ => ?_) (fun hf => ff_absurd hc4 hf)
          refine c_seq ?_
          refine c_region ?_
          refine q_seg 1 [(4, .bool false)] hS (by kernel_rfl) ?_; intro s hS
          refine x_nil ?_
          refine sq_n ?_
          refine c_ret ?_
          refine sq_r ?_
          injection h with h; subst h
          exact end_W hH (r_tmp (v := .bool false) hS rfl r_nil) rfl (by kernel_rfl) (by simp [pureT, pureL, E_bool])
        · have h := it_neg hc4 h
          refine c_cond hS rfl (fun hf => tt_absurd hc4 hf) (fun _ => ?_)
          refine c_skip ?_
          refine sq_n ?_
          refine c_seq ?_
          refine c_seq ?_
          refine c_region ?_
          refine q_seg 1 [(2, .ptr b1 0 0 10), (3, .ptr b2 0 0 10), (25, .ptr b1 0 4 1)] hS (by kernel_rfl) ?_; intro s hS
          refine q_load (v := (Sl.t (a0.Keys : Sl DValue))) 1 trivial rfl hS hH rfl rfl (by kernel_rfl) ?_; intro s hS
          refine q_seg 1 [(2, .ptr b1 0 0 10), (3, .ptr b2 0 0 10), (26, (Sl.t (a0.Keys : Sl DValue))), (27, .ptr b2 0 4 1)] hS (by kernel_rfl) ?_; intro s hS
          refine q_load (v := (Sl.t (a1.Keys : Sl DValue))) 0 trivial rfl hS hH rfl rfl (by kernel_rfl) ?_; intro s hS
          obtain ⟨y1, hy1, h⟩ := bind_some h
          refine q_callF (a := []) (b := []) (xs := [(Sl.t (a0.Keys : Sl DValue)), (Sl.t (a1.Keys : Sl DValue))]) rfl hS rfl rfl hy1 ?_; intro s hS
          refine q_seg 1 [(2, .ptr b1 0 0 10), (3, .ptr b2 0 0 10), (30, .bool (!y1))] hS (by kernel_rfl) ?_; intro s hS
          refine x_nil ?_
          refine sq_n ?_
          by_cases hc5 : (!y1) = true
          · have h := it_pos hc5 h
            refine c_cond hS rfl (fun _ => ?_) (fun hf => ff_absurd hc5 hf)
            refine c_seq ?_
            refine c_region ?_
            refine q_seg 1 [(4, .bool false)] hS (by kernel_rfl) ?_; intro s hS
            refine x_nil ?_
            refine sq_n ?_
            refine c_ret ?_
            refine sq_r ?_
            injection h with h; subst h
            exact end_W hH (r_tmp (v := .bool false) hS rfl r_nil) rfl (by kernel_rfl) (by simp [pureT, pureL, E_bool])
          · have h := it_neg hc5 h
            refine c_cond hS rfl (fun hf => tt_absurd hc5 hf) (fun _ => ?_)
            refine c_skip ?_
            refine sq_n ?_
            refine c_seq ?_
            refine c_seq ?_
            refine c_region ?_
            refine q_seg 1 [(2, .ptr b1 0 0 10), (3, .ptr b2 0 0 10), (31, .ptr b1 0 5 1)] hS (by kernel_rfl) ?_; intro s hS
            refine q_load (v := (Sl.t (a0.Vals : Sl DValue))) 1 trivial rfl hS hH rfl rfl (by kernel_rfl) ?_; intro s hS
            refine q_seg 1 [(2, .ptr b1 0 0 10), (3, .ptr b2 0 0 10), (32, (Sl.t (a0.Vals : Sl DValue))), (33, .ptr b2 0 5 1)] hS (by kernel_rfl) ?_; intro s hS
            refine q_load (v := (Sl.t (a1.Vals : Sl DValue))) 0 trivial rfl hS hH rfl rfl (by kernel_rfl) ?_; intro s hS
            obtain ⟨y2, hy2, h⟩ := bind_some h
            refine q_callF (a := []) (b := []) (xs := [(Sl.t (a0.Vals : Sl DValue)), (Sl.t (a1.Vals : Sl DValue))]) rfl hS rfl rfl hy2 ?_; intro s hS
            refine q_seg 1 [(2, .ptr b1 0 0 10), (3, .ptr b2 0 0 10), (36, .bool (!y2))] hS (by kernel_rfl) ?_; intro s hS
            refine x_nil ?_
            refine sq_n ?_
            by_cases hc6 : (!y2) = true
            · have h := it_pos hc6 h
              refine c_cond hS rfl (fun _ => ?_) (fun hf => ff_absurd hc6 hf)
              refine c_seq ?_
              refine c_region ?_
              refine q_seg 1 [(4, .bool false)] hS (by kernel_rfl) ?_; intro s hS
              refine x_nil ?_
              refine sq_n ?_
              refine c_ret ?_
              refine sq_r ?_
              injection h with h; subst h
              exact end_W hH (r_tmp (v := .bool false) hS rfl r_nil) rfl (by kernel_rfl) (by simp [pureT, pureL, E_bool])
            · have h := it_neg hc6 h
              refine c_cond hS rfl (fun hf => tt_absurd hc6 hf) (fun _ => ?_)
              refine c_skip ?_
              refine sq_n ?_
              refine c_seq ?_
              refine c_seq ?_
              refine c_region ?_
              refine q_seg 1 [(3, .ptr b2 0 0 10), (37, .ptr b1 0 6 4)] hS (by kernel_rfl) ?_; intro s hS
              refine q_load (v := .agg (DValue.cells a0.Default)) 1 trivial rfl hS hH rfl rfl (by kernel_rfl) ?_; intro s hS
              refine q_seg 1 [(38, .agg (DValue.cells a0.Default)), (39, .ptr b2 0 6 4)] hS (by kernel_rfl) ?_; intro s hS
              refine q_load (v := .agg (DValue.cells a1.Default)) 0 trivial rfl hS hH rfl rfl (by kernel_rfl) ?_; intro s hS
              obtain ⟨y3, hy3, h⟩ := bind_some h
              refine q_callF (a := []) (b := []) (xs := [.agg (DValue.cells a0.Default), .agg (DValue.cells a1.Default)]) rfl hS rfl rfl hy3 ?_; intro s hS
              refine q_seg 1 [(42, .bool (!y3))] hS (by kernel_rfl) ?_; intro s hS
              refine x_nil ?_
              refine sq_n ?_
              by_cases hc7 : (!y3) = true
              · have h := it_pos hc7 h
                refine c_cond hS rfl (fun _ => ?_) (fun hf => ff_absurd hc7 hf)
                refine c_seq ?_
                refine c_region ?_
                refine q_seg 1 [(4, .bool false)] hS (by kernel_rfl) ?_; intro s hS
                refine x_nil ?_
                refine sq_n ?_
                refine c_ret ?_
                refine sq_r ?_
                injection h with h; subst h
                exact end_W hH (r_tmp (v := .bool false) hS rfl r_nil) rfl (by kernel_rfl) (by simp [pureT, pureL, E_bool])
              · have h := it_neg hc7 h
                refine c_cond hS rfl (fun hf => tt_absurd hc7 hf) (fun _ => ?_)
                refine c_skip ?_
                refine sq_n ?_
                refine c_seq ?_
                refine c_region ?_
                refine q_seg 1 [(4, .bool true)] hS (by kernel_rfl) ?_; intro s hS
                refine x_nil ?_
                refine sq_n ?_
                refine c_ret ?_
                injection h with h; subst h
                exact end_W hH (r_tmp (v := .bool true) hS rfl r_nil) rfl (by kernel_rfl) (by simp [pureT, pureL, E_bool])
end Go.Am
end
section
set_option maxRecDepth 100000
set_option maxHeartbeats 4000000
set_option linter.unusedVariables false
set_option linter.unusedSimpArgs false
namespace Go.Am
open Go.Proofs
noncomputable def B_laws_eqBinding (a0 : DBinding) (a1 : DBinding) : Option Bool := (if (!decide (a0.Name = a1.Name)) = true then (some false) else ((F_laws_eqValue a0.Value a1.Value).bind fun y1 => (if (!y1) = true then (some false) else (some true))))
theorem u_laws_eqBinding (a0 : DBinding) (a1 : DBinding) (r : Bool) (h : B_laws_eqBinding a0 a1 = some r) : F_laws_eqBinding a0 a1 = some r := by
  unfold B_laws_eqBinding at h
  refine semW_of E_bool_inj rfl rfl ok_86 rfl (all_cons (by kernel_rfl) (all_cons (by kernel_rfl) all_nil)) ?_
  intro σ0 s hS hH
  have hS := sub_to (L' := [(0, .agg (DBinding.cells a0)), (1, .agg (DBinding.cells a1))]) hS (by kernel_rfl)
  refine c_seq ?_
  refine c_region ?_
  refine q_box (v := .agg (DBinding.cells a0)) (cs := [.str a0.Name, .int .i64 a0.Value.Kind, .int .i64 a0.Value.Num, .str a0.Value.Text, .int .i64 a0.Value.Ref]) rfl hS hH rfl rfl (by kernel_rfl) ?_; intro b1 σ s hH hS
  refine q_box (v := .agg (DBinding.cells a1)) (cs := [.str a1.Name, .int .i64 a1.Value.Kind, .int .i64 a1.Value.Num, .str a1.Value.Text, .int .i64 a1.Value.Ref]) rfl hS hH rfl rfl (by kernel_rfl) ?_; intro b2 σ s hH hS
  refine q_seg 1 [(2, .ptr b1 0 0 5), (3, .ptr b2 0 0 5)] hS (by kernel_rfl) ?_; intro s hS
  refine x_nil ?_
  refine sq_n ?_
  refine c_seq ?_
  refine c_seq ?_
  refine c_region ?_
  refine q_seg 1 [(2, .ptr b1 0 0 5), (3, .ptr b2 0 0 5), (5, .ptr b1 0 0 1)] hS (by kernel_rfl) ?_; intro s hS
  refine q_load (v := .str a0.Name) 1 trivial rfl hS hH rfl rfl (by kernel_rfl) ?_; intro s hS
  refine q_seg 1 [(2, .ptr b1 0 0 5), (3, .ptr b2 0 0 5), (6, .str a0.Name), (7, .ptr b2 0 0 1)] hS (by kernel_rfl) ?_; intro s hS
  refine q_load (v := .str a1.Name) 0 trivial rfl hS hH rfl rfl (by kernel_rfl) ?_; intro s hS
  refine q_seg 1 [(2, .ptr b1 0 0 5), (3, .ptr b2 0 0 5), (9, .bool (!decide (a0.Name = a1.Name)))] hS (by kernel_rfl) ?_; intro s hS
  refine x_nil ?_
  refine sq_n ?_
  by_cases hc1 : (!decide (a0.Name = a1.Name)) = true
  · have h := it_pos hc1 h
    refine c_cond hS rfl (fun _ => ?_) (fun hf => ff_absurd hc1 hf)
    refine c_seq ?_
    refine c_region ?_
    refine q_seg 1 [(4, .bool false)] hS (by kernel_rfl) ?_; intro s hS
    refine x_nil ?_
    refine sq_n ?_
    refine c_ret ?_
    refine sq_r ?_
    injection h with h; subst h
    exact end_W hH (r_tmp (v := .bool false) hS rfl r_nil) rfl (by kernel_rfl) (by simp [pureT, pureL, E_bool])
  · have h := it_neg hc1 h
    refine c_cond hS rfl (fun hf => tt_absurd hc1 hf) (fun _ => ?_)
    refine c_skip ?_
    refine sq_n ?_
    refine c_seq ?_
    refine c_seq ?_
    refine c_region ?_
    refine q_seg 1 [(3, .ptr b2 0 0 5), (10, .ptr b1 0 1 4)] hS (by kernel_rfl) ?_; intro s hS
    refine q_load (v := .agg (DValue.cells a0.Value)) 1 trivial rfl hS hH rfl rfl (by kernel_rfl) ?_; intro s hS
    refine q_seg 1 [(11, .agg (DValue.cells a0.Value)), (12, .ptr b2 0 1 4)] hS (by kernel_rfl) ?_; intro s hS
    refine q_load (v := .agg (DValue.cells a1.Value)) 0 trivial rfl hS hH rfl rfl (by kernel_rfl) ?_; intro s hS
    obtain ⟨y1, hy1, h⟩ := bind_some h
    refine q_callF (a := []) (b := []) (xs := [.agg (DValue.cells a0.Value), .agg (DValue.cells a1.Value)]) rfl hS rfl rfl hy1 ?_; intro s hS
    refine q_seg 1 [(15, .bool (!y1))] hS (by kernel_rfl) ?_; intro s hS
    refine x_nil ?_
    refine sq_n ?_
    by_cases hc2 : (!y1) = true
    · have h := it_pos hc2 h
      refine c_cond hS rfl (fun _ => ?_) (fun hf => ff_absurd hc2 hf)
      refine c_seq ?_
      refine c_region ?_
      refine q_seg 1 [(4, .bool false)] hS (by kernel_rfl) ?_; intro s hS
      refine x_nil ?_
      refine sq_n ?_
      refine c_ret ?_
      refine sq_r ?_
      injection h with h; subst h
      exact end_W hH (r_tmp (v := .bool false) hS rfl r_nil) rfl (by kernel_rfl) (by simp [pureT, pureL, E_bool])
    · have h := it_neg hc2 h
      refine c_cond hS rfl (fun hf => tt_absurd hc2 hf) (fun _ => ?_)
      refine c_skip ?_
      refine sq_n ?_
      refine c_seq ?_
      refine c_region ?_
      refine q_seg 1 [(4, .bool true)] hS (by kernel_rfl) ?_; intro s hS
      refine x_nil ?_
      refine sq_n ?_
      refine c_ret ?_
      injection h with h; subst h
      exact end_W hH (r_tmp (v := .bool true) hS rfl r_nil) rfl (by kernel_rfl) (by simp [pureT, pureL, E_bool])
end Go.Am
end
section
set_option maxRecDepth 100000
set_option maxHeartbeats 4000000
set_option linter.unusedVariables false
set_option linter.unusedSimpArgs false
namespace Go.Am
open Go.Proofs
noncomputable def B_laws_eqFunction (a0 : DFunction) (a1 : DFunction) : Option Bool := (if (!decide (a0.Name = a1.Name)) = true then (some false) else ((F_laws_eqStringS a0.Params a1.Params).bind fun y1 => (if (!y1) = true then (some false) else ((F_laws_eqStringS a0.Locals a1.Locals).bind fun y2 => (if (!y2) = true then (some false) else (if (!decide (a0.Label = a1.Label)) = true then (some false) else (some true)))))))
theorem u_laws_eqFunction (a0 : DFunction) (a1 : DFunction) (r : Bool) (h : B_laws_eqFunction a0 a1 = some r) : F_laws_eqFunction a0 a1 = some r := by
  unfold B_laws_eqFunction at h
  refine semW_of E_bool_inj rfl rfl ok_87 rfl (all_cons (by kernel_rfl) (all_cons (by kernel_rfl) all_nil)) ?_
  intro σ0 s hS hH
  have hS := sub_to (L' := [(0, .agg (DFunction.cells a0)), (1, .agg (DFunction.cells a1))]) hS (by kernel_rfl)
  refine c_seq ?_
  refine c_region ?_
  refine q_box (v := .agg (DFunction.cells a0)) (cs := [.str a0.Name, (Sl.t (a0.Params : Sl ByteArray)), (Sl.t (a0.Locals : Sl ByteArray)), .str a0.Label]) rfl hS hH rfl rfl (by kernel_rfl) ?_; intro b1 σ s hH hS
  refine q_box (v := .agg (DFunction.cells a1)) (cs := [.str a1.Name, (Sl.t (a1.Params : Sl ByteArray)), (Sl.t (a1.Locals : Sl ByteArray)), .str a1.Label]) rfl hS hH rfl rfl (by kernel_rfl) ?_; intro b2 σ s hH hS
  refine q_seg 1 [(2, .ptr b1 0 0 4), (3, .ptr b2 0 0 4)] hS (by kernel_rfl) ?_; intro s hS
  refine x_nil ?_
  refine sq_n ?_
  refine c_seq ?_
  refine c_seq ?_
  refine c_region ?_
  refine q_seg 1 [(2, .ptr b1 0 0 4), (3, .ptr b2 0 0 4), (5, .ptr b1 0 0 1)] hS (by kernel_rfl) ?_; intro s hS
  refine q_load (v := .str a0.Name) 1 trivial rfl hS hH rfl rfl (by kernel_rfl) ?_; intro s hS
  refine q_seg 1 [(2, .ptr b1 0 0 4), (3, .ptr b2 0 0 4), (6, .str a0.Name), (7, .ptr b2 0 0 1)] hS (by kernel_rfl) ?_; intro s hS
  refine q_load (v := .str a1.Name) 0 trivial rfl hS hH rfl rfl (by kernel_rfl) ?_; intro s hS
  refine q_seg 1 [(2, .ptr b1 0 0 4), (3, .ptr b2 0 0 4), (9, .bool (!decide (a0.Name = a1.Name)))] hS (by kernel_rfl) ?_; intro s hS
  refine x_nil ?_
  refine sq_n ?_
  by_cases hc1 : (!decide (a0.Name = a1.Name)) = true
  · have h := it_pos hc1 h
    refine c_cond hS rfl (fun _ => ?_) (fun hf => ff_absurd hc1 hf)
    refine c_seq ?_
    refine c_region ?_
    refine q_seg 1 [(4, .bool false)] hS (by kernel_rfl) ?_; intro s hS
    refine x_nil ?_
    refine sq_n ?_
    refine c_ret ?_
    refine sq_r ?_
    injection h with h; subst h
    exact end_W hH (r_tmp (v := .bool false) hS rfl r_nil) rfl (by kernel_rfl) (by simp [pureT, pureL, E_bool])
  · have h := it_neg hc1 h
    refine c_cond hS rfl (fun hf => tt_absurd hc1 hf) (fun _ => ?_)
    refine c_skip ?_
    refine sq_n ?_
    refine c_seq ?_
    refine c_seq ?_
    refine c_region ?_
    refine q_seg 1 [(2, .ptr b1 0 0 4), (3, .ptr b2 0 0 4), (10, .ptr b1 0 1 1)] hS (by kernel_rfl) ?_; intro s hS
    refine q_load (v := (Sl.t (a0.Params : Sl ByteArray))) 1 trivial rfl hS hH rfl rfl (by kernel_rfl) ?_; intro s hS
    refine q_seg 1 [(2, .ptr b1 0 0 4), (3, .ptr b2 0 0 4), (11, (Sl.t (a0.Params : Sl ByteArray))), (12, .ptr b2 0 1 1)] hS (by kernel_rfl) ?_; intro s hS
    refine q_load (v := (Sl.t (a1.Params : Sl ByteArray))) 0 trivial rfl hS hH rfl rfl (by kernel_rfl) ?_; intro s hS
    obtain ⟨y1, hy1, h⟩ := bind_some h
    refine q_callF (a := []) (b := []) (xs := [(Sl.t (a0.Params : Sl ByteArray)), (Sl.t (a1.Params : Sl ByteArray))]) rfl hS rfl rfl hy1 ?_; intro s hS
    refine q_seg 1 [(2, .ptr b1 0 0 4), (3, .ptr b2 0 0 4), (15, .bool (!y1))] hS (by kernel_rfl) ?_; intro s hS
    refine x_nil ?_
    refine sq_n ?_
    by_cases hc2 : (!y1) = true
    · have h := it_pos hc2 h
      refine c_cond hS rfl (fun _ => ?_) (fun hf => ff_absurd hc2 hf)
      refine c_seq ?_
      refine c_region ?_
      refine q_seg 1 [(4, .bool false)] hS (by kernel_rfl) ?_; intro s hS
      refine x_nil ?_
      refine sq_n ?_
      refine c_ret ?_
      refine sq_r ?_
      injection h with h; subst h
      exact end_W hH (r_tmp (v := .bool false) hS rfl r_nil) rfl (by kernel_rfl) (by simp [pureT, pureL, E_bool])
    · have h := it_neg hc2 h
      refine c_cond hS rfl (fun hf => tt_absurd hc2 hf) (fun _ => ?_)
      refine c_skip ?_
      refine sq_n ?_
      refine c_seq ?_
      refine c_seq ?_
      refine c_region ?_
      refine q_seg 1 [(2, .ptr b1 0 0 4), (3, .ptr b2 0 0 4), (16, .ptr b1 0 2 1)] hS (by kernel_rfl) ?_; intro s hS
      refine q_load (v := (Sl.t (a0.Locals : Sl ByteArray))) 1 trivial rfl hS hH rfl rfl (by kernel_rfl) ?_; intro s hS
      refine q_seg 1 [(2, .ptr b1 0 0 4), (3, .ptr b2 0 0 4), (17, (Sl.t (a0.Locals : Sl ByteArray))), (18, .ptr b2 0 2 1)] hS (by kernel_rfl) ?_; intro s hS
      refine q_load (v := (Sl.t (a1.Locals : Sl ByteArray))) 0 trivial rfl hS hH rfl rfl (by kernel_rfl) ?_; intro s hS
      obtain ⟨y2, hy2, h⟩ := bind_some h
      refine q_callF (a := []) (b := []) (xs := [(Sl.t (a0.Locals : Sl ByteArray)), (Sl.t (a1.Locals : Sl ByteArray))]) rfl hS rfl rfl hy2 ?_; intro s hS
      refine q_seg 1 [(2, .ptr b1 0 0 4), (3, .ptr b2 0 0 4), (21, .bool (!y2))] hS (by kernel_rfl) ?_; intro s hS
      refine x_nil ?_
      refine sq_n ?_
      by_cases hc3 : (!y2) = true
      · have h := it_pos hc3 h
        refine c_cond hS rfl (fun _ => ?_) (fun hf => ff_absurd hc3 hf)
        refine c_seq ?_
        refine c_region ?_
        refine q_seg 1 [(4, .bool false)] hS (by kernel_rfl) ?_; intro s hS
        refine x_nil ?_
        refine sq_n ?_
        refine c_ret ?_
        refine sq_r ?_
        injection h with h; subst h
        exact end_W hH (r_tmp (v := .bool false) hS rfl r_nil) rfl (by kernel_rfl) (by simp [pureT, pureL, E_bool])
      · have h := it_neg hc3 h
        refine c_cond hS rfl (fun hf => tt_absurd hc3 hf) (fun _ => ?_)
        refine c_skip ?_
        refine sq_n ?_
        refine c_seq ?_
        refine c_seq ?_
        refine c_region ?_
        refine q_seg 1 [(3, .ptr b2 0 0 4), (22, .ptr b1 0 3 1)] hS (by kernel_rfl) ?_; intro s hS
        refine q_load (v := .str a0.Label) 1 trivial rfl hS hH rfl rfl (by kernel_rfl) ?_; intro s hS
        refine q_seg 1 [(23, .str a0.Label), (24, .ptr b2 0 3 1)] hS (by kernel_rfl) ?_; intro s hS
        refine q_load (v := .str a1.Label) 0 trivial rfl hS hH rfl rfl (by kernel_rfl) ?_; intro s hS
        refine q_seg 1 [(26, .bool (!decide (a0.Label = a1.Label)))] hS (by kernel_rfl) ?_; intro s hS
        refine x_nil ?_
        refine sq_n ?_
        by_cases hc4 : (!decide (a0.Label = a1.Label)) = true
        · have h := it_pos hc4 h
          refine c_cond hS rfl (fun _ => ?_) (fun hf => ff_absurd hc4 hf)
          refine c_seq ?_
          refine c_region ?_
          refine q_seg 1 [(4, .bool false)] hS (by kernel_rfl) ?_; intro s hS
          refine x_nil ?_
          refine sq_n ?_
          refine c_ret ?_
          refine sq_r ?_
          injection h with h; subst h
          exact end_W hH (r_tmp (v := .bool false) hS rfl r_nil) rfl (by kernel_rfl) (by simp [pureT, pureL, E_bool])
        · have h := it_neg hc4 h
          refine c_cond hS rfl (fun hf => tt_absurd hc4 hf) (fun _ => ?_)
          refine c_skip ?_
          refine sq_n ?_
          refine c_seq ?_
          refine c_region ?_
          refine q_seg 1 [(4, .bool true)] hS (by kernel_rfl) ?_; intro s hS
          refine x_nil ?_
          refine sq_n ?_
          refine c_ret ?_
          injection h with h; subst h
          exact end_W hH (r_tmp (v := .bool true) hS rfl r_nil) rfl (by kernel_rfl) (by simp [pureT, pureL, E_bool])
end Go.Am
end
section
set_option maxRecDepth 100000
set_option maxHeartbeats 4000000
set_option linter.unusedVariables false
set_option linter.unusedSimpArgs false
namespace Go.Am
open Go.Proofs
noncomputable def B_laws_eqRecordType (a0 : DRecordType) (a1 : DRecordType) : Option Bool := (if (!decide (a0.Name = a1.Name)) = true then (some false) else ((F_laws_eqStringS a0.Fields a1.Fields).bind fun y1 => (if (!y1) = true then (some false) else (some true))))
theorem u_laws_eqRecordType (a0 : DRecordType) (a1 : DRecordType) (r : Bool) (h : B_laws_eqRecordType a0 a1 = some r) : F_laws_eqRecordType a0 a1 = some r := by
  unfold B_laws_eqRecordType at h
  refine semW_of E_bool_inj rfl rfl ok_88 rfl (all_cons (by kernel_rfl) (all_cons (by kernel_rfl) all_nil)) ?_
  intro σ0 s hS hH
  have hS := sub_to (L' := [(0, .agg (DRecordType.cells a0)), (1, .agg (DRecordType.cells a1))]) hS (by kernel_rfl)
  refine c_seq ?_
  refine c_region ?_
  refine q_box (v := .agg (DRecordType.cells a0)) (cs := [.str a0.Name, (Sl.t (a0.Fields : Sl ByteArray))]) rfl hS hH rfl rfl (by kernel_rfl) ?_; intro b1 σ s hH hS
  refine q_box (v := .agg (DRecordType.cells a1)) (cs := [.str a1.Name, (Sl.t (a1.Fields : Sl ByteArray))]) rfl hS hH rfl rfl (by kernel_rfl) ?_; intro b2 σ s hH hS
  refine q_seg 1 [(2, .ptr b1 0 0 2), (3, .ptr b2 0 0 2)] hS (by kernel_rfl) ?_; intro s hS
  refine x_nil ?_
  refine sq_n ?_
  refine c_seq ?_
  refine c_seq ?_
  refine c_region ?_
  refine q_seg 1 [(2, .ptr b1 0 0 2), (3, .ptr b2 0 0 2), (5, .ptr b1 0 0 1)] hS (by kernel_rfl) ?_; intro s hS
  refine q_load (v := .str a0.Name) 1 trivial rfl hS hH rfl rfl (by kernel_rfl) ?_; intro s hS
  refine q_seg 1 [(2, .ptr b1 0 0 2), (3, .ptr b2 0 0 2), (6, .str a0.Name), (7, .ptr b2 0 0 1)] hS (by kernel_rfl) ?_; intro s hS
  refine q_load (v := .str a1.Name) 0 trivial rfl hS hH rfl rfl (by kernel_rfl) ?_; intro s hS
  refine q_seg 1 [(2, .ptr b1 0 0 2), (3, .ptr b2 0 0 2), (9, .bool (!decide (a0.Name = a1.Name)))] hS (by kernel_rfl) ?_; intro s hS
  refine x_nil ?_
  refine sq_n ?_
  by_cases hc1 : (!decide (a0.Name = a1.Name)) = true
  · have h := it_pos hc1 h
    refine c_cond hS rfl (fun _ => ?_) (fun hf => ff_absurd hc1 hf)
    refine c_seq ?_
    refine c_region ?_
    refine q_seg 1 [(4, .bool false)] hS (by kernel_rfl) ?_; intro s hS
    refine x_nil ?_
    refine sq_n ?_
    refine c_ret ?_
    refine sq_r ?_
    injection h with h; subst h
    exact end_W hH (r_tmp (v := .bool false) hS rfl r_nil) rfl (by kernel_rfl) (by simp [pureT, pureL, E_bool])
  · have h := it_neg hc1 h
    refine c_cond hS rfl (fun hf => tt_absurd hc1 hf) (fun _ => ?_)
    refine c_skip ?_
    refine sq_n ?_
    refine c_seq ?_
    refine c_seq ?_
    refine c_region ?_
    refine q_seg 1 [(3, .ptr b2 0 0 2), (10, .ptr b1 0 1 1)] hS (by kernel_rfl) ?_; intro s hS
    refine q_load (v := (Sl.t (a0.Fields : Sl ByteArray))) 1 trivial rfl hS hH rfl rfl (by kernel_rfl) ?_; intro s hS
    refine q_seg 1 [(11, (Sl.t (a0.Fields : Sl ByteArray))), (12, .ptr b2 0 1 1)] hS (by kernel_rfl) ?_; intro s hS
    refine q_load (v := (Sl.t (a1.Fields : Sl ByteArray))) 0 trivial rfl hS hH rfl rfl (by kernel_rfl) ?_; intro s hS
    obtain ⟨y1, hy1, h⟩ := bind_some h
    refine q_callF (a := []) (b := []) (xs := [(Sl.t (a0.Fields : Sl ByteArray)), (Sl.t (a1.Fields : Sl ByteArray))]) rfl hS rfl rfl hy1 ?_; intro s hS
    refine q_seg 1 [(15, .bool (!y1))] hS (by kernel_rfl) ?_; intro s hS
    refine x_nil ?_
    refine sq_n ?_
    by_cases hc2 : (!y1) = true
    · have h := it_pos hc2 h
      refine c_cond hS rfl (fun _ => ?_) (fun hf => ff_absurd hc2 hf)
      refine c_seq ?_
      refine c_region ?_
      refine q_seg 1 [(4, .bool false)] hS (by kernel_rfl) ?_; intro s hS
      refine x_nil ?_
      refine sq_n ?_
      refine c_ret ?_
      refine sq_r ?_
      injection h with h; subst h
      exact end_W hH (r_tmp (v := .bool false) hS rfl r_nil) rfl (by kernel_rfl) (by simp [pureT, pureL, E_bool])
    · have h := it_neg hc2 h
      refine c_cond hS rfl (fun hf => tt_absurd hc2 hf) (fun _ => ?_)
      refine c_skip ?_
      refine sq_n ?_
      refine c_seq ?_
      refine c_region ?_
      refine q_seg 1 [(4, .bool true)] hS (by kernel_rfl) ?_; intro s hS
      refine x_nil ?_
      refine sq_n ?_
      refine c_ret ?_
      injection h with h; subst h
      exact end_W hH (r_tmp (v := .bool true) hS rfl r_nil) rfl (by kernel_rfl) (by simp [pureT, pureL, E_bool])
end Go.Am
end
section
set_option maxRecDepth 100000
set_option maxHeartbeats 4000000
set_option linter.unusedVariables false
set_option linter.unusedSimpArgs false
namespace Go.Am
open Go.Proofs
noncomputable def B_laws_eqFile (a0 : DFile) (a1 : DFile) : Option Bool := (if (!decide (a0.Name = a1.Name)) = true then (some false) else ((F_laws_eqStringS a0.Lines a1.Lines).bind fun y1 => (if (!y1) = true then (some false) else (if (!decide (a0.Mode = a1.Mode)) = true then (some false) else (if (!decide (a0.At = a1.At)) = true then (some false) else (some true))))))
theorem u_laws_eqFile (a0 : DFile) (a1 : DFile) (r : Bool) (h : B_laws_eqFile a0 a1 = some r) : F_laws_eqFile a0 a1 = some r := by
  unfold B_laws_eqFile at h
  refine semW_of E_bool_inj rfl rfl ok_89 rfl (all_cons (by kernel_rfl) (all_cons (by kernel_rfl) all_nil)) ?_
  intro σ0 s hS hH
  have hS := sub_to (L' := [(0, .agg (DFile.cells a0)), (1, .agg (DFile.cells a1))]) hS (by kernel_rfl)
  refine c_seq ?_
  refine c_region ?_
  refine q_box (v := .agg (DFile.cells a0)) (cs := [.str a0.Name, (Sl.t (a0.Lines : Sl ByteArray)), .int .i64 a0.Mode, .int .i64 a0.At]) rfl hS hH rfl rfl (by kernel_rfl) ?_; intro b1 σ s hH hS
  refine q_box (v := .agg (DFile.cells a1)) (cs := [.str a1.Name, (Sl.t (a1.Lines : Sl ByteArray)), .int .i64 a1.Mode, .int .i64 a1.At]) rfl hS hH rfl rfl (by kernel_rfl) ?_; intro b2 σ s hH hS
  refine q_seg 1 [(2, .ptr b1 0 0 4), (3, .ptr b2 0 0 4)] hS (by kernel_rfl) ?_; intro s hS
  refine x_nil ?_
  refine sq_n ?_
  refine c_seq ?_
  refine c_seq ?_
  refine c_region ?_
  refine q_seg 1 [(2, .ptr b1 0 0 4), (3, .ptr b2 0 0 4), (5, .ptr b1 0 0 1)] hS (by kernel_rfl) ?_; intro s hS
  refine q_load (v := .str a0.Name) 1 trivial rfl hS hH rfl rfl (by kernel_rfl) ?_; intro s hS
  refine q_seg 1 [(2, .ptr b1 0 0 4), (3, .ptr b2 0 0 4), (6, .str a0.Name), (7, .ptr b2 0 0 1)] hS (by kernel_rfl) ?_; intro s hS
  refine q_load (v := .str a1.Name) 0 trivial rfl hS hH rfl rfl (by kernel_rfl) ?_; intro s hS
  refine q_seg 1 [(2, .ptr b1 0 0 4), (3, .ptr b2 0 0 4), (9, .bool (!decide (a0.Name = a1.Name)))] hS (by kernel_rfl) ?_; intro s hS
  refine x_nil ?_
  refine sq_n ?_
  by_cases hc1 : (!decide (a0.Name = a1.Name)) = true
  · have h := it_pos hc1 h
    refine c_cond hS rfl (fun _ => ?_) (fun hf => ff_absurd hc1 hf)
    refine c_seq ?_
    refine c_region ?_
    refine q_seg 1 [(4, .bool false)] hS (by kernel_rfl) ?_; intro s hS
    refine x_nil ?_
    refine sq_n ?_
    refine c_ret ?_
    refine sq_r ?_
    injection h with h; subst h
    exact end_W hH (r_tmp (v := .bool false) hS rfl r_nil) rfl (by kernel_rfl) (by simp [pureT, pureL, E_bool])
  · have h := it_neg hc1 h
    refine c_cond hS rfl (fun hf => tt_absurd hc1 hf) (fun _ => ?_)
    refine c_skip ?_
    refine sq_n ?_
    refine c_seq ?_
    refine c_seq ?_
    refine c_region ?_
    refine q_seg 1 [(2, .ptr b1 0 0 4), (3, .ptr b2 0 0 4), (10, .ptr b1 0 1 1)] hS (by kernel_rfl) ?_; intro s hS
    refine q_load (v := (Sl.t (a0.Lines : Sl ByteArray))) 1 trivial rfl hS hH rfl rfl (by kernel_rfl) ?_; intro s hS
    refine q_seg 1 [(2, .ptr b1 0 0 4), (3, .ptr b2 0 0 4), (11, (Sl.t (a0.Lines : Sl ByteArray))), (12, .ptr b2 0 1 1)] hS (by kernel_rfl) ?_; intro s hS
    refine q_load (v := (Sl.t (a1.Lines : Sl ByteArray))) 0 trivial rfl hS hH rfl rfl (by kernel_rfl) ?_; intro s hS
    obtain ⟨y1, hy1, h⟩ := bind_some h
    refine q_callF (a := []) (b := []) (xs := [(Sl.t (a0.Lines : Sl ByteArray)), (Sl.t (a1.Lines : Sl ByteArray))]) rfl hS rfl rfl hy1 ?_; intro s hS
    refine q_seg 1 [(2, .ptr b1 0 0 4), (3, .ptr b2 0 0 4), (15, .bool (!y1))] hS (by kernel_rfl) ?_; intro s hS
    refine x_nil ?_
    refine sq_n ?_
    by_cases hc2 : (!y1) = true
    · have h := it_pos hc2 h
      refine c_cond hS rfl (fun _ => ?_) (fun hf => ff_absurd hc2 hf)
      refine c_seq ?_
      refine c_region ?_
      refine q_seg 1 [(4, .bool false)] hS (by kernel_rfl) ?_; intro s hS
      refine x_nil ?_
      refine sq_n ?_
      refine c_ret ?_
      refine sq_r ?_
      injection h with h; subst h
      exact end_W hH (r_tmp (v := .bool false) hS rfl r_nil) rfl (by kernel_rfl) (by simp [pureT, pureL, E_bool])
    · have h := it_neg hc2 h
      refine c_cond hS rfl (fun hf => tt_absurd hc2 hf) (fun _ => ?_)
      refine c_skip ?_
      refine sq_n ?_
      refine c_seq ?_
      refine c_seq ?_
      refine c_region ?_
      refine q_seg 1 [(2, .ptr b1 0 0 4), (3, .ptr b2 0 0 4), (16, .ptr b1 0 2 1)] hS (by kernel_rfl) ?_; intro s hS
      refine q_load (v := .int .i64 a0.Mode) 1 trivial rfl hS hH rfl rfl (by kernel_rfl) ?_; intro s hS
      refine q_seg 1 [(2, .ptr b1 0 0 4), (3, .ptr b2 0 0 4), (17, .int .i64 a0.Mode), (18, .ptr b2 0 2 1)] hS (by kernel_rfl) ?_; intro s hS
      refine q_load (v := .int .i64 a1.Mode) 0 trivial rfl hS hH rfl rfl (by kernel_rfl) ?_; intro s hS
      refine q_seg 1 [(2, .ptr b1 0 0 4), (3, .ptr b2 0 0 4), (20, .bool (!decide (a0.Mode = a1.Mode)))] hS (by kernel_rfl) ?_; intro s hS
      refine x_nil ?_
      refine sq_n ?_
      by_cases hc3 : (!decide (a0.Mode = a1.Mode)) = true
      · have h := it_pos hc3 h
        refine c_cond hS rfl (fun _ => ?_) (fun hf => ff_absurd hc3 hf)
        refine c_seq ?_
        refine c_region ?_
        refine q_seg 1 [(4, .bool false)] hS (by kernel_rfl) ?_; intro s hS
        refine x_nil ?_
        refine sq_n ?_
        refine c_ret ?_
        refine sq_r ?_
        injection h with h; subst h
        exact end_W hH (r_tmp (v := .bool false) hS rfl r_nil) rfl (by kernel_rfl) (by simp [pureT, pureL, E_bool])
      · have h := it_neg hc3 h
        refine c_cond hS rfl (fun hf => tt_absurd hc3 hf) (fun _ => ?_)
        refine c_skip ?_
        refine sq_n ?_
        refine c_seq ?_
        refine c_seq ?_
        refine c_region ?_
        refine q_seg 1 [(3, .ptr b2 0 0 4), (21, .ptr b1 0 3 1)] hS (by kernel_rfl) ?_; intro s hS
        refine q_load (v := .int .i64 a0.At) 1 trivial rfl hS hH rfl rfl (by kernel_rfl) ?_; intro s hS
        refine q_seg 1 [(22, .int .i64 a0.At), (23, .ptr b2 0 3 1)] hS (by kernel_rfl) ?_; intro s hS
        refine q_load (v := .int .i64 a1.At) 0 trivial rfl hS hH rfl rfl (by kernel_rfl) ?_; intro s hS
        refine q_seg 1 [(25, .bool (!decide (a0.At = a1.At)))] hS (by kernel_rfl) ?_; intro s hS
        refine x_nil ?_
        refine sq_n ?_
        by_cases hc4 : (!decide (a0.At = a1.At)) = true
        · have h := it_pos hc4 h
          refine c_cond hS rfl (fun _ => ?_) (fun hf => ff_absurd hc4 hf)
          refine c_seq ?_
          refine c_region ?_
          refine q_seg 1 [(4, .bool false)] hS (by kernel_rfl) ?_; intro s hS
          refine x_nil ?_
          refine sq_n ?_
          refine c_ret ?_
          refine sq_r ?_
          injection h with h; subst h
          exact end_W hH (r_tmp (v := .bool false) hS rfl r_nil) rfl (by kernel_rfl) (by simp [pureT, pureL, E_bool])
        · have h := it_neg hc4 h
          refine c_cond hS rfl (fun hf => tt_absurd hc4 hf) (fun _ => ?_)
          refine c_skip ?_
          refine sq_n ?_
          refine c_seq ?_
          refine c_region ?_
          refine q_seg 1 [(4, .bool true)] hS (by kernel_rfl) ?_; intro s hS
          refine x_nil ?_
          refine sq_n ?_
          refine c_ret ?_
          injection h with h; subst h
          exact end_W hH (r_tmp (v := .bool true) hS rfl r_nil) rfl (by kernel_rfl) (by simp [pureT, pureL, E_bool])
end Go.Am
end
