/- Functions of the program. -/
import Derived.Test.YtibhahlikgiegaaAd0
section
set_option maxRecDepth 100000
set_option maxHeartbeats 4000000
set_option linter.unusedVariables false
set_option linter.unusedSimpArgs false
namespace Go.Am
open Go.Proofs
noncomputable def B_spec_l21Ok (a0 : DConsole) : Option Bool := ((F_spec_l21Lines a0.Input 100 200).bind fun y1 => (if (!y1) = true then (some false) else ((F_spec_l00In a0.At 0 (a0.Input.l.length : Int)).bind fun y2 => (if (!y2) = true then (some false) else ((F_spec_l21Lines a0.Output 100 200).bind fun y3 => (if (!y3) = true then (some false) else (if (decide (6 < (a0.Files.l.length : Int))) = true then (some false) else ((F_spec_l21Lines a0.Trace 200 1300).bind fun y4 => (if (!y4) = true then (some false) else ((loopO (S := Int) (R := (Unit ⊕ Bool)) (fun st1 => (if (decide (st1 < (a0.Files.l.length : Int))) = true then ((elt a0.Files st1).bind fun y6 => ((F_spec_l21File y6).bind fun y7 => (if (!y7) = true then (some (.inr (.inr false))) else (if (decide (0 < st1)) = true then ((elt a0.Files (IntKind.i64.wrap (st1 - 1))).bind fun y8 => ((elt a0.Files st1).bind fun y9 => (if (!Op.bytesLess y8.Name.toList y9.Name.toList) = true then (some (.inr (.inr false))) else (some (.inl (IntKind.i64.wrap (st1 + 1))))))) else (some (.inl (IntKind.i64.wrap (st1 + 1)))))))) else (some (.inr (.inl ()))))) 0).bind fun y5 => (Sum.elim (fun y5 => (some true)) (fun y5 => (some y5)) y5)))))))))))
theorem u_spec_l21Ok (a0 : DConsole) (r : Bool) (h : B_spec_l21Ok a0 = some r) : F_spec_l21Ok a0 = some r := by
  unfold B_spec_l21Ok at h
  refine semL_of E_bool_inj rfl rfl ok_41 (fun bs hb => by obtain ⟨bp0, rfl⟩ := bl1 hb; exact rfl) (fun bs hb => by obtain ⟨bp0, rfl⟩ := bl1 hb; exact (all_cons rfl all_nil)) ?_
  intro σ0 bs s hL hS hH
  obtain ⟨bp0, rfl, hL_bp0⟩ := lent1 hL
  clear hL
  have hS := sub_to (L' := [(0, .ptr bp0 0 0 5)]) hS (by kernel_rfl)
  refine c_seq ?_
  refine c_region ?_
  refine q_seg 1 [(0, .ptr bp0 0 0 5)] hS (by kernel_rfl) ?_; intro s hS
  refine x_nil ?_
  refine sq_n ?_
  refine c_seq ?_
  refine c_seq ?_
  refine c_draw (by kernel_rfl) hH ?_; intro mb σ hH
  refine q_seg 3 [(0, .ptr bp0 0 0 5), (6, .ptr bp0 0 0 1)] hS (by kernel_rfl) ?_; intro s hS
  refine q_loadL (v := (Sl.t (a0.Input : Sl ByteArray))) trivial rfl hS hH hL_bp0 rfl (by kernel_rfl) ?_; intro s hS
  obtain ⟨y1, hy1, h⟩ := bind_some h
  refine q_callF (a := []) (b := []) (xs := [(Sl.t (a0.Input : Sl ByteArray)), .int .i64 100, .int .i64 200]) rfl hS rfl rfl hy1 ?_; intro s hS
  refine q_seg 2 [(10, .bool (!y1)), (0, .ptr bp0 0 0 5)] hS (by kernel_rfl) ?_; intro s hS
  by_cases hc1 : (!y1) = true
  · have h := it_pos hc1 h
    have hS := sub_bt hS hc1
    refine q_seg 36 [(0, .ptr bp0 0 0 5), (46, .bool true)] hS (by kernel_rfl) ?_; intro s hS
    refine x_nil ?_
    refine sq_n ?_
    refine c_cond (t := true) hS rfl (fun _ => ?_) (fun hf => by cases hf)
    refine c_seq ?_
    refine c_region ?_
    refine q_seg 1 [(2, .bool false)] hS (by kernel_rfl) ?_; intro s hS
    refine x_nil ?_
    refine sq_n ?_
    refine c_ret ?_
    refine sq_r ?_
    injection h with h; subst h
    exact end_W hH (r_tmp (v := .bool false) hS rfl r_nil) rfl (by kernel_rfl) (by simp [pureT, pureL, E_bool])
  · have h := it_neg hc1 h
    have hS := sub_bt hS (tt_of hc1)
    refine q_seg 3 [(0, .ptr bp0 0 0 5), (10, .bool false), (13, .ptr bp0 0 1 1)] hS (by kernel_rfl) ?_; intro s hS
    refine q_loadL (v := .int .i64 a0.At) trivial rfl hS hH hL_bp0 rfl (by kernel_rfl) ?_; intro s hS
    refine q_seg 3 [(0, .ptr bp0 0 0 5), (10, .bool false), (14, .int .i64 a0.At), (17, .ptr bp0 0 0 1)] hS (by kernel_rfl) ?_; intro s hS
    refine q_loadL (v := (Sl.t (a0.Input : Sl ByteArray))) trivial rfl hS hH hL_bp0 rfl (by kernel_rfl) ?_; intro s hS
    refine q_seg 1 [(0, .ptr bp0 0 0 5), (10, .bool false), (14, .int .i64 a0.At), (19, .int .i64 (a0.Input.l.length : Int))] hS (by kernel_rfl) ?_; intro s hS
    obtain ⟨y2, hy2, h⟩ := bind_some h
    refine q_callF (a := []) (b := []) (xs := [.int .i64 a0.At, .int .i64 0, .int .i64 (a0.Input.l.length : Int)]) rfl hS rfl rfl hy2 ?_; intro s hS
    refine q_seg 3 [(23, .bool (!y2)), (0, .ptr bp0 0 0 5)] hS (by kernel_rfl) ?_; intro s hS
    by_cases hc2 : (!y2) = true
    · have h := it_pos hc2 h
      have hS := sub_bt hS hc2
      refine q_seg 23 [(0, .ptr bp0 0 0 5), (46, .bool true)] hS (by kernel_rfl) ?_; intro s hS
      refine x_nil ?_
      refine sq_n ?_
      refine c_cond (t := true) hS rfl (fun _ => ?_) (fun hf => by cases hf)
      refine c_seq ?_
      refine c_region ?_
      refine q_seg 1 [(2, .bool false)] hS (by kernel_rfl) ?_; intro s hS
      refine x_nil ?_
      refine sq_n ?_
      refine c_ret ?_
      refine sq_r ?_
      injection h with h; subst h
      exact end_W hH (r_tmp (v := .bool false) hS rfl r_nil) rfl (by kernel_rfl) (by simp [pureT, pureL, E_bool])
    · have h := it_neg hc2 h
      have hS := sub_bt hS (tt_of hc2)
      refine q_seg 3 [(0, .ptr bp0 0 0 5), (23, .bool false), (26, .ptr bp0 0 2 1)] hS (by kernel_rfl) ?_; intro s hS
      refine q_loadL (v := (Sl.t (a0.Output : Sl ByteArray))) trivial rfl hS hH hL_bp0 rfl (by kernel_rfl) ?_; intro s hS
      obtain ⟨y3, hy3, h⟩ := bind_some h
      refine q_callF (a := []) (b := []) (xs := [(Sl.t (a0.Output : Sl ByteArray)), .int .i64 100, .int .i64 200]) rfl hS rfl rfl hy3 ?_; intro s hS
      refine q_seg 3 [(31, .bool (!y3)), (0, .ptr bp0 0 0 5)] hS (by kernel_rfl) ?_; intro s hS
      by_cases hc3 : (!y3) = true
      · have h := it_pos hc3 h
        have hS := sub_bt hS hc3
        refine q_seg 15 [(0, .ptr bp0 0 0 5), (46, .bool true)] hS (by kernel_rfl) ?_; intro s hS
        refine x_nil ?_
        refine sq_n ?_
        refine c_cond (t := true) hS rfl (fun _ => ?_) (fun hf => by cases hf)
        refine c_seq ?_
        refine c_region ?_
        refine q_seg 1 [(2, .bool false)] hS (by kernel_rfl) ?_; intro s hS
        refine x_nil ?_
        refine sq_n ?_
        refine c_ret ?_
        refine sq_r ?_
        injection h with h; subst h
        exact end_W hH (r_tmp (v := .bool false) hS rfl r_nil) rfl (by kernel_rfl) (by simp [pureT, pureL, E_bool])
      · have h := it_neg hc3 h
        have hS := sub_bt hS (tt_of hc3)
        refine q_seg 3 [(0, .ptr bp0 0 0 5), (31, .bool false), (34, .ptr bp0 0 3 1)] hS (by kernel_rfl) ?_; intro s hS
        refine q_loadL (v := (Sl.t (a0.Files : Sl DFile))) trivial rfl hS hH hL_bp0 rfl (by kernel_rfl) ?_; intro s hS
        refine q_seg 4 [(39, .bool (decide (6 < (a0.Files.l.length : Int)))), (0, .ptr bp0 0 0 5)] hS (by kernel_rfl) ?_; intro s hS
        by_cases hc4 : (decide (6 < (a0.Files.l.length : Int))) = true
        · have h := it_pos hc4 h
          have hS := sub_bt hS hc4
          refine q_seg 7 [(0, .ptr bp0 0 0 5), (46, .bool true)] hS (by kernel_rfl) ?_; intro s hS
          refine x_nil ?_
          refine sq_n ?_
          refine c_cond (t := true) hS rfl (fun _ => ?_) (fun hf => by cases hf)
          refine c_seq ?_
          refine c_region ?_
          refine q_seg 1 [(2, .bool false)] hS (by kernel_rfl) ?_; intro s hS
          refine x_nil ?_
          refine sq_n ?_
          refine c_ret ?_
          refine sq_r ?_
          injection h with h; subst h
          exact end_W hH (r_tmp (v := .bool false) hS rfl r_nil) rfl (by kernel_rfl) (by simp [pureT, pureL, E_bool])
        · have h := it_neg hc4 h
          have hS := sub_bt hS (tt_of hc4)
          refine q_seg 3 [(0, .ptr bp0 0 0 5), (39, .bool false), (42, .ptr bp0 0 4 1)] hS (by kernel_rfl) ?_; intro s hS
          refine q_loadL (v := (Sl.t (a0.Trace : Sl ByteArray))) trivial rfl hS hH hL_bp0 rfl (by kernel_rfl) ?_; intro s hS
          obtain ⟨y4, hy4, h⟩ := bind_some h
          refine q_callF (a := []) (b := []) (xs := [(Sl.t (a0.Trace : Sl ByteArray)), .int .i64 200, .int .i64 1300]) rfl hS rfl rfl hy4 ?_; intro s hS
          refine q_seg 2 [(0, .ptr bp0 0 0 5), (46, .bool (!y4))] hS (by kernel_rfl) ?_; intro s hS
          refine x_nil ?_
          refine sq_n ?_
          by_cases hc5 : (!y4) = true
          · have h := it_pos hc5 h
            refine c_cond hS rfl (fun _ => ?_) (fun hf => ff_absurd hc5 hf)
            refine c_seq ?_
            refine c_region ?_
            refine q_seg 1 [(2, .bool false)] hS (by kernel_rfl) ?_; intro s hS
            refine x_nil ?_
            refine sq_n ?_
            refine c_ret ?_
            refine sq_r ?_
            injection h with h; subst h
            exact end_W hH (r_tmp (v := .bool false) hS rfl r_nil) rfl (by kernel_rfl) (by simp [pureT, pureL, E_bool])
          · have h := it_neg hc5 h
            refine c_cond hS rfl (fun hf => tt_absurd hc5 hf) (fun _ => ?_)
            refine c_skip ?_
            refine sq_n ?_
            refine c_seq ?_
            refine c_seq ?_
            refine c_region ?_
            refine q_seg 1 [(0, .ptr bp0 0 0 5), (3, .int .i64 0)] hS (by kernel_rfl) ?_; intro s hS
            refine x_nil ?_
            refine sq_n ?_
            refine c_block ?_
            obtain ⟨y5, hy5, h⟩ := bind_some h
            refine c_loop (fun (st1 : Int) (fr : Fr) => Sub [(0, .ptr bp0 0 0 5), (3, .int .i64 st1)] fr.s ∧ Heap σ0 fr.σ []) (fun (y5 : (Unit ⊕ Bool)) (e : AExit) (fr : Fr) => (Sum.elim (fun y => e = (.exit 0) ∧ Sub [] fr.s ∧ Heap σ0 fr.σ []) (fun y => e = .ret ∧ endW Try.prog (Try.f41.results.toList) σ0 (E_bool y) .ret fr)) y5) hy5 (And.intro (sub_to hS (by kernel_rfl)) hH) ?_ ?_
            · clear h hy5 hS hH; clear y5; intro st1 x fr h HI; obtain ⟨s, σ⟩ := fr; obtain ⟨hS, hH⟩ := HI
              refine c_seq ?_
              refine c_seq ?_
              refine c_region ?_
              refine q_seg 4 [(0, .ptr bp0 0 0 5), (3, .int .i64 st1), (47, .int .i64 st1), (50, .ptr bp0 0 3 1)] hS (by kernel_rfl) ?_; intro s hS
              refine q_loadL (v := (Sl.t (a0.Files : Sl DFile))) trivial rfl hS hH hL_bp0 rfl (by kernel_rfl) ?_; intro s hS
              refine q_seg 2 [(0, .ptr bp0 0 0 5), (3, .int .i64 st1), (53, .bool (decide (st1 < (a0.Files.l.length : Int))))] hS (by kernel_rfl) ?_; intro s hS
              refine x_nil ?_
              refine sq_n ?_
              by_cases hc6 : (decide (st1 < (a0.Files.l.length : Int))) = true
              · have h := it_pos hc6 h
                refine c_cond hS rfl (fun _ => ?_) (fun hf => ff_absurd hc6 hf)
                refine c_skip ?_
                refine sq_n ?_
                refine c_seq ?_
                refine c_block ?_
                refine c_seq ?_
                refine c_draw (by kernel_rfl) hH ?_; intro mb σ hH
                refine q_seg 3 [(0, .ptr bp0 0 0 5), (3, .int .i64 st1), (58, .ptr bp0 0 3 1)] hS (by kernel_rfl) ?_; intro s hS
                refine q_loadL (v := (Sl.t (a0.Files : Sl DFile))) trivial rfl hS hH hL_bp0 rfl (by kernel_rfl) ?_; intro s hS
                refine q_seg 1 [(0, .ptr bp0 0 0 5), (3, .int .i64 st1), (59, (Sl.t (a0.Files : Sl DFile))), (60, .int .i64 st1)] hS (by kernel_rfl) ?_; intro s hS
                obtain ⟨y6, hy6, h⟩ := bind_some h
                refine q_elt (sl := a0.Files) (e := 52) [.str y6.Name, (Sl.t (y6.Lines : Sl ByteArray)), .int .i64 y6.Mode, .int .i64 y6.At] rfl hS rfl rfl (by kernel_rfl) (by kernel_rfl) hy6 rfl ?_; intro rest1 s hS
                refine q_seg 1 [(0, .ptr bp0 0 0 5), (3, .int .i64 st1), (62, .agg (DFile.cells y6))] hS (by kernel_rfl) ?_; intro s hS
                obtain ⟨y7, hy7, h⟩ := bind_some h
                refine q_callF (a := []) (b := []) (xs := [.agg (DFile.cells y6)]) rfl hS rfl rfl hy7 ?_; intro s hS
                refine q_seg 2 [(65, .bool (!y7)), (0, .ptr bp0 0 0 5), (3, .int .i64 st1)] hS (by kernel_rfl) ?_; intro s hS
                by_cases hc7 : (!y7) = true
                · have h := it_pos hc7 h
                  have hS := sub_bt hS hc7
                  refine q_seg 23 [(0, .ptr bp0 0 0 5), (3, .int .i64 st1), (88, .bool true)] hS (by kernel_rfl) ?_; intro s hS
                  refine x_nil ?_
                  refine sq_n ?_
                  refine c_cond (t := true) hS rfl (fun _ => ?_) (fun hf => by cases hf)
                  refine c_seq ?_
                  refine c_region ?_
                  refine q_seg 1 [(2, .bool false)] hS (by kernel_rfl) ?_; intro s hS
                  refine x_nil ?_
                  refine sq_n ?_
                  refine c_ret ?_
                  refine bk_r ?_
                  refine sq_r ?_
                  injection h with h; subst h
                  exact And.intro rfl (end_W hH (r_tmp (v := .bool false) hS rfl r_nil) rfl (by kernel_rfl) (by simp [pureT, pureL, E_bool]))
                · have h := it_neg hc7 h
                  have hS := sub_bt hS (tt_of hc7)
                  refine q_seg 3 [(68, .bool (decide (0 < st1))), (0, .ptr bp0 0 0 5), (3, .int .i64 st1), (65, .bool false)] hS (by kernel_rfl) ?_; intro s hS
                  by_cases hc8 : (decide (0 < st1)) = true
                  · have h := it_pos hc8 h
                    have hS := sub_bt hS hc8
                    refine q_seg 3 [(0, .ptr bp0 0 0 5), (3, .int .i64 st1), (65, .bool false), (68, .bool true), (71, .ptr bp0 0 3 1)] hS (by kernel_rfl) ?_; intro s hS
                    refine q_loadL (v := (Sl.t (a0.Files : Sl DFile))) trivial rfl hS hH hL_bp0 rfl (by kernel_rfl) ?_; intro s hS
                    refine q_seg 2 [(0, .ptr bp0 0 0 5), (3, .int .i64 st1), (65, .bool false), (68, .bool true), (72, (Sl.t (a0.Files : Sl DFile))), (74, .int .i64 (IntKind.i64.wrap (st1 - 1)))] hS (by kernel_rfl) ?_; intro s hS
                    obtain ⟨y8, hy8, h⟩ := bind_some h
                    refine q_elt (sl := a0.Files) (e := 52) [.str y8.Name, (Sl.t (y8.Lines : Sl ByteArray)), .int .i64 y8.Mode, .int .i64 y8.At] rfl hS rfl rfl (by kernel_rfl) (by kernel_rfl) hy8 rfl ?_; intro rest2 s hS
                    refine q_seg 5 [(0, .ptr bp0 0 0 5), (3, .int .i64 st1), (65, .bool false), (68, .bool true), (77, .str y8.Name), (80, .ptr bp0 0 3 1)] hS (by kernel_rfl) ?_; intro s hS
                    refine q_loadL (v := (Sl.t (a0.Files : Sl DFile))) trivial rfl hS hH hL_bp0 rfl (by kernel_rfl) ?_; intro s hS
                    refine q_seg 1 [(0, .ptr bp0 0 0 5), (3, .int .i64 st1), (65, .bool false), (68, .bool true), (77, .str y8.Name), (81, (Sl.t (a0.Files : Sl DFile))), (82, .int .i64 st1)] hS (by kernel_rfl) ?_; intro s hS
                    obtain ⟨y9, hy9, h⟩ := bind_some h
                    refine q_elt (sl := a0.Files) (e := 52) [.str y9.Name, (Sl.t (y9.Lines : Sl ByteArray)), .int .i64 y9.Mode, .int .i64 y9.At] rfl hS rfl rfl (by kernel_rfl) (by kernel_rfl) hy9 rfl ?_; intro rest3 s hS
                    refine q_seg 5 [(0, .ptr bp0 0 0 5), (3, .int .i64 st1), (88, .bool (!Op.bytesLess y8.Name.toList y9.Name.toList))] hS (by kernel_rfl) ?_; intro s hS
                    refine x_nil ?_
                    refine sq_n ?_
                    by_cases hc9 : (!Op.bytesLess y8.Name.toList y9.Name.toList) = true
                    · have h := it_pos hc9 h
                      refine c_cond hS rfl (fun _ => ?_) (fun hf => ff_absurd hc9 hf)
                      refine c_seq ?_
                      refine c_region ?_
                      refine q_seg 1 [(2, .bool false)] hS (by kernel_rfl) ?_; intro s hS
                      refine x_nil ?_
                      refine sq_n ?_
                      refine c_ret ?_
                      refine bk_r ?_
                      refine sq_r ?_
                      injection h with h; subst h
                      exact And.intro rfl (end_W hH (r_tmp (v := .bool false) hS rfl r_nil) rfl (by kernel_rfl) (by simp [pureT, pureL, E_bool]))
                    · have h := it_neg hc9 h
                      refine c_cond hS rfl (fun hf => tt_absurd hc9 hf) (fun _ => ?_)
                      refine c_skip ?_
                      refine bk_n ?_
                      refine sq_n ?_
                      refine c_region ?_
                      refine q_seg 3 [(0, .ptr bp0 0 0 5), (3, .int .i64 (IntKind.i64.wrap (st1 + 1)))] hS (by kernel_rfl) ?_; intro s hS
                      refine x_nil ?_
                      injection h with h; subst h
                      exact And.intro (sub_to hS (by kernel_rfl)) hH
                  · have h := it_neg hc8 h
                    have hS := sub_bt hS (tt_of hc8)
                    refine q_seg 20 [(0, .ptr bp0 0 0 5), (3, .int .i64 st1), (88, .bool false)] hS (by kernel_rfl) ?_; intro s hS
                    refine x_nil ?_
                    refine sq_n ?_
                    refine c_cond (t := false) hS rfl (fun hf => by cases hf) (fun _ => ?_)
                    refine c_skip ?_
                    refine bk_n ?_
                    refine sq_n ?_
                    refine c_region ?_
                    refine q_seg 3 [(0, .ptr bp0 0 0 5), (3, .int .i64 (IntKind.i64.wrap (st1 + 1)))] hS (by kernel_rfl) ?_; intro s hS
                    refine x_nil ?_
                    injection h with h; subst h
                    exact And.intro (sub_to hS (by kernel_rfl)) hH
              · have h := it_neg hc6 h
                refine c_cond hS rfl (fun hf => tt_absurd hc6 hf) (fun _ => ?_)
                refine c_exit ?_
                refine sq_x ?_
                injection h with h; subst h
                exact And.intro rfl (And.intro (sub_to hS (by kernel_rfl)) hH)
            · clear hS hH; intro e fr HF; obtain ⟨s, σ⟩ := fr
              rcases y5 with y5 | y5
              · obtain ⟨rfl, hS, hH⟩ := HF
                refine bk_e ?_
                refine sq_n ?_
                refine c_seq ?_
                refine c_region ?_
                refine q_seg 1 [(2, .bool true)] hS (by kernel_rfl) ?_; intro s hS
                refine x_nil ?_
                refine sq_n ?_
                refine c_ret ?_
                injection h with h; subst h
                exact end_W hH (r_tmp (v := .bool true) hS rfl r_nil) rfl (by kernel_rfl) (by simp [pureT, pureL, E_bool])
              · obtain ⟨rfl, HE⟩ := HF
                refine bk_r ?_
                refine sq_r ?_
                injection h with h; subst h; exact HE
end Go.Am
end
section
set_option maxRecDepth 100000
set_option maxHeartbeats 4000000
set_option linter.unusedVariables false
set_option linter.unusedSimpArgs false
namespace Go.Am
open Go.Proofs
noncomputable def B_impl_ValidConsole (a0 : DConsole) : Option Bool := (if (decide (100 < (a0.Input.l.length : Int))) = true then (some false) else (if (decide (100 < (a0.Output.l.length : Int))) = true then (some false) else (if (decide (6 < (a0.Files.l.length : Int))) = true then (some false) else (if (decide (200 < (a0.Trace.l.length : Int))) = true then (some false) else ((((F_impl_areAll_string a0.Input (T.fn 45 [] [])).bind fun y5 => (if y5 = true then ((F_impl_areAll_string a0.Output (T.fn 45 [] [])).bind fun y6 => (if y6 = true then ((F_impl_areAll_string a0.Trace (T.fn 87 [] [])).bind fun y7 => (some y7)) else (some false))) else (some false))) : Option Bool).bind fun y1 => (if y1 = true then ((F_impl_within a0.At 0 (a0.Input.l.length : Int)).bind fun y2 => (if y2 = true then ((F_impl_areAll_File a0.Files (T.fn 91 [] [])).bind fun y3 => (if y3 = true then ((F_impl_isSorted_File a0.Files (T.fn 73 [] [])).bind fun y4 => (some y4)) else (some false))) else (some false))) else (some false)))))))
theorem u_impl_ValidConsole (a0 : DConsole) (r : Bool) (h : B_impl_ValidConsole a0 = some r) : F_impl_ValidConsole a0 = some r := by
  unfold B_impl_ValidConsole at h
  refine semW_of E_bool_inj rfl rfl ok_42 rfl (all_cons (by kernel_rfl) all_nil) ?_
  intro σ0 s hS hH
  have hS := sub_to (L' := [(0, .agg (DConsole.cells a0))]) hS (by kernel_rfl)
  refine c_seq ?_
  refine c_region ?_
  refine q_box (v := .agg (DConsole.cells a0)) (cs := [(Sl.t (a0.Input : Sl ByteArray)), .int .i64 a0.At, (Sl.t (a0.Output : Sl ByteArray)), (Sl.t (a0.Files : Sl DFile)), (Sl.t (a0.Trace : Sl ByteArray))]) rfl hS hH rfl rfl (by kernel_rfl) ?_; intro b1 σ s hH hS
  refine q_seg 1 [(1, .ptr b1 0 0 5)] hS (by kernel_rfl) ?_; intro s hS
  refine x_nil ?_
  refine sq_n ?_
  refine c_seq ?_
  refine c_region ?_
  refine q_seg 1 [(1, .ptr b1 0 0 5), (3, T.fn 87 [] [])] hS (by kernel_rfl) ?_; intro s hS
  refine x_nil ?_
  refine sq_n ?_
  refine c_seq ?_
  refine c_seq ?_
  refine c_region ?_
  refine q_seg 1 [(1, .ptr b1 0 0 5), (3, T.fn 87 [] []), (5, .ptr b1 0 0 1)] hS (by kernel_rfl) ?_; intro s hS
  refine q_load (v := (Sl.t (a0.Input : Sl ByteArray))) 0 trivial rfl hS hH rfl rfl (by kernel_rfl) ?_; intro s hS
  refine q_seg 3 [(9, .bool (decide (100 < (a0.Input.l.length : Int)))), (1, .ptr b1 0 0 5), (3, T.fn 87 [] [])] hS (by kernel_rfl) ?_; intro s hS
  by_cases hc1 : (decide (100 < (a0.Input.l.length : Int))) = true
  · have h := it_pos hc1 h
    have hS := sub_bt hS hc1
    refine q_seg 17 [(1, .ptr b1 0 0 5), (3, T.fn 87 [] []), (26, .bool true)] hS (by kernel_rfl) ?_; intro s hS
    refine x_nil ?_
    refine sq_n ?_
    refine c_cond (t := true) hS rfl (fun _ => ?_) (fun hf => by cases hf)
    refine c_seq ?_
    refine c_region ?_
    refine q_seg 1 [(2, .bool false)] hS (by kernel_rfl) ?_; intro s hS
    refine x_nil ?_
    refine sq_n ?_
    refine c_ret ?_
    refine sq_r ?_
    injection h with h; subst h
    exact end_W hH (r_tmp (v := .bool false) hS rfl r_nil) rfl (by kernel_rfl) (by simp [pureT, pureL, E_bool])
  · have h := it_neg hc1 h
    have hS := sub_bt hS (tt_of hc1)
    refine q_seg 1 [(1, .ptr b1 0 0 5), (3, T.fn 87 [] []), (9, .bool false), (10, .ptr b1 0 2 1)] hS (by kernel_rfl) ?_; intro s hS
    refine q_load (v := (Sl.t (a0.Output : Sl ByteArray))) 0 trivial rfl hS hH rfl rfl (by kernel_rfl) ?_; intro s hS
    refine q_seg 4 [(15, .bool (decide (100 < (a0.Output.l.length : Int)))), (1, .ptr b1 0 0 5), (3, T.fn 87 [] [])] hS (by kernel_rfl) ?_; intro s hS
    by_cases hc2 : (decide (100 < (a0.Output.l.length : Int))) = true
    · have h := it_pos hc2 h
      have hS := sub_bt hS hc2
      refine q_seg 11 [(1, .ptr b1 0 0 5), (3, T.fn 87 [] []), (26, .bool true)] hS (by kernel_rfl) ?_; intro s hS
      refine x_nil ?_
      refine sq_n ?_
      refine c_cond (t := true) hS rfl (fun _ => ?_) (fun hf => by cases hf)
      refine c_seq ?_
      refine c_region ?_
      refine q_seg 1 [(2, .bool false)] hS (by kernel_rfl) ?_; intro s hS
      refine x_nil ?_
      refine sq_n ?_
      refine c_ret ?_
      refine sq_r ?_
      injection h with h; subst h
      exact end_W hH (r_tmp (v := .bool false) hS rfl r_nil) rfl (by kernel_rfl) (by simp [pureT, pureL, E_bool])
    · have h := it_neg hc2 h
      have hS := sub_bt hS (tt_of hc2)
      refine q_seg 1 [(1, .ptr b1 0 0 5), (3, T.fn 87 [] []), (15, .bool false), (16, .ptr b1 0 3 1)] hS (by kernel_rfl) ?_; intro s hS
      refine q_load (v := (Sl.t (a0.Files : Sl DFile))) 0 trivial rfl hS hH rfl rfl (by kernel_rfl) ?_; intro s hS
      refine q_seg 4 [(21, .bool (decide (6 < (a0.Files.l.length : Int)))), (1, .ptr b1 0 0 5), (3, T.fn 87 [] [])] hS (by kernel_rfl) ?_; intro s hS
      by_cases hc3 : (decide (6 < (a0.Files.l.length : Int))) = true
      · have h := it_pos hc3 h
        have hS := sub_bt hS hc3
        refine q_seg 5 [(1, .ptr b1 0 0 5), (3, T.fn 87 [] []), (26, .bool true)] hS (by kernel_rfl) ?_; intro s hS
        refine x_nil ?_
        refine sq_n ?_
        refine c_cond (t := true) hS rfl (fun _ => ?_) (fun hf => by cases hf)
        refine c_seq ?_
        refine c_region ?_
        refine q_seg 1 [(2, .bool false)] hS (by kernel_rfl) ?_; intro s hS
        refine x_nil ?_
        refine sq_n ?_
        refine c_ret ?_
        refine sq_r ?_
        injection h with h; subst h
        exact end_W hH (r_tmp (v := .bool false) hS rfl r_nil) rfl (by kernel_rfl) (by simp [pureT, pureL, E_bool])
      · have h := it_neg hc3 h
        have hS := sub_bt hS (tt_of hc3)
        refine q_seg 1 [(1, .ptr b1 0 0 5), (3, T.fn 87 [] []), (21, .bool false), (22, .ptr b1 0 4 1)] hS (by kernel_rfl) ?_; intro s hS
        refine q_load (v := (Sl.t (a0.Trace : Sl ByteArray))) 0 trivial rfl hS hH rfl rfl (by kernel_rfl) ?_; intro s hS
        refine q_seg 3 [(1, .ptr b1 0 0 5), (3, T.fn 87 [] []), (26, .bool (decide (200 < (a0.Trace.l.length : Int))))] hS (by kernel_rfl) ?_; intro s hS
        refine x_nil ?_
        refine sq_n ?_
        by_cases hc4 : (decide (200 < (a0.Trace.l.length : Int))) = true
        · have h := it_pos hc4 h
          refine c_cond hS rfl (fun _ => ?_) (fun hf => ff_absurd hc4 hf)
          refine c_seq ?_
          refine c_region ?_
          refine q_seg 1 [(2, .bool false)] hS (by kernel_rfl) ?_; intro s hS
          refine x_nil ?_
          refine sq_n ?_
          refine c_ret ?_
          refine sq_r ?_
          injection h with h; subst h
          exact end_W hH (r_tmp (v := .bool false) hS rfl r_nil) rfl (by kernel_rfl) (by simp [pureT, pureL, E_bool])
        · have h := it_neg hc4 h
          refine c_cond hS rfl (fun hf => tt_absurd hc4 hf) (fun _ => ?_)
          refine c_skip ?_
          refine sq_n ?_
          refine c_seq ?_
          obtain ⟨y1, hy1, h⟩ := bind_some h
          refine codeQ_mono (Q := fun e fr => e = .normal ∧ Sub [(1, .ptr b1 0 0 5), (4, .bool y1)] fr.s ∧ Heap σ0 fr.σ [.box b1 [(Sl.t (a0.Input : Sl ByteArray)), .int .i64 a0.At, (Sl.t (a0.Output : Sl ByteArray)), (Sl.t (a0.Files : Sl DFile)), (Sl.t (a0.Trace : Sl ByteArray))]]) ?_ ?_
          · intro e fr HF; obtain ⟨s, σ⟩ := fr
            obtain ⟨rfl, hS, hH⟩ := HF
            refine sq_n ?_
            refine c_seq ?_
            refine c_region ?_
            refine q_seg 2 [(42, .bool y1), (1, .ptr b1 0 0 5)] hS (by kernel_rfl) ?_; intro s hS
            by_cases hc5 : y1 = true
            · have h := it_pos hc5 h
              have hS := sub_bt hS hc5
              refine q_seg 1 [(1, .ptr b1 0 0 5), (42, .bool true), (43, .ptr b1 0 1 1)] hS (by kernel_rfl) ?_; intro s hS
              refine q_load (v := .int .i64 a0.At) 0 trivial rfl hS hH rfl rfl (by kernel_rfl) ?_; intro s hS
              refine q_seg 1 [(1, .ptr b1 0 0 5), (42, .bool true), (44, .int .i64 a0.At), (45, .ptr b1 0 0 1)] hS (by kernel_rfl) ?_; intro s hS
              refine q_load (v := (Sl.t (a0.Input : Sl ByteArray))) 0 trivial rfl hS hH rfl rfl (by kernel_rfl) ?_; intro s hS
              refine q_seg 1 [(1, .ptr b1 0 0 5), (42, .bool true), (44, .int .i64 a0.At), (47, .int .i64 (a0.Input.l.length : Int))] hS (by kernel_rfl) ?_; intro s hS
              obtain ⟨y2, hy2, h⟩ := bind_some h
              refine q_callF (a := []) (b := []) (xs := [.int .i64 a0.At, .int .i64 0, .int .i64 (a0.Input.l.length : Int)]) rfl hS rfl rfl hy2 ?_; intro s hS
              refine q_seg 2 [(50, .bool y2), (1, .ptr b1 0 0 5)] hS (by kernel_rfl) ?_; intro s hS
              by_cases hc6 : y2 = true
              · have h := it_pos hc6 h
                have hS := sub_bt hS hc6
                refine q_seg 1 [(1, .ptr b1 0 0 5), (50, .bool true), (51, .ptr b1 0 3 1)] hS (by kernel_rfl) ?_; intro s hS
                refine q_load (v := (Sl.t (a0.Files : Sl DFile))) 0 trivial rfl hS hH rfl rfl (by kernel_rfl) ?_; intro s hS
                obtain ⟨y3, hy3, h⟩ := bind_some h
                refine q_callF (a := []) (b := []) (xs := [(Sl.t (a0.Files : Sl DFile)), T.fn 91 [] []]) rfl hS rfl rfl hy3 ?_; intro s hS
                refine q_seg 2 [(55, .bool y3), (1, .ptr b1 0 0 5)] hS (by kernel_rfl) ?_; intro s hS
                by_cases hc7 : y3 = true
                · have h := it_pos hc7 h
                  have hS := sub_bt hS hc7
                  refine q_seg 1 [(55, .bool true), (56, .ptr b1 0 3 1)] hS (by kernel_rfl) ?_; intro s hS
                  refine q_load (v := (Sl.t (a0.Files : Sl DFile))) 0 trivial rfl hS hH rfl rfl (by kernel_rfl) ?_; intro s hS
                  obtain ⟨y4, hy4, h⟩ := bind_some h
                  refine q_callF (a := []) (b := []) (xs := [(Sl.t (a0.Files : Sl DFile)), T.fn 73 [] []]) rfl hS rfl rfl hy4 ?_; intro s hS
                  refine q_seg 2 [(2, .bool y4)] hS (by kernel_rfl) ?_; intro s hS
                  refine x_nil ?_
                  refine sq_n ?_
                  refine c_ret ?_
                  injection h with h; subst h
                  exact end_W hH (r_tmp (v := .bool y4) hS rfl r_nil) rfl (by kernel_rfl) (by simp [pureT, pureL, E_bool])
                · have h := it_neg hc7 h
                  have hS := sub_bt hS (tt_of hc7)
                  refine q_seg 5 [(2, .bool false)] hS (by kernel_rfl) ?_; intro s hS
                  refine x_nil ?_
                  refine sq_n ?_
                  refine c_ret ?_
                  injection h with h; subst h
                  exact end_W hH (r_tmp (v := .bool false) hS rfl r_nil) rfl (by kernel_rfl) (by simp [pureT, pureL, E_bool])
              · have h := it_neg hc6 h
                have hS := sub_bt hS (tt_of hc6)
                refine q_seg 10 [(2, .bool false)] hS (by kernel_rfl) ?_; intro s hS
                refine x_nil ?_
                refine sq_n ?_
                refine c_ret ?_
                injection h with h; subst h
                exact end_W hH (r_tmp (v := .bool false) hS rfl r_nil) rfl (by kernel_rfl) (by simp [pureT, pureL, E_bool])
            · have h := it_neg hc5 h
              have hS := sub_bt hS (tt_of hc5)
              refine q_seg 18 [(2, .bool false)] hS (by kernel_rfl) ?_; intro s hS
              refine x_nil ?_
              refine sq_n ?_
              refine c_ret ?_
              injection h with h; subst h
              exact end_W hH (r_tmp (v := .bool false) hS rfl r_nil) rfl (by kernel_rfl) (by simp [pureT, pureL, E_bool])
          · clear h; have h := hy1
            refine c_region ?_
            refine q_seg 1 [(1, .ptr b1 0 0 5), (3, T.fn 87 [] []), (27, .ptr b1 0 0 1)] hS (by kernel_rfl) ?_; intro s hS
            refine q_load (v := (Sl.t (a0.Input : Sl ByteArray))) 0 trivial rfl hS hH rfl rfl (by kernel_rfl) ?_; intro s hS
            obtain ⟨y5, hy5, h⟩ := bind_some h
            refine q_callF (a := []) (b := []) (xs := [(Sl.t (a0.Input : Sl ByteArray)), T.fn 45 [] []]) rfl hS rfl rfl hy5 ?_; intro s hS
            refine q_seg 1 [(30, .bool y5), (1, .ptr b1 0 0 5), (3, T.fn 87 [] [])] hS (by kernel_rfl) ?_; intro s hS
            by_cases hc8 : y5 = true
            · have h := it_pos hc8 h
              have hS := sub_bt hS hc8
              refine q_seg 1 [(1, .ptr b1 0 0 5), (3, T.fn 87 [] []), (30, .bool true), (31, .ptr b1 0 2 1)] hS (by kernel_rfl) ?_; intro s hS
              refine q_load (v := (Sl.t (a0.Output : Sl ByteArray))) 0 trivial rfl hS hH rfl rfl (by kernel_rfl) ?_; intro s hS
              obtain ⟨y6, hy6, h⟩ := bind_some h
              refine q_callF (a := []) (b := []) (xs := [(Sl.t (a0.Output : Sl ByteArray)), T.fn 45 [] []]) rfl hS rfl rfl hy6 ?_; intro s hS
              refine q_seg 2 [(35, .bool y6), (1, .ptr b1 0 0 5), (3, T.fn 87 [] [])] hS (by kernel_rfl) ?_; intro s hS
              by_cases hc9 : y6 = true
              · have h := it_pos hc9 h
                have hS := sub_bt hS hc9
                refine q_seg 1 [(1, .ptr b1 0 0 5), (3, T.fn 87 [] []), (35, .bool true), (36, .ptr b1 0 4 1)] hS (by kernel_rfl) ?_; intro s hS
                refine q_load (v := (Sl.t (a0.Trace : Sl ByteArray))) 0 trivial rfl hS hH rfl rfl (by kernel_rfl) ?_; intro s hS
                refine q_seg 1 [(1, .ptr b1 0 0 5), (35, .bool true), (37, (Sl.t (a0.Trace : Sl ByteArray))), (38, T.fn 87 [] [])] hS (by kernel_rfl) ?_; intro s hS
                obtain ⟨y7, hy7, h⟩ := bind_some h
                refine q_callF (a := []) (b := []) (xs := [(Sl.t (a0.Trace : Sl ByteArray)), T.fn 87 [] []]) rfl hS rfl rfl hy7 ?_; intro s hS
                refine q_seg 2 [(1, .ptr b1 0 0 5), (4, .bool y7)] hS (by kernel_rfl) ?_; intro s hS
                refine x_nil ?_
                injection h with h; subst h
                exact And.intro rfl (And.intro (sub_to hS (by kernel_rfl)) hH)
              · have h := it_neg hc9 h
                have hS := sub_bt hS (tt_of hc9)
                refine q_seg 6 [(1, .ptr b1 0 0 5), (4, .bool false)] hS (by kernel_rfl) ?_; intro s hS
                refine x_nil ?_
                injection h with h; subst h
                exact And.intro rfl (And.intro (sub_to hS (by kernel_rfl)) hH)
            · have h := it_neg hc8 h
              have hS := sub_bt hS (tt_of hc8)
              refine q_seg 11 [(1, .ptr b1 0 0 5), (4, .bool false)] hS (by kernel_rfl) ?_; intro s hS
              refine x_nil ?_
              injection h with h; subst h
              exact And.intro rfl (And.intro (sub_to hS (by kernel_rfl)) hH)
end Go.Am
end
section
set_option maxRecDepth 100000
set_option maxHeartbeats 4000000
set_option linter.unusedVariables false
set_option linter.unusedSimpArgs false
namespace Go.Am
open Go.Proofs
noncomputable def B_impl_Console_copied (a0 : DConsole) : Option DConsole := ((F_slices_Clone_string a0.Input).bind fun y1 => ((F_slices_Clone_string a0.Output).bind fun y2 => ((F_slices_Clone_string a0.Trace).bind fun y3 => ((loopO (S := (Int × (Sl DFile))) (R := (Sl DFile)) (fun st1 => (if (decide (st1.1 < (a0.Files.l.length : Int))) = true then ((elt a0.Files st1.1).bind fun y5 => ((F_slices_Clone_string y5.Lines).bind fun y6 => ((appS 56 st1.2 (⟨false, [(⟨y5.Name, y6, y5.Mode, y5.At⟩ : DFile)]⟩ : Sl DFile)).bind fun y7 => (some (.inl ((IntKind.i64.wrap (st1.1 + 1)), y7)))))) else (some (.inr st1.2)))) (0, (⟨true, []⟩ : Sl DFile))).bind fun y4 => (some (⟨y1, a0.At, y2, y4, y3⟩ : DConsole))))))
theorem u_impl_Console_copied (a0 : DConsole) (r : DConsole) (h : B_impl_Console_copied a0 = some r) : F_impl_Console_copied a0 = some r := by
  unfold B_impl_Console_copied at h
  refine semO_of rfl rfl ok_43 rfl (all_cons (by kernel_rfl) all_nil) ?_
  intro σ0 s hS hH
  have hS := sub_to (L' := [(0, .agg (DConsole.cells a0))]) hS (by kernel_rfl)
  refine c_seq ?_
  refine c_region ?_
  refine q_box (v := .agg (DConsole.cells a0)) (cs := [(Sl.t (a0.Input : Sl ByteArray)), .int .i64 a0.At, (Sl.t (a0.Output : Sl ByteArray)), (Sl.t (a0.Files : Sl DFile)), (Sl.t (a0.Trace : Sl ByteArray))]) rfl hS hH rfl rfl (by kernel_rfl) ?_; intro b1 σ s hH hS
  refine q_alloc (z := [(Sl.t (⟨true, []⟩ : Sl ByteArray)), .int .i64 0, (Sl.t (⟨true, []⟩ : Sl ByteArray)), (Sl.t (⟨true, []⟩ : Sl DFile)), (Sl.t (⟨true, []⟩ : Sl ByteArray))]) rfl hS hH (by kernel_rfl) ?_; intro b2 σ s hH hS
  refine x_nil ?_
  refine sq_n ?_
  refine c_seq ?_
  refine c_chain (fun _ => False) (fun _ => rfl) (by kernel_rfl) (by kernel_rfl) hH ?_; intro mb σs σ hn0 hlt hlto hH
  have hlt_b1 : b1 < mb ∧ ¬ (fun _ => False) b1 := ⟨hlt b1 _ (List.Mem.tail _ (List.Mem.head _)), fun h => h⟩
  refine q_seg 1 [(1, .ptr b1 0 0 5), (2, .ptr b2 0 0 5), (6, .ptr b1 0 0 1)] hS (by kernel_rfl) ?_; intro s hS
  refine q_load (v := (Sl.t (a0.Input : Sl ByteArray))) 1 (Or.inl (by kernel_rfl)) rfl hS hH rfl rfl (by kernel_rfl) ?_; intro s hS
  obtain ⟨y1, hy1, h⟩ := bind_some h
  refine q_callO (ents := []) (z := false) (ts := [(Sl.t (a0.Input : Sl ByteArray))]) (vs := [(Sl.t (a0.Input : Sl ByteArray))]) rfl rfl hS rfl rfl rfl hH (HL.leaf (fun σ d => hold_pure σ d _) HL.nil) hy1 ?_; intro hs σ s hl hH hS
  obtain ⟨t1, rfl⟩ := len1 hl
  have hH : Heap σ0 σ [.own true 1 t1 (Sl.t (y1 : Sl ByteArray)), .box b2 [(Sl.t (⟨true, []⟩ : Sl ByteArray)), .int .i64 0, (Sl.t (⟨true, []⟩ : Sl ByteArray)), (Sl.t (⟨true, []⟩ : Sl DFile)), (Sl.t (⟨true, []⟩ : Sl ByteArray))], .box b1 [(Sl.t (a0.Input : Sl ByteArray)), .int .i64 a0.At, (Sl.t (a0.Output : Sl ByteArray)), (Sl.t (a0.Files : Sl DFile)), (Sl.t (a0.Trace : Sl ByteArray))]] := hH
  have ht1 : IsOne t1 := Heap.one hH
  refine q_seg 1 [(1, .ptr b1 0 0 5), (2, .ptr b2 0 0 5), (8, t1), (9, .ptr b1 0 1 1)] hS (by kernel_rfl) ?_; intro s hS
  refine q_load (v := .int .i64 a0.At) 2 (Or.inr hlt_b1) rfl hS hH rfl rfl (by kernel_rfl) ?_; intro s hS
  refine q_seg 1 [(1, .ptr b1 0 0 5), (2, .ptr b2 0 0 5), (8, t1), (10, .int .i64 a0.At), (11, .ptr b1 0 2 1)] hS (by kernel_rfl) ?_; intro s hS
  refine q_load (v := (Sl.t (a0.Output : Sl ByteArray))) 2 (Or.inr hlt_b1) rfl hS hH rfl rfl (by kernel_rfl) ?_; intro s hS
  obtain ⟨y2, hy2, h⟩ := bind_some h
  refine q_callO (ents := []) (z := false) (ts := [(Sl.t (a0.Output : Sl ByteArray))]) (vs := [(Sl.t (a0.Output : Sl ByteArray))]) rfl rfl hS rfl rfl rfl hH (HL.leaf (fun σ d => hold_pure σ d _) HL.nil) hy2 ?_; intro hs σ s hl hH hS
  obtain ⟨t2, rfl⟩ := len1 hl
  have hH : Heap σ0 σ [.own true 1 t2 (Sl.t (y2 : Sl ByteArray)), .own true 1 t1 (Sl.t (y1 : Sl ByteArray)), .box b2 [(Sl.t (⟨true, []⟩ : Sl ByteArray)), .int .i64 0, (Sl.t (⟨true, []⟩ : Sl ByteArray)), (Sl.t (⟨true, []⟩ : Sl DFile)), (Sl.t (⟨true, []⟩ : Sl ByteArray))], .box b1 [(Sl.t (a0.Input : Sl ByteArray)), .int .i64 a0.At, (Sl.t (a0.Output : Sl ByteArray)), (Sl.t (a0.Files : Sl DFile)), (Sl.t (a0.Trace : Sl ByteArray))]] := hH
  have ht2 : IsOne t2 := Heap.one hH
  refine q_seg 1 [(1, .ptr b1 0 0 5), (2, .ptr b2 0 0 5), (8, t1), (10, .int .i64 a0.At), (13, t2), (14, .ptr b1 0 4 1)] hS (by kernel_rfl) ?_; intro s hS
  refine q_load (v := (Sl.t (a0.Trace : Sl ByteArray))) 3 (Or.inr hlt_b1) rfl hS hH rfl rfl (by kernel_rfl) ?_; intro s hS
  obtain ⟨y3, hy3, h⟩ := bind_some h
  refine q_callO (ents := []) (z := false) (ts := [(Sl.t (a0.Trace : Sl ByteArray))]) (vs := [(Sl.t (a0.Trace : Sl ByteArray))]) rfl rfl hS rfl rfl rfl hH (HL.leaf (fun σ d => hold_pure σ d _) HL.nil) hy3 ?_; intro hs σ s hl hH hS
  obtain ⟨t3, rfl⟩ := len1 hl
  have hH : Heap σ0 σ [.own true 1 t3 (Sl.t (y3 : Sl ByteArray)), .own true 1 t2 (Sl.t (y2 : Sl ByteArray)), .own true 1 t1 (Sl.t (y1 : Sl ByteArray)), .box b2 [(Sl.t (⟨true, []⟩ : Sl ByteArray)), .int .i64 0, (Sl.t (⟨true, []⟩ : Sl ByteArray)), (Sl.t (⟨true, []⟩ : Sl DFile)), (Sl.t (⟨true, []⟩ : Sl ByteArray))], .box b1 [(Sl.t (a0.Input : Sl ByteArray)), .int .i64 a0.At, (Sl.t (a0.Output : Sl ByteArray)), (Sl.t (a0.Files : Sl DFile)), (Sl.t (a0.Trace : Sl ByteArray))]] := hH
  have ht3 : IsOne t3 := Heap.one hH
  refine q_build (qs := [(0, t1), (1, .int .i64 a0.At), (2, t2), (4, t3)]) (z := [(Sl.t (⟨true, []⟩ : Sl ByteArray)), .int .i64 0, (Sl.t (⟨true, []⟩ : Sl ByteArray)), (Sl.t (⟨true, []⟩ : Sl DFile)), (Sl.t (⟨true, []⟩ : Sl ByteArray))]) (r := [t1, .int .i64 a0.At, t2, (Sl.t (⟨true, []⟩ : Sl DFile)), t3]) [[t1], [.int .i64 a0.At], [t2], [t3]] rfl hS rfl (by kernel_rfl) (by kernel_rfl) (And.intro (by simp [ht1.1, ht1.2]) (And.intro (by simp [ht1.1, ht1.2]) (And.intro rfl (And.intro (by kernel_rfl) (And.intro (by simp [ht2.1, ht2.2]) (And.intro (by simp [ht2.1, ht2.2]) (And.intro (by simp [ht3.1, ht3.2]) (And.intro (by simp [ht3.1, ht3.2]) trivial)))))))) (by kernel_rfl) ?_; intro s hS
  refine q_allocC rfl (by exact hn0) (z := [(Sl.t (⟨true, []⟩ : Sl ByteArray)), .int .i64 0, (Sl.t (⟨true, []⟩ : Sl ByteArray)), (Sl.t (⟨true, []⟩ : Sl DFile)), (Sl.t (⟨true, []⟩ : Sl ByteArray))]) rfl hS hH (by kernel_rfl) ?_; intro b3 σ s hwr_b3 hH hS
  refine q_storeC rfl (v := .agg [t1, .int .i64 a0.At, t2, (Sl.t (⟨true, []⟩ : Sl DFile)), t3]) (cs := [t1, .int .i64 a0.At, t2, (Sl.t (⟨true, []⟩ : Sl DFile)), t3]) (cells' := [t1, .int .i64 a0.At, t2, (Sl.t (⟨true, []⟩ : Sl DFile)), t3]) (by exact hwr_b3) rfl hS hH rfl rfl rfl (by simp [ht1.1, ht1.2, ht2.1, ht2.2, ht3.1, ht3.2]) (by kernel_rfl) ?_; intro σ s hH hS
  refine x_nil ?_
  refine sq_n ?_
  refine c_seq ?_
  refine c_seq ?_
  refine c_region ?_
  refine q_seg 1 [(2, .ptr b2 0 0 5), (3, .ptr b3 0 0 5), (18, .ptr b1 0 3 1)] hS (by kernel_rfl) ?_; intro s hS
  refine q_load (v := (Sl.t (a0.Files : Sl DFile))) 5 trivial rfl hS hH rfl rfl (by kernel_rfl) ?_; intro s hS
  refine q_seg 2 [(2, .ptr b2 0 0 5), (3, .ptr b3 0 0 5), (19, (Sl.t (a0.Files : Sl DFile))), (20, .int .i64 (a0.Files.l.length : Int)), (21, .int .i64 0)] hS (by kernel_rfl) ?_; intro s hS
  refine x_nil ?_
  refine sq_n ?_
  refine c_block ?_
  obtain ⟨y4, hy4, h⟩ := bind_some h
  have hH := Heap.addNil hH true 4
  refine c_loop (fun (st1 : (Int × (Sl DFile))) (fr : Fr) => ∃ t5, IsOne t5 ∧ Sub [(2, .ptr b2 0 0 5), (3, .ptr b3 0 0 5), (19, (Sl.t (a0.Files : Sl DFile))), (20, .int .i64 (a0.Files.l.length : Int)), (21, .int .i64 st1.1)] fr.s ∧ Heap σ0 fr.σ [.box b3 [t1, .int .i64 a0.At, t2, t5, t3], .box b2 [(Sl.t (⟨true, []⟩ : Sl ByteArray)), .int .i64 0, (Sl.t (⟨true, []⟩ : Sl ByteArray)), (Sl.t (⟨true, []⟩ : Sl DFile)), (Sl.t (⟨true, []⟩ : Sl ByteArray))], .own true 1 t1 (Sl.t (y1 : Sl ByteArray)), .own true 1 t2 (Sl.t (y2 : Sl ByteArray)), .own true 4 t5 (Sl.t (st1.2 : Sl DFile)), .own true 1 t3 (Sl.t (y3 : Sl ByteArray))]) (fun (y4 : (Sl DFile)) (e : AExit) (fr : Fr) => ∃ t6, IsOne t6 ∧ e = (.exit 0) ∧ Sub [(2, .ptr b2 0 0 5), (3, .ptr b3 0 0 5)] fr.s ∧ Heap σ0 fr.σ [.box b3 [t1, .int .i64 a0.At, t2, t6, t3], .box b2 [(Sl.t (⟨true, []⟩ : Sl ByteArray)), .int .i64 0, (Sl.t (⟨true, []⟩ : Sl ByteArray)), (Sl.t (⟨true, []⟩ : Sl DFile)), (Sl.t (⟨true, []⟩ : Sl ByteArray))], .own true 1 t1 (Sl.t (y1 : Sl ByteArray)), .own true 1 t2 (Sl.t (y2 : Sl ByteArray)), .own true 4 t6 (Sl.t (y4 : Sl DFile)), .own true 1 t3 (Sl.t (y3 : Sl ByteArray))]) hy4 (Exists.intro (T.row true 0 []) (And.intro ⟨rfl, rfl⟩ (And.intro (sub_to hS (by kernel_rfl)) (Heap.sel hH [1, 5, 4, 3, 0, 2] rfl (by kernel_rfl))))) ?_ ?_
  · clear h hy4 hS hH; clear y4; intro st1 x fr h HI; obtain ⟨s, σ⟩ := fr; obtain ⟨t5, ht5, ⟨hS, hH⟩⟩ := HI
    refine c_seq ?_
    refine c_region ?_
    refine q_seg 1 [(2, .ptr b2 0 0 5), (3, .ptr b3 0 0 5), (19, (Sl.t (a0.Files : Sl DFile))), (20, .int .i64 (a0.Files.l.length : Int)), (21, .int .i64 st1.1), (22, .bool (decide (st1.1 < (a0.Files.l.length : Int))))] hS (by kernel_rfl) ?_; intro s hS
    refine x_nil ?_
    refine sq_n ?_
    refine c_seq ?_
    by_cases hc1 : (decide (st1.1 < (a0.Files.l.length : Int))) = true
    · have h := it_pos hc1 h
      refine c_cond hS rfl (fun _ => ?_) (fun hf => ff_absurd hc1 hf)
      refine c_skip ?_
      refine sq_n ?_
      refine c_seq ?_
      refine c_block ?_
      refine c_seq ?_
      refine c_region ?_
      obtain ⟨y5, hy5, h⟩ := bind_some h
      refine q_elt (sl := a0.Files) (e := 52) [.str y5.Name, (Sl.t (y5.Lines : Sl ByteArray)), .int .i64 y5.Mode, .int .i64 y5.At] rfl hS rfl rfl (by kernel_rfl) (by kernel_rfl) hy5 rfl ?_; intro rest1 s hS
      refine q_seg 1 [(2, .ptr b2 0 0 5), (3, .ptr b3 0 0 5), (19, (Sl.t (a0.Files : Sl DFile))), (20, .int .i64 (a0.Files.l.length : Int)), (21, .int .i64 st1.1), (24, .agg (DFile.cells y5))] hS (by kernel_rfl) ?_; intro s hS
      refine q_alloc (z := [.str ⟨#[]⟩, (Sl.t (⟨true, []⟩ : Sl ByteArray)), .int .i64 0, .int .i64 0]) rfl hS hH (by kernel_rfl) ?_; intro b4 σ s hH hS
      refine q_store (v := .agg (DFile.cells y5)) (cs := [.str y5.Name, (Sl.t (y5.Lines : Sl ByteArray)), .int .i64 y5.Mode, .int .i64 y5.At]) (cells' := [.str y5.Name, (Sl.t (y5.Lines : Sl ByteArray)), .int .i64 y5.Mode, .int .i64 y5.At]) rfl hS hH rfl rfl rfl (by kernel_rfl) (by kernel_rfl) ?_; intro σ s hH hS
      refine x_nil ?_
      refine sq_n ?_
      refine c_seq ?_
      refine c_region ?_
      refine q_seg 1 [(2, .ptr b2 0 0 5), (3, .ptr b3 0 0 5), (5, .ptr b4 0 0 4), (19, (Sl.t (a0.Files : Sl DFile))), (20, .int .i64 (a0.Files.l.length : Int)), (21, .int .i64 st1.1), (25, .ptr b4 0 1 1)] hS (by kernel_rfl) ?_; intro s hS
      refine q_load (v := (Sl.t (y5.Lines : Sl ByteArray))) 0 trivial rfl hS hH rfl rfl (by kernel_rfl) ?_; intro s hS
      obtain ⟨y6, hy6, h⟩ := bind_some h
      refine q_callO (ents := []) (z := false) (ts := [(Sl.t (y5.Lines : Sl ByteArray))]) (vs := [(Sl.t (y5.Lines : Sl ByteArray))]) rfl rfl hS rfl rfl rfl hH (HL.leaf (fun σ d => hold_pure σ d _) HL.nil) hy6 ?_; intro hs σ s hl hH hS
      obtain ⟨t7, rfl⟩ := len1 hl
      have hH : Heap σ0 σ [.own true 1 t7 (Sl.t (y6 : Sl ByteArray)), .box b4 [.str y5.Name, (Sl.t (y5.Lines : Sl ByteArray)), .int .i64 y5.Mode, .int .i64 y5.At], .box b3 [t1, .int .i64 a0.At, t2, t5, t3], .box b2 [(Sl.t (⟨true, []⟩ : Sl ByteArray)), .int .i64 0, (Sl.t (⟨true, []⟩ : Sl ByteArray)), (Sl.t (⟨true, []⟩ : Sl DFile)), (Sl.t (⟨true, []⟩ : Sl ByteArray))], .own true 1 t1 (Sl.t (y1 : Sl ByteArray)), .own true 1 t2 (Sl.t (y2 : Sl ByteArray)), .own true 4 t5 (Sl.t (st1.2 : Sl DFile)), .own true 1 t3 (Sl.t (y3 : Sl ByteArray))] := hH
      have ht7 : IsOne t7 := Heap.one hH
      refine q_seg 1 [(2, .ptr b2 0 0 5), (3, .ptr b3 0 0 5), (5, .ptr b4 0 0 4), (19, (Sl.t (a0.Files : Sl DFile))), (20, .int .i64 (a0.Files.l.length : Int)), (21, .int .i64 st1.1), (27, t7), (28, .ptr b4 0 1 1)] hS (by kernel_rfl) ?_; intro s hS
      have hH : Heap σ0 σ [.box b4 [.str y5.Name, (Sl.t (y5.Lines : Sl ByteArray)), .int .i64 y5.Mode, .int .i64 y5.At], .own true 1 t7 (Sl.t (y6 : Sl ByteArray)), .box b3 [t1, .int .i64 a0.At, t2, t5, t3], .box b2 [(Sl.t (⟨true, []⟩ : Sl ByteArray)), .int .i64 0, (Sl.t (⟨true, []⟩ : Sl ByteArray)), (Sl.t (⟨true, []⟩ : Sl DFile)), (Sl.t (⟨true, []⟩ : Sl ByteArray))], .own true 1 t1 (Sl.t (y1 : Sl ByteArray)), .own true 1 t2 (Sl.t (y2 : Sl ByteArray)), .own true 4 t5 (Sl.t (st1.2 : Sl DFile)), .own true 1 t3 (Sl.t (y3 : Sl ByteArray))] := hH.sel [1, 0, 2, 3, 4, 5, 6, 7] rfl (by kernel_rfl)
      refine q_store (v := t7) (cs := [t7]) (cells' := [.str y5.Name, t7, .int .i64 y5.Mode, .int .i64 y5.At]) rfl hS hH rfl rfl (by simp [ht7.1, ht7.2]) (by simp [ht7.1, ht7.2]) (by kernel_rfl) ?_; intro σ s hH hS
      refine x_nil ?_
      refine sq_n ?_
      refine c_region ?_
      refine q_seg 1 [(2, .ptr b2 0 0 5), (3, .ptr b3 0 0 5), (5, .ptr b4 0 0 4), (19, (Sl.t (a0.Files : Sl DFile))), (20, .int .i64 (a0.Files.l.length : Int)), (21, .int .i64 st1.1), (29, .ptr b3 0 3 1)] hS (by kernel_rfl) ?_; intro s hS
      refine q_load (v := t5) 2 trivial rfl hS hH rfl rfl (by kernel_rfl) ?_; intro s hS
      refine q_load (v := .agg [.str y5.Name, t7, .int .i64 y5.Mode, .int .i64 y5.At]) 0 trivial rfl hS hH rfl rfl (by kernel_rfl) ?_; intro s hS
      have hH : Heap σ0 σ [.own true 1 t7 (Sl.t (y6 : Sl ByteArray)), .box b4 [.str y5.Name, t7, .int .i64 y5.Mode, .int .i64 y5.At], .box b3 [t1, .int .i64 a0.At, t2, t5, t3], .box b2 [(Sl.t (⟨true, []⟩ : Sl ByteArray)), .int .i64 0, (Sl.t (⟨true, []⟩ : Sl ByteArray)), (Sl.t (⟨true, []⟩ : Sl DFile)), (Sl.t (⟨true, []⟩ : Sl ByteArray))], .own true 1 t1 (Sl.t (y1 : Sl ByteArray)), .own true 1 t2 (Sl.t (y2 : Sl ByteArray)), .own true 4 t5 (Sl.t (st1.2 : Sl DFile)), .own true 1 t3 (Sl.t (y3 : Sl ByteArray))] := hH.sel [1, 0, 2, 3, 4, 5, 6, 7] rfl (by kernel_rfl)
      refine q_bs (ents := [.own true 1 t7 (Sl.t (y6 : Sl ByteArray))]) (e := 52) (sz := 4) (z := true) (vs := [.agg [.str y5.Name, t7, .int .i64 y5.Mode, .int .i64 y5.At]]) (zc := [.str ⟨#[]⟩, (Sl.t (⟨true, []⟩ : Sl ByteArray)), .int .i64 0, .int .i64 0]) (cs := [.str y5.Name, t7, .int .i64 y5.Mode, .int .i64 y5.At]) (us := [.str y5.Name, (Sl.t (y6 : Sl ByteArray)), .int .i64 y5.Mode, .int .i64 y5.At]) (v := Sl.t (⟨false, [(⟨y5.Name, y6, y5.Mode, y5.At⟩ : DFile)]⟩ : Sl DFile)) rfl hS hH (by kernel_rfl) (by kernel_rfl) (by kernel_rfl) (by kernel_rfl) (by kernel_rfl) (And.intro (by kernel_rfl) (And.intro (by simp [ht7.1, ht7.2]) trivial)) (by kernel_rfl) (HL.leaf (fun σ d => hold_str _ σ d _) (HL.own rfl (HL.leaf (fun σ d => hold_int _ σ d _ _) (HL.leaf (fun σ d => hold_int _ σ d _ _) HL.nil)))) (by kernel_rfl) ?_; intro t8 σ s ht8 hH hS
      have hH : Heap σ0 σ [.own true 4 t5 (Sl.t (st1.2 : Sl DFile)), .own true 4 t8 (Sl.t (⟨false, [(⟨y5.Name, y6, y5.Mode, y5.At⟩ : DFile)]⟩ : Sl DFile)), .box b4 [.str y5.Name, t7, .int .i64 y5.Mode, .int .i64 y5.At], .box b3 [t1, .int .i64 a0.At, t2, t5, t3], .box b2 [(Sl.t (⟨true, []⟩ : Sl ByteArray)), .int .i64 0, (Sl.t (⟨true, []⟩ : Sl ByteArray)), (Sl.t (⟨true, []⟩ : Sl DFile)), (Sl.t (⟨true, []⟩ : Sl ByteArray))], .own true 1 t1 (Sl.t (y1 : Sl ByteArray)), .own true 1 t2 (Sl.t (y2 : Sl ByteArray)), .own true 1 t3 (Sl.t (y3 : Sl ByteArray))] := hH.sel [6, 0, 1, 2, 3, 4, 5, 7] rfl (by kernel_rfl)
      obtain ⟨y7, hy7, h⟩ := bind_some h
      refine q_app (z := true) (t1 := t5) (a := st1.2) (b := (⟨false, [(⟨y5.Name, y6, y5.Mode, y5.At⟩ : DFile)]⟩ : Sl DFile)) (e := 52) (by_ := 56) (zc := [.str ⟨#[]⟩, (Sl.t (⟨true, []⟩ : Sl ByteArray)), .int .i64 0, .int .i64 0]) rfl hS hH rfl rfl (by kernel_rfl) (by kernel_rfl) (by kernel_rfl) (by kernel_rfl) (by kernel_rfl) (by kernel_rfl) hy7 ?_; intro t9 σ s ht9 hH hS
      refine q_seg 1 [(2, .ptr b2 0 0 5), (3, .ptr b3 0 0 5), (19, (Sl.t (a0.Files : Sl DFile))), (20, .int .i64 (a0.Files.l.length : Int)), (21, .int .i64 st1.1), (33, t9), (34, .ptr b3 0 3 1)] hS (by kernel_rfl) ?_; intro s hS
      have hH : Heap σ0 σ [.box b3 [t1, .int .i64 a0.At, t2, t5, t3], .own true 4 t9 (Sl.t (y7 : Sl DFile)), .box b4 [.str y5.Name, t7, .int .i64 y5.Mode, .int .i64 y5.At], .box b2 [(Sl.t (⟨true, []⟩ : Sl ByteArray)), .int .i64 0, (Sl.t (⟨true, []⟩ : Sl ByteArray)), (Sl.t (⟨true, []⟩ : Sl DFile)), (Sl.t (⟨true, []⟩ : Sl ByteArray))], .own true 1 t1 (Sl.t (y1 : Sl ByteArray)), .own true 1 t2 (Sl.t (y2 : Sl ByteArray)), .own true 1 t3 (Sl.t (y3 : Sl ByteArray))] := hH.sel [2, 0, 1, 3, 4, 5, 6] rfl (by kernel_rfl)
      refine q_store (v := t9) (cs := [t9]) (cells' := [t1, .int .i64 a0.At, t2, t9, t3]) rfl hS hH rfl rfl (by simp [ht9.1, ht9.2]) (by simp [ht9.1, ht9.2]) (by kernel_rfl) ?_; intro σ s hH hS
      refine x_nil ?_
      refine bk_n ?_
      refine sq_n ?_
      refine c_region ?_
      refine q_seg 2 [(2, .ptr b2 0 0 5), (3, .ptr b3 0 0 5), (19, (Sl.t (a0.Files : Sl DFile))), (20, .int .i64 (a0.Files.l.length : Int)), (21, .int .i64 (IntKind.i64.wrap (st1.1 + 1)))] hS (by kernel_rfl) ?_; intro s hS
      refine x_nil ?_
      injection h with h; subst h
      exact Exists.intro t9 (And.intro ht9 (And.intro (sub_to hS (by kernel_rfl)) (Heap.sel hH [0, 3, 4, 5, 1, 6] rfl (by kernel_rfl))))
    · have h := it_neg hc1 h
      refine c_cond hS rfl (fun hf => tt_absurd hc1 hf) (fun _ => ?_)
      refine c_exit ?_
      refine sq_x ?_
      injection h with h; subst h
      exact Exists.intro t5 (And.intro ht5 (And.intro rfl (And.intro (sub_to hS (by kernel_rfl)) hH)))
  · clear hS hH; intro e fr HF; obtain ⟨s, σ⟩ := fr
    obtain ⟨t6, ht6, ⟨rfl, hS, hH⟩⟩ := HF
    refine bk_e ?_
    refine sq_n ?_
    refine c_seq ?_
    refine c_region ?_
    refine q_load (v := .agg [t1, .int .i64 a0.At, t2, t6, t3]) 0 trivial rfl hS hH rfl rfl (by kernel_rfl) ?_; intro s hS
    have hH : Heap σ0 σ [.box b2 [(Sl.t (⟨true, []⟩ : Sl ByteArray)), .int .i64 0, (Sl.t (⟨true, []⟩ : Sl ByteArray)), (Sl.t (⟨true, []⟩ : Sl DFile)), (Sl.t (⟨true, []⟩ : Sl ByteArray))], .box b3 [t1, .int .i64 a0.At, t2, t6, t3], .own true 1 t1 (Sl.t (y1 : Sl ByteArray)), .own true 1 t2 (Sl.t (y2 : Sl ByteArray)), .own true 4 t6 (Sl.t (y4 : Sl DFile)), .own true 1 t3 (Sl.t (y3 : Sl ByteArray))] := hH.sel [1, 0, 2, 3, 4, 5] rfl (by kernel_rfl)
    refine q_store (v := .agg [t1, .int .i64 a0.At, t2, t6, t3]) (cs := [t1, .int .i64 a0.At, t2, t6, t3]) (cells' := [t1, .int .i64 a0.At, t2, t6, t3]) rfl hS hH rfl rfl rfl (by simp [ht1.1, ht1.2, ht2.1, ht2.2, ht3.1, ht3.2, ht6.1, ht6.2]) (by kernel_rfl) ?_; intro σ s hH hS
    refine x_nil ?_
    refine sq_n ?_
    refine c_ret ?_
    injection h with h; subst h
    have hH : Heap σ0 σ [.own true 1 t1 (Sl.t (y1 : Sl ByteArray)), .own true 1 t2 (Sl.t (y2 : Sl ByteArray)), .own true 4 t6 (Sl.t (y4 : Sl DFile)), .own true 1 t3 (Sl.t (y3 : Sl ByteArray)), .box b2 [t1, .int .i64 a0.At, t2, t6, t3], .box b3 [t1, .int .i64 a0.At, t2, t6, t3]] := hH.sel [2, 3, 4, 5, 0, 1] rfl (by kernel_rfl)
    exact end_Ow [t1, t2, t6, t3] [.box b2 [t1, .int .i64 a0.At, t2, t6, t3], .box b3 [t1, .int .i64 a0.At, t2, t6, t3]] (r_cell (v := .agg [t1, .int .i64 a0.At, t2, t6, t3]) hS (hH.at 4 rfl) rfl (by kernel_rfl) r_nil) (by kernel_rfl) rfl hH (by kernel_rfl)
end Go.Am
end
section
set_option maxRecDepth 100000
set_option maxHeartbeats 4000000
set_option linter.unusedVariables false
set_option linter.unusedSimpArgs false
namespace Go.Am
open Go.Proofs
noncomputable def B_impl_isShort (a0 : ByteArray) : Option Bool := (some (decide ((a0.size : Int) ≤ 200)))
theorem u_impl_isShort (a0 : ByteArray) (r : Bool) (h : B_impl_isShort a0 = some r) : F_impl_isShort a0 = some r := by
  unfold B_impl_isShort at h
  refine semW_of E_bool_inj rfl rfl ok_45 rfl (all_cons (by kernel_rfl) all_nil) ?_
  intro σ0 s hS hH
  have hS := sub_to (L' := [(0, .str a0)]) hS (by kernel_rfl)
  refine c_seq ?_
  refine c_region ?_
  refine q_seg 1 [(0, .str a0)] hS (by kernel_rfl) ?_; intro s hS
  refine x_nil ?_
  refine sq_n ?_
  refine c_seq ?_
  refine c_region ?_
  refine q_seg 4 [(2, .bool (decide ((a0.size : Int) ≤ 200)))] hS (by kernel_rfl) ?_; intro s hS
  refine x_nil ?_
  refine sq_n ?_
  refine c_ret ?_
  injection h with h; subst h
  exact end_W hH (r_tmp (v := .bool (decide ((a0.size : Int) ≤ 200))) hS rfl r_nil) rfl (by kernel_rfl) (by simp [pureT, pureL, E_bool])
end Go.Am
end
section
set_option maxRecDepth 100000
set_option maxHeartbeats 4000000
set_option linter.unusedVariables false
set_option linter.unusedSimpArgs false
namespace Go.Am
open Go.Proofs
noncomputable def B_laws_szStringS (a0 : (Sl ByteArray)) (a1 : Int) : Option Int := (if (decide ((IntKind.i64.wrap (a1 - (a0.l.length : Int))) < 0)) = true then (some (-1)) else ((loopO (S := (Int × Int)) (R := (Int ⊕ Int)) (fun st1 => (if (decide (st1.2 < (a0.l.length : Int))) = true then ((elt a0 st1.2).bind fun y2 => (if (decide ((IntKind.i64.wrap (st1.1 - (y2.size : Int))) < 0)) = true then (some (.inr (.inr (-1)))) else (some (.inl ((IntKind.i64.wrap (st1.1 - (y2.size : Int))), (IntKind.i64.wrap (st1.2 + 1))))))) else (some (.inr (.inl st1.1))))) ((IntKind.i64.wrap (a1 - (a0.l.length : Int))), 0)).bind fun y1 => (Sum.elim (fun y1 => (some y1)) (fun y1 => (some y1)) y1)))
theorem u_laws_szStringS (a0 : (Sl ByteArray)) (a1 : Int) (r : Int) (h : B_laws_szStringS a0 a1 = some r) : F_laws_szStringS a0 a1 = some r := by
  unfold B_laws_szStringS at h
  refine semW_of E_i64_inj rfl rfl ok_47 rfl (all_cons (by kernel_rfl) (all_cons (by kernel_rfl) all_nil)) ?_
  intro σ0 s hS hH
  have hS := sub_to (L' := [(0, (Sl.t (a0 : Sl ByteArray))), (1, .int .i64 a1)]) hS (by kernel_rfl)
  refine c_seq ?_
  refine c_region ?_
  refine q_seg 1 [(0, (Sl.t (a0 : Sl ByteArray))), (1, .int .i64 a1)] hS (by kernel_rfl) ?_; intro s hS
  refine x_nil ?_
  refine sq_n ?_
  refine c_seq ?_
  refine c_region ?_
  refine q_seg 5 [(0, (Sl.t (a0 : Sl ByteArray))), (1, .int .i64 (IntKind.i64.wrap (a1 - (a0.l.length : Int))))] hS (by kernel_rfl) ?_; intro s hS
  refine x_nil ?_
  refine sq_n ?_
  refine c_seq ?_
  refine c_seq ?_
  refine c_region ?_
  refine q_seg 2 [(0, (Sl.t (a0 : Sl ByteArray))), (1, .int .i64 (IntKind.i64.wrap (a1 - (a0.l.length : Int)))), (11, .bool (decide ((IntKind.i64.wrap (a1 - (a0.l.length : Int))) < 0)))] hS (by kernel_rfl) ?_; intro s hS
  refine x_nil ?_
  refine sq_n ?_
  by_cases hc1 : (decide ((IntKind.i64.wrap (a1 - (a0.l.length : Int))) < 0)) = true
  · have h := it_pos hc1 h
    refine c_cond hS rfl (fun _ => ?_) (fun hf => ff_absurd hc1 hf)
    refine c_seq ?_
    refine c_region ?_
    refine q_seg 1 [(4, .int .i64 (-1))] hS (by kernel_rfl) ?_; intro s hS
    refine x_nil ?_
    refine sq_n ?_
    refine c_ret ?_
    refine sq_r ?_
    injection h with h; subst h
    exact end_W hH (r_tmp (v := .int .i64 (-1)) hS rfl r_nil) rfl (by kernel_rfl) (by simp [pureT, pureL, E_i64])
  · have h := it_neg hc1 h
    refine c_cond hS rfl (fun hf => tt_absurd hc1 hf) (fun _ => ?_)
    refine c_skip ?_
    refine sq_n ?_
    refine c_seq ?_
    refine c_seq ?_
    refine c_region ?_
    refine q_seg 1 [(0, (Sl.t (a0 : Sl ByteArray))), (1, .int .i64 (IntKind.i64.wrap (a1 - (a0.l.length : Int)))), (5, .int .i64 0)] hS (by kernel_rfl) ?_; intro s hS
    refine x_nil ?_
    refine sq_n ?_
    refine c_block ?_
    obtain ⟨y1, hy1, h⟩ := bind_some h
    refine c_loop (fun (st1 : (Int × Int)) (fr : Fr) => Sub [(0, (Sl.t (a0 : Sl ByteArray))), (1, .int .i64 st1.1), (5, .int .i64 st1.2)] fr.s ∧ Heap σ0 fr.σ []) (fun (y1 : (Int ⊕ Int)) (e : AExit) (fr : Fr) => (Sum.elim (fun y => e = (.exit 0) ∧ Sub [(1, .int .i64 y)] fr.s ∧ Heap σ0 fr.σ []) (fun y => e = .ret ∧ endW Try.prog (Try.f47.results.toList) σ0 (E_i64 y) .ret fr)) y1) hy1 (And.intro (sub_to hS (by kernel_rfl)) hH) ?_ ?_
    · clear h hy1 hS hH; clear y1; intro st1 x fr h HI; obtain ⟨s, σ⟩ := fr; obtain ⟨hS, hH⟩ := HI
      refine c_seq ?_
      refine c_seq ?_
      refine c_region ?_
      refine q_seg 4 [(0, (Sl.t (a0 : Sl ByteArray))), (1, .int .i64 st1.1), (5, .int .i64 st1.2), (15, .bool (decide (st1.2 < (a0.l.length : Int))))] hS (by kernel_rfl) ?_; intro s hS
      refine x_nil ?_
      refine sq_n ?_
      by_cases hc2 : (decide (st1.2 < (a0.l.length : Int))) = true
      · have h := it_pos hc2 h
        refine c_cond hS rfl (fun _ => ?_) (fun hf => ff_absurd hc2 hf)
        refine c_skip ?_
        refine sq_n ?_
        refine c_seq ?_
        refine c_block ?_
        refine c_seq ?_
        refine c_region ?_
        refine q_seg 3 [(0, (Sl.t (a0 : Sl ByteArray))), (5, .int .i64 st1.2), (18, .int .i64 st1.1), (19, (Sl.t (a0 : Sl ByteArray))), (20, .int .i64 st1.2)] hS (by kernel_rfl) ?_; intro s hS
        obtain ⟨y2, hy2, h⟩ := bind_some h
        refine q_elt (sl := a0) (e := 9) [.str y2] rfl hS rfl rfl (by kernel_rfl) (by kernel_rfl) hy2 rfl ?_; intro rest1 s hS
        refine q_seg 4 [(0, (Sl.t (a0 : Sl ByteArray))), (1, .int .i64 (IntKind.i64.wrap (st1.1 - (y2.size : Int)))), (5, .int .i64 st1.2)] hS (by kernel_rfl) ?_; intro s hS
        refine x_nil ?_
        refine sq_n ?_
        refine c_seq ?_
        refine c_region ?_
        refine q_seg 2 [(0, (Sl.t (a0 : Sl ByteArray))), (1, .int .i64 (IntKind.i64.wrap (st1.1 - (y2.size : Int)))), (5, .int .i64 st1.2), (26, .bool (decide ((IntKind.i64.wrap (st1.1 - (y2.size : Int))) < 0)))] hS (by kernel_rfl) ?_; intro s hS
        refine x_nil ?_
        refine sq_n ?_
        by_cases hc3 : (decide ((IntKind.i64.wrap (st1.1 - (y2.size : Int))) < 0)) = true
        · have h := it_pos hc3 h
          refine c_cond hS rfl (fun _ => ?_) (fun hf => ff_absurd hc3 hf)
          refine c_seq ?_
          refine c_region ?_
          refine q_seg 1 [(4, .int .i64 (-1))] hS (by kernel_rfl) ?_; intro s hS
          refine x_nil ?_
          refine sq_n ?_
          refine c_ret ?_
          refine bk_r ?_
          refine sq_r ?_
          injection h with h; subst h
          exact And.intro rfl (end_W hH (r_tmp (v := .int .i64 (-1)) hS rfl r_nil) rfl (by kernel_rfl) (by simp [pureT, pureL, E_i64]))
        · have h := it_neg hc3 h
          refine c_cond hS rfl (fun hf => tt_absurd hc3 hf) (fun _ => ?_)
          refine c_skip ?_
          refine bk_n ?_
          refine sq_n ?_
          refine c_region ?_
          refine q_seg 3 [(0, (Sl.t (a0 : Sl ByteArray))), (1, .int .i64 (IntKind.i64.wrap (st1.1 - (y2.size : Int)))), (5, .int .i64 (IntKind.i64.wrap (st1.2 + 1)))] hS (by kernel_rfl) ?_; intro s hS
          refine x_nil ?_
          injection h with h; subst h
          exact And.intro (sub_to hS (by kernel_rfl)) hH
      · have h := it_neg hc2 h
        refine c_cond hS rfl (fun hf => tt_absurd hc2 hf) (fun _ => ?_)
        refine c_exit ?_
        refine sq_x ?_
        injection h with h; subst h
        exact And.intro rfl (And.intro (sub_to hS (by kernel_rfl)) hH)
    · clear hS hH; intro e fr HF; obtain ⟨s, σ⟩ := fr
      rcases y1 with y1 | y1
      · obtain ⟨rfl, hS, hH⟩ := HF
        refine bk_e ?_
        refine sq_n ?_
        refine c_seq ?_
        refine c_region ?_
        refine q_seg 2 [(4, .int .i64 y1)] hS (by kernel_rfl) ?_; intro s hS
        refine x_nil ?_
        refine sq_n ?_
        refine c_ret ?_
        injection h with h; subst h
        exact end_W hH (r_tmp (v := .int .i64 y1) hS rfl r_nil) rfl (by kernel_rfl) (by simp [pureT, pureL, E_i64])
      · obtain ⟨rfl, HE⟩ := HF
        refine bk_r ?_
        refine sq_r ?_
        injection h with h; subst h; exact HE
end Go.Am
end
section
set_option maxRecDepth 100000
set_option maxHeartbeats 4000000
set_option linter.unusedVariables false
set_option linter.unusedSimpArgs false
namespace Go.Am
open Go.Proofs
noncomputable def B_laws_szFileS (a0 : (Sl DFile)) (a1 : Int) : Option Int := (if (decide ((IntKind.i64.wrap (a1 - (a0.l.length : Int))) < 0)) = true then (some (-1)) else ((loopO (S := (Int × Int)) (R := (Int ⊕ Int)) (fun st1 => (if (decide (st1.2 < (a0.l.length : Int))) = true then ((elt a0 st1.2).bind fun y2 => ((F_laws_szFile y2 st1.1).bind fun y3 => (if (decide (y3 < 0)) = true then (some (.inr (.inr (-1)))) else (some (.inl (y3, (IntKind.i64.wrap (st1.2 + 1)))))))) else (some (.inr (.inl st1.1))))) ((IntKind.i64.wrap (a1 - (a0.l.length : Int))), 0)).bind fun y1 => (Sum.elim (fun y1 => (some y1)) (fun y1 => (some y1)) y1)))
theorem u_laws_szFileS (a0 : (Sl DFile)) (a1 : Int) (r : Int) (h : B_laws_szFileS a0 a1 = some r) : F_laws_szFileS a0 a1 = some r := by
  unfold B_laws_szFileS at h
  refine semW_of E_i64_inj rfl rfl ok_48 rfl (all_cons (by kernel_rfl) (all_cons (by kernel_rfl) all_nil)) ?_
  intro σ0 s hS hH
  have hS := sub_to (L' := [(0, (Sl.t (a0 : Sl DFile))), (1, .int .i64 a1)]) hS (by kernel_rfl)
  refine c_seq ?_
  refine c_region ?_
  refine q_seg 1 [(0, (Sl.t (a0 : Sl DFile))), (1, .int .i64 a1)] hS (by kernel_rfl) ?_; intro s hS
  refine x_nil ?_
  refine sq_n ?_
  refine c_seq ?_
  refine c_region ?_
  refine q_seg 5 [(0, (Sl.t (a0 : Sl DFile))), (1, .int .i64 (IntKind.i64.wrap (a1 - (a0.l.length : Int))))] hS (by kernel_rfl) ?_; intro s hS
  refine x_nil ?_
  refine sq_n ?_
  refine c_seq ?_
  refine c_seq ?_
  refine c_region ?_
  refine q_seg 2 [(0, (Sl.t (a0 : Sl DFile))), (1, .int .i64 (IntKind.i64.wrap (a1 - (a0.l.length : Int)))), (11, .bool (decide ((IntKind.i64.wrap (a1 - (a0.l.length : Int))) < 0)))] hS (by kernel_rfl) ?_; intro s hS
  refine x_nil ?_
  refine sq_n ?_
  by_cases hc1 : (decide ((IntKind.i64.wrap (a1 - (a0.l.length : Int))) < 0)) = true
  · have h := it_pos hc1 h
    refine c_cond hS rfl (fun _ => ?_) (fun hf => ff_absurd hc1 hf)
    refine c_seq ?_
    refine c_region ?_
    refine q_seg 1 [(4, .int .i64 (-1))] hS (by kernel_rfl) ?_; intro s hS
    refine x_nil ?_
    refine sq_n ?_
    refine c_ret ?_
    refine sq_r ?_
    injection h with h; subst h
    exact end_W hH (r_tmp (v := .int .i64 (-1)) hS rfl r_nil) rfl (by kernel_rfl) (by simp [pureT, pureL, E_i64])
  · have h := it_neg hc1 h
    refine c_cond hS rfl (fun hf => tt_absurd hc1 hf) (fun _ => ?_)
    refine c_skip ?_
    refine sq_n ?_
    refine c_seq ?_
    refine c_seq ?_
    refine c_region ?_
    refine q_seg 1 [(0, (Sl.t (a0 : Sl DFile))), (1, .int .i64 (IntKind.i64.wrap (a1 - (a0.l.length : Int)))), (5, .int .i64 0)] hS (by kernel_rfl) ?_; intro s hS
    refine x_nil ?_
    refine sq_n ?_
    refine c_block ?_
    obtain ⟨y1, hy1, h⟩ := bind_some h
    refine c_loop (fun (st1 : (Int × Int)) (fr : Fr) => Sub [(0, (Sl.t (a0 : Sl DFile))), (1, .int .i64 st1.1), (5, .int .i64 st1.2)] fr.s ∧ Heap σ0 fr.σ []) (fun (y1 : (Int ⊕ Int)) (e : AExit) (fr : Fr) => (Sum.elim (fun y => e = (.exit 0) ∧ Sub [(1, .int .i64 y)] fr.s ∧ Heap σ0 fr.σ []) (fun y => e = .ret ∧ endW Try.prog (Try.f48.results.toList) σ0 (E_i64 y) .ret fr)) y1) hy1 (And.intro (sub_to hS (by kernel_rfl)) hH) ?_ ?_
    · clear h hy1 hS hH; clear y1; intro st1 x fr h HI; obtain ⟨s, σ⟩ := fr; obtain ⟨hS, hH⟩ := HI
      refine c_seq ?_
      refine c_seq ?_
      refine c_region ?_
      refine q_seg 4 [(0, (Sl.t (a0 : Sl DFile))), (1, .int .i64 st1.1), (5, .int .i64 st1.2), (15, .bool (decide (st1.2 < (a0.l.length : Int))))] hS (by kernel_rfl) ?_; intro s hS
      refine x_nil ?_
      refine sq_n ?_
      by_cases hc2 : (decide (st1.2 < (a0.l.length : Int))) = true
      · have h := it_pos hc2 h
        refine c_cond hS rfl (fun _ => ?_) (fun hf => ff_absurd hc2 hf)
        refine c_skip ?_
        refine sq_n ?_
        refine c_seq ?_
        refine c_block ?_
        refine c_seq ?_
        refine c_region ?_
        refine q_seg 2 [(0, (Sl.t (a0 : Sl DFile))), (1, .int .i64 st1.1), (5, .int .i64 st1.2), (18, (Sl.t (a0 : Sl DFile))), (19, .int .i64 st1.2)] hS (by kernel_rfl) ?_; intro s hS
        obtain ⟨y2, hy2, h⟩ := bind_some h
        refine q_elt (sl := a0) (e := 104) [.str y2.Name, (Sl.t (y2.Lines : Sl ByteArray)), .int .i64 y2.Mode, .int .i64 y2.At] rfl hS rfl rfl (by kernel_rfl) (by kernel_rfl) hy2 rfl ?_; intro rest1 s hS
        refine q_seg 2 [(0, (Sl.t (a0 : Sl DFile))), (5, .int .i64 st1.2), (21, .agg (DFile.cells y2)), (22, .int .i64 st1.1)] hS (by kernel_rfl) ?_; intro s hS
        obtain ⟨y3, hy3, h⟩ := bind_some h
        refine q_callF (a := []) (b := []) (xs := [.agg (DFile.cells y2), .int .i64 st1.1]) rfl hS rfl rfl hy3 ?_; intro s hS
        refine q_seg 1 [(0, (Sl.t (a0 : Sl DFile))), (1, .int .i64 y3), (5, .int .i64 st1.2)] hS (by kernel_rfl) ?_; intro s hS
        refine x_nil ?_
        refine sq_n ?_
        refine c_seq ?_
        refine c_region ?_
        refine q_seg 2 [(0, (Sl.t (a0 : Sl DFile))), (1, .int .i64 y3), (5, .int .i64 st1.2), (25, .bool (decide (y3 < 0)))] hS (by kernel_rfl) ?_; intro s hS
        refine x_nil ?_
        refine sq_n ?_
        by_cases hc3 : (decide (y3 < 0)) = true
        · have h := it_pos hc3 h
          refine c_cond hS rfl (fun _ => ?_) (fun hf => ff_absurd hc3 hf)
          refine c_seq ?_
          refine c_region ?_
          refine q_seg 1 [(4, .int .i64 (-1))] hS (by kernel_rfl) ?_; intro s hS
          refine x_nil ?_
          refine sq_n ?_
          refine c_ret ?_
          refine bk_r ?_
          refine sq_r ?_
          injection h with h; subst h
          exact And.intro rfl (end_W hH (r_tmp (v := .int .i64 (-1)) hS rfl r_nil) rfl (by kernel_rfl) (by simp [pureT, pureL, E_i64]))
        · have h := it_neg hc3 h
          refine c_cond hS rfl (fun hf => tt_absurd hc3 hf) (fun _ => ?_)
          refine c_skip ?_
          refine bk_n ?_
          refine sq_n ?_
          refine c_region ?_
          refine q_seg 3 [(0, (Sl.t (a0 : Sl DFile))), (1, .int .i64 y3), (5, .int .i64 (IntKind.i64.wrap (st1.2 + 1)))] hS (by kernel_rfl) ?_; intro s hS
          refine x_nil ?_
          injection h with h; subst h
          exact And.intro (sub_to hS (by kernel_rfl)) hH
      · have h := it_neg hc2 h
        refine c_cond hS rfl (fun hf => tt_absurd hc2 hf) (fun _ => ?_)
        refine c_exit ?_
        refine sq_x ?_
        injection h with h; subst h
        exact And.intro rfl (And.intro (sub_to hS (by kernel_rfl)) hH)
    · clear hS hH; intro e fr HF; obtain ⟨s, σ⟩ := fr
      rcases y1 with y1 | y1
      · obtain ⟨rfl, hS, hH⟩ := HF
        refine bk_e ?_
        refine sq_n ?_
        refine c_seq ?_
        refine c_region ?_
        refine q_seg 2 [(4, .int .i64 y1)] hS (by kernel_rfl) ?_; intro s hS
        refine x_nil ?_
        refine sq_n ?_
        refine c_ret ?_
        injection h with h; subst h
        exact end_W hH (r_tmp (v := .int .i64 y1) hS rfl r_nil) rfl (by kernel_rfl) (by simp [pureT, pureL, E_i64])
      · obtain ⟨rfl, HE⟩ := HF
        refine bk_r ?_
        refine sq_r ?_
        injection h with h; subst h; exact HE
end Go.Am
end
section
set_option maxRecDepth 100000
set_option maxHeartbeats 4000000
set_option linter.unusedVariables false
set_option linter.unusedSimpArgs false
namespace Go.Am
open Go.Proofs
noncomputable def B_spec_l21Own (a0 : DConsole) : Option DConsole := ((F_spec_l21Texts a0.Input).bind fun y1 => ((F_spec_l21Texts a0.Output).bind fun y2 => ((F_spec_l21Texts a0.Trace).bind fun y3 => ((loopO (S := (Int × (Sl DFile))) (R := (Sl DFile)) (fun st1 => (if (decide (st1.1 < (a0.Files.l.length : Int))) = true then ((elt a0.Files st1.1).bind fun y5 => ((F_spec_l21Texts y5.Lines).bind fun y6 => ((appS 56 st1.2 (⟨false, [(⟨y5.Name, y6, y5.Mode, y5.At⟩ : DFile)]⟩ : Sl DFile)).bind fun y7 => (some (.inl ((IntKind.i64.wrap (st1.1 + 1)), y7)))))) else (some (.inr st1.2)))) (0, (⟨true, []⟩ : Sl DFile))).bind fun y4 => (some (⟨y1, a0.At, y2, y4, y3⟩ : DConsole))))))
theorem u_spec_l21Own (a0 : DConsole) (r : DConsole) (h : B_spec_l21Own a0 = some r) : F_spec_l21Own a0 = some r := by
  unfold B_spec_l21Own at h
  refine semLO_of rfl rfl ok_49 (fun bs hb => by obtain ⟨bp0, rfl⟩ := bl1 hb; exact rfl) (fun bs hb => by obtain ⟨bp0, rfl⟩ := bl1 hb; exact (all_cons rfl all_nil)) ?_
  intro σ0 bs s hL hS hH
  obtain ⟨bp0, rfl, hL_bp0⟩ := lent1 hL
  clear hL
  have hS := sub_to (L' := [(0, .ptr bp0 0 0 5)]) hS (by kernel_rfl)
  refine c_seq ?_
  refine c_region ?_
  refine q_alloc (z := [(Sl.t (⟨true, []⟩ : Sl ByteArray)), .int .i64 0, (Sl.t (⟨true, []⟩ : Sl ByteArray)), (Sl.t (⟨true, []⟩ : Sl DFile)), (Sl.t (⟨true, []⟩ : Sl ByteArray))]) rfl hS hH (by kernel_rfl) ?_; intro b1 σ s hH hS
  refine x_nil ?_
  refine sq_n ?_
  refine c_seq ?_
  refine c_chain (fun _ => False) (fun _ => rfl) (by kernel_rfl) (by kernel_rfl) hH ?_; intro mb σs σ hn0 hlt hlto hH
  have hlt_bp0 : bp0 < mb ∧ ¬ (fun _ => False) bp0 := ⟨Nat.lt_of_lt_of_le hL_bp0.1 hn0, fun h => h⟩
  refine q_seg 3 [(0, .ptr bp0 0 0 5), (2, .ptr b1 0 0 5), (8, .ptr bp0 0 0 1)] hS (by kernel_rfl) ?_; intro s hS
  refine q_loadL (v := (Sl.t (a0.Input : Sl ByteArray))) (Or.inl (by kernel_rfl)) rfl hS hH hL_bp0 rfl (by kernel_rfl) ?_; intro s hS
  obtain ⟨y1, hy1, h⟩ := bind_some h
  refine q_callO (ents := []) (z := false) (ts := [(Sl.t (a0.Input : Sl ByteArray))]) (vs := [(Sl.t (a0.Input : Sl ByteArray))]) rfl rfl hS rfl rfl rfl hH (HL.leaf (fun σ d => hold_pure σ d _) HL.nil) hy1 ?_; intro hs σ s hl hH hS
  obtain ⟨t1, rfl⟩ := len1 hl
  have hH : Heap σ0 σ [.own true 1 t1 (Sl.t (y1 : Sl ByteArray)), .box b1 [(Sl.t (⟨true, []⟩ : Sl ByteArray)), .int .i64 0, (Sl.t (⟨true, []⟩ : Sl ByteArray)), (Sl.t (⟨true, []⟩ : Sl DFile)), (Sl.t (⟨true, []⟩ : Sl ByteArray))]] := hH
  have ht1 : IsOne t1 := Heap.one hH
  refine q_seg 3 [(0, .ptr bp0 0 0 5), (2, .ptr b1 0 0 5), (10, t1), (13, .ptr bp0 0 1 1)] hS (by kernel_rfl) ?_; intro s hS
  refine q_loadL (v := .int .i64 a0.At) (Or.inr hlt_bp0) rfl hS hH hL_bp0 rfl (by kernel_rfl) ?_; intro s hS
  refine q_seg 3 [(0, .ptr bp0 0 0 5), (2, .ptr b1 0 0 5), (10, t1), (14, .int .i64 a0.At), (17, .ptr bp0 0 2 1)] hS (by kernel_rfl) ?_; intro s hS
  refine q_loadL (v := (Sl.t (a0.Output : Sl ByteArray))) (Or.inr hlt_bp0) rfl hS hH hL_bp0 rfl (by kernel_rfl) ?_; intro s hS
  obtain ⟨y2, hy2, h⟩ := bind_some h
  refine q_callO (ents := []) (z := false) (ts := [(Sl.t (a0.Output : Sl ByteArray))]) (vs := [(Sl.t (a0.Output : Sl ByteArray))]) rfl rfl hS rfl rfl rfl hH (HL.leaf (fun σ d => hold_pure σ d _) HL.nil) hy2 ?_; intro hs σ s hl hH hS
  obtain ⟨t2, rfl⟩ := len1 hl
  have hH : Heap σ0 σ [.own true 1 t2 (Sl.t (y2 : Sl ByteArray)), .own true 1 t1 (Sl.t (y1 : Sl ByteArray)), .box b1 [(Sl.t (⟨true, []⟩ : Sl ByteArray)), .int .i64 0, (Sl.t (⟨true, []⟩ : Sl ByteArray)), (Sl.t (⟨true, []⟩ : Sl DFile)), (Sl.t (⟨true, []⟩ : Sl ByteArray))]] := hH
  have ht2 : IsOne t2 := Heap.one hH
  refine q_seg 3 [(0, .ptr bp0 0 0 5), (2, .ptr b1 0 0 5), (10, t1), (14, .int .i64 a0.At), (19, t2), (22, .ptr bp0 0 4 1)] hS (by kernel_rfl) ?_; intro s hS
  refine q_loadL (v := (Sl.t (a0.Trace : Sl ByteArray))) (Or.inr hlt_bp0) rfl hS hH hL_bp0 rfl (by kernel_rfl) ?_; intro s hS
  obtain ⟨y3, hy3, h⟩ := bind_some h
  refine q_callO (ents := []) (z := false) (ts := [(Sl.t (a0.Trace : Sl ByteArray))]) (vs := [(Sl.t (a0.Trace : Sl ByteArray))]) rfl rfl hS rfl rfl rfl hH (HL.leaf (fun σ d => hold_pure σ d _) HL.nil) hy3 ?_; intro hs σ s hl hH hS
  obtain ⟨t3, rfl⟩ := len1 hl
  have hH : Heap σ0 σ [.own true 1 t3 (Sl.t (y3 : Sl ByteArray)), .own true 1 t2 (Sl.t (y2 : Sl ByteArray)), .own true 1 t1 (Sl.t (y1 : Sl ByteArray)), .box b1 [(Sl.t (⟨true, []⟩ : Sl ByteArray)), .int .i64 0, (Sl.t (⟨true, []⟩ : Sl ByteArray)), (Sl.t (⟨true, []⟩ : Sl DFile)), (Sl.t (⟨true, []⟩ : Sl ByteArray))]] := hH
  have ht3 : IsOne t3 := Heap.one hH
  refine q_build (qs := [(0, t1), (1, .int .i64 a0.At), (2, t2), (4, t3)]) (z := [(Sl.t (⟨true, []⟩ : Sl ByteArray)), .int .i64 0, (Sl.t (⟨true, []⟩ : Sl ByteArray)), (Sl.t (⟨true, []⟩ : Sl DFile)), (Sl.t (⟨true, []⟩ : Sl ByteArray))]) (r := [t1, .int .i64 a0.At, t2, (Sl.t (⟨true, []⟩ : Sl DFile)), t3]) [[t1], [.int .i64 a0.At], [t2], [t3]] rfl hS rfl (by kernel_rfl) (by kernel_rfl) (And.intro (by simp [ht1.1, ht1.2]) (And.intro (by simp [ht1.1, ht1.2]) (And.intro rfl (And.intro (by kernel_rfl) (And.intro (by simp [ht2.1, ht2.2]) (And.intro (by simp [ht2.1, ht2.2]) (And.intro (by simp [ht3.1, ht3.2]) (And.intro (by simp [ht3.1, ht3.2]) trivial)))))))) (by kernel_rfl) ?_; intro s hS
  refine q_allocC rfl (by exact hn0) (z := [(Sl.t (⟨true, []⟩ : Sl ByteArray)), .int .i64 0, (Sl.t (⟨true, []⟩ : Sl ByteArray)), (Sl.t (⟨true, []⟩ : Sl DFile)), (Sl.t (⟨true, []⟩ : Sl ByteArray))]) rfl hS hH (by kernel_rfl) ?_; intro b2 σ s hwr_b2 hH hS
  refine q_storeC rfl (v := .agg [t1, .int .i64 a0.At, t2, (Sl.t (⟨true, []⟩ : Sl DFile)), t3]) (cs := [t1, .int .i64 a0.At, t2, (Sl.t (⟨true, []⟩ : Sl DFile)), t3]) (cells' := [t1, .int .i64 a0.At, t2, (Sl.t (⟨true, []⟩ : Sl DFile)), t3]) (by exact hwr_b2) rfl hS hH rfl rfl rfl (by simp [ht1.1, ht1.2, ht2.1, ht2.2, ht3.1, ht3.2]) (by kernel_rfl) ?_; intro σ s hH hS
  refine x_nil ?_
  refine sq_n ?_
  refine c_seq ?_
  refine c_seq ?_
  refine c_region ?_
  refine q_seg 1 [(0, .ptr bp0 0 0 5), (2, .ptr b1 0 0 5), (3, .ptr b2 0 0 5), (4, .int .i64 0)] hS (by kernel_rfl) ?_; intro s hS
  refine x_nil ?_
  refine sq_n ?_
  refine c_block ?_
  obtain ⟨y4, hy4, h⟩ := bind_some h
  have hH := Heap.addNil hH true 4
  refine c_loop (fun (st1 : (Int × (Sl DFile))) (fr : Fr) => ∃ t5, IsOne t5 ∧ Sub [(0, .ptr bp0 0 0 5), (2, .ptr b1 0 0 5), (3, .ptr b2 0 0 5), (4, .int .i64 st1.1)] fr.s ∧ Heap σ0 fr.σ [.box b2 [t1, .int .i64 a0.At, t2, t5, t3], .box b1 [(Sl.t (⟨true, []⟩ : Sl ByteArray)), .int .i64 0, (Sl.t (⟨true, []⟩ : Sl ByteArray)), (Sl.t (⟨true, []⟩ : Sl DFile)), (Sl.t (⟨true, []⟩ : Sl ByteArray))], .own true 1 t1 (Sl.t (y1 : Sl ByteArray)), .own true 1 t2 (Sl.t (y2 : Sl ByteArray)), .own true 4 t5 (Sl.t (st1.2 : Sl DFile)), .own true 1 t3 (Sl.t (y3 : Sl ByteArray))]) (fun (y4 : (Sl DFile)) (e : AExit) (fr : Fr) => ∃ t6, IsOne t6 ∧ e = (.exit 0) ∧ Sub [(2, .ptr b1 0 0 5), (3, .ptr b2 0 0 5)] fr.s ∧ Heap σ0 fr.σ [.box b2 [t1, .int .i64 a0.At, t2, t6, t3], .box b1 [(Sl.t (⟨true, []⟩ : Sl ByteArray)), .int .i64 0, (Sl.t (⟨true, []⟩ : Sl ByteArray)), (Sl.t (⟨true, []⟩ : Sl DFile)), (Sl.t (⟨true, []⟩ : Sl ByteArray))], .own true 1 t1 (Sl.t (y1 : Sl ByteArray)), .own true 1 t2 (Sl.t (y2 : Sl ByteArray)), .own true 4 t6 (Sl.t (y4 : Sl DFile)), .own true 1 t3 (Sl.t (y3 : Sl ByteArray))]) hy4 (Exists.intro (T.row true 0 []) (And.intro ⟨rfl, rfl⟩ (And.intro (sub_to hS (by kernel_rfl)) (Heap.sel hH [1, 5, 4, 3, 0, 2] rfl (by kernel_rfl))))) ?_ ?_
  · clear h hy4 hS hH; clear y4; intro st1 x fr h HI; obtain ⟨s, σ⟩ := fr; obtain ⟨t5, ht5, ⟨hS, hH⟩⟩ := HI
    refine c_seq ?_
    refine c_seq ?_
    refine c_region ?_
    refine q_seg 4 [(0, .ptr bp0 0 0 5), (2, .ptr b1 0 0 5), (3, .ptr b2 0 0 5), (4, .int .i64 st1.1), (26, .int .i64 st1.1), (29, .ptr bp0 0 3 1)] hS (by kernel_rfl) ?_; intro s hS
    refine q_loadL (v := (Sl.t (a0.Files : Sl DFile))) trivial rfl hS hH hL_bp0 rfl (by kernel_rfl) ?_; intro s hS
    refine q_seg 2 [(0, .ptr bp0 0 0 5), (2, .ptr b1 0 0 5), (3, .ptr b2 0 0 5), (4, .int .i64 st1.1), (32, .bool (decide (st1.1 < (a0.Files.l.length : Int))))] hS (by kernel_rfl) ?_; intro s hS
    refine x_nil ?_
    refine sq_n ?_
    by_cases hc1 : (decide (st1.1 < (a0.Files.l.length : Int))) = true
    · have h := it_pos hc1 h
      refine c_cond hS rfl (fun _ => ?_) (fun hf => ff_absurd hc1 hf)
      refine c_skip ?_
      refine sq_n ?_
      refine c_seq ?_
      refine c_block ?_
      refine c_seq ?_
      refine c_region ?_
      refine q_seg 3 [(0, .ptr bp0 0 0 5), (2, .ptr b1 0 0 5), (3, .ptr b2 0 0 5), (4, .int .i64 st1.1), (37, .ptr bp0 0 3 1)] hS (by kernel_rfl) ?_; intro s hS
      refine q_loadL (v := (Sl.t (a0.Files : Sl DFile))) trivial rfl hS hH hL_bp0 rfl (by kernel_rfl) ?_; intro s hS
      refine q_seg 1 [(0, .ptr bp0 0 0 5), (2, .ptr b1 0 0 5), (3, .ptr b2 0 0 5), (4, .int .i64 st1.1), (38, (Sl.t (a0.Files : Sl DFile))), (39, .int .i64 st1.1)] hS (by kernel_rfl) ?_; intro s hS
      obtain ⟨y5, hy5, h⟩ := bind_some h
      refine q_elt (sl := a0.Files) (e := 52) [.str y5.Name, (Sl.t (y5.Lines : Sl ByteArray)), .int .i64 y5.Mode, .int .i64 y5.At] rfl hS rfl rfl (by kernel_rfl) (by kernel_rfl) hy5 rfl ?_; intro rest1 s hS
      refine q_seg 1 [(0, .ptr bp0 0 0 5), (2, .ptr b1 0 0 5), (3, .ptr b2 0 0 5), (4, .int .i64 st1.1), (41, .agg (DFile.cells y5))] hS (by kernel_rfl) ?_; intro s hS
      refine q_alloc (z := [.str ⟨#[]⟩, (Sl.t (⟨true, []⟩ : Sl ByteArray)), .int .i64 0, .int .i64 0]) rfl hS hH (by kernel_rfl) ?_; intro b3 σ s hH hS
      refine q_store (v := .agg (DFile.cells y5)) (cs := [.str y5.Name, (Sl.t (y5.Lines : Sl ByteArray)), .int .i64 y5.Mode, .int .i64 y5.At]) (cells' := [.str y5.Name, (Sl.t (y5.Lines : Sl ByteArray)), .int .i64 y5.Mode, .int .i64 y5.At]) rfl hS hH rfl rfl rfl (by kernel_rfl) (by kernel_rfl) ?_; intro σ s hH hS
      refine x_nil ?_
      refine sq_n ?_
      refine c_seq ?_
      refine c_region ?_
      refine q_seg 1 [(0, .ptr bp0 0 0 5), (2, .ptr b1 0 0 5), (3, .ptr b2 0 0 5), (4, .int .i64 st1.1), (5, .ptr b3 0 0 4), (42, .ptr b3 0 1 1)] hS (by kernel_rfl) ?_; intro s hS
      refine q_load (v := (Sl.t (y5.Lines : Sl ByteArray))) 0 trivial rfl hS hH rfl rfl (by kernel_rfl) ?_; intro s hS
      obtain ⟨y6, hy6, h⟩ := bind_some h
      refine q_callO (ents := []) (z := false) (ts := [(Sl.t (y5.Lines : Sl ByteArray))]) (vs := [(Sl.t (y5.Lines : Sl ByteArray))]) rfl rfl hS rfl rfl rfl hH (HL.leaf (fun σ d => hold_pure σ d _) HL.nil) hy6 ?_; intro hs σ s hl hH hS
      obtain ⟨t7, rfl⟩ := len1 hl
      have hH : Heap σ0 σ [.own true 1 t7 (Sl.t (y6 : Sl ByteArray)), .box b3 [.str y5.Name, (Sl.t (y5.Lines : Sl ByteArray)), .int .i64 y5.Mode, .int .i64 y5.At], .box b2 [t1, .int .i64 a0.At, t2, t5, t3], .box b1 [(Sl.t (⟨true, []⟩ : Sl ByteArray)), .int .i64 0, (Sl.t (⟨true, []⟩ : Sl ByteArray)), (Sl.t (⟨true, []⟩ : Sl DFile)), (Sl.t (⟨true, []⟩ : Sl ByteArray))], .own true 1 t1 (Sl.t (y1 : Sl ByteArray)), .own true 1 t2 (Sl.t (y2 : Sl ByteArray)), .own true 4 t5 (Sl.t (st1.2 : Sl DFile)), .own true 1 t3 (Sl.t (y3 : Sl ByteArray))] := hH
      have ht7 : IsOne t7 := Heap.one hH
      refine q_seg 1 [(0, .ptr bp0 0 0 5), (2, .ptr b1 0 0 5), (3, .ptr b2 0 0 5), (4, .int .i64 st1.1), (5, .ptr b3 0 0 4), (44, t7), (45, .ptr b3 0 1 1)] hS (by kernel_rfl) ?_; intro s hS
      have hH : Heap σ0 σ [.box b3 [.str y5.Name, (Sl.t (y5.Lines : Sl ByteArray)), .int .i64 y5.Mode, .int .i64 y5.At], .own true 1 t7 (Sl.t (y6 : Sl ByteArray)), .box b2 [t1, .int .i64 a0.At, t2, t5, t3], .box b1 [(Sl.t (⟨true, []⟩ : Sl ByteArray)), .int .i64 0, (Sl.t (⟨true, []⟩ : Sl ByteArray)), (Sl.t (⟨true, []⟩ : Sl DFile)), (Sl.t (⟨true, []⟩ : Sl ByteArray))], .own true 1 t1 (Sl.t (y1 : Sl ByteArray)), .own true 1 t2 (Sl.t (y2 : Sl ByteArray)), .own true 4 t5 (Sl.t (st1.2 : Sl DFile)), .own true 1 t3 (Sl.t (y3 : Sl ByteArray))] := hH.sel [1, 0, 2, 3, 4, 5, 6, 7] rfl (by kernel_rfl)
      refine q_store (v := t7) (cs := [t7]) (cells' := [.str y5.Name, t7, .int .i64 y5.Mode, .int .i64 y5.At]) rfl hS hH rfl rfl (by simp [ht7.1, ht7.2]) (by simp [ht7.1, ht7.2]) (by kernel_rfl) ?_; intro σ s hH hS
      refine x_nil ?_
      refine sq_n ?_
      refine c_region ?_
      refine q_seg 1 [(0, .ptr bp0 0 0 5), (2, .ptr b1 0 0 5), (3, .ptr b2 0 0 5), (4, .int .i64 st1.1), (5, .ptr b3 0 0 4), (46, .ptr b2 0 3 1)] hS (by kernel_rfl) ?_; intro s hS
      refine q_load (v := t5) 2 trivial rfl hS hH rfl rfl (by kernel_rfl) ?_; intro s hS
      refine q_load (v := .agg [.str y5.Name, t7, .int .i64 y5.Mode, .int .i64 y5.At]) 0 trivial rfl hS hH rfl rfl (by kernel_rfl) ?_; intro s hS
      have hH : Heap σ0 σ [.own true 1 t7 (Sl.t (y6 : Sl ByteArray)), .box b3 [.str y5.Name, t7, .int .i64 y5.Mode, .int .i64 y5.At], .box b2 [t1, .int .i64 a0.At, t2, t5, t3], .box b1 [(Sl.t (⟨true, []⟩ : Sl ByteArray)), .int .i64 0, (Sl.t (⟨true, []⟩ : Sl ByteArray)), (Sl.t (⟨true, []⟩ : Sl DFile)), (Sl.t (⟨true, []⟩ : Sl ByteArray))], .own true 1 t1 (Sl.t (y1 : Sl ByteArray)), .own true 1 t2 (Sl.t (y2 : Sl ByteArray)), .own true 4 t5 (Sl.t (st1.2 : Sl DFile)), .own true 1 t3 (Sl.t (y3 : Sl ByteArray))] := hH.sel [1, 0, 2, 3, 4, 5, 6, 7] rfl (by kernel_rfl)
      refine q_bs (ents := [.own true 1 t7 (Sl.t (y6 : Sl ByteArray))]) (e := 52) (sz := 4) (z := true) (vs := [.agg [.str y5.Name, t7, .int .i64 y5.Mode, .int .i64 y5.At]]) (zc := [.str ⟨#[]⟩, (Sl.t (⟨true, []⟩ : Sl ByteArray)), .int .i64 0, .int .i64 0]) (cs := [.str y5.Name, t7, .int .i64 y5.Mode, .int .i64 y5.At]) (us := [.str y5.Name, (Sl.t (y6 : Sl ByteArray)), .int .i64 y5.Mode, .int .i64 y5.At]) (v := Sl.t (⟨false, [(⟨y5.Name, y6, y5.Mode, y5.At⟩ : DFile)]⟩ : Sl DFile)) rfl hS hH (by kernel_rfl) (by kernel_rfl) (by kernel_rfl) (by kernel_rfl) (by kernel_rfl) (And.intro (by kernel_rfl) (And.intro (by simp [ht7.1, ht7.2]) trivial)) (by kernel_rfl) (HL.leaf (fun σ d => hold_str _ σ d _) (HL.own rfl (HL.leaf (fun σ d => hold_int _ σ d _ _) (HL.leaf (fun σ d => hold_int _ σ d _ _) HL.nil)))) (by kernel_rfl) ?_; intro t8 σ s ht8 hH hS
      have hH : Heap σ0 σ [.own true 4 t5 (Sl.t (st1.2 : Sl DFile)), .own true 4 t8 (Sl.t (⟨false, [(⟨y5.Name, y6, y5.Mode, y5.At⟩ : DFile)]⟩ : Sl DFile)), .box b3 [.str y5.Name, t7, .int .i64 y5.Mode, .int .i64 y5.At], .box b2 [t1, .int .i64 a0.At, t2, t5, t3], .box b1 [(Sl.t (⟨true, []⟩ : Sl ByteArray)), .int .i64 0, (Sl.t (⟨true, []⟩ : Sl ByteArray)), (Sl.t (⟨true, []⟩ : Sl DFile)), (Sl.t (⟨true, []⟩ : Sl ByteArray))], .own true 1 t1 (Sl.t (y1 : Sl ByteArray)), .own true 1 t2 (Sl.t (y2 : Sl ByteArray)), .own true 1 t3 (Sl.t (y3 : Sl ByteArray))] := hH.sel [6, 0, 1, 2, 3, 4, 5, 7] rfl (by kernel_rfl)
      obtain ⟨y7, hy7, h⟩ := bind_some h
      refine q_app (z := true) (t1 := t5) (a := st1.2) (b := (⟨false, [(⟨y5.Name, y6, y5.Mode, y5.At⟩ : DFile)]⟩ : Sl DFile)) (e := 52) (by_ := 56) (zc := [.str ⟨#[]⟩, (Sl.t (⟨true, []⟩ : Sl ByteArray)), .int .i64 0, .int .i64 0]) rfl hS hH rfl rfl (by kernel_rfl) (by kernel_rfl) (by kernel_rfl) (by kernel_rfl) (by kernel_rfl) (by kernel_rfl) hy7 ?_; intro t9 σ s ht9 hH hS
      refine q_seg 1 [(0, .ptr bp0 0 0 5), (2, .ptr b1 0 0 5), (3, .ptr b2 0 0 5), (4, .int .i64 st1.1), (50, t9), (51, .ptr b2 0 3 1)] hS (by kernel_rfl) ?_; intro s hS
      have hH : Heap σ0 σ [.box b2 [t1, .int .i64 a0.At, t2, t5, t3], .own true 4 t9 (Sl.t (y7 : Sl DFile)), .box b3 [.str y5.Name, t7, .int .i64 y5.Mode, .int .i64 y5.At], .box b1 [(Sl.t (⟨true, []⟩ : Sl ByteArray)), .int .i64 0, (Sl.t (⟨true, []⟩ : Sl ByteArray)), (Sl.t (⟨true, []⟩ : Sl DFile)), (Sl.t (⟨true, []⟩ : Sl ByteArray))], .own true 1 t1 (Sl.t (y1 : Sl ByteArray)), .own true 1 t2 (Sl.t (y2 : Sl ByteArray)), .own true 1 t3 (Sl.t (y3 : Sl ByteArray))] := hH.sel [2, 0, 1, 3, 4, 5, 6] rfl (by kernel_rfl)
      refine q_store (v := t9) (cs := [t9]) (cells' := [t1, .int .i64 a0.At, t2, t9, t3]) rfl hS hH rfl rfl (by simp [ht9.1, ht9.2]) (by simp [ht9.1, ht9.2]) (by kernel_rfl) ?_; intro σ s hH hS
      refine x_nil ?_
      refine bk_n ?_
      refine sq_n ?_
      refine c_region ?_
      refine q_seg 3 [(0, .ptr bp0 0 0 5), (2, .ptr b1 0 0 5), (3, .ptr b2 0 0 5), (4, .int .i64 (IntKind.i64.wrap (st1.1 + 1)))] hS (by kernel_rfl) ?_; intro s hS
      refine x_nil ?_
      injection h with h; subst h
      exact Exists.intro t9 (And.intro ht9 (And.intro (sub_to hS (by kernel_rfl)) (Heap.sel hH [0, 3, 4, 5, 1, 6] rfl (by kernel_rfl))))
    · have h := it_neg hc1 h
      refine c_cond hS rfl (fun hf => tt_absurd hc1 hf) (fun _ => ?_)
      refine c_exit ?_
      refine sq_x ?_
      injection h with h; subst h
      exact Exists.intro t5 (And.intro ht5 (And.intro rfl (And.intro (sub_to hS (by kernel_rfl)) hH)))
  · clear hS hH; intro e fr HF; obtain ⟨s, σ⟩ := fr
    obtain ⟨t6, ht6, ⟨rfl, hS, hH⟩⟩ := HF
    refine bk_e ?_
    refine sq_n ?_
    refine c_seq ?_
    refine c_region ?_
    refine q_load (v := .agg [t1, .int .i64 a0.At, t2, t6, t3]) 0 trivial rfl hS hH rfl rfl (by kernel_rfl) ?_; intro s hS
    have hH : Heap σ0 σ [.box b1 [(Sl.t (⟨true, []⟩ : Sl ByteArray)), .int .i64 0, (Sl.t (⟨true, []⟩ : Sl ByteArray)), (Sl.t (⟨true, []⟩ : Sl DFile)), (Sl.t (⟨true, []⟩ : Sl ByteArray))], .box b2 [t1, .int .i64 a0.At, t2, t6, t3], .own true 1 t1 (Sl.t (y1 : Sl ByteArray)), .own true 1 t2 (Sl.t (y2 : Sl ByteArray)), .own true 4 t6 (Sl.t (y4 : Sl DFile)), .own true 1 t3 (Sl.t (y3 : Sl ByteArray))] := hH.sel [1, 0, 2, 3, 4, 5] rfl (by kernel_rfl)
    refine q_store (v := .agg [t1, .int .i64 a0.At, t2, t6, t3]) (cs := [t1, .int .i64 a0.At, t2, t6, t3]) (cells' := [t1, .int .i64 a0.At, t2, t6, t3]) rfl hS hH rfl rfl rfl (by simp [ht1.1, ht1.2, ht2.1, ht2.2, ht3.1, ht3.2, ht6.1, ht6.2]) (by kernel_rfl) ?_; intro σ s hH hS
    refine x_nil ?_
    refine sq_n ?_
    refine c_ret ?_
    injection h with h; subst h
    have hH : Heap σ0 σ [.own true 1 t1 (Sl.t (y1 : Sl ByteArray)), .own true 1 t2 (Sl.t (y2 : Sl ByteArray)), .own true 4 t6 (Sl.t (y4 : Sl DFile)), .own true 1 t3 (Sl.t (y3 : Sl ByteArray)), .box b1 [t1, .int .i64 a0.At, t2, t6, t3], .box b2 [t1, .int .i64 a0.At, t2, t6, t3]] := hH.sel [2, 3, 4, 5, 0, 1] rfl (by kernel_rfl)
    exact end_Ow [t1, t2, t6, t3] [.box b1 [t1, .int .i64 a0.At, t2, t6, t3], .box b2 [t1, .int .i64 a0.At, t2, t6, t3]] (r_cell (v := .agg [t1, .int .i64 a0.At, t2, t6, t3]) hS (hH.at 4 rfl) rfl (by kernel_rfl) r_nil) (by kernel_rfl) rfl hH (by kernel_rfl)
end Go.Am
end
