/- The row of the law FnExactMatchSteps, from its run in the abstract machine. -/
import Derived.Test.YtnihabnkoegdjaaRows
import Derived.Test.YtnihabnkoegdjaaAl9
import Derived.Test.YtnihabnkoegdjaaChecked
set_option linter.unusedVariables false
set_option maxRecDepth 100000
namespace Go.Proofs.Ytnihabnkoegdjaa.fnExactMatchSteps
open Go.ChangeShapes Go.WideShapes Go.ChangeAt Go.RowKit Go.Am
open Go.ChangeMaps (open_string shut_string)
theorem own : ownKnob Try.prog.godebug = none := by kernel_rfl
theorem laidOut : laidOutB Try.prog = true := by kernel_rfl
theorem plain : kl_ Try.prog [2,4,9,35,49,51,109] = true := by kernel_rfl
noncomputable def zeroValue (t : TypeId) : Value := match (Try.prog.info? t).bind (·.zero) with | some z => z | none => .bool false
theorem lifted (os : Os) (started : os.Started) (H : Type) (enc : TypeId × Value → H) :
    ReturnsInHanded {} Try.checked os 13 .any (Rows.fnExactMatchStepsSpec.pre6 enc Try.prog Try.f13 Rows.fnExactMatchStepsRow.domain false) (Rows.fnExactMatchStepsSpec.post enc Try.prog Try.f13 false true false false) := by
  refine returnsInHanded_of_change_sized (C := Try.checked) own started (by kernel_rfl) Try.func13
    (ChangeSpec.witness6 (enc := enc) (C := Try.checked) false ⟨#[], #[.slice none 0 0, (zeroValue 51), .string ByteArray.empty, .bool false, .int .i64 0], []⟩ 8 (by kernel_rfl) (by kernel_rfl) (by kernel_rfl) (by kernel_rfl)) ?_
  intro W base args ds gs before hval0 hW hcnd hsz0 _
  have hval : ∀ (j : Nat) t v, Try.f13.params[j]? = some t → args[j]? = some v → Value.okWide Try.prog W .any base t v := hval0
  have hW' := hW
  obtain ⟨p, q, hA0, hV, rfl, hfz, hnd⟩ := hW
  have hA : DataW.TrodAll enc Try.prog W 0 (fun _ => true) true Try.f13.params.toList args.toList ds p := hA0
  rw [Try.params13] at hA hval
  obtain ⟨v0, vs0, d0, ds0, p0, q0, hargs, rfl, rfl, h0, r0⟩ := trodAll_cons hA
  obtain ⟨v1, vs1, d1, ds1, p1, q1, rfl, rfl, rfl, h1, r1⟩ := trodAll_cons r0
  obtain ⟨v2, vs2, d2, ds2, p2, q2, rfl, rfl, rfl, h2, r2⟩ := trodAll_cons r1
  obtain ⟨v3, vs3, d3, ds3, p3, q3, rfl, rfl, rfl, h3, r3⟩ := trodAll_cons r2
  obtain ⟨v4, vs4, d4, ds4, p4, q4, rfl, rfl, rfl, h4, r4⟩ := trodAll_cons r3
  obtain ⟨rfl, rfl, rfl⟩ := trodAll_nil r4
  obtain rfl : args = #[v0, v1, v2, v3, v4] := by cases args; simp_all
  obtain ⟨rfl, rfl⟩ := trodVars_none hV
  have k0 := h0
  have lt0 : ∀ x ∈ p0, x.block < W.heap.size := by obtain ⟨m, hm⟩ := k0; exact DataW.trod_lt m _ _ _ hm
  have c0 : v0.cells.toList = [v0] := by
    obtain ⟨_, _, _, rfl⟩ := okWide_slice Try.underlying49 (hval 0 49 v0 rfl rfl)
    rfl
  obtain ⟨fu0, t0, tv0, ts0⟩ := si_ plain (by decide) c0 h0 (fun b off hm => hfz b off (by simp [hm]))
  have k1 := h1
  have lt1 : ∀ x ∈ p1, x.block < W.heap.size := by obtain ⟨m, hm⟩ := k1; exact DataW.trod_lt m _ _ _ hm
  obtain ⟨fu1, t1, tv1, ts1⟩ := pY_ plain (by decide) Try.underlying51 (hval 1 51 v1 rfl rfl) h1 (fun b off hm => hfz b off (by simp [hm]))
  have k2 := h2
  have lt2 : ∀ x ∈ p2, x.block < W.heap.size := by obtain ⟨m, hm⟩ := k2; exact DataW.trod_lt m _ _ _ hm
  have c2 : v2.cells.toList = [v2] := by
    obtain ⟨_, rfl⟩ := okWide_string Try.underlying9 (hval 2 9 v2 rfl rfl)
    rfl
  obtain ⟨fu2, t2, tv2, ts2⟩ := si_ plain (by decide) c2 h2 (fun b off hm => hfz b off (by simp [hm]))
  have k3 := h3
  have lt3 : ∀ x ∈ p3, x.block < W.heap.size := by obtain ⟨m, hm⟩ := k3; exact DataW.trod_lt m _ _ _ hm
  have c3 : v3.cells.toList = [v3] := by
    obtain ⟨_, rfl⟩ := okWide_bool Try.underlying4 (hval 3 4 v3 rfl rfl)
    rfl
  obtain ⟨fu3, t3, tv3, ts3⟩ := si_ plain (by decide) c3 h3 (fun b off hm => hfz b off (by simp [hm]))
  have k4 := h4
  have lt4 : ∀ x ∈ p4, x.block < W.heap.size := by obtain ⟨m, hm⟩ := k4; exact DataW.trod_lt m _ _ _ hm
  have c4 : v4.cells.toList = [v4] := by
    obtain ⟨_, rfl⟩ := okWide_int Try.underlying2 (hval 4 2 v4 rfl rfl)
    rfl
  obtain ⟨fu4, t4, tv4, ts4⟩ := si_ plain (by decide) c4 h4 (fun b off hm => hfz b off (by simp [hm]))
  obtain ⟨σ', hrun⟩ := law_FnExactMatchSteps ts0 ts1 ts2 ts3 ts4
  refine (pQ_ (w := W) (vs := [v0, v1, v2, v3, v4]) Try.checked.mixed ext_ok ss_ (mc_.of_ok ok_13) hrun (.cons tv0 (.cons tv1 (.cons tv2 (.cons tv3 (.cons tv4 (.nil _))))))).mono fun e W' ⟨he, bel⟩ => ?_
  subst he
  exact ⟨_, rfl, _, _, _, [], _, [], hW', trodAll_mk1 (shut_bool Try.underlying4 _), (trodAll_cons_mk (Below.trod laidOut (by kernel_rfl) (of_decide_eq_true (by kernel_rfl)) k0 bel lt0) (trodAll_cons_mk (Below.trod laidOut (by kernel_rfl) (of_decide_eq_true (by kernel_rfl)) k1 bel lt1) (trodAll_cons_mk (Below.trod laidOut (by kernel_rfl) (of_decide_eq_true (by kernel_rfl)) k2 bel lt2) (trodAll_cons_mk (Below.trod laidOut (by kernel_rfl) (of_decide_eq_true (by kernel_rfl)) k3 bel lt3) (trodAll_cons_mk (Below.trod laidOut (by kernel_rfl) (of_decide_eq_true (by kernel_rfl)) k4 bel lt4) trodAll_mk0))))), rfl, bel.frame _, fun h => by cases h⟩
theorem over : Rows.fnExactMatchStepsRow.holds Try.pinned (OpenSpec.ofChange Rows.fnExactMatchStepsSpec) :=
  OpenClaim.holds_of_wide 13 Try.f13 rfl rfl rfl rfl rfl rfl rfl ⟨rfl, rfl, rfl, rfl, rfl⟩ rfl rfl rfl rfl rfl (by kernel_rfl) Try.func13 (by kernel_rfl)
    (of_decide_eq_true (by kernel_rfl)) (by unfold Func.isWrapper; first | (rw [if_pos (by decide +kernel)]; kernel_rfl) | (rw [if_neg (by decide +kernel)]; exact ⟨rfl, rfl⟩))
    (fun os started H enc _ => lifted os started H enc)
theorem proved : Rows.FnExactMatchStepsSaid := over
#print axioms proved
end Go.Proofs.Ytnihabnkoegdjaa.fnExactMatchSteps
namespace Go.Proofs.Ytnihabnkoegdjaa
/-- The row, under a short name, for the claim. -/
theorem fnExactMatchSteps_holds : Rows.FnExactMatchStepsSaid := fnExactMatchSteps.proved
end Go.Proofs.Ytnihabnkoegdjaa
