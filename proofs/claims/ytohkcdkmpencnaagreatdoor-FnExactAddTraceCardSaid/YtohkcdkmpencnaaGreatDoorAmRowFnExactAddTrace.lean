/- The row of the law FnExactAddTrace, from its run in the abstract machine. -/
import Derived.Test.YtohkcdkmpencnaaGreatDoorCards
import Derived.Test.YtohkcdkmpencnaaGreatDoorTie
import Derived.ProofKit
import Derived.OpenShut
import Derived.LaidMore
import Derived.Lay
import Derived.LaidSub
import Derived.SevenTiedAt
import Derived.Stop.Joined
import Derived.MakeChecks
import Derived.Lib.AppendIntMem
import Derived.HandedShaped
import Derived.Test.YtohkcdkmpencnaaGreatDoorRows
import Derived.Test.YtohkcdkmpencnaaGreatDoorAl5
import Derived.Test.YtohkcdkmpencnaaGreatDoorChecked
set_option linter.unusedVariables false
set_option maxRecDepth 100000
namespace Go.Proofs.YtohkcdkmpencnaaGreatDoor.fnExactAddTrace
open Go.ChangeShapes Go.WideShapes Go.ChangeAt Go.RowKit Go.Am
open Go.ChangeMaps (open_string shut_string)
theorem own : ownKnob Tryz.prog.godebug = none := by kernel_rfl
theorem laidOut : laidOutB Tryz.prog = true := by kernel_rfl
theorem plain : plainOk Tryz.prog [2,9,22,23,25,27,57] = true := by kernel_rfl
noncomputable def zeroValue (t : TypeId) : Value := match (Tryz.prog.info? t).bind (·.zero) with | some z => z | none => .bool false
noncomputable abbrev laid : List (String × DataW Unit) := Rows.fnExactAddTraceRow.laid
theorem laidPlain : (laid.all fun x => x.2.handleName?.isNone) = true := by kernel_rfl
theorem met (os : Os) (args : Array Value) : laidMetH Tryz.prog laid ((World.laidAll Tryz.prog os laid).forCall (fun _ _ => 0) ⟨#[], args, []⟩).memory := by
  rw [MakeChecks.laidMetH_plain _ _ _ laidPlain]
  exact laidMet_laidAll _ (by kernel_rfl) (by kernel_rfl)
theorem table {W : World} (h : laidMetH Tryz.prog laid W) : Lib.TabIs Tryz.prog W "internal/strconv.uint64pow10" .u64 Lib.pow10Tab := by
  have h1 := h.filter fun x => x.1 == "internal/strconv.uint64pow10"
  have e : (laid.filter fun x => x.1 == "internal/strconv.uint64pow10") = [("internal/strconv.uint64pow10", Lib.tabData .u64 Lib.pow10Tab)] := by kernel_rfl
  rw [e, MakeChecks.laidMetH_plain _ _ _ (by kernel_rfl)] at h1
  exact Lib.tabIs_of_head (g := 0) (t := 94) (e := 86) (n := 20) (by kernel_rfl) (by kernel_rfl) Tryz.underlying94 Tryz.underlying86 (by kernel_rfl) (by kernel_rfl) h1
theorem longest {W : World} (h : W.ShapedOpen Tryz.prog) : ∃ m, W.cell? ⟨3, 0, none⟩ = some (.int .i64 m) := Go.Proofs.cell_of_shapedOpen_int (zero := #[.int .i64 0]) (t := 3) h (of_decide_eq_true (by kernel_rfl)) (by kernel_rfl) rfl (by kernel_rfl) (by kernel_rfl) Tryz.underlying3
theorem ini {W : World} (hL : laidMetH Tryz.prog laid W) (hs : W.ShapedOpen Tryz.prog) : Ini Tryz.prog W.heap.size W := fun w hb => by
  refine ⟨.inr (Lib.tabBelow_of_tabIs (table hL) w hb), fun g hg => ?_⟩
  obtain rfl : g = 3 := (Option.some.inj ((show Tryz.prog.globalNamed "internal/bytealg.MaxLen" = some 3 by kernel_rfl).symm.trans hg)).symm
  obtain ⟨m, hm⟩ := longest hs
  have hl : 3 < W.heap.size := by
    refine Nat.lt_of_not_le fun hn => ?_
    have hnn : W.heap[3]? = none := Array.getElem?_eq_none hn
    simp [World.cell?, hnn] at hm
  exact ⟨m, by rw [hb.cell (p := ⟨3, 0, none⟩) hl]; exact hm⟩
theorem lifted (os : Os) (started : os.Started) (H : Type) (enc : TypeId × Value → H) :
    ReturnsInHanded {} Tryz.checked os 3 .any (fun w args => (Rows.fnExactAddTraceSpec.pre enc Tryz.prog Tryz.f3 Rows.fnExactAddTraceRow.domain false w args ∧ laidMetH Tryz.prog laid w) ∧ sizedMet enc Tryz.prog Tryz.f3 (OpenSpec.ofChange Rows.fnExactAddTraceSpec) false w args) (Rows.fnExactAddTraceSpec.post enc Tryz.prog Tryz.f3 false true false false) := by
  refine returnsInHanded_of_calls (C := Tryz.checked) own started (by kernel_rfl) (ChangeSpec.witness_shaped (enc := enc) (C := Tryz.checked) (os := os) (X := fun w _ => laidMetH Tryz.prog laid w) false (World.laidAll Tryz.prog os laid) #[(zeroValue 25), .int .i64 0, .int .i64 0, .string ByteArray.empty, (zeroValue 27)] 8 (World.laidAll_os _ _ _) (World.shaped_of_ZipB (by kernel_rfl) (by kernel_rfl)) (by kernel_rfl) (by kernel_rfl) (by kernel_rfl) (met os _)) ?_
  intro w tape i _ hsh _ hok hpre _
  obtain ⟨_, _, _, fn', hfn', _, _, _, _, hval0⟩ := hok
  have e : fn' = Tryz.f3 := Option.some.inj (hfn'.symm.trans Tryz.func3)
  subst e
  obtain ⟨⟨⟨ds, gs, before, hW0, hcnd⟩, hL0⟩, hsz0⟩ := hpre
  have hW : DataW.Whole enc Tryz.prog Tryz.f3.params.toList Rows.fnExactAddTraceSpec.vars false (w.forCall tape i) i.args.toList ds gs before := DataW.Whole.of_heap (w' := w.forCall tape i) (by rfl) hW0
  have hL : laidMetH Tryz.prog laid (w.forCall tape i) := hL0.of_heap (by rfl)
  suffices hC : Calls Tryz.prog 3 i.args (w.forCall tape i) fun e W' => ∃ v, e = .returned v ∧ Rows.fnExactAddTraceSpec.post enc Tryz.prog Tryz.f3 false true false false (w.forCall tape i) i.args v W' from hC.mono fun e W' ⟨v, he, hp⟩ => (by subst he; exact ChangeSpec.post_blind hp)
  have hsW := hsh
  revert hW hL hsW hval0
  generalize w.forCall tape i = W
  generalize i.args = args
  intro hval0 hW hL hsW
  have hval : ∀ (j : Nat) t v, Tryz.f3.params[j]? = some t → args[j]? = some v → Value.okWide Tryz.prog W .any w.heap.size t v := hval0
  have hW' := hW
  obtain ⟨p, q, hA0, hV, rfl, hfz, hnd⟩ := hW
  have hA : DataW.TrodAll enc Tryz.prog W 0 (fun _ => true) true Tryz.f3.params.toList args.toList ds p := hA0
  rw [Tryz.params3] at hA hval
  obtain ⟨v0, vs0, d0, ds0, p0, q0, hargs, rfl, rfl, h0, r0⟩ := trodAll_cons hA
  obtain ⟨v1, vs1, d1, ds1, p1, q1, rfl, rfl, rfl, h1, r1⟩ := trodAll_cons r0
  obtain ⟨v2, vs2, d2, ds2, p2, q2, rfl, rfl, rfl, h2, r2⟩ := trodAll_cons r1
  obtain ⟨v3, vs3, d3, ds3, p3, q3, rfl, rfl, rfl, h3, r3⟩ := trodAll_cons r2
  obtain ⟨v4, vs4, d4, ds4, p4, q4, rfl, rfl, rfl, h4, r4⟩ := trodAll_cons r3
  obtain ⟨rfl, rfl, rfl⟩ := trodAll_nil r4
  obtain rfl : args = #[v0, v1, v2, v3, v4] := by cases args; simp_all
  obtain ⟨rfl, rfl⟩ := trodVars_none hV
  have k0 := h0
  have lt0 : ∀ x ∈ p0, x.block < W.heap.size := by obtain ⟨m, hm⟩ := k0; exact DataW.trod_lt m _ _ _ hm
  obtain ⟨fu0, t0, tv0, ts0⟩ := arg_struct plain (by decide) Tryz.underlying25 (hval 0 25 v0 rfl rfl) h0
  have k1 := h1
  have lt1 : ∀ x ∈ p1, x.block < W.heap.size := by obtain ⟨m, hm⟩ := k1; exact DataW.trod_lt m _ _ _ hm
  have c1 : v1.cells.toList = [v1] := by
    obtain ⟨_, rfl⟩ := okWide_int Tryz.underlying2 (hval 1 2 v1 rfl rfl)
    rfl
  obtain ⟨fu1, t1, tv1, ts1⟩ := arg_cell plain (by decide) c1 h1
  have k2 := h2
  have lt2 : ∀ x ∈ p2, x.block < W.heap.size := by obtain ⟨m, hm⟩ := k2; exact DataW.trod_lt m _ _ _ hm
  have c2 : v2.cells.toList = [v2] := by
    obtain ⟨_, rfl⟩ := okWide_int Tryz.underlying2 (hval 2 2 v2 rfl rfl)
    rfl
  obtain ⟨fu2, t2, tv2, ts2⟩ := arg_cell plain (by decide) c2 h2
  have k3 := h3
  have lt3 : ∀ x ∈ p3, x.block < W.heap.size := by obtain ⟨m, hm⟩ := k3; exact DataW.trod_lt m _ _ _ hm
  have c3 : v3.cells.toList = [v3] := by
    obtain ⟨_, rfl⟩ := okWide_string Tryz.underlying9 (hval 3 9 v3 rfl rfl)
    rfl
  obtain ⟨fu3, t3, tv3, ts3⟩ := arg_cell plain (by decide) c3 h3
  have k4 := h4
  have lt4 : ∀ x ∈ p4, x.block < W.heap.size := by obtain ⟨m, hm⟩ := k4; exact DataW.trod_lt m _ _ _ hm
  obtain ⟨fu4, t4, tv4, ts4⟩ := arg_struct plain (by decide) Tryz.underlying27 (hval 4 27 v4 rfl rfl) h4
  obtain ⟨σ', hrun⟩ := law_FnExactAddTrace ts0 ts1 ts2 ts3 ts4
  refine (calls_true (w := W) (vs := [v0, v1, v2, v3, v4]) Tryz.checked.mixed ext_ok (ini hL hsW) (Enter.of_ok ok_3) hrun (.cons tv0 (.cons tv1 (.cons tv2 (.cons tv3 (.cons tv4 (.nil _))))))).mono fun e W' ⟨he, bel⟩ => ?_
  subst he
  exact ⟨_, rfl, _, _, _, [], _, [], hW', trodAll_mk1 (shut_bool Tryz.underlying4 _), (trodAll_cons_mk (Below.trod laidOut (by kernel_rfl) (of_decide_eq_true (by kernel_rfl)) k0 bel lt0) (trodAll_cons_mk (Below.trod laidOut (by kernel_rfl) (of_decide_eq_true (by kernel_rfl)) k1 bel lt1) (trodAll_cons_mk (Below.trod laidOut (by kernel_rfl) (of_decide_eq_true (by kernel_rfl)) k2 bel lt2) (trodAll_cons_mk (Below.trod laidOut (by kernel_rfl) (of_decide_eq_true (by kernel_rfl)) k3 bel lt3) (trodAll_cons_mk (Below.trod laidOut (by kernel_rfl) (of_decide_eq_true (by kernel_rfl)) k4 bel lt4) trodAll_mk0))))), rfl, bel.frame _, fun h => by cases h⟩
theorem over : Rows.fnExactAddTraceRow.holds Tryz.pinned (OpenSpec.ofChange Rows.fnExactAddTraceSpec) :=
  OpenClaim.holds_of_wide 3 Tryz.f3 rfl rfl rfl rfl rfl rfl rfl ⟨rfl, rfl, rfl, rfl, rfl⟩ rfl rfl rfl rfl rfl (by kernel_rfl) Tryz.func3 (by kernel_rfl)
    (of_decide_eq_true (by kernel_rfl)) (by unfold Func.isWrapper; first | (rw [if_pos (by decide +kernel)]; kernel_rfl) | (rw [if_neg (by decide +kernel)]; exact ⟨rfl, rfl⟩))
    (fun os started H enc _ => lifted os started H enc)
theorem proved : Rows.FnExactAddTraceSaid := over
theorem card : Rows.FnExactAddTraceCardSaid :=
  Claim7.holds_tied_plain_at .later [] [.data, .data, .data, .data, .pinned] true (true, "5b6e28a6a09445fd777521f3d2cab197d6070573437842b0dd006a92795e2185") false proved (fun _ h => by cases h) (by kernel_rfl) (fun _ h => by cases h) fnExactAddTrace_row_tie rfl ⟨rfl, rfl⟩ (by kernel_rfl) rfl
    (fun f fn hf hfn => by
      obtain rfl : f = 3 := Option.some.inj ((show Tryz.prog.funcNamed Rows.fnExactAddTraceRow.func = some 3 by kernel_rfl).symm.trans hf) |>.symm
      obtain rfl : fn = Tryz.f3 := (Option.some.inj (Tryz.func3.symm.trans hfn)).symm
      exact ⟨by kernel_rfl, fun j t ht => by
        rw [Tryz.params3] at ht
        have hm : t ∈ [25, 2, 2, 9, 27] := by simpa using Array.mem_of_getElem? ht
        have hall : ([25, 2, 2, 9, 27].all fun u => !Tryz.prog.wantsStandIn u) = true := by kernel_rfl
        exact (show Tryz.prog.wantsStandIn t = false by simpa using List.all_eq_true.1 hall t hm)⟩)
    (by kernel_rfl)
#print axioms card
end Go.Proofs.YtohkcdkmpencnaaGreatDoor.fnExactAddTrace
namespace Go.Proofs.YtohkcdkmpencnaaGreatDoor
/-- The row, under a short name, for the claim. -/
theorem fnExactAddTrace_holds : Rows.FnExactAddTraceCardSaid := fnExactAddTrace.card
end Go.Proofs.YtohkcdkmpencnaaGreatDoor
