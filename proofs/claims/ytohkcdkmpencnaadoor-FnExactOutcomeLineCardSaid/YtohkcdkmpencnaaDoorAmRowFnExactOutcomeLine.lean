/- The row of the law FnExactOutcomeLine, from its run in the abstract machine. -/
import Derived.Test.YtohkcdkmpencnaaDoorCards
import Derived.Test.YtohkcdkmpencnaaDoorTie
import Derived.ProofKit
import Derived.OpenShut
import Derived.LaidMore
import Derived.Lay
import Derived.LaidSub
import Derived.SevenTiedAt
import Derived.Stop.Joined
import Derived.MakeChecks
import Derived.Lib.AppendIntMem
import Derived.HandedShaped
import Derived.Test.YtohkcdkmpencnaaDoorRows
import Derived.Test.YtohkcdkmpencnaaDoorAl5
import Derived.Test.YtohkcdkmpencnaaDoorChecked
set_option linter.unusedVariables false
set_option maxRecDepth 100000
namespace Go.Proofs.YtohkcdkmpencnaaDoor.fnExactOutcomeLine
open Go.ChangeShapes Go.WideShapes Go.ChangeAt Go.RowKit Go.Am
open Go.ChangeMaps (open_string shut_string)
theorem own : ownKnob Tryd.prog.godebug = none := by kernel_rfl
theorem laidOut : laidOutB Tryd.prog = true := by kernel_rfl
theorem plain : plainOk Tryd.prog [2,9,24,48,50,51,52,53,55,56,58,60,62,171,172,174,177,180,183,185] = true := by kernel_rfl
noncomputable def zeroValue (t : TypeId) : Value := match (Tryd.prog.info? t).bind (·.zero) with | some z => z | none => .bool false
noncomputable abbrev laid : List (String × DataW Unit) := Rows.fnExactOutcomeLineRow.laid
theorem laidPlain : (laid.all fun x => x.2.handleName?.isNone) = true := by kernel_rfl
theorem met (os : Os) (args : Array Value) : laidMetH Tryd.prog laid ((World.laidAll Tryd.prog os laid).forCall (fun _ _ => 0) ⟨#[], args, []⟩).memory := by
  rw [MakeChecks.laidMetH_plain _ _ _ laidPlain]
  exact laidMet_laidAll _ (by kernel_rfl) (by kernel_rfl)
theorem table {W : World} (h : laidMetH Tryd.prog laid W) : Lib.TabIs Tryd.prog W "internal/strconv.uint64pow10" .u64 Lib.pow10Tab := by
  have h1 := h.filter fun x => x.1 == "internal/strconv.uint64pow10"
  have e : (laid.filter fun x => x.1 == "internal/strconv.uint64pow10") = [("internal/strconv.uint64pow10", Lib.tabData .u64 Lib.pow10Tab)] := by kernel_rfl
  rw [e, MakeChecks.laidMetH_plain _ _ _ (by kernel_rfl)] at h1
  exact Lib.tabIs_of_head (g := 0) (t := 205) (e := 106) (n := 20) (by kernel_rfl) (by kernel_rfl) Tryd.underlying205 Tryd.underlying106 (by kernel_rfl) (by kernel_rfl) h1
theorem longest {W : World} (h : W.ShapedOpen Tryd.prog) : ∃ m, W.cell? ⟨3, 0, none⟩ = some (.int .i64 m) := Go.Proofs.cell_of_shapedOpen_int (zero := #[.int .i64 0]) (t := 3) h (of_decide_eq_true (by kernel_rfl)) (by kernel_rfl) rfl (by kernel_rfl) (by kernel_rfl) Tryd.underlying3
theorem ini {W : World} (hL : laidMetH Tryd.prog laid W) (hs : W.ShapedOpen Tryd.prog) : Ini Tryd.prog W.heap.size W := fun w hb => by
  refine ⟨.inr (Lib.tabBelow_of_tabIs (table hL) w hb), fun g hg => ?_⟩
  obtain rfl : g = 3 := (Option.some.inj ((show Tryd.prog.globalNamed "internal/bytealg.MaxLen" = some 3 by kernel_rfl).symm.trans hg)).symm
  obtain ⟨m, hm⟩ := longest hs
  have hl : 3 < W.heap.size := by
    refine Nat.lt_of_not_le fun hn => ?_
    have hnn : W.heap[3]? = none := Array.getElem?_eq_none hn
    simp [World.cell?, hnn] at hm
  exact ⟨m, by rw [hb.cell (p := ⟨3, 0, none⟩) hl]; exact hm⟩
theorem lifted (os : Os) (started : os.Started) (H : Type) (enc : TypeId × Value → H) :
    ReturnsInHanded {} Tryd.checked os 5 .any (fun w args => (Rows.fnExactOutcomeLineSpec.pre enc Tryd.prog Tryd.f5 Rows.fnExactOutcomeLineRow.domain false w args ∧ laidMetH Tryd.prog laid w) ∧ sizedMet enc Tryd.prog Tryd.f5 (OpenSpec.ofChange Rows.fnExactOutcomeLineSpec) false w args) (Rows.fnExactOutcomeLineSpec.post enc Tryd.prog Tryd.f5 false true false false) := by
  refine returnsInHanded_of_calls (C := Tryd.checked) own started (by kernel_rfl) (ChangeSpec.witness_shaped (enc := enc) (C := Tryd.checked) (os := os) (X := fun w _ => laidMetH Tryd.prog laid w) false (World.laidAll Tryd.prog os laid) #[(zeroValue 62)] 8 (World.laidAll_os _ _ _) (World.shaped_of_ZipB (by kernel_rfl) (by kernel_rfl)) (by kernel_rfl) (by kernel_rfl) (by kernel_rfl) (met os _)) ?_
  intro w tape i _ hsh _ hok hpre _
  obtain ⟨_, _, _, fn', hfn', _, _, _, _, hval0⟩ := hok
  have e : fn' = Tryd.f5 := Option.some.inj (hfn'.symm.trans Tryd.func5)
  subst e
  obtain ⟨⟨⟨ds, gs, before, hW0, hcnd⟩, hL0⟩, hsz0⟩ := hpre
  have hW : DataW.Whole enc Tryd.prog Tryd.f5.params.toList Rows.fnExactOutcomeLineSpec.vars false (w.forCall tape i) i.args.toList ds gs before := DataW.Whole.of_heap (w' := w.forCall tape i) (by rfl) hW0
  have hL : laidMetH Tryd.prog laid (w.forCall tape i) := hL0.of_heap (by rfl)
  suffices hC : Calls Tryd.prog 5 i.args (w.forCall tape i) fun e W' => ∃ v, e = .returned v ∧ Rows.fnExactOutcomeLineSpec.post enc Tryd.prog Tryd.f5 false true false false (w.forCall tape i) i.args v W' from hC.mono fun e W' ⟨v, he, hp⟩ => (by subst he; exact ChangeSpec.post_blind hp)
  have hsW := hsh
  revert hW hL hsW hval0
  generalize w.forCall tape i = W
  generalize i.args = args
  intro hval0 hW hL hsW
  have hval : ∀ (j : Nat) t v, Tryd.f5.params[j]? = some t → args[j]? = some v → Value.okWide Tryd.prog W .any w.heap.size t v := hval0
  have hW' := hW
  obtain ⟨p, q, hA0, hV, rfl, hfz, hnd⟩ := hW
  have hA : DataW.TrodAll enc Tryd.prog W 0 (fun _ => true) true Tryd.f5.params.toList args.toList ds p := hA0
  rw [Tryd.params5] at hA hval
  obtain ⟨v0, vs0, d0, ds0, p0, q0, hargs, rfl, rfl, h0, r0⟩ := trodAll_cons hA
  obtain ⟨rfl, rfl, rfl⟩ := trodAll_nil r0
  obtain rfl : args = #[v0] := by cases args; simp_all
  obtain ⟨rfl, rfl⟩ := trodVars_none hV
  have k0 := h0
  have lt0 : ∀ x ∈ p0, x.block < W.heap.size := by obtain ⟨m, hm⟩ := k0; exact DataW.trod_lt m _ _ _ hm
  obtain ⟨fu0, t0, tv0, ts0⟩ := arg_struct plain (by decide) Tryd.underlying62 (hval 0 62 v0 rfl rfl) h0
  obtain ⟨σ', hrun⟩ := law_FnExactOutcomeLine ts0
  refine (calls_true (w := W) (vs := [v0]) Tryd.checked.mixed ext_ok (ini hL hsW) (Enter.of_ok ok_5) hrun (.cons tv0 (.nil _))).mono fun e W' ⟨he, bel⟩ => ?_
  subst he
  exact ⟨_, rfl, _, _, _, [], _, [], hW', trodAll_mk1 (shut_bool Tryd.underlying4 _), (trodAll_cons_mk (Below.trod laidOut (by kernel_rfl) (of_decide_eq_true (by kernel_rfl)) k0 bel lt0) trodAll_mk0), rfl, bel.frame _, fun h => by cases h⟩
theorem over : Rows.fnExactOutcomeLineRow.holds Tryd.pinned (OpenSpec.ofChange Rows.fnExactOutcomeLineSpec) :=
  OpenClaim.holds_of_wide 5 Tryd.f5 rfl rfl rfl rfl rfl rfl rfl ⟨rfl, rfl, rfl, rfl, rfl⟩ rfl rfl rfl rfl rfl (by kernel_rfl) Tryd.func5 (by kernel_rfl)
    (of_decide_eq_true (by kernel_rfl)) (by unfold Func.isWrapper; first | (rw [if_pos (by decide +kernel)]; kernel_rfl) | (rw [if_neg (by decide +kernel)]; exact ⟨rfl, rfl⟩))
    (fun os started H enc _ => lifted os started H enc)
theorem proved : Rows.FnExactOutcomeLineSaid := over
theorem card : Rows.FnExactOutcomeLineCardSaid :=
  Claim7.holds_tied_plain_at .later [] [.data, .data, .data] true (true, "ccf2018cfafd37e2e383d29f44b9e88e9c1a365c99bb089d53b08af0bd8eb915") false proved (fun _ h => by cases h) (by kernel_rfl) (fun _ h => by cases h) fnExactOutcomeLine_row_tie rfl ⟨rfl, rfl⟩ (by kernel_rfl) rfl
    (fun f fn hf hfn => by
      obtain rfl : f = 5 := Option.some.inj ((show Tryd.prog.funcNamed Rows.fnExactOutcomeLineRow.func = some 5 by kernel_rfl).symm.trans hf) |>.symm
      obtain rfl : fn = Tryd.f5 := (Option.some.inj (Tryd.func5.symm.trans hfn)).symm
      exact ⟨by kernel_rfl, fun j t ht => by
        rw [Tryd.params5] at ht
        have hm : t ∈ [62] := by simpa using Array.mem_of_getElem? ht
        have hall : ([62].all fun u => !Tryd.prog.wantsStandIn u) = true := by kernel_rfl
        exact (show Tryd.prog.wantsStandIn t = false by simpa using List.all_eq_true.1 hall t hm)⟩)
    (by kernel_rfl)
#print axioms card
end Go.Proofs.YtohkcdkmpencnaaDoor.fnExactOutcomeLine
namespace Go.Proofs.YtohkcdkmpencnaaDoor
/-- The row, under a short name, for the claim. -/
theorem fnExactOutcomeLine_holds : Rows.FnExactOutcomeLineCardSaid := fnExactOutcomeLine.card
end Go.Proofs.YtohkcdkmpencnaaDoor
