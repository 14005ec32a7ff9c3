/- The law. -/
import Derived.Test.YtilalopohkdmdaaGreatAg0
import Derived.Test.YtilalopohkdmdaaGreatAg2
import Derived.Test.YtilalopohkdmdaaGreatAg3
import Derived.Test.YtilalopohkdmdaaGreatAg4
import Derived.Test.YtilalopohkdmdaaGreatAl17
section
set_option maxRecDepth 100000
set_option maxHeartbeats 1000000
set_option linter.unusedVariables false
set_option linter.unusedSimpArgs false
namespace Go.Am
theorem l7_ (a b : Sl DCapture) (h : a.l = b.l) (hl : a.l.length ≤ 100) : b7_ a b = some true := by
 refine fr_ _ _ _ ?_
 unfold b8_
 rw [if_neg (by simp [h]), gV_ (n := a.l.length) (r := .inl ()) (fun i hi => ?_) (if_neg (by simp))]
 ·rfl
 ·have e1 := bC_ (s := a) hi
  have e2 := bC_ (s := b) (show i < b.l.length by rw [← h]; exact hi)
  have e3 : b.l[i]'(by rw [← h]; exact hi) = a.l[i] := by simp [h]
  rw [if_pos (by simpa using hi), e1, Option.bind_some, e2, Option.bind_some, e3, if_neg (by simp), aP_ (by omega) (by omega)]
theorem kT_ (a b : DMatch) (h : mkey a = mkey b) (hl : a.Captures.l.length ≤ 100) : dx_ a b = some true := by
 injection h with h1 h2; injection h2 with h2 h3
 refine hh_ _ _ _ ?_
 unfold dM_
 rw [if_pos (by simp [h1]), if_pos (by simp [h2]), l7_ _ _ h3 hl]; rfl
theorem iT_ (a b : Sl DMatch) {s : ByteArray} (h : fy_ s a.l b.l) (hl : a.l.length ≤ 60) : c0_ a b = some true := by
 have hn := h.len
 refine gl_ _ _ _ ?_
 unfold cV_
 rw [if_neg (by simp [hn]), gV_ (n := a.l.length) (r := .inl ()) (fun i hi => ?_) (if_neg (by simp))]
 ·rfl
 ·have hi2 : i < b.l.length := by omega
  have e1 := bC_ (s := a) hi
  have e2 := bC_ (s := b) hi2
  have e3 : mkey a.l[i] = mkey b.l[i] := by
   have := congrArg (fun l => l[i]?) h.k
   simpa [List.getElem?_map, hi, hi2] using this
  rw [if_pos (by simpa using hi), e1, Option.bind_some, e2, Option.bind_some, kT_ _ _ e3 (h.c _ (List.getElem_mem hi)), Option.bind_some, if_neg (by simp), aP_ (by omega) (by omega)]
theorem jD_ {env : Sl DNamed} {s : ByteArray} {p : DPattern} (hE : EnvP env) (hv : VPat p) (hs : s.size ≤ 200) (b : Bool) {f : Int} (hf : 0 ≤ f ∧ f ≤ 20000) {w : Sl (Iv .i64)} (hw1 : cB_ s b = some w) (hw2 : cg_ s b = some w) (hw3 : w.l.length ≤ 1000) (hw4 : ∀ x ∈ w.l, 0 ≤ x.v ∧ x.v ≤ s.size) :
  ∃ x : T11, IMF p w (St0 env s f) = some x ∧ cC_ env p s b f = some (x.2.2.2.2.2.2.2.2.2.2, x.2.2.2.2.2.2.2.1) ∧ dE_ env p s b f = some (x.2.2.2.2.2.2.2.2.2.2, x.2.2.2.2.2.2.2.1, true) ∧ x.2.2.2.2.2.2.2.2.2.2.l.length ≤ 60 ∧ ∀ m ∈ x.2.2.2.2.2.2.2.2.2.2.l, m.Captures.l.length ≤ 100 ∧ 0 ≤ m.Start ∧ m.Start ≤ m.End ∧ m.End ≤ s.size := by
 have hV : ∀ x ∈ env.l, VP x.Pattern := fun x hx => (hE.2.1 x hx).2.1
 obtain ⟨x, x1, x2, x3⟩ := rJ_ (env := env) (s := s) (p := p) (starts := w) hs hV hE.1 hv.1 hw4 hw3 f hf
 obtain ⟨w1, w2, m1, m2, m3, m4, m5⟩ := nh_ (env := env) (s := s) (p := p) (starts := w) hs hV hE.1 hv.1 hw4 hw3 f hf
 rw [x2] at m2; injection m2 with m2; subst m2
 have hm := lY_ hE hv hs hf hw2 x2
 refine ⟨x, x1, hm, hr_ _ _ _ _ _ _ ?_, x3, fun m hm => ⟨m4.c m hm, m4.g m hm⟩⟩
 have hA : askV env p s f = 0 := by
  unfold askV
  rw [aR_ (show AskP env p s from ⟨hE, hv, by omega⟩), aR_ hf]; rfl
 have hsp : dw_ env p s b f = some w1 := by
  refine hm_ _ _ _ _ _ _ ?_
  unfold dJ_
  rw [(qe_ env p s f (mS_ hE) (sm_vp _ hv.1)).1, hA, Option.bind_some, if_neg (by simp), hw1, Option.bind_some, m1]; rfl
 unfold dB_
 rw [hm, Option.bind_some, hsp, Option.bind_some, if_pos (by simpa using m3), iT_ _ _ m4 x3]; rfl
end Go.Am
end
