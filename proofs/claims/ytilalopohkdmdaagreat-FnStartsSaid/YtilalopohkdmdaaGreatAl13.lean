/- The law. -/
import Derived.Test.YtilalopohkdmdaaGreatAg0
import Derived.Test.YtilalopohkdmdaaGreatAg2
import Derived.Test.YtilalopohkdmdaaGreatAg3
import Derived.Test.YtilalopohkdmdaaGreatAg4
import Derived.Test.YtilalopohkdmdaaGreatAl12
section
set_option maxRecDepth 100000
set_option maxHeartbeats 1000000
set_option linter.unusedVariables false
set_option linter.unusedSimpArgs false
namespace Go.Am
theorem mv_ (a b : Sl DCapture) (h : a.l = b.l) (hl : a.l.length ≤ 100) : cc_ a b = some true := by
 refine fD_ _ _ _ ?_
 unfold cf_
 rw [if_neg (by simp [h]), i4_ (n := a.l.length) (r := .inl ()) (fun i hi => ?_) (if_neg (by simp))]
 ·rfl
 ·have e1 := bK_ (s := a) hi
  have e2 := bK_ (s := b) (show i < b.l.length by rw [← h]; exact hi)
  have e3 : b.l[i]'(by rw [← h]; exact hi) = a.l[i] := by simp [h]
  rw [if_pos (by simpa using hi), e1, Option.bind_some, e2, Option.bind_some, e3, if_neg (by simp), aU_ (by omega) (by omega)]
theorem kV_ (a b : DMatch) (h : mkey a = mkey b) (hl : a.Captures.l.length ≤ 100) : dC_ a b = some true := by
 injection h with h1 h2; injection h2 with h2 h3
 refine hr_ _ _ _ ?_
 unfold dB_
 rw [if_pos (by simp [h1]), if_pos (by simp [h2]), mv_ _ _ h3 hl]; rfl
theorem jh_ (a b : Sl DMatch) {s : ByteArray} (h : go_ s a.l b.l) (hl : a.l.length ≤ 60) : c2_ a b = some true := by
 have hn := h.len
 refine gI_ _ _ _ ?_
 unfold cZ_
 rw [if_neg (by simp [hn]), i4_ (n := a.l.length) (r := .inl ()) (fun i hi => ?_) (if_neg (by simp))]
 ·rfl
 ·have hi2 : i < b.l.length := by omega
  have e1 := bK_ (s := a) hi
  have e2 := bK_ (s := b) hi2
  have e3 : mkey a.l[i] = mkey b.l[i] := by
   have := congrArg (fun l => l[i]?) h.k
   simpa [List.getElem?_map, hi, hi2] using this
  rw [if_pos (by simpa using hi), e1, Option.bind_some, e2, Option.bind_some, kV_ _ _ e3 (h.c _ (List.getElem_mem hi)), Option.bind_some, if_neg (by simp), aU_ (by omega) (by omega)]
theorem nv_ {env : Sl DNamed} {s : ByteArray} {p : DPattern} (hE : EnvP env) (hv : VPat p) (hs : s.size ≤ 200) (b : Bool) {f : Int} (hf : 0 ≤ f ∧ f ≤ 20000) {w : Sl (Iv .i64)} (hw1 : cI_ s b = some w) (hw2 : bT_ s b = some w) (hw3 : w.l.length ≤ 1000) (hw4 : ∀ x ∈ w.l, 0 ≤ x.v ∧ x.v ≤ s.size) :
  ∃ x : T11, IMF p w (St0 env s f) = some x ∧ cJ_ env p s b f = some (x.2.2.2.2.2.2.2.2.2.2, x.2.2.2.2.2.2.2.1) ∧ dT_ env p s b f = some (x.2.2.2.2.2.2.2.2.2.2, x.2.2.2.2.2.2.2.1, true) ∧ x.2.2.2.2.2.2.2.2.2.2.l.length ≤ 60 ∧ ∀ m ∈ x.2.2.2.2.2.2.2.2.2.2.l, m.Captures.l.length ≤ 100 ∧ 0 ≤ m.Start ∧ m.Start ≤ m.End ∧ m.End ≤ s.size := by
 have hV : ∀ x ∈ env.l, VP x.Pattern := fun x hx => (hE.2.1 x hx).2.1
 obtain ⟨x, x1, x2, x3⟩ := rQ_ (env := env) (s := s) (p := p) (starts := w) hs hV hE.1 hv.1 hw4 hw3 f hf
 obtain ⟨w1, w2, m1, m2, m3, m4, m5⟩ := mT_ (env := env) (s := s) (p := p) (starts := w) hs hV hE.1 hv.1 hw4 hw3 f hf
 rw [x2] at m2; injection m2 with m2; subst m2
 have hm := mI_ hE hv hs hf hw2 x2
 refine ⟨x, x1, hm, hu_ _ _ _ _ _ _ ?_, x3, fun m hm => ⟨m4.c m hm, m4.g m hm⟩⟩
 have hA : askV env p s f = 0 := by
  unfold askV
  rw [a0_ (show AskP env p s from ⟨hE, hv, by omega⟩), a0_ hf]; rfl
 have hsp : dU_ env p s b f = some w1 := by
  refine hA_ _ _ _ _ _ _ ?_
  unfold dM_
  rw [(p9_ env p s f (nj_ hE) (sm_vp _ hv.1)).1, hA, Option.bind_some, if_neg (by simp), hw1, Option.bind_some, m1]; rfl
 unfold dP_
 rw [hm, Option.bind_some, hsp, Option.bind_some, if_pos (by simpa using m3), jh_ _ _ m4 x3]; rfl
end Go.Am
end
