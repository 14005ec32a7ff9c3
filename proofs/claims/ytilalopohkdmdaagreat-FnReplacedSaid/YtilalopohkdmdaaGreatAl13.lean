/- The law. -/
import Derived.Test.YtilalopohkdmdaaGreatAg0
import Derived.Test.YtilalopohkdmdaaGreatAg2
import Derived.Test.YtilalopohkdmdaaGreatAg3
import Derived.Test.YtilalopohkdmdaaGreatAg4
import Derived.Test.YtilalopohkdmdaaGreatAl12
section
set_option maxRecDepth 100000
set_option maxHeartbeats 1000000
set_option linter.unusedVariables false
set_option linter.unusedSimpArgs false
namespace Go.Am
theorem mI_ (a b : Sl DCapture) (h : a.l = b.l) (hl : a.l.length ≤ 100) : cg_ a b = some true := by
 refine fG_ _ _ _ ?_
 unfold cf_
 rw [if_neg (by simp [h]), g6_ (n := a.l.length) (r := .inl ()) (fun i hi => ?_) (if_neg (by simp))]
 ·rfl
 ·have e1 := bC_ (s := a) hi
  have e2 := bC_ (s := b) (show i < b.l.length by rw [← h]; exact hi)
  have e3 : b.l[i]'(by rw [← h]; exact hi) = a.l[i] := by simp [h]
  rw [if_pos (by simpa using hi), e1, Option.bind_some, e2, Option.bind_some, e3, if_neg (by simp), aY_ (by omega) (by omega)]
theorem lh_ (a b : DMatch) (h : mkey a = mkey b) (hl : a.Captures.l.length ≤ 100) : dO_ a b = some true := by
 injection h with h1 h2; injection h2 with h2 h3
 refine hy_ _ _ _ ?_
 unfold dB_
 rw [if_pos (by simp [h1]), if_pos (by simp [h2]), mI_ _ _ h3 hl]; rfl
theorem jQ_ (a b : Sl DMatch) {s : ByteArray} (h : gy_ s a.l b.l) (hl : a.l.length ≤ 60) : c0_ a b = some true := by
 have hn := h.len
 refine gV_ _ _ _ ?_
 unfold cY_
 rw [if_neg (by simp [hn]), g6_ (n := a.l.length) (r := .inl ()) (fun i hi => ?_) (if_neg (by simp))]
 ·rfl
 ·have hi2 : i < b.l.length := by omega
  have e1 := bC_ (s := a) hi
  have e2 := bC_ (s := b) hi2
  have e3 : mkey a.l[i] = mkey b.l[i] := by
   have := congrArg (fun l => l[i]?) h.k
   simpa [List.getElem?_map, hi, hi2] using this
  rw [if_pos (by simpa using hi), e1, Option.bind_some, e2, Option.bind_some, lh_ _ _ e3 (h.c _ (List.getElem_mem hi)), Option.bind_some, if_neg (by simp), aY_ (by omega) (by omega)]
theorem m7_ {env : Sl DNamed} {s : ByteArray} {p : DPattern} (hE : EnvP env) (hv : VPat p) (hs : s.size ≤ 200) (b : Bool) {f : Int} (hf : 0 ≤ f ∧ f ≤ 20000) {w : Sl (Iv .i64)} (hw1 : cI_ s b = some w) (hw2 : cm_ s b = some w) (hw3 : w.l.length ≤ 1000) (hw4 : ∀ x ∈ w.l, 0 ≤ x.v ∧ x.v ≤ s.size) :
  ∃ x : T11, IMF p w (St0 env s f) = some x ∧ cJ_ env p s b f = some (x.2.2.2.2.2.2.2.2.2.2, x.2.2.2.2.2.2.2.1) ∧ dC_ env p s b f = some (x.2.2.2.2.2.2.2.2.2.2, x.2.2.2.2.2.2.2.1, true) ∧ x.2.2.2.2.2.2.2.2.2.2.l.length ≤ 60 ∧ ∀ m ∈ x.2.2.2.2.2.2.2.2.2.2.l, m.Captures.l.length ≤ 100 ∧ 0 ≤ m.Start ∧ m.Start ≤ m.End ∧ m.End ≤ s.size := by
 have hV : ∀ x ∈ env.l, VP x.Pattern := fun x hx => (hE.2.1 x hx).2.1
 obtain ⟨x, x1, x2, x3⟩ := tX_ (env := env) (s := s) (p := p) (starts := w) hs hV hE.1 hv.1 hw4 hw3 f hf
 obtain ⟨w1, w2, m1, m2, m3, m4, m5⟩ := mL_ (env := env) (s := s) (p := p) (starts := w) hs hV hE.1 hv.1 hw4 hw3 f hf
 rw [x2] at m2; injection m2 with m2; subst m2
 have hm := mH_ hE hv hs hf hw2 x2
 refine ⟨x, x1, hm, hE_ _ _ _ _ _ _ ?_, x3, fun m hm => ⟨m4.c m hm, m4.g m hm⟩⟩
 have hA : askV env p s f = 0 := by
  unfold askV
  rw [aU_ (show AskP env p s from ⟨hE, hv, by omega⟩), aU_ hf]; rfl
 have hsp : dR_ env p s b f = some w1 := by
  refine hD_ _ _ _ _ _ _ ?_
  unfold dN_
  rw [(rl_ env p s f (pn_ hE) (sm_vp _ hv.1)).1, hA, Option.bind_some, if_neg (by simp), hw1, Option.bind_some, m1]; rfl
 unfold dW_
 rw [hm, Option.bind_some, hsp, Option.bind_some, if_pos (by simpa using m3), jQ_ _ _ m4 x3]; rfl
end Go.Am
end
