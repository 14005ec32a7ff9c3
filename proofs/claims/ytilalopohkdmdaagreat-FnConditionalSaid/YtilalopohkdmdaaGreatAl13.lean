/- The law. -/
import Derived.Test.YtilalopohkdmdaaGreatAg0
import Derived.Test.YtilalopohkdmdaaGreatAg2
import Derived.Test.YtilalopohkdmdaaGreatAg3
import Derived.Test.YtilalopohkdmdaaGreatAg4
import Derived.Test.YtilalopohkdmdaaGreatAl12
section
set_option maxRecDepth 100000
set_option maxHeartbeats 1000000
set_option linter.unusedVariables false
set_option linter.unusedSimpArgs false
namespace Go.Am
theorem mm_ (a b : Sl DCapture) (h : a.l = b.l) (hl : a.l.length ≤ 100) : ce_ a b = some true := by
 refine fz_ _ _ _ ?_
 unfold cc_
 rw [if_neg (by simp [h]), f4_ (n := a.l.length) (r := .inl ()) (fun i hi => ?_) (if_neg (by simp))]
 ·rfl
 ·have e1 := bh_ (s := a) hi
  have e2 := bh_ (s := b) (show i < b.l.length by rw [← h]; exact hi)
  have e3 : b.l[i]'(by rw [← h]; exact hi) = a.l[i] := by simp [h]
  rw [if_pos (by simpa using hi), e1, Option.bind_some, e2, Option.bind_some, e3, if_neg (by simp), aQ_ (by omega) (by omega)]
theorem ln_ (a b : DMatch) (h : mkey a = mkey b) (hl : a.Captures.l.length ≤ 100) : dK_ a b = some true := by
 injection h with h1 h2; injection h2 with h2 h3
 refine ht_ _ _ _ ?_
 unfold dw_
 rw [if_pos (by simp [h1]), if_pos (by simp [h2]), mm_ _ _ h3 hl]; rfl
theorem i7_ (a b : Sl DMatch) {s : ByteArray} (h : gm_ s a.l b.l) (hl : a.l.length ≤ 60) : c0_ a b = some true := by
 have hn := h.len
 refine gP_ _ _ _ ?_
 unfold cU_
 rw [if_neg (by simp [hn]), f4_ (n := a.l.length) (r := .inl ()) (fun i hi => ?_) (if_neg (by simp))]
 ·rfl
 ·have hi2 : i < b.l.length := by omega
  have e1 := bh_ (s := a) hi
  have e2 := bh_ (s := b) hi2
  have e3 : mkey a.l[i] = mkey b.l[i] := by
   have := congrArg (fun l => l[i]?) h.k
   simpa [List.getElem?_map, hi, hi2] using this
  rw [if_pos (by simpa using hi), e1, Option.bind_some, e2, Option.bind_some, ln_ _ _ e3 (h.c _ (List.getElem_mem hi)), Option.bind_some, if_neg (by simp), aQ_ (by omega) (by omega)]
theorem mP_ {env : Sl DNamed} {s : ByteArray} {p : DPattern} (hE : EnvP env) (hv : VPat p) (hs : s.size ≤ 200) (b : Bool) {f : Int} (hf : 0 ≤ f ∧ f ≤ 20000) {w : Sl (Iv .i64)} (hw1 : cF_ s b = some w) (hw2 : ck_ s b = some w) (hw3 : w.l.length ≤ 1000) (hw4 : ∀ x ∈ w.l, 0 ≤ x.v ∧ x.v ≤ s.size) :
  ∃ x : T11, IMF p w (St0 env s f) = some x ∧ cH_ env p s b f = some (x.2.2.2.2.2.2.2.2.2.2, x.2.2.2.2.2.2.2.1) ∧ dz_ env p s b f = some (x.2.2.2.2.2.2.2.2.2.2, x.2.2.2.2.2.2.2.1, true) ∧ x.2.2.2.2.2.2.2.2.2.2.l.length ≤ 60 ∧ ∀ m ∈ x.2.2.2.2.2.2.2.2.2.2.l, m.Captures.l.length ≤ 100 ∧ 0 ≤ m.Start ∧ m.Start ≤ m.End ∧ m.End ≤ s.size := by
 have hV : ∀ x ∈ env.l, VP x.Pattern := fun x hx => (hE.2.1 x hx).2.1
 obtain ⟨x, x1, x2, x3⟩ := t9_ (env := env) (s := s) (p := p) (starts := w) hs hV hE.1 hv.1 hw4 hw3 f hf
 obtain ⟨w1, w2, m1, m2, m3, m4, m5⟩ := ne_ (env := env) (s := s) (p := p) (starts := w) hs hV hE.1 hv.1 hw4 hw3 f hf
 rw [x2] at m2; injection m2 with m2; subst m2
 have hm := mk_ hE hv hs hf hw2 x2
 refine ⟨x, x1, hm, hx_ _ _ _ _ _ _ ?_, x3, fun m hm => ⟨m4.c m hm, m4.g m hm⟩⟩
 have hA : askV env p s f = 0 := by
  unfold askV
  rw [a0_ (show AskP env p s from ⟨hE, hv, by omega⟩), a0_ hf]; rfl
 have hsp : dN_ env p s b f = some w1 := by
  refine hv_ _ _ _ _ _ _ ?_
  unfold dA_
  rw [(sv_ env p s f (o7_ hE) (sm_vp _ hv.1)).1, hA, Option.bind_some, if_neg (by simp), hw1, Option.bind_some, m1]; rfl
 unfold dE_
 rw [hm, Option.bind_some, hsp, Option.bind_some, if_pos (by simpa using m3), i7_ _ _ m4 x3]; rfl
end Go.Am
end
