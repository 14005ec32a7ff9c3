/- The law. -/
import Derived.Test.YtilalopohkdmdaaGreatAg0
import Derived.Test.YtilalopohkdmdaaGreatAl14
import Derived.Test.YtilalopohkdmdaaGreatAl17
section
set_option maxRecDepth 100000
set_option maxHeartbeats 1000000
set_option linter.unusedVariables false
set_option linter.unusedSimpArgs false
namespace Go.Am
section
variable {env : Sl DNamed} {s : ByteArray} {p : DPattern}
theorem sY_ {a f : Int} {x : T11} (h : IMF p ⟨false, [⟨a⟩]⟩ (St0 env s f) = some x) : ∃ r, Run0 env s f a p = some r ∧ D11 x = NS r.2 := by
 have key : ∀ o, (Run0 env s f a p).bind (fun y3 => if (!y3.1) = true then (some (.inr (y3.2.env_, y3.2.subject_, y3.2.fuel_, y3.2.steps_, y3.2.start_, y3.2.most_, y3.2.isMere_, y3.2.code_, y3.2.now_, y3.2.conds_, y3.2.matches_)) : Option ((Int × T11) ⊕ T11)) else (some (.inl ((w4 (0 + 1)), y3.2.env_, y3.2.subject_, y3.2.fuel_, y3.2.steps_, y3.2.start_, y3.2.most_, y3.2.isMere_, y3.2.code_, y3.2.now_, y3.2.conds_, y3.2.matches_)))) = some o → ∃ b S1, Run0 env s f a p = some (b, S1) ∧ ((b = false ∧ o = .inr (S1.env_, S1.subject_, S1.fuel_, S1.steps_, S1.start_, S1.most_, S1.isMere_, S1.code_, S1.now_, S1.conds_, S1.matches_)) ∨ (b = true ∧ o = .inl (1, S1.env_, S1.subject_, S1.fuel_, S1.steps_, S1.start_, S1.most_, S1.isMere_, S1.code_, S1.now_, S1.conds_, S1.matches_))) := fun o ho => by
  obtain ⟨⟨b, S1⟩, h1, h2⟩ := Option.bind_eq_some_iff.1 ho
  refine ⟨b, S1, h1, ?_⟩
  cases b
  ·simp only [Bool.not_false, if_true] at h2; injection h2 with h2; exact .inl ⟨rfl, h2.symm⟩
  ·simp only [Bool.not_true, Bool.false_eq_true, if_false] at h2; injection h2 with h2; exact .inr ⟨rfl, h2.symm⟩
 unfold IMF at h
 have hd : decide ((0 : Int) < (([⟨a⟩] : List (Iv .i64)).length : Int)) = true := rfl
 have hd1 : ¬ (decide ((1 : Int) < (([⟨a⟩] : List (Iv .i64)).length : Int)) = true) := by simp
 rcases kj_ h with h | ⟨s', h, h'⟩
 ·obtain ⟨b, S1, k1, k2⟩ := key _ ((if_pos hd).symm.trans h)
  refine ⟨_, k1, ?_⟩
  rcases k2 with ⟨rfl, k⟩ | ⟨_, k⟩
  ·injection k with k; subst k; rfl
  ·cases k
 ·obtain ⟨b, S1, k1, k2⟩ := key _ ((if_pos hd).symm.trans h)
  refine ⟨_, k1, ?_⟩
  rcases k2 with ⟨_, k⟩ | ⟨rfl, k⟩
  ·cases k
  ·injection k with k; subst k
   rcases kj_ h' with h | ⟨s', h, _⟩
   ·have := (if_neg hd1).symm.trans h
    injection this with this; injection this with this; subst this; rfl
   ·have := (if_neg hd1).symm.trans h
    injection this with this; cases this
theorem l3_ (hE : EnvP env) (hv : VPat p) (hs : s.size ≤ 200) {a f : Int} (hf : 0 ≤ f ∧ f ≤ 20000) : ∃ w : Sl (Iv .i64) × Int, c6_ env p s a f = some w ∧ w.1.l.length ≤ 60 ∧ (w.2 = 0 → (0 ≤ a ∧ a ≤ s.size) ∧ ∃ r, Run0 env s f a p = some r ∧ r.2.code_ = 0 ∧ w.1.l = r.2.matches_.l.map (fun x => ⟨x.End⟩)) := by
 suffices H : ∃ w : Sl (Iv .i64) × Int, cu_ env p s a f = some w ∧ w.1.l.length ≤ 60 ∧ (w.2 = 0 → (0 ≤ a ∧ a ≤ s.size) ∧ ∃ r, Run0 env s f a p = some r ∧ r.2.code_ = 0 ∧ w.1.l = r.2.matches_.l.map (fun x => ⟨x.End⟩)) by
  obtain ⟨w, h1, h2⟩ := H; exact ⟨w, gE_ _ _ _ _ _ _ h1, h2⟩
 have hA : askV env p s f = 0 := by
  unfold askV
  rw [a3_ (show AskP env p s from ⟨hE, hv, by omega⟩), a3_ hf]; rfl
 unfold cu_
 rw [(rX_ env p s f (ps_ hE) (sm_vp _ hv.1)).2, hA, Option.bind_some, in2, Option.bind_some, jN_, Option.bind_some, n0_, Option.bind_some]
 by_cases ha : 0 ≤ a ∧ a ≤ (s.size : Int)
 rotate_left
 ·rw [aR_ ha]
  exact ⟨_, rfl, by simp, fun h => by simp at h⟩
 obtain ⟨x, x1, x2, x3⟩ := uo_ (env := env) (s := s) (p := p) (starts := ⟨false, [⟨a⟩]⟩) hs (fun x hx => (hE.2.1 x hx).2.1) hE.1 hv.1 (fun v hv => by simp at hv; rw [hv]; exact ha) (by simp) f hf
 obtain ⟨r, r1, r2⟩ := sY_ x1
 have em : x.2.2.2.2.2.2.2.2.2.2 = r.2.matches_ := congrArg aa_.matches_ r2
 have ec : x.2.2.2.2.2.2.2.1 = r.2.code_ := congrArg aa_.code_ r2
 rw [a3_ ha, if_pos rfl, if_pos rfl, if_neg (by simp), x2, Option.bind_some]
 by_cases hc : x.2.2.2.2.2.2.2.1 = 0
 ·rw [if_neg (by simp [hc]), h1_ _ x3]
  exact ⟨_, rfl, by simpa using x3, fun _ => ⟨ha, r, r1, by rw [← ec]; exact hc, by rw [em]⟩⟩
 ·rw [if_pos (by simp [hc])]
  exact ⟨_, rfl, by simp, fun h => absurd h hc⟩
end
theorem pl_ (a b : Sl (Iv .i64)) (h : a.l = b.l) (hl : a.l.length ≤ 1000000) : d3_ a b = some true := by
 refine jX_ _ _ _ ?_
 unfold fn_
 rw [if_neg (by simp [h]), mE_ (n := a.l.length) (r := .inl ()) (fun i hi => ?_) (if_neg (by simp))]
 ·rfl
 ·have e1 := bK_ (s := a) hi
  have e2 := bK_ (s := b) (show i < b.l.length by rw [← h]; exact hi)
  have e3 : b.l[i]'(by rw [← h]; exact hi) = a.l[i] := by simp [h]
  rw [if_pos (by simpa using hi), e1, Option.bind_some, e2, Option.bind_some, e3, if_neg (by simp), aY_ (by omega) (by omega)]
theorem pf_ {env : Sl DNamed} {s : ByteArray} {p : DPattern} (hE : EnvP env) (hv : VPat p) (hs : s.size ≤ 200) {a f : Int} (hf : 0 ≤ f ∧ f ≤ 20000) : ∃ w : Sl (Iv .i64) × Int, d0_ env p s a f = some (w.1, w.2, true) ∧ w.1.l.length ≤ 60 ∧ (w.2 = 0 → (0 ≤ a ∧ a ≤ s.size) ∧ ∃ r, Run0 env s f a p = some r ∧ r.2.code_ = 0 ∧ w.1.l = r.2.matches_.l.map (fun x => ⟨x.End⟩)) := by
 obtain ⟨w, h1, h2, h3⟩ := l3_ (a := a) hE hv hs hf
 obtain ⟨w1, w2, g1, g2, g3, g4, g5⟩ := nV_ env p s a f (ps_ hE) (sm_vp _ hv.1)
 rw [h1] at g2; injection g2 with g2; subst g2
 refine ⟨w, jO_ _ _ _ _ _ _ ?_, h2, h3⟩
 unfold fj_
 rw [h1, Option.bind_some, g1, Option.bind_some, if_pos (by simp [g3]), pl_ w.1 w1.1 g4 (by omega)]; rfl
theorem pB_ {p q : DPattern} (k : Int) (hk : k = 18 ∨ k = 19) (hp : VP p) (hq : VP q) (hn : nd p + nd q + 1 ≤ 60) : VPat ⟨k, 0, ⟨#[]⟩, ⟨false, [p, q]⟩⟩ := by
 refine ⟨.mk ⟨by show 1 ≤ k ∧ k ≤ 24; omega, by show (2 : Int) = kidN k; unfold kidN; rw [if_pos (by omega)], ?_⟩ fun x hx => ?_, ?_⟩
 ·show ArgP k 0 ⟨#[]⟩
  unfold ArgP
  rw [if_neg (by omega), if_neg (by omega), if_neg (by omega)]; exact ⟨rfl, rfl⟩
 ·have hx : x = p ∨ x = q := by simpa using hx
  rcases hx with rfl | rfl
  ·exact hp
  ·exact hq
 ·rw [hW_]; show ((1 + ndL [p, q] : Nat) : Int) ≤ 60; simp only [ndL]; omega
theorem ru_ (k : Int) (p q : DPattern) : c5_ k ⟨#[]⟩ ⟨false, [p, q]⟩ = some ⟨k, 0, ⟨#[]⟩, ⟨false, [p, q]⟩⟩ := gI_ _ _ _ _ rfl
theorem sA_ (p q : DPattern) : eH_ p q = some ⟨19, 0, ⟨#[]⟩, ⟨false, [p, q]⟩⟩ := by
 refine kA_ _ _ _ ?_
 unfold fR_
 rw [ru_]; rfl
end Go.Am
end
