/- The law. -/
import Derived.Test.YtjgemoaobnokdaaAg0
import Derived.Test.YtjgemoaobnokdaaAl14
import Derived.Test.YtjgemoaobnokdaaAl17
section
set_option maxRecDepth 100000
set_option maxHeartbeats 1000000
set_option linter.unusedVariables false
set_option linter.unusedSimpArgs false
namespace Go.Am
section
variable {env : Sl DNamed} {s : ByteArray} {p : DPattern}
theorem rt_ {a f : Int} {x : T11} (h : IMF p ⟨false, [⟨a⟩]⟩ (St0 env s f) = some x) : ∃ r, Run0 env s f a p = some r ∧ D11 x = NS r.2 := by
 have key : ∀ o, (Run0 env s f a p).bind (fun y3 => if (!y3.1) = true then (some (.inr (y3.2.env_, y3.2.subject_, y3.2.fuel_, y3.2.steps_, y3.2.start_, y3.2.most_, y3.2.isMere_, y3.2.code_, y3.2.now_, y3.2.conds_, y3.2.matches_)) : Option ((Int × T11) ⊕ T11)) else (some (.inl ((w4 (0 + 1)), y3.2.env_, y3.2.subject_, y3.2.fuel_, y3.2.steps_, y3.2.start_, y3.2.most_, y3.2.isMere_, y3.2.code_, y3.2.now_, y3.2.conds_, y3.2.matches_)))) = some o → ∃ b S1, Run0 env s f a p = some (b, S1) ∧ ((b = false ∧ o = .inr (S1.env_, S1.subject_, S1.fuel_, S1.steps_, S1.start_, S1.most_, S1.isMere_, S1.code_, S1.now_, S1.conds_, S1.matches_)) ∨ (b = true ∧ o = .inl (1, S1.env_, S1.subject_, S1.fuel_, S1.steps_, S1.start_, S1.most_, S1.isMere_, S1.code_, S1.now_, S1.conds_, S1.matches_))) := fun o ho => by
  obtain ⟨⟨b, S1⟩, h1, h2⟩ := Option.bind_eq_some_iff.1 ho
  refine ⟨b, S1, h1, ?_⟩
  cases b
  ·simp only [Bool.not_false, if_true] at h2; injection h2 with h2; exact .inl ⟨rfl, h2.symm⟩
  ·simp only [Bool.not_true, Bool.false_eq_true, if_false] at h2; injection h2 with h2; exact .inr ⟨rfl, h2.symm⟩
 unfold IMF at h
 have hd : decide ((0 : Int) < (([⟨a⟩] : List (Iv .i64)).length : Int)) = true := rfl
 have hd1 : ¬ (decide ((1 : Int) < (([⟨a⟩] : List (Iv .i64)).length : Int)) = true) := by simp
 rcases j5_ h with h | ⟨s', h, h'⟩
 ·obtain ⟨b, S1, k1, k2⟩ := key _ ((if_pos hd).symm.trans h)
  refine ⟨_, k1, ?_⟩
  rcases k2 with ⟨rfl, k⟩ | ⟨_, k⟩
  ·injection k with k; subst k; rfl
  ·cases k
 ·obtain ⟨b, S1, k1, k2⟩ := key _ ((if_pos hd).symm.trans h)
  refine ⟨_, k1, ?_⟩
  rcases k2 with ⟨_, k⟩ | ⟨rfl, k⟩
  ·cases k
  ·injection k with k; subst k
   rcases j5_ h' with h | ⟨s', h, _⟩
   ·have := (if_neg hd1).symm.trans h
    injection this with this; injection this with this; subst this; rfl
   ·have := (if_neg hd1).symm.trans h
    injection this with this; cases this
theorem i5_ (hE : EnvP env) (hv : VPat p) (hs : s.size ≤ 200) {a f : Int} (hf : 0 ≤ f ∧ f ≤ 20000) : ∃ w : Sl (Iv .i64) × Int, bO_ env p s a f = some w ∧ w.1.l.length ≤ 60 ∧ (w.2 = 0 → (0 ≤ a ∧ a ≤ s.size) ∧ ∃ r, Run0 env s f a p = some r ∧ r.2.code_ = 0 ∧ w.1.l = r.2.matches_.l.map (fun x => ⟨x.End⟩)) := by
 suffices H : ∃ w : Sl (Iv .i64) × Int, dV_ env p s a f = some w ∧ w.1.l.length ≤ 60 ∧ (w.2 = 0 → (0 ≤ a ∧ a ≤ s.size) ∧ ∃ r, Run0 env s f a p = some r ∧ r.2.code_ = 0 ∧ w.1.l = r.2.matches_.l.map (fun x => ⟨x.End⟩)) by
  obtain ⟨w, h1, h2⟩ := H; exact ⟨w, i9_ _ _ _ _ _ _ h1, h2⟩
 have hA : askV env p s f = 0 := by
  unfold askV
  rw [a4_ (show AskP env p s from ⟨hE, hv, by omega⟩), a4_ hf]; rfl
 unfold dV_
 rw [(tG_ env p s f (sg_ hE) (sm_vp _ hv.1)).2, hA, Option.bind_some, in2, Option.bind_some, k3_, Option.bind_some, o9_, Option.bind_some]
 by_cases ha : 0 ≤ a ∧ a ≤ (s.size : Int)
 rotate_left
 ·rw [aT_ ha]
  exact ⟨_, rfl, by simp, fun h => by simp at h⟩
 obtain ⟨x, x1, x2, x3⟩ := tR_ (env := env) (s := s) (p := p) (starts := ⟨false, [⟨a⟩]⟩) hs (fun x hx => (hE.2.1 x hx).2.1) hE.1 hv.1 (fun v hv => by simp at hv; rw [hv]; exact ha) (by simp) f hf
 obtain ⟨r, r1, r2⟩ := rt_ x1
 have em : x.2.2.2.2.2.2.2.2.2.2 = r.2.matches_ := congrArg aa_.matches_ r2
 have ec : x.2.2.2.2.2.2.2.1 = r.2.code_ := congrArg aa_.code_ r2
 rw [a4_ ha, if_pos rfl, if_pos rfl, if_neg (by simp), x2, Option.bind_some]
 by_cases hc : x.2.2.2.2.2.2.2.1 = 0
 ·rw [if_neg (by simp [hc]), nm_ _ x3]
  exact ⟨_, rfl, by simpa using x3, fun _ => ⟨ha, r, r1, by rw [← ec]; exact hc, by rw [em]⟩⟩
 ·rw [if_pos (by simp [hc])]
  exact ⟨_, rfl, by simp, fun h => absurd h hc⟩
end
theorem qm_ {α : Type} (k : Nat) (x y : Sl α) (hk : k ≤ 64) (h : x.l.length + y.l.length ≤ 100000) : ∃ w, appS k x y = some w ∧ w.l = x.l ++ y.l := by
 unfold appS
 cases hy : y.l with
 | nil => exact ⟨x, rfl, by simp⟩
 | cons q l =>
  rw [hy] at h
  have : (x.l.length + (q :: l).length) * k ≤ 100000 * 64 := Nat.mul_le_mul h hk
  exact ⟨⟨false, x.l ++ (q :: l)⟩, by rw [if_pos (by omega)], rfl⟩
theorem rc_ (a b : Sl (Iv .i64)) (h : a.l = b.l) (hl : a.l.length ≤ 1000000) : fo_ a b = some true := by
 refine iX_ _ _ _ ?_
 unfold e6_
 rw [if_neg (by simp [h]), mj_ (n := a.l.length) (r := .inl ()) (fun i hi => ?_) (if_neg (by simp))]
 ·rfl
 ·have e1 := bC_ (s := a) hi
  have e2 := bC_ (s := b) (show i < b.l.length by rw [← h]; exact hi)
  have e3 : b.l[i]'(by rw [← h]; exact hi) = a.l[i] := by simp [h]
  rw [if_pos (by simpa using hi), e1, Option.bind_some, e2, Option.bind_some, e3, if_neg (by simp), aS_ (by omega) (by omega)]
end Go.Am
end
