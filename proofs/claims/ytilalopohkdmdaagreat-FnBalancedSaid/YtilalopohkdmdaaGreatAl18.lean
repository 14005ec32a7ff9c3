/- The law. -/
import Derived.Test.YtilalopohkdmdaaGreatAg0
import Derived.Test.YtilalopohkdmdaaGreatAl14
import Derived.Test.YtilalopohkdmdaaGreatAl17
section
set_option maxRecDepth 100000
set_option maxHeartbeats 1000000
set_option linter.unusedVariables false
set_option linter.unusedSimpArgs false
namespace Go.Am
section
variable {env : Sl DNamed} {s : ByteArray} {p : DPattern}
theorem rF_ {a f : Int} {x : T11} (h : IMF p ⟨false, [⟨a⟩]⟩ (St0 env s f) = some x) : ∃ r, Run0 env s f a p = some r ∧ D11 x = NS r.2 := by
 have key : ∀ o, (Run0 env s f a p).bind (fun y3 => if (!y3.1) = true then (some (.inr (y3.2.env_, y3.2.subject_, y3.2.fuel_, y3.2.steps_, y3.2.start_, y3.2.most_, y3.2.isMere_, y3.2.code_, y3.2.now_, y3.2.conds_, y3.2.matches_)) : Option ((Int × T11) ⊕ T11)) else (some (.inl ((w4 (0 + 1)), y3.2.env_, y3.2.subject_, y3.2.fuel_, y3.2.steps_, y3.2.start_, y3.2.most_, y3.2.isMere_, y3.2.code_, y3.2.now_, y3.2.conds_, y3.2.matches_)))) = some o → ∃ b S1, Run0 env s f a p = some (b, S1) ∧ ((b = false ∧ o = .inr (S1.env_, S1.subject_, S1.fuel_, S1.steps_, S1.start_, S1.most_, S1.isMere_, S1.code_, S1.now_, S1.conds_, S1.matches_)) ∨ (b = true ∧ o = .inl (1, S1.env_, S1.subject_, S1.fuel_, S1.steps_, S1.start_, S1.most_, S1.isMere_, S1.code_, S1.now_, S1.conds_, S1.matches_))) := fun o ho => by
  obtain ⟨⟨b, S1⟩, h1, h2⟩ := Option.bind_eq_some_iff.1 ho
  refine ⟨b, S1, h1, ?_⟩
  cases b
  ·simp only [Bool.not_false, if_true] at h2; injection h2 with h2; exact .inl ⟨rfl, h2.symm⟩
  ·simp only [Bool.not_true, Bool.false_eq_true, if_false] at h2; injection h2 with h2; exact .inr ⟨rfl, h2.symm⟩
 unfold IMF at h
 have hd : decide ((0 : Int) < (([⟨a⟩] : List (Iv .i64)).length : Int)) = true := rfl
 have hd1 : ¬ (decide ((1 : Int) < (([⟨a⟩] : List (Iv .i64)).length : Int)) = true) := by simp
 rcases kq_ h with h | ⟨s', h, h'⟩
 ·obtain ⟨b, S1, k1, k2⟩ := key _ ((if_pos hd).symm.trans h)
  refine ⟨_, k1, ?_⟩
  rcases k2 with ⟨rfl, k⟩ | ⟨_, k⟩
  ·injection k with k; subst k; rfl
  ·cases k
 ·obtain ⟨b, S1, k1, k2⟩ := key _ ((if_pos hd).symm.trans h)
  refine ⟨_, k1, ?_⟩
  rcases k2 with ⟨_, k⟩ | ⟨rfl, k⟩
  ·cases k
  ·injection k with k; subst k
   rcases kq_ h' with h | ⟨s', h, _⟩
   ·have := (if_neg hd1).symm.trans h
    injection this with this; injection this with this; subst this; rfl
   ·have := (if_neg hd1).symm.trans h
    injection this with this; cases this
end
theorem rU_ (k : Int) (p q : DPattern) : cU_ k ⟨#[]⟩ ⟨false, [p, q]⟩ = some ⟨k, 0, ⟨#[]⟩, ⟨false, [p, q]⟩⟩ := gH_ _ _ _ _ rfl
theorem pv_ (p q : DPattern) : bz_ p q = some ⟨19, 0, ⟨#[]⟩, ⟨false, [p, q]⟩⟩ := by
 refine jY_ _ _ _ ?_
 unfold fO_
 rw [rU_]; rfl
end Go.Am
end
