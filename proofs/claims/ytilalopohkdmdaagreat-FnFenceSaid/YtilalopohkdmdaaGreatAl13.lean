/- The law. -/
import Derived.Test.YtilalopohkdmdaaGreatAg0
import Derived.Test.YtilalopohkdmdaaGreatAg2
import Derived.Test.YtilalopohkdmdaaGreatAl12
section
set_option maxRecDepth 100000
set_option maxHeartbeats 1000000
set_option linter.unusedVariables false
set_option linter.unusedSimpArgs false
namespace Go.Am
theorem oH_ {α β : Type} (f : α → β) {a : Sl α} {body : Int × Sl β → Option ((Int × Sl β) ⊕ Sl β)} (hn : a.l.length < 9223372036854775807)
  (h1 : ∀ (i : Nat) x (s : Sl β), x ∈ a.l → i < a.l.length → s.l.length = i → elt a (i : Int) = some x → body (i, s) = some (.inl ((i : Int) + 1, ⟨false, s.l ++ [f x]⟩)))
  (h2 : ∀ s, body ((a.l.length : Int), s) = some (.inr s)) : aD_ body (0, ⟨false, []⟩) = some ⟨false, a.l.map f⟩ := by
 suffices H : ∀ (k i : Nat), i + k = a.l.length → ∀ s : Sl β, s.l = (a.l.take i).map f → s.z = false → aD_ body ((i : Int), s) = some ⟨false, a.l.map f⟩ by
  exact H a.l.length 0 (by simp) ⟨false, []⟩ rfl rfl
 intro k
 induction k with
 | zero =>
  intro i hi s hs hz
  have : i = a.l.length := by omega
  subst this
  refine aq_ ((h2 s).trans ?_)
  obtain ⟨z, l⟩ := s
  simp only [List.take_length] at hs hz
  rw [hs, hz]
 | succ k ih =>
  intro i hi s hs hz
  have hlt : i < a.l.length := by omega
  have ec : ((i + 1 : Nat) : Int) = (i : Int) + 1 := by simp
  have e := h1 i a.l[i] s (List.getElem_mem hlt) hlt (by rw [hs]; simp; omega) (bK_ hlt)
  have w := ih (i + 1) (by omega) ⟨false, s.l ++ [f a.l[i]]⟩ (by rw [List.take_succ_eq_append_getElem hlt, List.map_append, hs]; rfl) rfl
  rw [ec] at w
  exact aB_ e w
theorem h1_ (y : Sl DMatch) (hl : y.l.length ≤ 60) : aD_ (S := (Int × (Sl (Iv .i64)))) (R := (Sl (Iv .i64))) (fun st1 => (if (decide (st1.1 < (y.l.length : Int))) = true then ((elt y st1.1).bind fun y3 => ((appS 8 st1.2 (⟨false, [⟨y3.End⟩]⟩ : Sl (Iv .i64))).bind fun y4 => (some (.inl ((w4 (st1.1 + 1)), y4))))) else (some (.inr st1.2)))) (0, (⟨false, []⟩ : Sl (Iv .i64))) = some ⟨false, y.l.map fun x => ⟨x.End⟩⟩ := by
 refine oH_ (fun x : DMatch => (⟨x.End⟩ : Iv .i64)) (by omega) (fun i x s hx hi hs he => ?_) (fun s => by rw [if_neg (by simp)])
 show (if decide ((i : Int) < (y.l.length : Int)) = true then _ else _) = _
 rw [if_pos (by simpa using hi), he, Option.bind_some]
 obtain ⟨z, l⟩ := s
 rw [bQ_ (by simp at hs; omega), Option.bind_some, aY_ (by omega) (by omega)]
theorem nV_ (env : Sl DNamed) (p : DPattern) (s : ByteArray) (a f : Int) (hE : nG_ env) (hp : SmPt p) : ∃ w1 w2 : Sl (Iv .i64) × Int, ft_ env p s a f = some w1 ∧ c6_ env p s a f = some w2 ∧ w2.2 = w1.2 ∧ w2.1.l = w1.1.l ∧ w1.1.l.length ≤ 60 := by
 suffices H : ∃ w1 w2 : Sl (Iv .i64) × Int, dR_ env p s a f = some w1 ∧ cu_ env p s a f = some w2 ∧ w2.2 = w1.2 ∧ w2.1.l = w1.1.l ∧ w1.1.l.length ≤ 60 by
  obtain ⟨w1, w2, h1, h2, h3⟩ := H
  exact ⟨w1, w2, jU_ _ _ _ _ _ _ h1, gE_ _ _ _ _ _ _ h2, h3⟩
 obtain ⟨a1, a2⟩ := rX_ env p s f hE hp
 unfold dR_ cu_
 rw [a1, a2, Option.bind_some, Option.bind_some, in2, Option.bind_some, jN_, Option.bind_some, n0_, Option.bind_some, in1]
 by_cases h0 : askV env p s f = 0
 ·obtain ⟨k1, k2, k3, k4⟩ := sy_ h0
  rw [if_neg (by simp [h0]), Option.bind_some, if_pos h0]
  by_cases hin : 0 ≤ a ∧ a ≤ (s.size : Int)
  ·rw [a3_ hin, if_neg (by simp), if_pos rfl, if_neg (by simp)]
   obtain ⟨w1, w2, m1, m2, m3, m4, m5⟩ := nX_ (env := env) (s := s) (p := p) (starts := ⟨false, [⟨a⟩]⟩) (by omega) (fun x hx => (k1.2.1 x hx).2.1) k1.1 k2.1 (fun x hx => by simp at hx; rw [hx]; exact hin) (by simp) f k4
   have hl2 : w2.1.l.length ≤ 60 := by have := m4.len; omega
   have e1 : eI_ env p s a f = some (⟨false, w1.1.l.map fun x => ⟨x.End⟩⟩, w1.2) := by
    refine iE_ _ _ _ _ _ _ ?_
    unfold eJ_
    rw [m1, Option.bind_some, h1_ w1.1 m5]; rfl
   rw [e1, m2, Option.bind_some, Option.bind_some, m3]
   by_cases hc : w1.2 = 0
   ·rw [if_neg (by simp [hc]), if_neg (by simp [hc]), h1_ w2.1 hl2]
    refine ⟨_, _, rfl, rfl, rfl, ?_, by simpa using m5⟩
    have := congrArg (List.map fun x : Int => (⟨x⟩ : Iv .i64)) m4.ends
    simpa [Function.comp_def] using this
   ·rw [if_pos (by simp [hc]), if_pos (by simp [hc])]
    exact ⟨_, _, rfl, rfl, rfl, rfl, by simp⟩
  ·rw [aR_ hin]
   exact ⟨_, _, rfl, rfl, rfl, rfl, by simp⟩
 ·rw [if_pos (by simp [h0]), if_neg h0, if_pos (by simp [h0])]
  exact ⟨_, _, rfl, rfl, rfl, rfl, by simp⟩
end Go.Am
end
