/- The law. -/
import Derived.Test.YtilalopohkdmdaaGreatAg0
import Derived.Test.YtilalopohkdmdaaGreatAl12
section
set_option maxRecDepth 100000
set_option maxHeartbeats 1000000
set_option linter.unusedVariables false
set_option linter.unusedSimpArgs false
namespace Go.Am
theorem nV_ {α β : Type} (f : α → β) {a : Sl α} {body : Int × Sl β → Option ((Int × Sl β) ⊕ Sl β)} (hn : a.l.length < 9223372036854775807)
  (h1 : ∀ (i : Nat) x (s : Sl β), x ∈ a.l → i < a.l.length → s.l.length = i → elt a (i : Int) = some x → body (i, s) = some (.inl ((i : Int) + 1, ⟨false, s.l ++ [f x]⟩)))
  (h2 : ∀ s, body ((a.l.length : Int), s) = some (.inr s)) : az_ body (0, ⟨false, []⟩) = some ⟨false, a.l.map f⟩ := by
 suffices H : ∀ (k i : Nat), i + k = a.l.length → ∀ s : Sl β, s.l = (a.l.take i).map f → s.z = false → az_ body ((i : Int), s) = some ⟨false, a.l.map f⟩ by
  exact H a.l.length 0 (by simp) ⟨false, []⟩ rfl rfl
 intro k
 induction k with
 | zero =>
  intro i hi s hs hz
  have : i = a.l.length := by omega
  subst this
  refine ah_ ((h2 s).trans ?_)
  obtain ⟨z, l⟩ := s
  simp only [List.take_length] at hs hz
  rw [hs, hz]
 | succ k ih =>
  intro i hi s hs hz
  have hlt : i < a.l.length := by omega
  have ec : ((i + 1 : Nat) : Int) = (i : Int) + 1 := by simp
  have e := h1 i a.l[i] s (List.getElem_mem hlt) hlt (by rw [hs]; simp; omega) (bC_ hlt)
  have w := ih (i + 1) (by omega) ⟨false, s.l ++ [f a.l[i]]⟩ (by rw [List.take_succ_eq_append_getElem hlt, List.map_append, hs]; rfl) rfl
  rw [ec] at w
  exact au_ e w
theorem mG_ (y : Sl DMatch) (hl : y.l.length ≤ 60) : az_ (S := (Int × (Sl (Iv .i64)))) (R := (Sl (Iv .i64))) (fun st1 => (if (decide (st1.1 < (y.l.length : Int))) = true then ((elt y st1.1).bind fun y3 => ((appS 8 st1.2 (⟨false, [⟨y3.End⟩]⟩ : Sl (Iv .i64))).bind fun y4 => (some (.inl ((w4 (st1.1 + 1)), y4))))) else (some (.inr st1.2)))) (0, (⟨false, []⟩ : Sl (Iv .i64))) = some ⟨false, y.l.map fun x => ⟨x.End⟩⟩ := by
 refine nV_ (fun x : DMatch => (⟨x.End⟩ : Iv .i64)) (by omega) (fun i x s hx hi hs he => ?_) (fun s => by rw [if_neg (by simp)])
 show (if decide ((i : Int) < (y.l.length : Int)) = true then _ else _) = _
 rw [if_pos (by simpa using hi), he, Option.bind_some]
 obtain ⟨z, l⟩ := s
 rw [bO_ (by simp at hs; omega), Option.bind_some, aP_ (by omega) (by omega)]
end Go.Am
end
