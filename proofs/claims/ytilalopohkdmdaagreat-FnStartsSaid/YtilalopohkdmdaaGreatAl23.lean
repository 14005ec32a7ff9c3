/- The law. -/
import Derived.Test.YtilalopohkdmdaaGreatAd0
import Derived.Test.YtilalopohkdmdaaGreatAl16
import Derived.Test.YtilalopohkdmdaaGreatAl10
section
set_option maxRecDepth 100000
set_option maxHeartbeats 1000000
set_option linter.unusedVariables false
set_option linter.unusedSimpArgs false
namespace Go.Am
theorem pB_ {α β : Type} (f : α → β) {a : Sl α} {z0 : Bool} {body : Int × Sl β → Option ((Int × Sl β) ⊕ Sl β)} (hn : a.l.length < 9223372036854775807)
  (h1 : ∀ (i : Nat) x (s : Sl β), x ∈ a.l → i < a.l.length → s.l.length = i → elt a (i : Int) = some x → body (i, s) = some (.inl ((i : Int) + 1, ⟨false, s.l ++ [f x]⟩)))
  (h2 : ∀ s, body ((a.l.length : Int), s) = some (.inr s)) : aD_ body (0, ⟨z0, []⟩) = some ⟨z0 && a.l.isEmpty, a.l.map f⟩ := by
 suffices H : ∀ (k i : Nat), i + k = a.l.length → ∀ s : Sl β, s.l = (a.l.take i).map f → s.z = (z0 && (a.l.take i).isEmpty) → aD_ body ((i : Int), s) = some ⟨z0 && a.l.isEmpty, a.l.map f⟩ by
  exact H a.l.length 0 (by simp) ⟨z0, []⟩ rfl (by simp)
 intro k
 induction k with
 | zero =>
  intro i hi s hs hz
  have : i = a.l.length := by omega
  subst this
  refine al_ ((h2 s).trans ?_)
  obtain ⟨z, l⟩ := s
  simp only [List.take_length] at hs hz
  rw [hs, hz]
 | succ k ih =>
  intro i hi s hs hz
  have hlt : i < a.l.length := by omega
  have ec : ((i + 1 : Nat) : Int) = (i : Int) + 1 := by simp
  have e := h1 i a.l[i] s (List.getElem_mem hlt) hlt (by rw [hs]; simp; omega) (bK_ hlt)
  have w := ih (i + 1) (by omega) ⟨false, s.l ++ [f a.l[i]]⟩ (by rw [List.take_succ_eq_append_getElem hlt, List.map_append, hs]; rfl) (by rw [List.take_succ_eq_append_getElem hlt]; simp; intro _ hh; rw [hh] at hlt; simp at hlt)
  rw [ec] at w
  exact aC_ e w
theorem ndL_mono : ∀ l1 l2 : List DPattern, l1.length = l2.length → (∀ j (h1 : j < l1.length) (h2 : j < l2.length), nd l1[j] ≤ nd l2[j]) → ndL l1 ≤ ndL l2
 | [], _, _, _ => by unfold ndL; omega
 | x :: l1, [], h, _ => by simp at h
 | x :: l1, y :: l2, h, k => by
  have := ndL_mono l1 l2 (by simpa using h) fun j h1 h2 => by
   have := k (j + 1) (by simp; omega) (by simp; omega)
   simpa using this
  have k0 := k 0 (by simp) (by simp)
  simp only [List.getElem_cons_zero] at k0
  unfold ndL; omega
def qa_ (x k : DPattern) : Prop := VP x ∧ CalmP x ∧ nd x ≤ nd k
end Go.Am
end
