/- The law. -/
import Derived.Test.YtkgmfmcpbgffpaaAg1
import Derived.Test.YtkgmfmcpbgffpaaAl6
section
set_option maxRecDepth 100000
set_option maxHeartbeats 4000000
set_option linter.unusedVariables false
set_option linter.unusedSimpArgs false
namespace Go.Am
theorem jS_ {S T R R' : Type} {b : S → Option (S ⊕ R)} {b' : T → Option (T ⊕ R')} {s : S} {t : T} (I : S → T → Prop) {Q : R → R' → Prop} (h0 : I s t)
  (h : ∀ s t, I s t → Gt (b s) (b' t) (fun x x' => (∃ r, x = .inr r ∧ ∀ r', Q r r') ∨ (∃ r', x' = .inr r' ∧ ∀ r, Q r r') ∨ (∃ a a', x = .inl a ∧ x' = .inl a' ∧ I a a') ∨ (∃ a a', x = .inr a ∧ x' = .inr a' ∧ Q a a'))) : Gt (az_ b s) (az_ b' t) Q := fun r r' hr hr' => by
 obtain ⟨n, hn⟩ := c5_.1 hr
 clear hr
 induction n generalizing s t with
 | zero => cases hn
 | succ n ih =>
  simp only [iter] at hn
  cases hb : b s with
  | none => rw [hb] at hn; cases hn
  | some x =>
   rw [hb] at hn
   obtain ⟨n', hn'⟩ := c5_.1 hr'
   cases n' with
   | zero => cases hn'
   | succ n' =>
    simp only [iter] at hn'
    cases hb' : b' t with
    | none => rw [hb'] at hn'; cases hn'
    | some x' =>
     rw [hb'] at hn'
     rcases h s t h0 x x' hb hb' with ⟨a, rfl, k⟩ | ⟨a, rfl, k⟩ | ⟨a, a', rfl, rfl, k⟩ | ⟨a, a', rfl, rfl, k⟩
     ·injection hn with hn; subst hn; exact k r'
     ·injection hn' with hn'; subst hn'; exact k r
     ·exact ih k (c5_.2 ⟨n', hn'⟩) hn
     ·injection hn with hn; injection hn' with hn'; subst hn hn'; exact k
section
variable {I : aa_ → aa_ → Prop} {R R2 R' R2' : MTy} {p : DPattern} {c : Int} {Φ Φ' : PhiT}
end
end Go.Am
end
