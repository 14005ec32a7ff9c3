/- The law. -/
import Derived.Test.YtjgemoaobnokdaaAg1
import Derived.Test.YtjgemoaobnokdaaAl7
section
set_option maxRecDepth 100000
set_option maxHeartbeats 4000000
set_option linter.unusedVariables false
set_option linter.unusedSimpArgs false
namespace Go.Am
structure Clo (I : aa_ → aa_ → Prop) : Prop where
 same : ∀ {S S'}, I S S' → S'.env_ = S.env_ ∧ S'.subject_ = S.subject_
 upd : ∀ {S S'} (f t nw cd co f' t' nw' cd' co'), I S S' → I ⟨S.env_, S.subject_, f, t, S.start_, nw, cd, S.matches_, S.most_, S.isMere_, T.nilm, co⟩ ⟨S'.env_, S'.subject_, f', t', S'.start_, nw', cd', S'.matches_, S'.most_, S'.isMere_, T.nilm, co'⟩
def Bad (r : Bool × aa_) : Prop := r.1 = false ∧ r.2.code_ ≠ 0
theorem sU_ {α β : Type} {o : Option α} {o' : Option β} {P : α → β → Prop} (h : Gv o' (fun y => ∀ x, P x y)) : Gt o o' P := fun r r' _ hr' => h r' hr' r
theorem bj_ {α β : Type} {o : Option α} {y : β} {P : α → β → Prop} (h : ∀ x, P x y) : Gt o (some y) P := fun r r' _ hr' => by injection hr' with hr'; subst hr'; exact h r
theorem nr_ {α β : Type} {c : Prop} [Decidable c] {a a' : Option β} {o : Option α} {P : α → β → Prop} (h : c) (k : Gt o a P) : Gt o (if c then a else a') P := by rw [if_pos h]; exact k
theorem jB_ {S T R R' : Type} {b : S → Option (S ⊕ R)} {b' : T → Option (T ⊕ R')} {s : S} {t : T} (I : S → T → Prop) {Q : R → R' → Prop} (h0 : I s t)
  (h : ∀ s t, I s t → Gt (b s) (b' t) (fun x x' => (∃ r, x = .inr r ∧ ∀ r', Q r r') ∨ (∃ r', x' = .inr r' ∧ ∀ r, Q r r') ∨ (∃ a a', x = .inl a ∧ x' = .inl a' ∧ I a a') ∨ (∃ a a', x = .inr a ∧ x' = .inr a' ∧ Q a a'))) : Gt (az_ b s) (az_ b' t) Q := fun r r' hr hr' => by
 obtain ⟨n, hn⟩ := dm_.1 hr
 clear hr
 induction n generalizing s t with
 | zero => cases hn
 | succ n ih =>
  simp only [iter] at hn
  cases hb : b s with
  | none => rw [hb] at hn; cases hn
  | some x =>
   rw [hb] at hn
   obtain ⟨n', hn'⟩ := dm_.1 hr'
   cases n' with
   | zero => cases hn'
   | succ n' =>
    simp only [iter] at hn'
    cases hb' : b' t with
    | none => rw [hb'] at hn'; cases hn'
    | some x' =>
     rw [hb'] at hn'
     rcases h s t h0 x x' hb hb' with ⟨a, rfl, k⟩ | ⟨a, rfl, k⟩ | ⟨a, a', rfl, rfl, k⟩ | ⟨a, a', rfl, rfl, k⟩
     ·injection hn with hn; subst hn; exact k r'
     ·injection hn' with hn'; subst hn'; exact k r
     ·exact ih k (dm_.2 ⟨n', hn'⟩) hn
     ·injection hn with hn; injection hn' with hn'; subst hn hn'; exact k
def PJ (I : aa_ → aa_ → Prop) (r r' : Bool × aa_) : Prop := Bad r ∨ Bad r' ∨ (r.1 = r'.1 ∧ I r.2 r'.2 ∧ (r.1 = true → r.2.code_ = 0 ∧ r'.2.code_ = 0))
section
variable {I : aa_ → aa_ → Prop} {R R2 R' R2' : MTy} {p : DPattern} {c : Int} {Φ Φ' : PhiT}
theorem Clo.ns (C : Clo I) {S S' : aa_} (h : I S S') : I (NS S) (NS S') := C.upd _ _ _ _ _ _ _ _ _ _ h
theorem PJ.no {b b' : Bool} {S S' : aa_} (h : PJ I (b, S) (b', S')) : PJ I (false, S) (false, S') := by
 rcases h with h | h | ⟨h1, h2, _⟩
 ·exact .inl ⟨rfl, h.2⟩
 ·exact .inr (.inl ⟨rfl, h.2⟩)
 ·exact .inr (.inr ⟨rfl, h2, fun h => (by cases h)⟩)
theorem PJ.ns (C : Clo I) {r r' : Bool × aa_} (h : PJ I r r') : PJ I (r.1, NS r.2) (r'.1, NS r'.2) := by
 rcases h with h | h | ⟨h1, h2, h3⟩
 ·exact .inl h
 ·exact .inr (.inl h)
 ·exact .inr (.inr ⟨h1, C.ns h2, h3⟩)
end
end Go.Am
end
