/- The law. -/
import Derived.Test.YtkgmfmcpbgffpaaAg1
import Derived.Test.YtkgmfmcpbgffpaaAg2
import Derived.Test.YtkgmfmcpbgffpaaAl4
section
set_option maxRecDepth 100000
set_option maxHeartbeats 2000000
set_option linter.unusedVariables false
set_option linter.unusedSimpArgs false
namespace Go.Am
def Gv {α : Type} (o : Option α) (P : α → Prop) : Prop := ∀ r, o = some r → P r
theorem b5_ {α β : Type} {o : Option α} {f : α → Option β} {Q : α → Prop} {P : β → Prop} (h : Gv o Q) (k : ∀ y, Q y → Gv (f y) P) : Gv (o.bind f) P := fun r hr => by
 obtain ⟨y, h1, h2⟩ := Option.bind_eq_some_iff.1 hr
 exact k y (h y h1) r h2
theorem cc_ {α : Type} {x : α} {P : α → Prop} (h : P x) : Gv (some x) P := fun r hr => by injection hr with hr; subst hr; exact h
theorem oc_ {α : Type} {P : α → Prop} : Gv none P := fun r hr => by cases hr
theorem gz_ {α : Type} {o : Option α} : Gv o (fun _ => True) := fun _ _ => trivial
theorem kl_ {α : Type} {c : Prop} [Decidable c] {a b : Option α} {P : α → Prop} (h1 : c → Gv a P) (h2 : ¬ c → Gv b P) : Gv (if c then a else b) P := by
 by_cases h : c
 ·rw [if_pos h]; exact h1 h
 ·rw [if_neg h]; exact h2 h
theorem rn_ {S R : Type} {body : S → Option (S ⊕ R)} {s0 : S} (I : S → Prop) {P : R → Prop} (h0 : I s0) (h : ∀ s, I s → Gv (body s) (fun x => Sum.elim I P x)) : Gv (az_ body s0) P := fun r hr => by
 obtain ⟨n, hn⟩ := c5_.1 hr
 clear hr
 induction n generalizing s0 with
 | zero => cases hn
 | succ n ih =>
  simp only [iter] at hn
  cases hb : body s0 with
  | none => rw [hb] at hn; cases hn
  | some x =>
   rw [hb] at hn
   have := h s0 h0 x hb
   cases x with
   | inl s1 => exact ih this hn
   | inr r1 => injection hn with hn; subst hn; exact this
abbrev T11 := (Sl DNamed) × ByteArray × Int × Int × Int × Int × Bool × Int × (Sl DCapture) × (Sl DCapture) × (Sl DMatch)
abbrev D11 (x : T11) : aa_ := ⟨x.1, x.2.1, x.2.2.1, x.2.2.2.1, x.2.2.2.2.1, x.2.2.2.2.2.2.2.2.1, x.2.2.2.2.2.2.2.2.2.1, x.2.2.2.2.2.2.2.2.2.2, x.2.2.2.2.2.1, x.2.2.2.2.2.2.1, T.nilm, x.2.2.2.2.2.2.2.1⟩
theorem app1 {α : Type} {n : Nat} {a : Sl α} {x : α} : Gv (appS n a ⟨false, [x]⟩) (fun q => q.l = a.l ++ [x]) := fun q hq => by
 unfold appS at hq
 simp only at hq
 split at hq
 ·injection hq with hq; rw [← hq]
 ·cases hq
theorem rF_ {α : Type} {a : Sl α} {m : Int} : Gv (cutS a m) (fun q => q.l.length ≤ a.l.length) := fun q hq => by
 unfold cutS at hq
 split at hq
 ·injection hq with hq; rw [← hq]; simp <;> omega
 ·cases hq
end Go.Am
end
