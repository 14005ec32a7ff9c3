/- The law. -/
import Derived.Test.YtilalopohkdmdaaGreatAg1
import Derived.Test.YtilalopohkdmdaaGreatAg2
import Derived.Test.YtilalopohkdmdaaGreatAl6
section
set_option maxRecDepth 100000
set_option maxHeartbeats 4000000
set_option linter.unusedVariables false
set_option linter.unusedSimpArgs false
namespace Go.Am
def Gt {α β : Type} (o : Option α) (o' : Option β) (P : α → β → Prop) : Prop := ∀ r r', o = some r → o' = some r' → P r r'
section
variable {α β γ δ : Type}
theorem az_ {o : Option α} {o' : Option β} {f : α → Option γ} {f' : β → Option δ} {Q : α → β → Prop} {P : γ → δ → Prop} (h : Gt o o' Q) (k : ∀ y y', Q y y' → Gt (f y) (f' y') P) : Gt (o.bind f) (o'.bind f') P := fun r r' hr hr' => by
 obtain ⟨y, h1, h2⟩ := Option.bind_eq_some_iff.1 hr
 obtain ⟨y', h1', h2'⟩ := Option.bind_eq_some_iff.1 hr'
 exact k y y' (h y y' h1 h1') r r' h2 h2'
theorem fC_ {o : Option α} {f : α → Option γ} {f' : α → Option δ} {P : γ → δ → Prop} (k : ∀ y, Gt (f y) (f' y) P) : Gt (o.bind f) (o.bind f') P := az_ (Q := fun a b => a = b) (fun r r' h h' => by rw [h] at h'; injection h') fun y y' h => by subst h; exact k y
theorem aE_ {x : α} {y : β} {P : α → β → Prop} (h : P x y) : Gt (some x) (some y) P := fun r r' hr hr' => by injection hr with hr; injection hr' with hr'; subst hr hr'; exact h
theorem bJ_ {c : Prop} [Decidable c] {a a' : Option α} {b b' : Option β} {P : α → β → Prop} (h1 : c → Gt a b P) (h2 : ¬ c → Gt a' b' P) : Gt (if c then a else a') (if c then b else b') P := by
 by_cases h : c
 ·rw [if_pos h, if_pos h]; exact h1 h
 ·rw [if_neg h, if_neg h]; exact h2 h
theorem bn_ {x : α} {o' : Option β} {P : α → β → Prop} (h : ∀ y, P x y) : Gt (some x) o' P := fun r r' hr _ => by injection hr with hr; subst hr; exact h r'
end
inductive RelD (k : Int) : aa_ → aa_ → Prop
 | mk {env : Sl DNamed} {s : ByteArray} {st mo co f t f' t' : Int} {nw cd : Sl DCapture} {mt : Sl DMatch} {me : Bool} (h1 : 0 ≤ t ∧ t ≤ f ∧ f ≤ 20000) (h2 : 0 ≤ t' ∧ t' ≤ f' ∧ f' ≤ 20000) (h3 : 0 ≤ k ∧ f - t + k ≤ f' - t') (h4 : nw.l.length + cd.l.length ≤ 100) (h5 : ∀ m ∈ mt.l, m.Captures.l.length ≤ 100) :
  RelD k ⟨env, s, f, t, st, nw, cd, mt, mo, me, T.nilm, co⟩ ⟨env, s, f', t', st, nw, cd, mt, mo, me, T.nilm, co⟩
def Dead (r : Bool × aa_) : Prop := r.1 = false ∧ r.2.code_ = 7
def PB (k : Int) (r r' : Bool × aa_) : Prop := Dead r ∨ (r.1 = r'.1 ∧ r.2.code_ = r'.2.code_ ∧ r.2.matches_ = r'.2.matches_ ∧ (∀ m ∈ r.2.matches_.l, m.Captures.l.length ≤ 100) ∧ (r.1 = true → RelD k (NS r.2) (NS r'.2)))
theorem PB.no {k : Int} {b b' : Bool} {S S' : aa_} (h : PB k (b, S) (b', S')) : PB k (false, S) (false, S') := by
 rcases h with ⟨h, h'⟩ | ⟨h1, h2, h3, h4, h5⟩
 ·exact .inl ⟨rfl, h'⟩
 ·exact .inr ⟨rfl, h2, h3, h4, fun h => (by cases h)⟩
abbrev MTy := aa_ → DPattern → Int → PhiT → Option (Bool × aa_)
theorem gG_ {α β : Type} {c : Prop} [Decidable c] {a a' : Option α} {o : Option β} {P : α → β → Prop} (h : c) (k : Gt a o P) : Gt (if c then a else a') o P := by rw [if_pos h]; exact k
theorem PB.err {k : Int} {S S' : aa_} (h1 : S.code_ = S'.code_) (h2 : S.matches_ = S'.matches_) (h3 : ∀ m ∈ S.matches_.l, m.Captures.l.length ≤ 100) : PB k (false, S) (false, S') := .inr ⟨rfl, h1, h2, h3, fun h => (by cases h)⟩
section
variable {k : Int} {R R2 R' R2' : MTy} {p : DPattern} {c : Int} {Φ Φ' : PhiT}
abbrev ei_ (b : Bool) (x : T11 ⊕ (Bool × aa_)) : Bool × aa_ := Sum.elim (fun y => (b, D11 y)) (fun r => r) x
theorem RelD.ns {S S' : aa_} (hA : RelD k S S') : RelD k (NS S) (NS S') := by cases hA with | mk h1 h2 h3 h4 h5 => exact .mk h1 h2 h3 h4 h5
end
theorem hK_ {α β : Type} {o : Option β} {P : α → β → Prop} : Gt (none : Option α) o P := fun r r' h => by cases h
theorem hN_ {α β : Type} {o : Option α} {P : α → β → Prop} : Gt o (none : Option β) P := fun r r' _ h => by cases h
end Go.Am
end
