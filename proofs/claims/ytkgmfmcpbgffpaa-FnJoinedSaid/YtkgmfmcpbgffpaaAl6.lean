/- The law. -/
import Derived.Test.YtkgmfmcpbgffpaaAg1
import Derived.Test.YtkgmfmcpbgffpaaAg2
import Derived.Test.YtkgmfmcpbgffpaaAl5
section
set_option maxRecDepth 100000
set_option maxHeartbeats 4000000
set_option linter.unusedVariables false
set_option linter.unusedSimpArgs false
namespace Go.Am
def Gt {α β : Type} (o : Option α) (o' : Option β) (P : α → β → Prop) : Prop := ∀ r r', o = some r → o' = some r' → P r r'
section
variable {α β γ δ : Type}
theorem aN_ {o : Option α} {o' : Option β} {f : α → Option γ} {f' : β → Option δ} {Q : α → β → Prop} {P : γ → δ → Prop} (h : Gt o o' Q) (k : ∀ y y', Q y y' → Gt (f y) (f' y') P) : Gt (o.bind f) (o'.bind f') P := fun r r' hr hr' => by
 obtain ⟨y, h1, h2⟩ := Option.bind_eq_some_iff.1 hr
 obtain ⟨y', h1', h2'⟩ := Option.bind_eq_some_iff.1 hr'
 exact k y y' (h y y' h1 h1') r r' h2 h2'
theorem qE_ {o : Option α} {f : α → Option γ} {f' : α → Option δ} {P : γ → δ → Prop} (k : ∀ y, Gt (f y) (f' y) P) : Gt (o.bind f) (o.bind f') P := aN_ (Q := fun a b => a = b) (fun r r' h h' => by rw [h] at h'; injection h') fun y y' h => by subst h; exact k y
theorem aI_ {x : α} {y : β} {P : α → β → Prop} (h : P x y) : Gt (some x) (some y) P := fun r r' hr hr' => by injection hr with hr; injection hr' with hr'; subst hr hr'; exact h
theorem c6_ {c : Prop} [Decidable c] {a a' : Option α} {b b' : Option β} {P : α → β → Prop} (h1 : c → Gt a b P) (h2 : ¬ c → Gt a' b' P) : Gt (if c then a else a') (if c then b else b') P := by
 by_cases h : c
 ·rw [if_pos h, if_pos h]; exact h1 h
 ·rw [if_neg h, if_neg h]; exact h2 h
theorem b8_ {x : α} {o' : Option β} {P : α → β → Prop} (h : ∀ y, P x y) : Gt (some x) o' P := fun r r' hr _ => by injection hr with hr; subst hr; exact h r'
theorem vg_ {o : Option α} {o' : Option β} {P : α → β → Prop} (h : Gv o (fun x => ∀ y, P x y)) : Gt o o' P := fun r r' hr _ => h r hr r'
end
abbrev MTy := aa_ → DPattern → Int → PhiT → Option (Bool × aa_)
theorem rc_t (a b : Sl DCapture) (x : DCapture) (co : Int) (mt : Sl DMatch) (h : a.l.length + b.l.length ≤ 100) {γ δ : Type} {P : γ → δ → Prop} {g : (Bool × Int × Sl DCapture × Sl DMatch) → Option γ} {g' : (Bool × Int × Sl DCapture × Sl DMatch) → Option δ}
  (k1 : ∀ y, Gt (g (false, 6, y, ⟨true, []⟩)) (g' (false, 6, y, ⟨true, []⟩)) P) (k2 : ∀ y : Sl DCapture, y.l.length + b.l.length ≤ 100 → Gt (g (true, co, y, mt)) (g' (true, co, y, mt)) P) {e : Int → Int} (he : ∀ y : Sl DCapture, y.l.length ≤ 101 → e (y.l.length : Int) = (y.l.length : Int) + (b.l.length : Int)) :
  Gt (((appS 48 a (⟨false, [x]⟩ : Sl DCapture)).bind fun y3 => (if ((decide (100 < e (y3.l.length : Int)))) = true then (some (false, (6 : Int), y3, (⟨true, []⟩ : Sl DMatch))) else (some (true, co, y3, mt)))).bind g) (((appS 48 a (⟨false, [x]⟩ : Sl DCapture)).bind fun y3 => (if ((decide (100 < e (y3.l.length : Int)))) = true then (some (false, (6 : Int), y3, (⟨true, []⟩ : Sl DMatch))) else (some (true, co, y3, mt)))).bind g') P := by
 cases hq : appS 48 a (⟨false, [x]⟩ : Sl DCapture) with
 | none => intro r r' hr; cases hr
 | some q =>
  have hl : q.l = a.l ++ [x] := app1 q hq
  have e1 : q.l.length = a.l.length + 1 := by rw [hl]; simp
  rw [Option.bind_some, he q (by omega)]
  by_cases h7 : 100 < (q.l.length : Int) + (b.l.length : Int)
  ·rw [if_pos (by simpa using h7)]; exact k1 q
  ·rw [if_neg (by simpa using h7)]; exact k2 q (by omega)
theorem gv_ {α β : Type} {c : Prop} [Decidable c] {a a' : Option α} {o : Option β} {P : α → β → Prop} (h : c) (k : Gt a o P) : Gt (if c then a else a') o P := by rw [if_pos h]; exact k
section
variable {k : Int} {R R2 R' R2' : MTy} {p : DPattern} {c : Int} {Φ Φ' : PhiT}
abbrev h1_ (b : Bool) (x : T11 ⊕ (Bool × aa_)) : Bool × aa_ := Sum.elim (fun y => (b, D11 y)) (fun r => r) x
end
theorem b2_ {α β : Type} {o : Option β} {P : α → β → Prop} : Gt (none : Option α) o P := fun r r' h => by cases h
theorem cK_ {α β : Type} {o : Option α} {P : α → β → Prop} : Gt o (none : Option β) P := fun r r' _ h => by cases h
end Go.Am
end
