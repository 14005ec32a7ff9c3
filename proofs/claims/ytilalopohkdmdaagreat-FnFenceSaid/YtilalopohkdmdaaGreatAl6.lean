/- The law. -/
import Derived.Test.YtilalopohkdmdaaGreatAg1
import Derived.Test.YtilalopohkdmdaaGreatAg2
import Derived.Test.YtilalopohkdmdaaGreatAl5
section
set_option maxRecDepth 100000
set_option maxHeartbeats 2000000
set_option linter.unusedVariables false
set_option linter.unusedSimpArgs false
namespace Go.Am
def Gv {α : Type} (o : Option α) (P : α → Prop) : Prop := ∀ r, o = some r → P r
theorem as_ {α β : Type} {o : Option α} {f : α → Option β} {Q : α → Prop} {P : β → Prop} (h : Gv o Q) (k : ∀ y, Q y → Gv (f y) P) : Gv (o.bind f) P := fun r hr => by
 obtain ⟨y, h1, h2⟩ := Option.bind_eq_some_iff.1 hr
 exact k y (h y h1) r h2
theorem am_ {α : Type} {x : α} {P : α → Prop} (h : P x) : Gv (some x) P := fun r hr => by injection hr with hr; subst hr; exact h
theorem j2_ {α : Type} {P : α → Prop} : Gv none P := fun r hr => by cases hr
theorem cE_ {α : Type} {o : Option α} : Gv o (fun _ => True) := fun _ _ => trivial
theorem aW_ {α : Type} {c : Prop} [Decidable c] {a b : Option α} {P : α → Prop} (h1 : c → Gv a P) (h2 : ¬ c → Gv b P) : Gv (if c then a else b) P := by
 by_cases h : c
 ·rw [if_pos h]; exact h1 h
 ·rw [if_neg h]; exact h2 h
theorem gw_ {S R : Type} {body : S → Option (S ⊕ R)} {s0 : S} (I : S → Prop) {P : R → Prop} (h0 : I s0) (h : ∀ s, I s → Gv (body s) (fun x => Sum.elim I P x)) : Gv (aD_ body s0) P := fun r hr => by
 obtain ⟨n, hn⟩ := bs_.1 hr
 clear hr
 induction n generalizing s0 with
 | zero => cases hn
 | succ n ih =>
  simp only [iter] at hn
  cases hb : body s0 with
  | none => rw [hb] at hn; cases hn
  | some x =>
   rw [hb] at hn
   have := h s0 h0 x hb
   cases x with
   | inl s1 => exact ih this hn
   | inr r1 => injection hn with hn; subst hn; exact this
def Go0 (S : aa_) : Prop := S.code_ = 0 ∧ S.now_.l.length + S.conds_.l.length ≤ 100
def Up (S : aa_) (r : Bool × aa_) : Prop := (r.2.start_ = S.start_ ∧ r.2.env_ = S.env_) ∧ (r.1 = true → Go0 r.2) ∧ (r.2.code_ = 0 → ∃ x, r.2.matches_.l = S.matches_.l ++ x ∧ ∀ m ∈ x, m.Start = S.start_ ∧ m.Captures.l.length ≤ 100)
theorem Up.same {S : aa_} {b : Bool} (h : Go0 S) : Up S (b, S) := ⟨⟨rfl, rfl⟩, fun _ => h, fun _ => ⟨[], by simp, fun m hm => by simp at hm⟩⟩
theorem Up.no {S S' : aa_} {b : Bool} (h : Up S (b, S')) : Up S (false, S') := ⟨h.1, fun h => (by cases h), h.2.2⟩
abbrev T11 := (Sl DNamed) × ByteArray × Int × Int × Int × Int × Bool × Int × (Sl DCapture) × (Sl DCapture) × (Sl DMatch)
abbrev D11 (x : T11) : aa_ := ⟨x.1, x.2.1, x.2.2.1, x.2.2.2.1, x.2.2.2.2.1, x.2.2.2.2.2.2.2.2.1, x.2.2.2.2.2.2.2.2.2.1, x.2.2.2.2.2.2.2.2.2.2, x.2.2.2.2.2.1, x.2.2.2.2.2.2.1, T.nilm, x.2.2.2.2.2.2.2.1⟩
def StQ (cd : Int) (mt : Sl DMatch) (y : Bool × Int × Int × Sl DMatch) : Prop := (y.1 = false ∧ y.2.2.1 = 7) ∨ (y.1 = true ∧ y.2.2.1 = cd ∧ y.2.2.2 = mt)
theorem st_q (a b cd : Int) (mt : Sl DMatch) : Gv ((if (decide (a = b)) = true then (some (false, a, 7, (⟨true, []⟩ : Sl DMatch))) else (some (true, (w4 (a + 1)), cd, mt))) : Option (Bool × Int × Int × (Sl DMatch))) (StQ cd mt) :=
 aW_ (fun _ => am_ (.inl ⟨rfl, rfl⟩)) fun _ => am_ (.inr ⟨rfl, rfl, rfl⟩)
theorem app1 {α : Type} {n : Nat} {a : Sl α} {x : α} : Gv (appS n a ⟨false, [x]⟩) (fun q => q.l = a.l ++ [x]) := fun q hq => by
 unfold appS at hq
 simp only at hq
 split at hq
 ·injection hq with hq; rw [← hq]
 ·cases hq
end Go.Am
end
