/- The law. -/
import Derived.Test.YtohkcdkmpencnaaDoorAg1
import Derived.Test.YtohkcdkmpencnaaDoorAl2
section
set_option maxRecDepth 100000
set_option maxHeartbeats 1000000
set_option linter.unusedVariables false
set_option linter.unusedSimpArgs false
namespace Go.Am
def SmValue (v : DValue) : Prop := v.Text.size ≤ 1048576
def ValP (v : DValue) : Prop :=
  (v.Kind = 1 ∧ v.Num = 0 ∧ v.Ref = 0 ∧ v.Text.size ≤ 200) ∨ (v.Kind = 2 ∧ v.Text = (⟨#[]⟩ : ByteArray) ∧ v.Ref = 0 ∧ -1000000000000 ≤ v.Num ∧ v.Num ≤ 1000000000000) ∨ (v.Kind = 3 ∧ v.Num = 0 ∧ v.Ref = 0 ∧ 1 ≤ v.Text.size ∧ v.Text.size ≤ 1200) ∨
  ((v.Kind = 4 ∨ v.Kind = 5 ∨ v.Kind = 6) ∧ v.Num = 0 ∧ v.Text = (⟨#[]⟩ : ByteArray) ∧ 1 ≤ v.Ref ∧ v.Ref ≤ 1000000) ∨ ((v.Kind = 7 ∨ v.Kind = 8) ∧ v.Num = 0 ∧ v.Ref = 0 ∧ NameP v.Text)
theorem s_if {c p q : Prop} [Decidable c] {K K' : Option Bool} (h1 : c → K = some (says p)) (h2 : ¬ c → K' = some (says q)) : (if decide c = true then K else K') = some (says ((c ∧ p) ∨ (¬ c ∧ q))) := by
  by_cases hc : c
  · rw [if_pos (by simpa using hc), h1 hc]; congr 1; exact says_iff' ⟨fun w => .inl ⟨hc, w⟩, fun w => by rcases w with w | w; exact w.2; exact absurd hc w.1⟩
  · rw [if_neg (by simpa using hc), h2 hc]; congr 1; exact says_iff' ⟨fun w => .inr ⟨hc, w⟩, fun w => by rcases w with w | w; exact absurd w.1 hc; exact w.2⟩
theorem s_bindif {c p q : Prop} {o K K' : Option Bool} (ho : o = some (says c)) (h1 : c → K = some (says p)) (h2 : ¬ c → K' = some (says q)) : (o.bind fun y => if y = true then K else K') = some (says ((c ∧ p) ∨ (¬ c ∧ q))) := by
  subst ho
  rw [Option.bind_some]
  by_cases hc : c
  · rw [says_t hc, if_pos rfl, h1 hc]; congr 1; exact says_iff' ⟨fun w => .inl ⟨hc, w⟩, fun w => by rcases w with w | w; exact w.2; exact absurd hc w.1⟩
  · rw [says_f hc, if_neg (by simp), h2 hc]; congr 1; exact says_iff' ⟨fun w => .inr ⟨hc, w⟩, fun w => by rcases w with w | w; exact absurd w.1 hc; exact w.2⟩
theorem s_no : some false = some (says False) := by rw [says_f (fun h => h)]
theorem id2 (n : Int) : F_impl_isObjectId n = some (says (1 ≤ n ∧ n ≤ 1000000)) := by
  refine u_impl_isObjectId n _ ?_
  unfold B_impl_isObjectId
  exact s_last (in2 _ _ _)
theorem s_boolif {b : Bool} {p : Prop} {K : Option Bool} (h : b = true → K = some (says p)) : (if b = true then K else some false) = some (says (b = true ∧ p)) := by
  by_cases hc : b = true
  · rw [if_pos hc, h hc]; congr 1; exact says_iff' ⟨fun w => ⟨hc, w⟩, fun w => w.2⟩
  · rw [if_neg hc, says_f fun w => hc w.1]
theorem val2 (v : DValue) (h : SmValue v) : F_impl_ValidValue v = some (says (ValP v)) := by
  refine u_impl_ValidValue v _ ?_
  unfold B_impl_ValidValue
  refine s_iff (s_if (fun k1 => s_boolif fun _ => s_dec) fun k1 => s_if (fun k2 => s_boolif fun _ => s_last (in2 _ _ _)) fun k2 => s_if (fun k3 => s_boolif fun _ => s_and fun _ => s_dec) fun k3 => s_bindif (s_if (fun _ => s_dec) fun _ => s_if (fun _ => s_dec) fun _ => s_dec) (fun k4 => s_boolif fun _ => s_last (id2 _)) fun k4 => s_bindif (s_if (fun _ => s_dec) fun _ => s_dec) (fun k7 => s_boolif fun _ => s_last (name2 _ h)) fun _ => s_no) ?_
  unfold ValP
  by_cases c1 : v.Kind = 1
  · simp [c1]; grind
  by_cases c2 : v.Kind = 2
  · simp [c2]; grind
  by_cases c3 : v.Kind = 3
  · simp [c3]; grind
  by_cases c4 : v.Kind = 4
  · simp [c4]; grind
  by_cases c5 : v.Kind = 5
  · simp [c5]; grind
  by_cases c6 : v.Kind = 6
  · simp [c6]; grind
  by_cases c7 : v.Kind = 7
  · simp [c7]; grind
  by_cases c8 : v.Kind = 8
  · simp [c8]; grind
  simp [c1, c2, c3, c4, c5, c6, c7, c8]
end Go.Am
end
