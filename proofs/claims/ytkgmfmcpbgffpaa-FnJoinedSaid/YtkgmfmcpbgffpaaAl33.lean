/- The law. -/
import Derived.Test.YtkgmfmcpbgffpaaAg0
import Derived.Test.YtkgmfmcpbgffpaaAg2
import Derived.Test.YtkgmfmcpbgffpaaAg1
import Derived.Test.YtkgmfmcpbgffpaaAl22
section
set_option maxRecDepth 100000
set_option maxHeartbeats 4000000
set_option linter.unusedVariables false
set_option linter.unusedSimpArgs false
namespace Go.Am
noncomputable abbrev IMF (p : DPattern) (starts : Sl (Iv .i64)) (x : (Int × (Sl DNamed) × ByteArray × Int × Int × Int × Int × Bool × Int × (Sl DCapture) × (Sl DCapture) × (Sl DMatch))) : Option (((Sl DNamed) × ByteArray × Int × Int × Int × Int × Bool × Int × (Sl DCapture) × (Sl DCapture) × (Sl DMatch))) := az_ (S := (Int × (Sl DNamed) × ByteArray × Int × Int × Int × Int × Bool × Int × (Sl DCapture) × (Sl DCapture) × (Sl DMatch))) (R := ((Sl DNamed) × ByteArray × Int × Int × Int × Int × Bool × Int × (Sl DCapture) × (Sl DCapture) × (Sl DMatch))) (fun st1 => (if (decide (st1.1 < (starts.l.length : Int))) = true then ((elt starts st1.1).bind fun y2 => ((c0_ (⟨st1.2.1, st1.2.2.1, st1.2.2.2.1, st1.2.2.2.2.1, y2.v, st1.2.2.2.2.2.2.2.2.2.1, st1.2.2.2.2.2.2.2.2.2.2.1, st1.2.2.2.2.2.2.2.2.2.2.2, st1.2.2.2.2.2.2.1, st1.2.2.2.2.2.2.2.1, T.nilm, st1.2.2.2.2.2.2.2.2.1⟩ : aa_) p y2.v (fun e (S : aa_) => aK_ S e)).bind fun y3 => (if (!y3.1) = true then (some (.inr (y3.2.env_, y3.2.subject_, y3.2.fuel_, y3.2.steps_, y3.2.start_, y3.2.most_, y3.2.isMere_, y3.2.code_, y3.2.now_, y3.2.conds_, y3.2.matches_))) else (some (.inl ((w4 (st1.1 + 1)), y3.2.env_, y3.2.subject_, y3.2.fuel_, y3.2.steps_, y3.2.start_, y3.2.most_, y3.2.isMere_, y3.2.code_, y3.2.now_, y3.2.conds_, y3.2.matches_)))))) else (some (.inr (st1.2.1, st1.2.2.1, st1.2.2.2.1, st1.2.2.2.2.1, st1.2.2.2.2.2.1, st1.2.2.2.2.2.2.1, st1.2.2.2.2.2.2.2.1, st1.2.2.2.2.2.2.2.2.1, st1.2.2.2.2.2.2.2.2.2.1, st1.2.2.2.2.2.2.2.2.2.2.1, st1.2.2.2.2.2.2.2.2.2.2.2))))) x
section
variable {env : Sl DNamed} {s : ByteArray} {F : Nat}
end
theorem t7_ (a b : Int) : f4_ ⟨false, [⟨a⟩, ⟨b⟩]⟩ = some (if a = 0 then b else a) := by
 refine lh_ _ _ ?_
 unfold fR_
 by_cases ha : a = 0
 ·subst ha
  by_cases hb : b = 0
  ·subst hb
   rw [au_ (s' := 1) rfl (au_ (s' := 2) rfl (aj_ rfl))]; rfl
  ·rw [au_ (s' := 1) rfl (aj_ (r := .inr b) (by
    show (if (!decide (b = 0)) = true then _ else _) = _
    rw [if_pos (by simp [hb])]))]; rfl
 ·rw [aj_ (r := .inr a) (by
    show (if (!decide (a = 0)) = true then _ else _) = _
    rw [if_pos (by simp [ha])]), if_neg ha]; rfl
theorem oJ_ (b : Bool) (a : Int) : d5_ b a = some (if b = true then 0 else a) := by
 refine kc_ b a _ ?_
 unfold fG_
 cases b <;> rfl
theorem lI_ (s : ByteArray) (b : Bool) (hs : s.size ≤ 200) : ∀ (m j : Nat), j + m = s.size + 1 → ∀ st : Sl (Iv .i64), st.l.length ≤ j → (∀ x ∈ st.l, 0 ≤ x.v ∧ x.v ≤ s.size) → ∃ w : Sl (Iv .i64), az_ (S := (Int × (Sl (Iv .i64)))) (R := (Sl (Iv .i64))) (fun st1 => (if (decide (st1.1 ≤ (s.size : Int))) = true then (if (!b) = true then ((appS 8 st1.2 (⟨false, [⟨st1.1⟩]⟩ : Sl (Iv .i64))).bind fun y2 => (some (.inl ((w4 (st1.1 + 1)), y2)))) else (some (.inr st1.2))) else (some (.inr st1.2)))) ((j : Int), st) = some w ∧ w.l.length ≤ s.size + 1 ∧ ∀ x ∈ w.l, 0 ≤ x.v ∧ x.v ≤ s.size := by
 intro m
 induction m with
 | zero =>
  intro j hj st h1 h2
  refine ⟨st, aj_ ?_, by omega, h2⟩
  show (if decide ((j : Int) ≤ (s.size : Int)) = true then _ else _) = _
  rw [if_neg (by simp; omega)]
 | succ m ih =>
  intro j hj st h1 h2
  have ec : ((j + 1 : Nat) : Int) = (j : Int) + 1 := by simp
  cases b with
  | true =>
   refine ⟨st, aj_ ?_, by omega, h2⟩
   show (if decide ((j : Int) ≤ (s.size : Int)) = true then _ else _) = _
   rw [if_pos (by simp; omega)]; rfl
  | false =>
   obtain ⟨z, l⟩ := st
   have h1 : l.length ≤ j := h1
   obtain ⟨w, w1, w2, w3⟩ := ih (j + 1) (by omega) ⟨false, l ++ [⟨(j : Int)⟩]⟩ (by simp; omega) (fun x hx => by
    rcases List.mem_append.1 hx with h | h
    ·exact h2 x h
    ·rw [List.mem_singleton] at h; subst h; exact ⟨by simp, by show (j : Int) ≤ _; omega⟩)
   rw [ec] at w1
   refine ⟨w, au_ ?_ w1, w2, w3⟩
   show (if decide ((j : Int) ≤ (s.size : Int)) = true then ((appS 8 (⟨z, l⟩ : Sl (Iv .i64)) ⟨false, [⟨(j : Int)⟩]⟩).bind _) else _) = _
   rw [if_pos (by simp; omega), dH_ (by omega), Option.bind_some]
   show some (Sum.inl (w4 ((j : Int) + 1), _)) = _
   rw [a4_ (by omega) (by omega)]
end Go.Am
end
