/- The law. -/
import Derived.Test.YtilalopohkdmdaaGreatAg4
import Derived.Test.YtilalopohkdmdaaGreatAl20
import Derived.Test.YtilalopohkdmdaaGreatAl22
import Derived.Test.YtilalopohkdmdaaGreatAl24
section
set_option maxRecDepth 100000
set_option maxHeartbeats 2000000
set_option linter.unusedVariables false
set_option linter.unusedSimpArgs false
namespace Go.Am
def pv (x : Int) : Int := if x = 40 then 1 else if x = 41 then -1 else 0
def dp (s : ByteArray) (c : Nat) : Nat → Int
 | 0 => 0
 | i + 1 => dp s c i + pv (bAt s ((c + i : Nat) : Int))
theorem pW_ (s : ByteArray) (c : Nat) : ∀ i, dp s c i ≤ i ∧ -(i : Int) ≤ dp s c i
 | 0 => by simp [dp]
 | i + 1 => by
  have := pW_ s c i
  have h : pv (bAt s ((c + i : Nat) : Int)) ≤ 1 ∧ -1 ≤ pv (bAt s ((c + i : Nat) : Int)) := by unfold pv; split <;> (try split) <;> omega
  unfold dp; omega
def Bd (s : ByteArray) (c e : Nat) : Prop := c < e ∧ e ≤ s.size ∧ (∀ i, i ≤ e - c → 0 ≤ dp s c i) ∧ dp s c (e - c) = 0
theorem oM_ (s : ByteArray) (c i : Nat) : ∀ j, dp s c (i + j) = dp s c i + dp s (c + i) j
 | 0 => by simp [dp]
 | j + 1 => by
  have := oM_ s c i j
  show dp s c (i + j) + pv (bAt s ((c + (i + j) : Nat) : Int)) = dp s c i + (dp s (c + i) j + pv (bAt s ((c + i + j : Nat) : Int)))
  rw [this, Nat.add_assoc]; omega
theorem Bd.trans {s : ByteArray} {a b c : Nat} (h : Bd s a b) (k : Bd s b c) : Bd s a c := by
 obtain ⟨h1, h2, h3, h4⟩ := h
 obtain ⟨k1, k2, k3, k4⟩ := k
 have e : ∀ j, dp s a (b - a + j) = dp s b j := fun j => by rw [oM_, h4, show a + (b - a) = b by omega]; omega
 refine ⟨by omega, k2, fun i hi => ?_, by rw [show c - a = b - a + (c - b) by omega, e, k4]⟩
 by_cases hib : i ≤ b - a
 ·exact h3 i hib
 ·rw [show i = b - a + (i - (b - a)) by omega, e]
  exact k3 _ (by omega)
def BalV (s : ByteArray) (c : Nat) (b v : Int) : Prop := (v < 0 ∧ ∀ e : Nat, b < e → ¬ Bd s c e) ∨ ∃ e : Nat, v = e ∧ Bd s c e ∧ b < e ∧ ∀ e' : Nat, Bd s c e' → b < e' → e ≤ e'
theorem ha_ {s : ByteArray} {c : Nat} (b : Int) (hs : s.size ≤ 200) : ∀ (m i : Nat), c + i + m = s.size → (∀ j, j ≤ i → 0 ≤ dp s c j) → (∀ e : Nat, Bd s c e → b < e → c + i < e) →
  ∃ y, az_ (S := (Int × Int)) (R := (Unit ⊕ Int)) (fun st1 => (if (decide (st1.2 < (s.size : Int))) = true then ((aC_ s st1.2).bind fun y2 => (((if (decide (y2 = 40)) = true then (some (w4 (st1.1 + 1))) else (if (decide (y2 = 41)) = true then (some (w4 (st1.1 - 1))) else (some st1.1))) : Option Int).bind fun y3 => (if (decide (y3 < 0)) = true then (some (.inr (.inr (-1)))) else (if (decide (y3 = 0)) = true then (if (decide (b < (w4 (st1.2 + 1)))) = true then (some (.inr (.inr (w4 (st1.2 + 1))))) else (some (.inl (y3, (w4 (st1.2 + 1)))))) else (some (.inl (y3, (w4 (st1.2 + 1))))))))) else (some (.inr (.inl ()))))) (dp s c i, ((c + i : Nat) : Int)) = some y ∧ BalV s c b (Sum.elim (fun _ => -1) (fun v => v) y)
 | 0, i, hi, h1, h2 => ⟨_, ah_ (if_neg (by simp; omega)), .inl ⟨by show (-1 : Int) < 0; omega, fun e he hb => by have := h2 e hb he; have := hb.2.1; omega⟩⟩
 | m + 1, i, hi, h1, h2 => by
  have hlt : c + i < s.size := by omega
  have hd := pW_ s c i
  have hd0 := h1 i (Nat.le_refl _)
  have hb : aC_ s ((c + i : Nat) : Int) = some (bAt s ((c + i : Nat) : Int)) := by unfold aC_; rw [if_pos (by omega)]
  have w1 : w4 (((c + i : Nat) : Int) + 1) = ((c + (i + 1) : Nat) : Int) := by rw [aP_ (by omega) (by omega)]; simp <;> omega
  have e3 : ((if (decide (bAt s ((c + i : Nat) : Int) = 40)) = true then (some (w4 (dp s c i + 1))) else (if (decide (bAt s ((c + i : Nat) : Int) = 41)) = true then (some (w4 (dp s c i - 1))) else (some (dp s c i)))) : Option Int) = some (dp s c (i + 1)) := by
   show _ = some (dp s c i + pv _)
   unfold pv
   by_cases q1 : bAt s ((c + i : Nat) : Int) = 40
   ·rw [if_pos (by simpa using q1), if_pos q1, aP_ (by omega) (by omega)]
   ·by_cases q2 : bAt s ((c + i : Nat) : Int) = 41
    ·rw [if_neg (by simpa using q1), if_pos (by simpa using q2), if_neg q1, if_pos q2, c1_ (by omega) (by omega)]; rfl
    ·rw [if_neg (by simpa using q1), if_neg (by simpa using q2), if_neg q1, if_neg q2]; simp
  have go : (0 ≤ dp s c (i + 1)) → (∀ e : Nat, Bd s c e → b < e → c + (i + 1) < e) → _ := fun g1 g2 => ha_ b hs m (i + 1) (by omega) (fun j hj => by
   by_cases q : j = i + 1
   ·rw [q]; exact g1
   ·exact h1 j (by omega)) g2
  by_cases q1 : dp s c (i + 1) < 0
  ·refine ⟨_, ah_ (r := .inr (-1)) ?_, .inl ⟨by show (-1 : Int) < 0; omega, fun e he hbd => ?_⟩⟩
   ·rw [if_pos (by simp; omega)]
    simp only [hb, Option.bind_some, e3]
    rw [if_pos (by simpa using q1)]
   ·have := h2 e hbd he
    have := hbd.2.2.1 (i + 1) (by omega)
    omega
  ·by_cases q2 : dp s c (i + 1) = 0
   ·by_cases q3 : b < ((c + (i + 1) : Nat) : Int)
    ·refine ⟨_, ah_ (r := .inr ((c + (i + 1) : Nat) : Int)) ?_, .inr ⟨c + (i + 1), rfl, ⟨by omega, by omega, fun j hj => ?_, by rw [show c + (i + 1) - c = i + 1 by omega]; exact q2⟩, q3, fun e' he' hb' => by have := h2 e' he' hb'; omega⟩⟩
     ·rw [if_pos (by simp; omega)]
      simp only [hb, Option.bind_some, e3, w1]
      rw [if_neg (by simpa using q1), if_pos (by simpa using q2), if_pos (by simpa using q3)]
     ·by_cases q : j = i + 1
      ·rw [q]; omega
      ·exact h1 j (by omega)
    ·obtain ⟨y, y1, y2⟩ := go (by omega) fun e he hbe => by have := h2 e he hbe; omega
     refine ⟨y, au_ ?_ y1, y2⟩
     rw [if_pos (by simp; omega)]
     simp only [hb, Option.bind_some, e3, w1]
     rw [if_neg (by simpa using q1), if_pos (by simpa using q2), if_neg (by simpa using q3)]
   ·obtain ⟨y, y1, y2⟩ := go (by omega) fun e he hbe => by
     have h3 := h2 e he hbe
     by_cases q : e = c + (i + 1)
     ·have := he.2.2.2
      rw [q, show c + (i + 1) - c = i + 1 by omega] at this
      exact absurd this q2
     ·omega
    refine ⟨y, au_ ?_ y1, y2⟩
    rw [if_pos (by simp; omega)]
    simp only [hb, Option.bind_some, e3, w1]
    rw [if_neg (by simpa using q1), if_neg (by simpa using q2)]
theorem nJ_ {s : ByteArray} {c : Nat} (b : Int) (hs : s.size ≤ 200) (hc : c ≤ s.size) : ∃ v, aX_ s c b = some v ∧ BalV s c b v := by
 obtain ⟨y, y1, y2⟩ := ha_ (s := s) (c := c) b hs (s.size - c) 0 (by omega) (fun j hj => by rw [show j = 0 by omega]; exact Int.le_refl _) (fun e he _ => he.1)
 refine ⟨_, fu_ _ _ _ _ ?_, y2⟩
 unfold c2_
 rw [show (dp s c 0, ((c + 0 : Nat) : Int)) = ((0 : Int), (c : Int)) from rfl] at y1
 rw [y1, Option.bind_some]
 cases y <;> rfl
end Go.Am
end
