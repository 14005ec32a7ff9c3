/- The law. -/
import Derived.Test.YtkgmfmcpbgffpaaAg3
import Derived.Test.YtkgmfmcpbgffpaaAg4
import Derived.Test.YtkgmfmcpbgffpaaAl2
section
set_option maxRecDepth 100000
set_option maxHeartbeats 1000000
set_option linter.unusedVariables false
set_option linter.unusedSimpArgs false
namespace Go.Am
theorem rj_ {s : ByteArray} {i : Nat} (h : i < s.size) : bAt s (i : Int) = ((s[i]'h).toNat : Int) := by
 unfold bAt
 rw [dif_pos (by simpa using h)]; rfl
theorem da_ (s : ByteArray) (j : Int) : 0 ≤ bAt s j ∧ bAt s j < 256 := by
 unfold bAt
 split
 ·have := UInt8.toNat_lt s[j.toNat]; omega
 ·omega
def gt_ (t : ByteArray) (y : Int) : Prop := ∃ i : Nat, i < t.size ∧ bAt t i = y
theorem pm_ (t : ByteArray) (y : Int) (h0 : 0 ≤ y) (h1 : y < 256) : 0 ≤ firstIdx t y.toNat.toUInt8 ↔ gt_ t y := by
 unfold firstIdx gt_
 have key : ∀ i : Nat, (h : i < t.size) → ((t[i]! == y.toNat.toUInt8) = true ↔ bAt t i = y) := fun i h => by
  rw [rj_ h, getElem!_pos t i h, beq_iff_eq]
  constructor
  ·intro e; rw [e]; simp; omega
  ·intro e; rw [← e]; simp
 cases hf : (List.range t.size).find? fun i => t[i]! == y.toNat.toUInt8 with
 | none =>
  rw [List.find?_eq_none] at hf
  refine ⟨fun h => by simp at h, fun ⟨i, hi, e⟩ => absurd ((key i hi).2 e) (by simpa using hf i (by simpa using hi))⟩
 | some i =>
  have hm := List.mem_of_find?_eq_some hf
  have hi : i < t.size := by simpa using hm
  have hp := List.find?_some hf
  exact ⟨fun _ => ⟨i, hi, (key i hi).1 hp⟩, fun _ => by simp⟩
theorem hj_ (t : ByteArray) (y : Int) (h : 0 ≤ y ∧ y < 256) : bt_ y t = some (says (gt_ t y)) := by
 refine ij_ y t _ ?_
 unfold eB_
 have e : cW_ t y = some (firstIdx t y.toNat.toUInt8) := by
  refine gO_ t y _ ?_
  unfold c1_
  have e2 : bi_ t y = some (firstIdx t y.toNat.toUInt8) := by
   refine dp_ t y _ ?_
   unfold bk_
   rw [c7_ t y _ rfl]; rfl
  rw [e2]; rfl
 rw [e, Option.bind_some, iW_, eA_ (pm_ t y h.1 h.2)]
theorem hf_ (t : ByteArray) (y : Int) (hs : t.size ≤ 1048576) : bf_ t y = some (says (gt_ t y)) := by
 refine i0_ t y _ ?_
 unfold eq_
 obtain ⟨q1, q2⟩ := mv_ (R := Unit ⊕ Bool) (n := t.size) (p := fun i => bAt t i ≠ y) (x := .inl ()) (y := .inr true) (bd := fun st1 => ((aP_ t st1).bind fun y2 => (if (decide (y2 = y)) = true then (some (.inr (.inr true))) else (some (.inl (w4 (st1 + 1))))))) 0 (by omega)
  (fun i _ hi hp => by rw [bP_ hi, Option.bind_some, if_neg (by simpa using hp)])
  (fun i _ hi hp => by rw [bP_ hi, Option.bind_some, if_pos (by simpa using hp)])
 rw [show ((0 : Nat) : Int) = 0 from rfl] at q1 q2
 by_cases h : gt_ t y
 ·rw [q2 fun w => by obtain ⟨i, hi, e⟩ := h; exact w i (Nat.zero_le _) hi e, bs_ h]; rfl
 ·rw [q1 fun i _ hi e => h ⟨i, hi, e⟩, aZ_ h]; rfl
theorem jV_ (y t : ByteArray) : cV_ y t = some (says (t.size ≤ y.size ∧ y.extract 0 t.size = t)) := by
 refine gM_ y t _ ?_
 unfold cZ_
 have e : bj_ y t = some (says (t.size ≤ y.size ∧ y.extract 0 t.size = t)) := by
  refine do_ y t _ ?_
  unfold bl_
  by_cases h : t.size ≤ y.size
  ·rw [if_pos (by simpa using h)]
   unfold subB
   rw [if_pos (by omega), Option.bind_some]
   simp only [Int.toNat_natCast, Int.toNat_zero]
   rw [iW_]
   exact congrArg some (eA_ ⟨fun e => ⟨h, e⟩, fun e => e.2⟩)
  ·rw [if_neg (by simpa using h), aZ_ fun w => h w.1]
 rw [e]; rfl
theorem d7_ (n m : Int) (b : Bool) (h1 : 0 ≤ n ∧ n ≤ 200) (h2 : 0 ≤ m ∧ m ≤ 200) : dJ_ n m b = some (if b = true then m - n else n) := by
 refine ja_ n m b _ ?_
 unfold eZ_
 cases b
 ·rfl
 ·simp only [if_true]; rw [dT_ (by omega) (by omega)]
def pY_ (o1 o2 : Option Int) (c n : Int) : Prop := ∃ e, o1 = some e ∧ o2 = some e ∧ (e < 0 ∨ (c ≤ e ∧ e ≤ n))
theorem cG_ {o1 o2 : Option Int} {c n : Int} (h1 : o1 = some (-1)) (h2 : o2 = some (-1)) : pY_ o1 o2 c n := ⟨-1, h1, h2, .inl (by omega)⟩
theorem lf_ {n : Nat} {P : Nat → Prop} {bd : Int → Option (Int ⊕ Int)} (hn : n ≤ 200) (h1 : ∀ i : Nat, i < n → P i → bd i = some (.inl ((i : Int) + 1))) (h2 : ∀ i : Nat, i < n → ¬ P i → bd i = some (.inr (i : Int))) :
  ∀ m j : Nat, j + m = n → ∃ r : Nat, j ≤ r ∧ r ≤ n ∧ az_ (fun st1 : Int => if decide (st1 < (n : Int)) = true then bd st1 else some (.inr st1)) (j : Int) = some (r : Int) := by
 intro m
 induction m with
 | zero =>
  intro j hj
  exact ⟨j, Nat.le_refl _, by omega, aj_ (by rw [if_neg (by simp; omega)])⟩
 | succ m ih =>
  intro j hj
  have ec : ((j + 1 : Nat) : Int) = (j : Int) + 1 := by simp
  by_cases hp : P j
  ·obtain ⟨r, r1, r2, r3⟩ := ih (j + 1) (by omega)
   rw [ec] at r3
   exact ⟨r, by omega, r2, au_ (by rw [if_pos (by simp; omega)]; exact h1 j (by omega) hp) r3⟩
  ·exact ⟨j, Nat.le_refl _, by omega, aj_ (by rw [if_pos (by simp; omega)]; exact h2 j (by omega) hp)⟩
theorem nu_ {n : Nat} {P : Nat → Prop} {b1 : Int → Option (Int ⊕ (Unit ⊕ Int))} {b2 : Int → Option (Int ⊕ Int)} (hn : n ≤ 200) (h1 : ∀ i : Nat, i < n → P i → b1 i = some (.inr (.inr (i : Int))) ∧ b2 i = some (.inr (i : Int))) (h2 : ∀ i : Nat, i < n → ¬ P i → b1 i = some (.inl ((i : Int) + 1)) ∧ b2 i = some (.inl ((i : Int) + 1))) :
  ∀ m j : Nat, j + m = n → (∃ r : Nat, j ≤ r ∧ r < n ∧ az_ (fun st1 : Int => if decide (st1 < (n : Int)) = true then b1 st1 else some (.inr (.inl ()))) (j : Int) = some (.inr (r : Int)) ∧ az_ (fun st1 : Int => if decide (st1 < (n : Int)) = true then b2 st1 else some (.inr st1)) (j : Int) = some (r : Int)) ∨
   (az_ (fun st1 : Int => if decide (st1 < (n : Int)) = true then b1 st1 else some (.inr (.inl ()))) (j : Int) = some (.inl ()) ∧ az_ (fun st1 : Int => if decide (st1 < (n : Int)) = true then b2 st1 else some (.inr st1)) (j : Int) = some (n : Int)) := by
 intro m
 induction m with
 | zero =>
  intro j hj
  have : j = n := by omega
  subst this
  exact .inr ⟨aj_ (by rw [if_neg (by simp)]), aj_ (by rw [if_neg (by simp)])⟩
 | succ m ih =>
  intro j hj
  have ec : ((j + 1 : Nat) : Int) = (j : Int) + 1 := by simp
  have hlt : decide ((j : Int) < (n : Int)) = true := by simp; omega
  by_cases hp : P j
  ·obtain ⟨q1, q2⟩ := h1 j (by omega) hp
   exact .inl ⟨j, Nat.le_refl _, by omega, aj_ (by rw [if_pos hlt]; exact q1), aj_ (by rw [if_pos hlt]; exact q2)⟩
  ·obtain ⟨q1, q2⟩ := h2 j (by omega) hp
   rcases ih (j + 1) (by omega) with ⟨r, r1, r2, r3, r4⟩ | ⟨r3, r4⟩
   ·rw [ec] at r3 r4
    exact .inl ⟨r, by omega, r2, au_ (by rw [if_pos hlt]; exact q1) r3, au_ (by rw [if_pos hlt]; exact q2) r4⟩
   ·rw [ec] at r3 r4
    exact .inr ⟨au_ (by rw [if_pos hlt]; exact q1) r3, au_ (by rw [if_pos hlt]; exact q2) r4⟩
theorem uz_ (p : DPattern) (s : ByteArray) (c : Nat) (hs : s.size ≤ 200) (hc : c ≤ s.size) (hk : 1 ≤ p.Kind ∧ p.Kind ≤ 11) (ha : ArgP p.Kind p.Num p.Text) :
  pY_ (hh_ p s c) (aL_ p.Kind p.Num p.Text s c) c s.size := by
 suffices H : pY_ (ed_ p s c) (b0_ p.Kind p.Num p.Text s c) c s.size by
  obtain ⟨e, h1, h2, h3⟩ := H
  exact ⟨e, jW_ p s c e h1, c8_ _ _ _ s c e h2, h3⟩
 obtain ⟨K, num, t, kids⟩ := p
 have hk : 1 ≤ K ∧ K ≤ 11 := hk
 have ha : ArgP K num t := ha
 unfold ed_ b0_
 unfold ArgP at ha
 have : K = 1 ∨ K = 2 ∨ K = 3 ∨ K = 4 ∨ K = 5 ∨ K = 6 ∨ K = 7 ∨ K = 8 ∨ K = 9 ∨ K = 10 ∨ K = 11 := by omega
 rcases this with rfl | rfl | rfl | rfl | rfl | rfl | rfl | rfl | rfl | rfl | rfl
 ·rw [if_pos (by decide)] at ha
  have ht := ha.2.1
  show pY_ (((((if decide ((1 : Int) = 1) = true then _ else _) : Option (Unit ⊕ Int)).bind _) : Option (Unit ⊕ Int)).bind _) _ _ _
  simp only [decide_true, if_true]
  rw [a4_ (n := (c : Int) + (t.size : Int)) (by omega) (by omega)]
  have e1 : subB s c (s.size : Int) = some (s.extract c s.size) := by unfold subB; rw [if_pos (by omega)]; simp
  rw [e1, Option.bind_some, jV_, Option.bind_some]
  have hsz : (s.extract c s.size).size = s.size - c := by simp
  by_cases h : (c : Int) + (t.size : Int) ≤ (s.size : Int)
  ·rw [if_pos (by simpa using h)]
   have e2 : subB s c ((c : Int) + (t.size : Int)) = some (s.extract c (c + t.size)) := by
    unfold subB; rw [if_pos (by omega)]
    congr 2 <;> omega
   have e3 : (s.extract c s.size).extract 0 t.size = s.extract c (c + t.size) := by
    rw [ByteArray.extract_extract]; congr 1 <;> omega
   rw [e2, Option.bind_some, e3]
   by_cases he : s.extract c (c + t.size) = t
   ·rw [if_pos (by simpa using he), bs_ ⟨by rw [hsz]; omega, he⟩]
    exact ⟨(c : Int) + t.size, rfl, rfl, .inr ⟨by omega, h⟩⟩
   ·rw [if_neg (by simpa using he), aZ_ fun w => he w.2]
    exact cG_ rfl rfl
  ·rw [if_neg (by simpa using h), aZ_ fun w => by have := w.1; rw [hsz] at this; omega]
   exact cG_ rfl rfl
 ·rw [if_pos (by decide)] at ha
  have ht := ha.2.1
  by_cases h : (c : Int) < (s.size : Int)
  ·have hb := bP_ (s := s) (i := c) (by omega)
   by_cases hm : gt_ t (bAt s c)
   ·refine ⟨(c : Int) + 1, ?_, ?_, .inr ⟨by omega, by omega⟩⟩
    ·simp [h, hb, hf_ t _ (by omega), bs_ hm, a4_ (n := (c : Int) + 1) (by omega) (by omega)]
    ·simp [h, hb, hj_ t _ (da_ s c), bs_ hm, a4_ (n := (c : Int) + 1) (by omega) (by omega)]
   ·refine cG_ ?_ ?_
    ·simp [h, hb, hf_ t _ (by omega), aZ_ hm]
    ·simp [h, hb, hj_ t _ (da_ s c), aZ_ hm]
  ·refine cG_ ?_ ?_ <;> simp [h]
 ·rw [if_pos (by decide)] at ha
  have ht := ha.2.1
  by_cases h : (c : Int) < (s.size : Int)
  ·have hb := bP_ (s := s) (i := c) (by omega)
   by_cases hm : gt_ t (bAt s c)
   ·refine cG_ ?_ ?_
    ·simp [h, hb, hf_ t _ (by omega), bs_ hm]
    ·simp [h, hb, hj_ t _ (da_ s c), bs_ hm]
   ·refine ⟨(c : Int) + 1, ?_, ?_, .inr ⟨by omega, by omega⟩⟩
    ·simp [h, hb, hf_ t _ (by omega), aZ_ hm, a4_ (n := (c : Int) + 1) (by omega) (by omega)]
    ·simp [h, hb, hj_ t _ (da_ s c), aZ_ hm, a4_ (n := (c : Int) + 1) (by omega) (by omega)]
  ·refine cG_ ?_ ?_ <;> simp [h]
 ·rw [if_pos (by decide)] at ha
  have ht := ha.2.1
  obtain ⟨r, r1, r2, r3⟩ := lf_ (n := s.size) (P := fun i => gt_ t (bAt s i)) (bd := fun st1 => ((aP_ s st1).bind fun y12 => ((bf_ t y12).bind fun y13 => (if y13 = true then (some (.inl (w4 (st1 + 1)))) else (some (.inr st1)))))) hs
   (fun i hi hp => by simp [bP_ hi, hf_ t _ (show t.size ≤ 1048576 by omega), bs_ hp, a4_ (n := (i : Int) + 1) (by omega) (by omega)])
   (fun i hi hp => by simp [bP_ hi, hf_ t _ (show t.size ≤ 1048576 by omega), aZ_ hp]) (s.size - c) c (by omega)
  obtain ⟨r', r1', r2', r3'⟩ := lf_ (n := s.size) (P := fun i => gt_ t (bAt s i)) (bd := fun st1 => ((aP_ s st1).bind fun y9 => ((bt_ y9 t).bind fun y10 => (if y10 = true then (some (.inl (w4 (st1 + 1)))) else (some (.inr st1)))))) hs
   (fun i hi hp => by simp [bP_ hi, hj_ t _ (da_ s i), bs_ hp, a4_ (n := (i : Int) + 1) (by omega) (by omega)])
   (fun i hi hp => by simp [bP_ hi, hj_ t _ (da_ s i), aZ_ hp]) (s.size - c) c (by omega)
  have hbe : (fun st1 : Int => if decide (st1 < (s.size : Int)) = true then ((aP_ s st1).bind fun y12 => ((bf_ t y12).bind fun y13 => (if y13 = true then (some (.inl (w4 (st1 + 1)))) else (some (.inr st1))))) else some (.inr st1) : Int → Option (Int ⊕ Int)) = (fun st1 : Int => if decide (st1 < (s.size : Int)) = true then ((aP_ s st1).bind fun y9 => ((bt_ y9 t).bind fun y10 => (if y10 = true then (some (.inl (w4 (st1 + 1)))) else (some (.inr st1))))) else some (.inr st1)) := by
   funext st
   cases hb : aP_ s st with
   | none => rfl
   | some y =>
    have hy := (iB_ hb).2
    simp only [Option.bind_some]
    rw [hy, hf_ t _ (show t.size ≤ 1048576 by omega), hj_ t _ (da_ s st)]
  rw [hbe, r3'] at r3
  have err : (r' : Int) = (r : Int) := by injection r3
  have r3'' := r3'
  rw [← hbe] at r3''
  by_cases hr : (c : Int) < (r' : Int)
  ·refine ⟨(r' : Int), ?_, ?_, .inr ⟨by omega, by omega⟩⟩
   ·simp only [show decide ((4 : Int) = 1) = false from rfl, show decide ((4 : Int) = 2) = false from rfl, show decide ((4 : Int) = 3) = false from rfl, decide_true, if_true, Bool.false_eq_true, if_false, r3'', Option.bind_some]
    rw [if_pos (by simpa using hr)]; rfl
   ·simp only [show decide ((4 : Int) = 1) = false from rfl, show decide ((4 : Int) = 2) = false from rfl, show decide ((4 : Int) = 3) = false from rfl, decide_true, if_true, Bool.false_eq_true, if_false, r3', Option.bind_some]
    rw [dT_ (n := (r' : Int) - c) (by omega) (by omega), a4_ (n := (c : Int) + ((r' : Int) - c)) (by omega) (by omega), if_pos (by simp; omega)]
    show some ((c : Int) + ((r' : Int) - c)) = _
    congr 1; omega
  ·refine cG_ ?_ ?_
   ·simp only [show decide ((4 : Int) = 1) = false from rfl, show decide ((4 : Int) = 2) = false from rfl, show decide ((4 : Int) = 3) = false from rfl, decide_true, if_true, Bool.false_eq_true, if_false, r3'', Option.bind_some]
    rw [if_neg (by simpa using hr)]; rfl
   ·simp only [show decide ((4 : Int) = 1) = false from rfl, show decide ((4 : Int) = 2) = false from rfl, show decide ((4 : Int) = 3) = false from rfl, decide_true, if_true, Bool.false_eq_true, if_false, r3', Option.bind_some]
    rw [dT_ (n := (r' : Int) - c) (by omega) (by omega), if_neg (by simp; omega)]; rfl
 ·rw [if_pos (by decide)] at ha
  have ht := ha.2.1
  have hbl := nu_ (n := s.size) (P := fun i => gt_ t (bAt s i)) (b1 := fun st2 => ((aP_ s st2).bind fun y15 => ((bf_ t y15).bind fun y16 => (if y16 = true then (some (.inr (.inr st2))) else (some (.inl (w4 (st2 + 1))))))))
   (b2 := fun st2 => ((aP_ s st2).bind fun y12 => ((bt_ y12 t).bind fun y13 => (if (!y13) = true then (some (.inl (w4 (st2 + 1)))) else (some (.inr st2)))))) hs
   (fun i hi hp => by simp [bP_ hi, hf_ t _ (show t.size ≤ 1048576 by omega), hj_ t _ (da_ s i), bs_ hp])
   (fun i hi hp => by simp [bP_ hi, hf_ t _ (show t.size ≤ 1048576 by omega), hj_ t _ (da_ s i), aZ_ hp, a4_ (n := (i : Int) + 1) (by omega) (by omega)]) (s.size - c) c (by omega)
  rcases hbl with ⟨r, r1, r2, r3, r4⟩ | ⟨r3, r4⟩
  ·refine ⟨(r : Int), ?_, ?_, .inr ⟨by omega, by omega⟩⟩
   ·simp only [show decide ((5 : Int) = 1) = false from rfl, show decide ((5 : Int) = 2) = false from rfl, show decide ((5 : Int) = 3) = false from rfl, show decide ((5 : Int) = 4) = false from rfl, decide_true, if_true, Bool.false_eq_true, if_false, r3, Option.bind_some]; rfl
   ·simp only [show decide ((5 : Int) = 1) = false from rfl, show decide ((5 : Int) = 2) = false from rfl, show decide ((5 : Int) = 3) = false from rfl, show decide ((5 : Int) = 4) = false from rfl, decide_true, if_true, Bool.false_eq_true, if_false, r4, Option.bind_some]
    rw [dT_ (n := (r : Int) - c) (by omega) (by omega), a4_ (n := (c : Int) + ((r : Int) - c)) (by omega) (by omega), if_pos (by simp; omega)]
    show some ((c : Int) + ((r : Int) - c)) = _
    congr 1; omega
  ·refine cG_ ?_ ?_
   ·simp only [show decide ((5 : Int) = 1) = false from rfl, show decide ((5 : Int) = 2) = false from rfl, show decide ((5 : Int) = 3) = false from rfl, show decide ((5 : Int) = 4) = false from rfl, decide_true, if_true, Bool.false_eq_true, if_false, r3, Option.bind_some]; rfl
   ·simp only [show decide ((5 : Int) = 1) = false from rfl, show decide ((5 : Int) = 2) = false from rfl, show decide ((5 : Int) = 3) = false from rfl, show decide ((5 : Int) = 4) = false from rfl, decide_true, if_true, Bool.false_eq_true, if_false, r4, Option.bind_some]
    rw [dT_ (n := (s.size : Int) - c) (by omega) (by omega), a4_ (n := (c : Int) + ((s.size : Int) - c)) (by omega) (by omega), if_neg (by simp; omega)]; rfl
 all_goals
  rw [if_neg (by decide)] at ha
 ·rw [if_pos (by decide)] at ha
  by_cases h : (c : Int) + num ≤ (s.size : Int)
  ·refine ⟨(c : Int) + num, ?_, ?_, .inr ⟨by omega, h⟩⟩ <;> simp [a4_ (n := (c : Int) + num) (by omega) (by omega), h]
  ·refine cG_ ?_ ?_ <;> simp [a4_ (n := (c : Int) + num) (by omega) (by omega), h]
 ·rw [if_pos (by decide)] at ha
  by_cases h : (c : Int) = num
  ·refine ⟨(c : Int), ?_, ?_, .inr ⟨by omega, by omega⟩⟩
   ·simp [h]
   ·simp [d7_ num s.size _ ha.2 ⟨by omega, by omega⟩, h]
  ·refine cG_ ?_ ?_
   ·simp [h]
   ·simp [d7_ num s.size _ ha.2 ⟨by omega, by omega⟩, h]
 ·rw [if_pos (by decide)] at ha
  have ew := dT_ (n := (s.size : Int) - num) (by omega) (by omega)
  by_cases h : (c : Int) = (s.size : Int) - num
  ·refine ⟨(c : Int), ?_, ?_, .inr ⟨by omega, by omega⟩⟩
   ·simp [ew, h]
   ·simp [d7_ num s.size _ ha.2 ⟨by omega, by omega⟩, h]
  ·refine cG_ ?_ ?_
   ·simp [ew, h]
   ·simp [d7_ num s.size _ ha.2 ⟨by omega, by omega⟩, h]
 ·rw [if_pos (by decide)] at ha
  by_cases h : (c : Int) ≤ num ∧ num ≤ (s.size : Int)
  ·refine ⟨num, ?_, ?_, .inr h⟩
   ·simp [in1, bs_ h]
   ·simp [d7_ num s.size _ ha.2 ⟨by omega, by omega⟩, h.1, h.2]
  ·refine cG_ ?_ ?_
   ·simp [in1, aZ_ h]
   ·have h' : (c : Int) ≤ num → ¬ num ≤ (s.size : Int) := fun a b => h ⟨a, b⟩
    by_cases h1 : (c : Int) ≤ num
    ·simp [d7_ num s.size _ ha.2 ⟨by omega, by omega⟩, h1, h' h1]
    ·simp [d7_ num s.size _ ha.2 ⟨by omega, by omega⟩, h1]
 ·rw [if_pos (by decide)] at ha
  have ew := dT_ (n := (s.size : Int) - num) (by omega) (by omega)
  by_cases h : (c : Int) ≤ (s.size : Int) - num ∧ (s.size : Int) - num ≤ (s.size : Int)
  ·refine ⟨(s.size : Int) - num, ?_, ?_, .inr h⟩
   ·simp [in1, ew, bs_ h]
   ·have h1 := h.1
    have h2 := h.2
    simp only [show decide ((10 : Int) = 1) = false from rfl, show decide ((10 : Int) = 2) = false from rfl, show decide ((10 : Int) = 3) = false from rfl, show decide ((10 : Int) = 4) = false from rfl, show decide ((10 : Int) = 5) = false from rfl, show decide ((10 : Int) = 6) = false from rfl, show decide ((10 : Int) = 7) = false from rfl, show decide ((10 : Int) = 8) = false from rfl, show decide ((10 : Int) = 9) = false from rfl, decide_true, if_true, Bool.false_eq_true, if_false, d7_ num s.size _ ha.2 ⟨by omega, by omega⟩, Option.bind_some]
    rw [if_pos (by simpa using h1), if_pos (by simpa using h2)]; rfl
  ·have h1 : ¬ (c : Int) ≤ (s.size : Int) - num := fun w => h ⟨w, by omega⟩
   refine cG_ ?_ ?_
   ·simp [in1, ew, aZ_ h]
   ·simp only [show decide ((10 : Int) = 1) = false from rfl, show decide ((10 : Int) = 2) = false from rfl, show decide ((10 : Int) = 3) = false from rfl, show decide ((10 : Int) = 4) = false from rfl, show decide ((10 : Int) = 5) = false from rfl, show decide ((10 : Int) = 6) = false from rfl, show decide ((10 : Int) = 7) = false from rfl, show decide ((10 : Int) = 8) = false from rfl, show decide ((10 : Int) = 9) = false from rfl, decide_true, if_true, Bool.false_eq_true, if_false, d7_ num s.size _ ha.2 ⟨by omega, by omega⟩, Option.bind_some]
    rw [if_neg (by simpa using h1)]; rfl
 ·exact ⟨(s.size : Int), by simp, by simp, .inr ⟨by omega, by omega⟩⟩
end Go.Am
end
