/- The law. -/
import Derived.Test.YthpmndnnpnojjaaAl12
import Derived.Test.YthpmndnnpnojjaaAg1
import Derived.Test.YthpmndnnpnojjaaAg0
section
set_option maxRecDepth 100000
set_option maxHeartbeats 4000000
set_option linter.unusedVariables false
set_option linter.unusedSimpArgs false
namespace Go.Am
theorem kn_ {n : Nat} {P : Nat → Prop} {bd : Int → Option (Int ⊕ Int)} (hn : n ≤ 200) (h1 : ∀ i : Nat, i < n → P i → bd i = some (.inl ((i : Int) + 1))) (h2 : ∀ i : Nat, i < n → ¬ P i → bd i = some (.inr (i : Int))) :
  ∀ m j : Nat, j + m = n → ∃ r : Nat, j ≤ r ∧ r ≤ n ∧ (∀ i, j ≤ i → i < r → P i) ∧ (r < n → ¬ P r) ∧ ar_ (fun st1 : Int => if decide (st1 < (n : Int)) = true then bd st1 else some (.inr st1)) (j : Int) = some (r : Int) := by
 intro m
 induction m with
 | zero =>
  intro j hj
  exact ⟨j, Nat.le_refl _, by omega, fun i _ _ => by omega, fun h => by omega, aw_ (by rw [if_neg (by simp; omega)])⟩
 | succ m ih =>
  intro j hj
  have ec : ((j + 1 : Nat) : Int) = (j : Int) + 1 := by simp
  by_cases hp : P j
  ·obtain ⟨r, r1, r2, r4, r5, r3⟩ := ih (j + 1) (by omega)
   rw [ec] at r3
   refine ⟨r, by omega, r2, fun i h1 h2 => ?_, r5, aK_ (by rw [if_pos (by simp; omega)]; exact h1 j (by omega) hp) r3⟩
   by_cases h : i = j
   ·rw [h]; exact hp
   ·exact r4 i (by omega) h2
  ·exact ⟨j, Nat.le_refl _, by omega, fun i _ _ => by omega, fun _ => hp, aw_ (by rw [if_pos (by simp; omega)]; exact h2 j (by omega) hp)⟩
theorem mW_ (t s : ByteArray) (c : Nat) (hs : s.size ≤ 200) (hc : c ≤ s.size) : ∃ r : Nat, c ≤ r ∧ r ≤ s.size ∧ (∀ i, c ≤ i → i < r → d6_ t (bAt s i)) ∧ (r < s.size → ¬ d6_ t (bAt s r)) ∧ bX_ 4 0 t s c = some (if (c : Int) < r then (r : Int) else -1) := by
 obtain ⟨r, r1, r2, r4, r5, r3⟩ := kn_ (n := s.size) (P := fun i => d6_ t (bAt s i)) (bd := fun st1 => ((ak_ s st1).bind fun y9 => ((bi_ y9 t).bind fun y10 => (if y10 = true then (some (.inl (w4 (st1 + 1)))) else (some (.inr st1)))))) hs
   (fun i hi hp => by simp [aZ_ hi, ka_ t _ (fw_ s i), aV_ hp, cR_ (n := (i : Int) + 1) (by omega) (by omega)])
   (fun i hi hp => by simp [aZ_ hi, ka_ t _ (fw_ s i), aP_ hp]) (s.size - c) c (by omega)
 refine ⟨r, r1, r2, r4, r5, fy_ _ _ _ _ _ _ ?_⟩
 unfold c9_
 simp only [show decide ((4 : Int) = 1) = false from rfl, show decide ((4 : Int) = 2) = false from rfl, show decide ((4 : Int) = 3) = false from rfl, decide_true, if_true, Bool.false_eq_true, if_false, r3, Option.bind_some]
 rw [f8_ (n := (r : Int) - c) (by omega) (by omega), cR_ (n := (c : Int) + ((r : Int) - c)) (by omega) (by omega)]
 have e : (c : Int) + ((r : Int) - c) = r := by omega
 by_cases hr : (c : Int) < (r : Int)
 ·rw [if_pos (by simp; omega), if_pos hr, e]; rfl
 ·rw [if_neg (by simp; omega), if_neg hr]; rfl
theorem k5_ (t s : ByteArray) (c : Nat) (hs : s.size ≤ 200) (hc : c ≤ s.size) : ∃ r : Nat, c ≤ r ∧ r ≤ s.size ∧ (∀ i, c ≤ i → i < r → ¬ d6_ t (bAt s i)) ∧ (r < s.size → d6_ t (bAt s r)) ∧ bX_ 5 0 t s c = some (if r < s.size then (r : Int) else -1) := by
 obtain ⟨r, r1, r2, r4, r5, r3⟩ := kn_ (n := s.size) (P := fun i => ¬ d6_ t (bAt s i)) (bd := fun st1 => ((ak_ s st1).bind fun y12 => ((bi_ y12 t).bind fun y13 => (if (!y13) = true then (some (.inl (w4 (st1 + 1)))) else (some (.inr st1)))))) hs
   (fun i hi hp => by simp [aZ_ hi, ka_ t _ (fw_ s i), aP_ hp, cR_ (n := (i : Int) + 1) (by omega) (by omega)])
   (fun i hi hp => by simp [aZ_ hi, ka_ t _ (fw_ s i), aV_ (Classical.not_not.1 hp)]) (s.size - c) c (by omega)
 refine ⟨r, r1, r2, r4, fun h => Classical.not_not.1 (r5 h), fy_ _ _ _ _ _ _ ?_⟩
 unfold c9_
 simp only [show decide ((5 : Int) = 1) = false from rfl, show decide ((5 : Int) = 2) = false from rfl, show decide ((5 : Int) = 3) = false from rfl, show decide ((5 : Int) = 4) = false from rfl, decide_true, if_true, Bool.false_eq_true, if_false, r3, Option.bind_some]
 rw [f8_ (n := (r : Int) - c) (by omega) (by omega), cR_ (n := (c : Int) + ((r : Int) - c)) (by omega) (by omega)]
 have e : (c : Int) + ((r : Int) - c) = r := by omega
 by_cases hr : r < s.size
 ·rw [if_pos (by simp; omega), if_pos hr, e]; rfl
 ·rw [if_neg (by simp; omega), if_neg hr]; rfl
theorem gL_ (t : ByteArray) (y : Int) (hs : t.size ≤ 1000) : ae_ t y = some (says (d6_ t y)) := by
 refine iD_ t y _ ?_
 unfold eM_
 obtain ⟨q1, q2⟩ := hK_ (R := Unit ⊕ Bool) (n := t.size) (p := fun i => bAt t i ≠ y) (x := .inl ()) (y := .inr true) (bd := fun st1 => ((ak_ t st1).bind fun y2 => (if (decide (y2 = y)) = true then (some (.inr (.inr true))) else (some (.inl (w4 (st1 + 1))))))) 0 (by omega)
  (fun i _ hi hp => by rw [aZ_ hi, Option.bind_some, if_neg (by simpa using hp)])
  (fun i _ hi hp => by rw [aZ_ hi, Option.bind_some, if_pos (by simpa using hp)])
 rw [show ((0 : Nat) : Int) = 0 from rfl] at q1 q2
 by_cases h : d6_ t y
 ·rw [q2 fun w => by obtain ⟨i, hi, e⟩ := h; exact w i (Nat.zero_le _) hi e, aV_ h]; rfl
 ·rw [q1 fun i _ hi e => h ⟨i, hi, e⟩, aP_ h]; rfl
theorem mL_ (s t : ByteArray) (c e : Nat) (ht : t.size ≤ 1000) (he : e ≤ s.size) (hs : s.size ≤ 200) (h : ∀ i, c ≤ i → i < e → d6_ t (bAt s i)) (hc : c ≤ e) :
  ar_ (S := Int) (R := (Unit ⊕ Bool)) (fun st2 => (if decide (st2 < (e : Int)) = true then ((ak_ s st2).bind fun y19 => ((ae_ t y19).bind fun y20 => (if (!y20) = true then (some (.inr (.inr false))) else (some (.inl (w4 (st2 + 1))))))) else (some (.inr (.inl ()))))) (c : Int) = some (.inl ()) := by
 suffices H : ∀ m j : Nat, j + m = e → c ≤ j → ar_ (S := Int) (R := (Unit ⊕ Bool)) (fun st2 => (if decide (st2 < (e : Int)) = true then ((ak_ s st2).bind fun y19 => ((ae_ t y19).bind fun y20 => (if (!y20) = true then (some (.inr (.inr false))) else (some (.inl (w4 (st2 + 1))))))) else (some (.inr (.inl ()))))) (j : Int) = some (.inl ()) from H (e - c) c (by omega) (Nat.le_refl _)
 intro m
 induction m with
 | zero => intro j hj _; exact aw_ (if_neg (by simp; omega))
 | succ m ih =>
  intro j hj hcj
  refine aK_ ?_ (ih (j + 1) (by omega) (by omega))
  rw [if_pos (by simp; omega), aZ_ (show j < s.size by omega), Option.bind_some, gL_ t _ ht, Option.bind_some, aV_ (h j hcj (by omega)), if_neg (by simp), cR_ (by omega) (by omega)]; rfl
theorem iW_ (s t : ByteArray) (c e : Nat) (ht : t.size ≤ 1000) (he : e ≤ s.size) (hs : s.size ≤ 200) (h : ∀ i, c ≤ i → i < e → ¬ d6_ t (bAt s i)) (hc : c ≤ e) :
  ar_ (S := Int) (R := (Unit ⊕ Bool)) (fun st2 => (if decide (st2 < (e : Int)) = true then ((ak_ s st2).bind fun y19 => ((ae_ t y19).bind fun y20 => (if y20 = true then (some (.inr (.inr false))) else (some (.inl (w4 (st2 + 1))))))) else (some (.inr (.inl ()))))) (c : Int) = some (.inl ()) := by
 suffices H : ∀ m j : Nat, j + m = e → c ≤ j → ar_ (S := Int) (R := (Unit ⊕ Bool)) (fun st2 => (if decide (st2 < (e : Int)) = true then ((ak_ s st2).bind fun y19 => ((ae_ t y19).bind fun y20 => (if y20 = true then (some (.inr (.inr false))) else (some (.inl (w4 (st2 + 1))))))) else (some (.inr (.inl ()))))) (j : Int) = some (.inl ()) from H (e - c) c (by omega) (Nat.le_refl _)
 intro m
 induction m with
 | zero => intro j hj _; exact aw_ (if_neg (by simp; omega))
 | succ m ih =>
  intro j hj hcj
  refine aK_ ?_ (ih (j + 1) (by omega) (by omega))
  rw [if_pos (by simp; omega), aZ_ (show j < s.size by omega), Option.bind_some, gL_ t _ ht, Option.bind_some, aP_ (h j hcj (by omega)), if_neg (by simp), cR_ (by omega) (by omega)]; rfl
theorem j0_ (k : Int) (t : ByteArray) (hk : k = 4 ∨ k = 5) (ht : 1 ≤ t.size ∧ t.size ≤ 3) : VPat ⟨k, 0, t, ⟨true, []⟩⟩ := by
 refine ⟨.mk ⟨by simp only; omega, by unfold kidN; simp only; rw [if_neg (by omega), if_neg (by omega)]; rfl, ?_⟩ (fun q hq => by simp at hq), by rw [nC_]; decide⟩
 show ArgP k 0 t
 unfold ArgP; rw [if_pos (by omega)]
 exact ⟨rfl, by omega, .inr fun h => by rw [h] at ht; exact absurd ht.1 (by decide)⟩
theorem kz_ {n : Nat} {bd : Int → Option (Int ⊕ (Unit ⊕ Bool))} (hn : n ≤ 200) (h : ∀ c : Nat, c ≤ n → bd c = some (.inl ((c : Int) + 1))) :
  ar_ (fun st1 : Int => if decide (st1 ≤ (n : Int)) = true then bd st1 else some (.inr (.inl ()))) 0 = some (.inl ()) := by
 suffices H : ∀ m j : Nat, j + m = n + 1 → ar_ (fun st1 : Int => if decide (st1 ≤ (n : Int)) = true then bd st1 else some (.inr (.inl ()))) (j : Int) = some (.inl ()) from H (n + 1) 0 (by omega)
 intro m
 induction m with
 | zero => intro j hj; exact aw_ (if_neg (by simp; omega))
 | succ m ih =>
  intro j hj
  refine aK_ ?_ (ih (j + 1) (by omega))
  rw [if_pos (by simp; omega), h j (by omega)]; rfl
theorem he_ (a : Sl (Iv .u8)) (h : ∀ x ∈ a.l, 0 ≤ x.v ∧ x.v ≤ 255) : dR_ a = some true := by
 refine fM_ _ _ ?_
 unfold co_
 by_cases hl : 1048576 < (a.l.length : Int)
 ·rw [if_pos (by simpa using hl)]
 rw [if_neg (by simpa using hl)]
 have hb : Bys a := ⟨h, by omega⟩
 obtain ⟨s, e1, hs⟩ := kB_ a hb
 obtain ⟨b, e2, hb2⟩ := pE_ 1 a h (by omega)
 obtain ⟨t, e3, ht⟩ := kO_ b hb2
 rw [e1, Option.bind_some, e2, Option.bind_some, e3, Option.bind_some, kz_ (n := s.size) (by omega) fun c hc => ?_]
 ·rfl
 obtain ⟨r1, a1, a2, a3, a4, a5⟩ := mW_ t s c (by omega) hc
 obtain ⟨r2, b1, b2, b3, b4, b5⟩ := k5_ t s c (by omega) hc
 have E1 := jW_ (f := 9) (by omega) (by omega) (j0_ 4 t (.inl rfl) ht) (lE_ _ _ _ (by omega)) (by omega) (by omega) a5
 have E2 := jW_ (f := 9) (by omega) (by omega) (j0_ 5 t (.inr rfl) ht) (lE_ _ _ _ (by omega)) (by omega) (by omega) b5
 simp only [oy_, Option.bind_some, E1, E2]
 have hw : w4 ((c : Int) + 1) = c + 1 := cR_ (by omega) (by omega)
 have hh : ((if (decide ((c : Int) < (s.size : Int))) = true then ((ak_ s (c : Int)).bind fun y68 => ((ae_ t y68).bind fun y69 => (some y69))) else (some false)) : Option Bool) = some (decide (c < r1)) := by
  by_cases q : c < s.size
  ·rw [if_pos (by simp; omega), aZ_ q, Option.bind_some, gL_ t _ (by omega), Option.bind_some]
   by_cases q1 : c < r1
   ·rw [aV_ (a3 c (Nat.le_refl _) q1)]; simp [q1]
   ·have : r1 = c := by omega
    subst this
    rw [aP_ (a4 q)]; simp
  ·rw [if_neg (by simp; omega)]
   have : ¬ c < r1 := by omega
   simp [this]
 have L2 := iW_ s t c r2 (by omega) b2 (by omega) b3 b1
 have L3 := iW_ s t c s.size (by omega) (Nat.le_refl _) (by omega)
 have L1 := mL_ s t c r1 (by omega) a2 (by omega) a3 a1
 have k1 : ∀ v : Int, elt (⟨false, [⟨v⟩]⟩ : Sl (Iv .i64)) 0 = some ⟨v⟩ := fun v => rfl
 have d1 : decide (1 < ((0 : Nat) : Int)) = false := rfl
 have d2 : decide (1 < ((0 + 1 : Nat) : Int)) = false := rfl
 have d3 : decide (((0 : Nat) : Int) = 1) = false := rfl
 have d4 : decide (((0 + 1 : Nat) : Int) = 1) = true := rfl
 have d5 : decide ((s.size : Int) < (r1 : Int)) = false := by simp; omega
 by_cases c1 : (c : Int) < r1
 ·have n1 : ¬ ((if (c : Int) < r1 then (r1 : Int) else -1) < 0) := by rw [if_pos c1]; omega
  rw [if_neg n1, if_pos c1]
  have d6 : decide ((r1 : Int) ≤ (c : Int)) = false := by simp; omega
  have d7 : decide (c < r1) = true := by simp; omega
  by_cases c2 : r2 < s.size
  ·have n2 : ¬ ((if r2 < s.size then (r2 : Int) else -1) < 0) := by rw [if_pos c2]; omega
   rw [if_neg n2, if_pos c2]
   have d8 : decide ((s.size : Int) ≤ (r2 : Int)) = false := by simp; omega
   have d9 : decide ((r2 : Int) < (c : Int)) = false := by simp; omega
   have t2 : ae_ t (bAt s (r2 : Int)) = some true := by rw [gL_ t _ (by omega), aV_ (b4 c2)]
   by_cases c3 : r1 < s.size
   ·have d10 : decide ((r1 : Int) < (s.size : Int)) = true := by simp; omega
    have t1 : ae_ t (bAt s (r1 : Int)) = some false := by rw [gL_ t _ (by omega), aP_ (a4 c3)]
    simp only [List.length_cons, List.length_nil, d1, d2, d3, d4, d5, d6, hh, d7, d8, d9, d10, k1, aZ_ c2, aZ_ c3, t1, t2, Option.bind_some, decide_true, decide_false, Bool.not_true, Bool.not_false, Bool.false_eq_true, if_true, if_false, beq_self_eq_true, hw, L1, L2, Sum.elim_inl]
   ·have d10 : decide ((r1 : Int) < (s.size : Int)) = false := by simp; omega
    simp only [List.length_cons, List.length_nil, d1, d2, d3, d4, d5, d6, hh, d7, d8, d9, d10, k1, aZ_ c2, t2, Option.bind_some, decide_true, decide_false, Bool.not_true, Bool.not_false, Bool.false_eq_true, if_true, if_false, beq_self_eq_true, hw, L1, L2, Sum.elim_inl]
  ·have n2 : (if r2 < s.size then (r2 : Int) else -1) < 0 := by rw [if_neg c2]; omega
   rw [if_pos n2]
   have L3 := L3 (fun i h1 h2 => b3 i h1 (by omega)) hc
   by_cases c3 : r1 < s.size
   ·have d10 : decide ((r1 : Int) < (s.size : Int)) = true := by simp; omega
    have t1 : ae_ t (bAt s (r1 : Int)) = some false := by rw [gL_ t _ (by omega), aP_ (a4 c3)]
    simp only [List.length_cons, List.length_nil, d1, d2, d3, d4, d5, d6, hh, d7, d10, k1, aZ_ c3, t1, Option.bind_some, decide_true, decide_false, Bool.not_true, Bool.not_false, Bool.false_eq_true, if_true, if_false, beq_self_eq_true, hw, L1, L3, Sum.elim_inl]
   ·have d10 : decide ((r1 : Int) < (s.size : Int)) = false := by simp; omega
    simp only [List.length_cons, List.length_nil, d1, d2, d3, d4, d5, d6, hh, d7, d10, k1, Option.bind_some, decide_true, decide_false, Bool.not_true, Bool.not_false, Bool.false_eq_true, if_true, if_false, beq_self_eq_true, hw, L1, L3, Sum.elim_inl]
 ·have n1 : (if (c : Int) < r1 then (r1 : Int) else -1) < 0 := by rw [if_neg c1]; omega
  rw [if_pos n1]
  have d7 : decide (c < r1) = false := by simp; omega
  have L0 : ∀ z : Option (Int ⊕ (Unit ⊕ Bool)), ar_ (S := Int) (R := (Unit ⊕ Bool)) (fun st2 => some (.inr (.inl ()))) (c : Int) = some (.inl ()) := fun _ => aw_ rfl
  have L0 := L0 none
  by_cases c2 : r2 < s.size
  ·have n2 : ¬ ((if r2 < s.size then (r2 : Int) else -1) < 0) := by rw [if_pos c2]; omega
   rw [if_neg n2, if_pos c2]
   have d8 : decide ((s.size : Int) ≤ (r2 : Int)) = false := by simp; omega
   have d9 : decide ((r2 : Int) < (c : Int)) = false := by simp; omega
   have t2 : ae_ t (bAt s (r2 : Int)) = some true := by rw [gL_ t _ (by omega), aV_ (b4 c2)]
   simp only [List.length_cons, List.length_nil, d1, d2, d3, d4, hh, d7, d8, d9, k1, aZ_ c2, t2, Option.bind_some, decide_true, decide_false, Bool.not_true, Bool.not_false, Bool.false_eq_true, if_true, if_false, beq_self_eq_true, hw, L0, L2, Sum.elim_inl]
  ·have n2 : (if r2 < s.size then (r2 : Int) else -1) < 0 := by rw [if_neg c2]; omega
   rw [if_pos n2]
   have L3 := L3 (fun i h1 h2 => b3 i h1 (by omega)) hc
   simp only [List.length_cons, List.length_nil, d1, d2, d3, d4, hh, d7, k1, Option.bind_some, decide_true, decide_false, Bool.not_true, Bool.not_false, Bool.false_eq_true, if_true, if_false, beq_self_eq_true, hw, L0, L3, Sum.elim_inl]
theorem law_FnSpanBreak {fu0 : Nat} {t0 : T} (h0 : Shp Go.Proofs.Try.prog fu0 43 [t0]) : ∃ σ', run Go.Proofs.Try.prog md ext 10 [t0] St.empty = some (.bool true, σ') := by
 obtain ⟨a, e0, ha⟩ := lJ_ h0
 injection e0 with e0; subst e0
 exact ⟨_, fU_ (he_ a ha.2) St.empty⟩
end Go.Am
end
