/- The law. -/
import Derived.Test.YthpmndnnpnojjaaAl11
import Derived.Test.YthpmndnnpnojjaaAg0
section
set_option maxRecDepth 100000
set_option maxHeartbeats 4000000
set_option linter.unusedVariables false
set_option linter.unusedSimpArgs false
namespace Go.Am
theorem lQ_ (n : Int) (tx s : ByteArray) (c : Int) (h1 : 0 ≤ n ∧ n ≤ 200) (hs : s.size ≤ 200) (hc : 0 ≤ c ∧ c ≤ 200) : a6_ 6 n tx s c = some (if c + n ≤ s.size then c + n else -1) := by
 refine c6_ _ _ _ _ _ _ ?_
 unfold bV_
 simp only [Int.reduceEq, decide_true, decide_false, Bool.false_eq_true, if_true, if_false, Option.bind_some, b1_ (n := c + n) (by omega) (by omega)]
 by_cases h : c + n ≤ (s.size : Int) <;> simp [h]
theorem md_ (k : Int) (hk : k = 7 ∨ k = 8) (n : Int) (tx s : ByteArray) (c : Int) (h1 : 0 ≤ n ∧ n ≤ 200) (hs : s.size ≤ 200) : a6_ k n tx s c = some (if c = (if k = 8 then s.size - n else n) then c else -1) := by
 refine c6_ _ _ _ _ _ _ ?_
 unfold bV_
 have h2 : 0 ≤ (s.size : Int) ∧ (s.size : Int) ≤ 200 := by omega
 rcases hk with rfl | rfl <;> simp only [Int.reduceEq, decide_true, decide_false, Bool.false_eq_true, if_true, if_false, Option.bind_some, j9_ n s.size _ h1 h2]
 ·by_cases h : c = n <;> simp [h]
 ·by_cases h : c = (s.size : Int) - n <;> simp [h]
theorem jJ_ (k : Int) (hk : k = 9 ∨ k = 10) (n : Int) (tx s : ByteArray) (c : Int) (h1 : 0 ≤ n ∧ n ≤ 200) (hs : s.size ≤ 200) : a6_ k n tx s c = some (if c ≤ (if k = 10 then s.size - n else n) ∧ (if k = 10 then s.size - n else n) ≤ s.size then (if k = 10 then s.size - n else n) else -1) := by
 refine c6_ _ _ _ _ _ _ ?_
 unfold bV_
 have h2 : 0 ≤ (s.size : Int) ∧ (s.size : Int) ≤ 200 := by omega
 rcases hk with rfl | rfl <;> simp only [Int.reduceEq, decide_true, decide_false, Bool.false_eq_true, if_true, if_false, Option.bind_some, j9_ n s.size _ h1 h2]
 ·by_cases h : c ≤ n
  ·by_cases h' : n ≤ (s.size : Int) <;> simp [h, h']
  ·simp [h]
 ·by_cases h : c ≤ (s.size : Int) - n
  ·have h' : (s.size : Int) - n ≤ (s.size : Int) := by omega
   simp [h, h']
  ·simp [h]
theorem on_ (n : Int) (tx s : ByteArray) (c : Int) : a6_ 11 n tx s c = some s.size := by
 refine c6_ _ _ _ _ _ _ ?_
 unfold bV_
 simp
theorem ec_ (k n : Int) (hk : 6 ≤ k ∧ k ≤ 10) (hn : 0 ≤ n ∧ n ≤ 200) : VP ⟨k, n, ⟨#[]⟩, ⟨true, []⟩⟩ := .mk ⟨by simp only; omega, by unfold kidN; simp only; rw [if_neg (by omega), if_neg (by omega)]; rfl, by show ArgP k n ⟨#[]⟩; unfold ArgP; rw [if_neg (by omega), if_pos (by omega)]; exact ⟨rfl, hn⟩⟩ (fun q hq => by simp at hq)
theorem rem_leaf : VP ⟨11, 0, ⟨#[]⟩, ⟨true, []⟩⟩ := .mk ⟨by decide, by decide, by unfold ArgP; simp⟩ (fun q hq => by simp at hq)
theorem eS_ (k n : Int) (t : ByteArray) (ht : t.size ≤ 1048576) : SmPt ⟨k, n, t, ⟨true, []⟩⟩ := .mk ht (by simp) fun q hq => by simp at hq
theorem eK_ (k n : Int) (t : ByteArray) : nd ⟨k, n, t, ⟨true, []⟩⟩ = 1 := by rw [lt_]; rfl
theorem kc_ {p q : DPattern} (hp : VP p) (hq : VP q) (h1 : nd p = 1) (h2 : nd q = 1) : VPat ⟨19, 0, ⟨#[]⟩, ⟨false, [p, q]⟩⟩ := by
 refine ⟨.mk ⟨by simp, by simp [kidN], by unfold ArgP; simp⟩ fun x hx => ?_, ?_⟩
 ·simp at hx; rcases hx with rfl | rfl
  ·exact hp
  ·exact hq
 ·rw [lt_]
  show ((1 + ndL [p, q] : Nat) : Int) ≤ 60
  unfold ndL; unfold ndL; unfold ndL; omega
theorem kb_ {p q : DPattern} (hp : SmPt p) (hq : SmPt q) : SmPt ⟨19, 0, ⟨#[]⟩, ⟨false, [p, q]⟩⟩ := .mk (by show (0 : Nat) ≤ _; omega) (by simp) fun x hx => by
 simp at hx; rcases hx with rfl | rfl
 ·exact hp
 ·exact hq
theorem lD_ (k : Int) (t : ByteArray) (l : Sl DPattern) : dd_ k t l = some ⟨k, 0, t, l⟩ := h4_ _ _ _ _ rfl
theorem qk_ (p q : DPattern) : cd_ p q = some ⟨19, 0, ⟨#[]⟩, ⟨false, [p, q]⟩⟩ := by
 refine iA_ _ _ _ ?_
 unfold eJ_
 rw [lD_]; rfl
theorem rA_ (z w : Bool) (v : Int) : af_ ⟨z, [⟨v⟩]⟩ ⟨w, [⟨v⟩]⟩ = some true := ow_ _ _ rfl (by simp)
theorem iZ_ (a : Sl (Iv .u8)) (h : ∀ x ∈ a.l, 0 ≤ x.v ∧ x.v ≤ 255) : eB_ a = some true := by
 refine gv_ _ _ ?_
 unfold cY_
 by_cases hl : 1048576 < (a.l.length : Int)
 ·rw [if_pos (by simpa using hl)]
 rw [if_neg (by simpa using hl)]
 have hb : Bys a := ⟨h, by omega⟩
 obtain ⟨s, e1, hs⟩ := kx_ a hb
 have w1 : w4 ((s.size : Int) + 1) = s.size + 1 := b1_ (by omega) (by omega)
 have w3 : w4 ((s.size : Int) + 3) = s.size + 3 := b1_ (by omega) (by omega)
 obtain ⟨c, e2, hc⟩ := oY_ a 1 (s.size + 1) hb (by omega) (by omega)
 obtain ⟨k, e3, hk⟩ := oY_ a 2 (s.size + 3) hb (by omega) (by omega)
 have hc := hc (by omega)
 have hk := hk (by omega)
 have wk : w4 ((s.size : Int) - k) = s.size - k := f6_ (by omega) (by omega)
 have wc : w4 (c + k) = c + k := b1_ (by omega) (by omega)
 have hn : 0 ≤ k ∧ k ≤ 200 := by omega
 have E1 := gy_ (f := 30) (by omega) (by omega) (kc_ (ec_ 9 k (by omega) hn) (ec_ 7 k (by omega) hn) (eK_ _ _ _) (eK_ _ _ _)) (kb_ (eS_ _ _ _ (by decide)) (eS_ _ _ _ (by decide))) (c := c) (s := s) (by omega) (by omega) (by omega) (jJ_ 9 (.inl rfl) k ⟨#[]⟩ s c hn (by omega)) (fun _ => md_ 7 (.inl rfl) k ⟨#[]⟩ s _ hn (by omega))
 have E2 := gy_ (f := 30) (by omega) (by omega) (kc_ (ec_ 10 k (by omega) hn) (ec_ 8 k (by omega) hn) (eK_ _ _ _) (eK_ _ _ _)) (kb_ (eS_ _ _ _ (by decide)) (eS_ _ _ _ (by decide))) (c := c) (s := s) (by omega) (by omega) (by omega) (jJ_ 10 (.inr rfl) k ⟨#[]⟩ s c hn (by omega)) (fun _ => md_ 8 (.inr rfl) k ⟨#[]⟩ s _ hn (by omega))
 have E3 := gy_ (f := 30) (by omega) (by omega) (kc_ (ec_ 10 k (by omega) hn) (ec_ 6 k (by omega) hn) (eK_ _ _ _) (eK_ _ _ _)) (kb_ (eS_ _ _ _ (by decide)) (eS_ _ _ _ (by decide))) (c := c) (s := s) (by omega) (by omega) (by omega) (jJ_ 10 (.inr rfl) k ⟨#[]⟩ s c hn (by omega)) (fun h0 => lQ_ k ⟨#[]⟩ s _ hn (by omega) ⟨h0, by split <;> omega⟩)
 have E4 := gy_ (f := 30) (by omega) (by omega) (kc_ (ec_ 6 k (by omega) hn) rem_leaf (eK_ _ _ _) (eK_ _ _ _)) (kb_ (eS_ _ _ _ (by decide)) (eS_ _ _ _ (by decide))) (c := c) (s := s) (by omega) (by omega) (by omega) (lQ_ k ⟨#[]⟩ s c hn (by omega) (by omega)) (fun _ => on_ 0 ⟨#[]⟩ s _)
 have G1 : aU_ ⟨true, []⟩ ⟨19, 0, ⟨#[]⟩, ⟨false, [⟨9, k, ⟨#[]⟩, ⟨true, []⟩⟩, ⟨7, k, ⟨#[]⟩, ⟨true, []⟩⟩]⟩⟩ s c 30 = some (⟨false, if c ≤ k ∧ k ≤ (s.size : Int) then [⟨k⟩] else []⟩, 0) := by
  rw [E1]
  by_cases q : c ≤ k ∧ k ≤ (s.size : Int)
  ·have q1 : ¬ (k < 0) := by omega
   have q2 : ¬ ((s.size : Int) - k < 0 ∧ c ≤ (s.size : Int) - k) := by omega
   have q3 : ¬ (c + k < 0) := by omega
   have q4 : c ≤ (s.size : Int) - k → 0 ≤ (s.size : Int) - k := by omega
   have q5 : c ≤ (s.size : Int) - k → ((s.size : Int) - k < 0) = False := fun h => by apply eq_false; omega
   have q6 : ((s.size : Int) - k ≤ (s.size : Int)) = True := by apply eq_true; omega
   have q7 : ((s.size : Int) < (s.size : Int) - k) = False := by apply eq_false; omega
   have q8 : (s.size : Int) - k + k = (s.size : Int) := by omega
   simp [q, q1, q3, q5, q6, q7, q8]
  ·simp [q]
 have G2 : aU_ ⟨true, []⟩ ⟨19, 0, ⟨#[]⟩, ⟨false, [⟨10, k, ⟨#[]⟩, ⟨true, []⟩⟩, ⟨8, k, ⟨#[]⟩, ⟨true, []⟩⟩]⟩⟩ s c 30 = some (⟨false, if c ≤ (s.size : Int) - k then [⟨(s.size : Int) - k⟩] else []⟩, 0) := by
  rw [E2]
  by_cases q : c ≤ (s.size : Int) - k
  ·have q1 : ¬ (k < 0) := by omega
   have q2 : ¬ ((s.size : Int) - k < 0 ∧ c ≤ (s.size : Int) - k) := by omega
   have q3 : ¬ (c + k < 0) := by omega
   have q4 : c ≤ (s.size : Int) - k → 0 ≤ (s.size : Int) - k := by omega
   have q5 : c ≤ (s.size : Int) - k → ((s.size : Int) - k < 0) = False := fun h => by apply eq_false; omega
   have q6 : ((s.size : Int) - k ≤ (s.size : Int)) = True := by apply eq_true; omega
   have q7 : ((s.size : Int) < (s.size : Int) - k) = False := by apply eq_false; omega
   have q8 : (s.size : Int) - k + k = (s.size : Int) := by omega
   simp [q, q1, q3, q5, q6, q7, q8]
  ·simp [q]
 have G3 : aU_ ⟨true, []⟩ ⟨19, 0, ⟨#[]⟩, ⟨false, [⟨10, k, ⟨#[]⟩, ⟨true, []⟩⟩, ⟨6, k, ⟨#[]⟩, ⟨true, []⟩⟩]⟩⟩ s c 30 = some (⟨false, if c ≤ (s.size : Int) - k then [⟨(s.size : Int)⟩] else []⟩, 0) := by
  rw [E3]
  by_cases q : c ≤ (s.size : Int) - k
  ·have q1 : ¬ (k < 0) := by omega
   have q2 : ¬ ((s.size : Int) - k < 0 ∧ c ≤ (s.size : Int) - k) := by omega
   have q3 : ¬ (c + k < 0) := by omega
   have q4 : c ≤ (s.size : Int) - k → 0 ≤ (s.size : Int) - k := by omega
   have q5 : c ≤ (s.size : Int) - k → ((s.size : Int) - k < 0) = False := fun h => by apply eq_false; omega
   have q6 : ((s.size : Int) - k ≤ (s.size : Int)) = True := by apply eq_true; omega
   have q7 : ((s.size : Int) < (s.size : Int) - k) = False := by apply eq_false; omega
   have q8 : (s.size : Int) - k + k = (s.size : Int) := by omega
   simp [q, q1, q3, q5, q6, q7, q8]
  ·simp [q]
 have G4 : aU_ ⟨true, []⟩ ⟨19, 0, ⟨#[]⟩, ⟨false, [⟨6, k, ⟨#[]⟩, ⟨true, []⟩⟩, ⟨11, 0, ⟨#[]⟩, ⟨true, []⟩⟩]⟩⟩ s c 30 = some (⟨false, if c + k ≤ (s.size : Int) then [⟨(s.size : Int)⟩] else []⟩, 0) := by
  rw [E4]
  by_cases q : c + k ≤ (s.size : Int)
  ·have q1 : ¬ (k < 0) := by omega
   have q2 : ¬ ((s.size : Int) - k < 0 ∧ c ≤ (s.size : Int) - k) := by omega
   have q3 : ¬ (c + k < 0) := by omega
   have q4 : c ≤ (s.size : Int) - k → 0 ≤ (s.size : Int) - k := by omega
   have q5 : c ≤ (s.size : Int) - k → ((s.size : Int) - k < 0) = False := fun h => by apply eq_false; omega
   have q6 : ((s.size : Int) - k ≤ (s.size : Int)) = True := by apply eq_true; omega
   have q7 : ((s.size : Int) < (s.size : Int) - k) = False := by apply eq_false; omega
   have q8 : (s.size : Int) - k + k = (s.size : Int) := by omega
   simp [q, q1, q3, q5, q6, q7, q8]
  ·simp [q]
 clear E1 E2 E3 E4
 rw [e1, Option.bind_some, w1, e2, Option.bind_some, w3, e3, Option.bind_some]
 simp only [qk_, lD_, G1, G2, G3, G4, Option.bind_some, wk, wc]
 clear G1 G2 G3 G4
 have a1 : decide (k < c) = !decide (c ≤ k) := by by_cases h : c ≤ k <;> simp [h] <;> omega
 have a2 : decide ((s.size : Int) < k) = !decide (k ≤ (s.size : Int)) := by by_cases h : k ≤ (s.size : Int) <;> simp [h] <;> omega
 have a3 : decide ((s.size : Int) - k < c) = !decide (c ≤ (s.size : Int) - k) := by by_cases h : c ≤ (s.size : Int) - k <;> simp [h] <;> omega
 have a5 : decide ((s.size : Int) < c + k) = !decide (c + k ≤ (s.size : Int)) := by by_cases h : c + k ≤ (s.size : Int) <;> simp [h] <;> omega
 by_cases c1 : c ≤ k <;> by_cases c2 : k ≤ (s.size : Int) <;> by_cases c3 : c ≤ (s.size : Int) - k <;> by_cases c4 : c + k ≤ (s.size : Int)
 all_goals simp only [a1, a2, a3, a5, c1, c2, c3, c4, decide_true, decide_false, Bool.not_true, Bool.not_false, Bool.false_eq_true, if_true, if_false, and_true, and_false, true_and, false_and, rA_, Option.bind_some, List.length_nil, List.length_cons, Int.natCast_zero]
 all_goals rfl
theorem mN_ {P : Program} {t : TypeId} {d : Nat} {ts : List T} {k : IntKind} (hu : P.underlying t = some (.int k)) (kt : ax_ P t = 10) (h : Shp P d t ts) : ∃ n : Int, ts = [.int k n] ∧ (Lit.int k n).wf = true := by
 cases d with
 | zero => exact h.elim
 | succ d =>
  rcases h with h | h | h | h | h
  ·rw [kt] at h; exact absurd h.1 (by decide)
  ·obtain ⟨_, k', n, h1, h2, h3⟩ := h
   rw [hu] at h1
   injection h1 with h1; injection h1 with h1; subst h1
   exact ⟨n, h2, h3⟩
  ·rw [kt] at h; exact absurd h.1 (by decide)
  ·rw [kt] at h; exact absurd h.1 (by decide)
  ·rw [kt] at h; exact absurd h.1 (by decide)
theorem l0_ {d : Nat} {ts : List T} (h : Shp Go.Proofs.Try.prog d 43 ts) : ∃ x : Sl (Iv .u8), ts = [Sl.t x] ∧ FitS maxLen (fun y : Iv .u8 => 0 ≤ y.v ∧ y.v ≤ 255) x :=
 qc_ (e := 5) (kt := by kernel_rfl) (he := by kernel_rfl) (fun d ts h => by
  obtain ⟨n, rfl, h2⟩ := mN_ (k := .u8) (by kernel_rfl) (by kernel_rfl) h
  exact ⟨⟨n⟩, rfl, by have h2 := h2; simp only [Lit.wf, Bool.and_eq_true, decide_eq_true_eq] at h2; exact h2⟩) h
theorem law_FnCursors {fu0 : Nat} {t0 : T} (h0 : Shp Go.Proofs.Try.prog fu0 43 [t0]) : ∃ σ', run Go.Proofs.Try.prog md ext 11 [t0] St.empty = some (.bool true, σ') := by
 obtain ⟨a, e0, ha⟩ := l0_ h0
 injection e0 with e0; subst e0
 exact ⟨_, eU_ (iZ_ a ha.2) St.empty⟩
end Go.Am
end
