/- The law. -/
import Derived.Test.YtohkcdkmpencnaaAg0
import Derived.Test.YtohkcdkmpencnaaAm5
section
set_option maxRecDepth 100000
set_option maxHeartbeats 1000000
set_option linter.unusedVariables false
set_option linter.unusedSimpArgs false
namespace Go.Am
def Bys (a : Sl (Iv .u8)) : Prop := (∀ x ∈ a.l, 0 ≤ x.v ∧ x.v ≤ 255) ∧ a.l.length ≤ 1048580
def bR_ (s : ab_) (k : Nat) : Prop := Bys s.code_ ∧ 0 ≤ s.at_ ∧ s.at_ ≤ k ∧ k ≤ 1000000000
theorem l6_ (x : Int) : 0 ≤ andI .u64 x 255 ∧ andI .u64 x 255 ≤ 255 := by
 have h : (BitVec.ofInt 64 x &&& BitVec.ofInt 64 255).toNat ≤ 255 := by
  rw [BitVec.toNat_and]
  exact Nat.and_le_right
 have e : andI .u64 x 255 = ((BitVec.ofInt 64 x &&& BitVec.ofInt 64 255).toNat : Int) := by
  show IntKind.u64.wrap _ = _
  simp only [w4, IntKind.wrap]
  show (((BitVec.ofInt 64 x &&& BitVec.ofInt 64 255).toNat : Int)) % (2 ^ 64) = _
  omega
 rw [e]; omega
theorem lL_ {s : ab_} {k : Nat} (h : bR_ s k) (hk : k + 1 ≤ 1000000000) : ∃ n s', aF_ s = some (n, s') ∧ 0 ≤ n ∧ n ≤ 255 ∧ bR_ s' (k + 1) := by
 obtain ⟨⟨h1, h2⟩, h3, h4, h5⟩ := h
 obtain ⟨c, a, sd⟩ := s
 simp only at h1 h2 h3 h4
 have w : w4 (a + 1) = a + 1 := do_ (by omega) (by omega)
 have hn : ∃ n, (if (decide (a < (c.l.length : Int))) = true then ((elt c a).bind fun y2 => (some (w4 y2.v))) else (some 0) : Option Int) = some n ∧ 0 ≤ n ∧ n ≤ 255 := by
  by_cases ha : a < (c.l.length : Int)
  ·obtain ⟨i, rfl⟩ : ∃ i : Nat, a = i := ⟨a.toNat, by omega⟩
   have hlt : i < c.l.length := by omega
   have := h1 _ (List.getElem_mem hlt)
   rw [if_pos (by simpa using ha), bA_ hlt, Option.bind_some, do_ (by omega) (by omega)]
   exact ⟨_, rfl, this⟩
  ·rw [if_neg (by simpa using ha)]; exact ⟨0, rfl, by omega, by omega⟩
 obtain ⟨n, hn, n0, n1⟩ := hn
 unfold aF_
 simp only
 rw [hn, Option.bind_some, w]
 by_cases ha : a + 1 ≤ (c.l.length : Int)
 ·rw [if_pos (by simpa using ha)]
  exact ⟨_, _, rfl, n0, n1, ⟨h1, h2⟩, by show 0 ≤ a + 1; omega, by show a + 1 ≤ ((k + 1 : Nat) : Int); omega, hk⟩
 ·rw [if_neg (by simpa using ha)]
  have := l6_ ((IntKind.u64.wrap ((IntKind.u64.wrap ((IntKind.u64.wrap (sd * 6364136223846793005)) + (IntKind.u64.wrap n))) + 1442695040888963407)).fdiv (2 ^ 40))
  refine ⟨_, _, rfl, ?_, ?_, ⟨h1, h2⟩, by show 0 ≤ a + 1; omega, by show a + 1 ≤ ((k + 1 : Nat) : Int); omega, hk⟩
  ·rw [do_ (by omega) (by omega)]; omega
  ·rw [do_ (by omega) (by omega)]; omega
theorem br_ {s : ab_} {k : Nat} (n : Int) (h : bR_ s k) (hk : k + 1 ≤ 1000000000) (h1 : 1 ≤ n) (h2 : n ≤ 200) : ∃ m s', ac_ s n = some (m, s') ∧ 0 ≤ m ∧ m < n ∧ bR_ s' (k + 1) := by
 unfold ac_
 by_cases hn : n ≤ 1
 ·rw [if_pos (by simpa using hn)]
  exact ⟨0, s, rfl, by omega, by omega, h.1, h.2.1, by have := h.2.2.1; omega, hk⟩
 ·rw [if_neg (by simpa using hn)]
  obtain ⟨m, s', q1, q2, q3, q4⟩ := lL_ h hk
  rw [q1, Option.bind_some, if_neg (by simp; omega)]
  have : m.tmod n = m % n := Int.tmod_eq_emod_of_nonneg q2
  refine ⟨m % n, s', ?_, Int.emod_nonneg _ (by omega), Int.emod_lt_of_pos _ (by omega), q4⟩
  unfold remI
  rw [if_neg (by omega), this]; rfl
theorem id_ {s : ab_} {k : Nat} (n : Int) (h : bR_ s k) (hk : k + 1 ≤ 1000000000) (h1 : 1 ≤ n) (h2 : n ≤ 200) : ∃ b s', ax_ s n = some (b, s') ∧ bR_ s' (k + 1) := by
 obtain ⟨m, s', q1, q2, q3, q4⟩ := br_ n h hk h1 h2
 unfold ax_
 rw [q1]
 exact ⟨_, s', rfl, q4⟩
theorem jS_ {s : ab_} {k : Nat} (l : Sl ByteArray) (h : bR_ s k) (hk : k + 1 ≤ 1000000000) (h1 : 1 ≤ l.l.length) (h2 : l.l.length ≤ 200) : ∃ x s', aG_ s l = some (x, s', l) ∧ x ∈ l.l ∧ bR_ s' (k + 1) := by
 obtain ⟨m, s', q1, q2, q3, q4⟩ := br_ (l.l.length : Int) h hk (by omega) (by omega)
 unfold aG_
 obtain ⟨i, rfl⟩ : ∃ i : Nat, m = i := ⟨m.toNat, by omega⟩
 have hlt : i < l.l.length := by omega
 rw [q1, Option.bind_some, bA_ hlt]
 exact ⟨_, s', rfl, List.getElem_mem hlt, q4⟩
theorem hn_ {l : List ByteArray} {a b : Nat} (x : ByteArray) (hx : x ∈ l) (h : (l.all fun x => Nat.ble a x.size && Nat.ble x.size b) = true) : a ≤ x.size ∧ x.size ≤ b := by
 have := List.all_eq_true.1 h x hx
 simp only [Bool.and_eq_true] at this
 exact ⟨Nat.le_of_ble_eq_true this.1, Nat.le_of_ble_eq_true this.2⟩
end Go.Am
end
