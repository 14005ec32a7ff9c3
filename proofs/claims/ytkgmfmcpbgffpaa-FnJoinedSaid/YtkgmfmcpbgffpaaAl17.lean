/- The law. -/
import Derived.Test.YtkgmfmcpbgffpaaAg0
import Derived.Test.YtkgmfmcpbgffpaaAm6
section
set_option maxRecDepth 100000
set_option maxHeartbeats 1000000
set_option linter.unusedVariables false
set_option linter.unusedSimpArgs false
namespace Go.Am
def Bys (a : Sl (Iv .u8)) : Prop := (∀ x ∈ a.l, 0 ≤ x.v ∧ x.v ≤ 255) ∧ a.l.length ≤ 1048580
def cP_ (s : ae_) (k : Nat) : Prop := Bys s.code_ ∧ 0 ≤ s.at_ ∧ s.at_ ≤ k ∧ k ≤ 1000000000
theorem sf_ (x : Int) : 0 ≤ andI .u64 x 255 ∧ andI .u64 x 255 ≤ 255 := by
 have h : (BitVec.ofInt 64 x &&& BitVec.ofInt 64 255).toNat ≤ 255 := by
  rw [BitVec.toNat_and]
  exact Nat.and_le_right
 have e : andI .u64 x 255 = ((BitVec.ofInt 64 x &&& BitVec.ofInt 64 255).toNat : Int) := by
  show IntKind.u64.wrap _ = _
  simp only [w4, IntKind.wrap]
  show (((BitVec.ofInt 64 x &&& BitVec.ofInt 64 255).toNat : Int)) % (2 ^ 64) = _
  omega
 rw [e]; omega
theorem rs_ {s : ae_} {k : Nat} (h : cP_ s k) (hk : k + 1 ≤ 1000000000) : ∃ n s', bw_ s = some (n, s') ∧ 0 ≤ n ∧ n ≤ 255 ∧ cP_ s' (k + 1) := by
 obtain ⟨⟨h1, h2⟩, h3, h4, h5⟩ := h
 obtain ⟨c, a, sd⟩ := s
 simp only at h1 h2 h3 h4
 have w : w4 (a + 1) = a + 1 := a4_ (by omega) (by omega)
 have hn : ∃ n, (if (decide (a < (c.l.length : Int))) = true then ((elt c a).bind fun y2 => (some (w4 y2.v))) else (some 0) : Option Int) = some n ∧ 0 ≤ n ∧ n ≤ 255 := by
  by_cases ha : a < (c.l.length : Int)
  ·obtain ⟨i, rfl⟩ : ∃ i : Nat, a = i := ⟨a.toNat, by omega⟩
   have hlt : i < c.l.length := by omega
   have := h1 _ (List.getElem_mem hlt)
   rw [if_pos (by simpa using ha), bm_ hlt, Option.bind_some, a4_ (by omega) (by omega)]
   exact ⟨_, rfl, this⟩
  ·rw [if_neg (by simpa using ha)]; exact ⟨0, rfl, by omega, by omega⟩
 obtain ⟨n, hn, n0, n1⟩ := hn
 unfold bw_
 simp only
 rw [hn, Option.bind_some, w]
 by_cases ha : a + 1 ≤ (c.l.length : Int)
 ·rw [if_pos (by simpa using ha)]
  exact ⟨_, _, rfl, n0, n1, ⟨h1, h2⟩, by show 0 ≤ a + 1; omega, by show a + 1 ≤ ((k + 1 : Nat) : Int); omega, hk⟩
 ·rw [if_neg (by simpa using ha)]
  have := sf_ ((IntKind.u64.wrap ((IntKind.u64.wrap ((IntKind.u64.wrap (sd * 6364136223846793005)) + (IntKind.u64.wrap n))) + 1442695040888963407)).fdiv (2 ^ 40))
  refine ⟨_, _, rfl, ?_, ?_, ⟨h1, h2⟩, by show 0 ≤ a + 1; omega, by show a + 1 ≤ ((k + 1 : Nat) : Int); omega, hk⟩
  ·rw [a4_ (by omega) (by omega)]; omega
  ·rw [a4_ (by omega) (by omega)]; omega
theorem gF_ {s : ae_} {k : Nat} (n : Int) (h : cP_ s k) (hk : k + 1 ≤ 1000000000) (h1 : 1 ≤ n) (h2 : n ≤ 200) : ∃ m s', aG_ s n = some (m, s') ∧ 0 ≤ m ∧ m < n ∧ cP_ s' (k + 1) := by
 unfold aG_
 by_cases hn : n ≤ 1
 ·rw [if_pos (by simpa using hn)]
  exact ⟨0, s, rfl, by omega, by omega, h.1, h.2.1, by have := h.2.2.1; omega, hk⟩
 ·rw [if_neg (by simpa using hn)]
  obtain ⟨m, s', q1, q2, q3, q4⟩ := rs_ h hk
  rw [q1, Option.bind_some, if_neg (by simp; omega)]
  have : m.tmod n = m % n := Int.tmod_eq_emod_of_nonneg q2
  refine ⟨m % n, s', ?_, Int.emod_nonneg _ (by omega), Int.emod_lt_of_pos _ (by omega), q4⟩
  unfold remI
  rw [if_neg (by omega), this]; rfl
theorem mM_ {s : ae_} {k : Nat} (n : Int) (h : cP_ s k) (hk : k + 1 ≤ 1000000000) (h1 : 1 ≤ n) (h2 : n ≤ 200) : ∃ b s', aX_ s n = some (b, s') ∧ cP_ s' (k + 1) := by
 obtain ⟨m, s', q1, q2, q3, q4⟩ := gF_ n h hk h1 h2
 unfold aX_
 rw [q1]
 exact ⟨_, s', rfl, q4⟩
theorem lC_ {s : ae_} {k : Nat} (l : Sl ByteArray) (h : cP_ s k) (hk : k + 1 ≤ 1000000000) (h1 : 1 ≤ l.l.length) (h2 : l.l.length ≤ 200) : ∃ x s', aO_ s l = some (x, s', l) ∧ x ∈ l.l ∧ cP_ s' (k + 1) := by
 obtain ⟨m, s', q1, q2, q3, q4⟩ := gF_ (l.l.length : Int) h hk (by omega) (by omega)
 unfold aO_
 obtain ⟨i, rfl⟩ : ∃ i : Nat, m = i := ⟨m.toNat, by omega⟩
 have hlt : i < l.l.length := by omega
 rw [q1, Option.bind_some, bm_ hlt]
 exact ⟨_, s', rfl, List.getElem_mem hlt, q4⟩
theorem j8_ {l : List ByteArray} {a b : Nat} (x : ByteArray) (hx : x ∈ l) (h : (l.all fun x => Nat.ble a x.size && Nat.ble x.size b) = true) : a ≤ x.size ∧ x.size ≤ b := by
 have := List.all_eq_true.1 h x hx
 simp only [Bool.and_eq_true] at this
 exact ⟨Nat.le_of_ble_eq_true this.1, Nat.le_of_ble_eq_true this.2⟩
theorem mx_ {s : ae_} {k : Nat} (h : cP_ s k) (hk : k + 1 ≤ 1000000000) : ∃ x s', bd_ s = some (x, s') ∧ 1 ≤ x.size ∧ x.size ≤ 3 ∧ cP_ s' (k + 1) := by
 unfold bd_
 obtain ⟨x, s', q1, q2, q3⟩ := lC_ (l := ⟨false, [⟨#[97]⟩, ⟨#[98]⟩, ⟨#[97, 98]⟩, ⟨#[98, 97]⟩, ⟨#[97, 98, 99]⟩, ⟨#[40]⟩, ⟨#[41]⟩, ⟨#[40, 41]⟩, ⟨#[120]⟩, ⟨#[97, 97]⟩, ⟨#[99]⟩, ⟨#[34]⟩, ⟨#[97, 34, 98]⟩, ⟨#[0]⟩, ⟨#[120, 121]⟩, ⟨#[98, 99]⟩]⟩) h hk (by decide) (by decide)
 rw [q1]
 have hx := j8_ (a := 1) (b := 3) x q2 (by kernel_rfl)
 exact ⟨x, s', rfl, hx.1, hx.2, q3⟩
theorem subject_loop : ∀ (m : Nat) (x : ByteArray) (c : Sl (Iv .u8)) (a sd : Int) (k : Nat), cP_ ⟨c, a, sd⟩ k → k + m + 1 ≤ 1000000000 → x.size + 3 * m ≤ 1000 → m ≤ 100 →
  ∃ x' c' a' sd', az_ (S := (ByteArray × Int × (Sl (Iv .u8)) × Int × Int)) (R := (ByteArray × (Sl (Iv .u8)) × Int × Int)) (fun st1 => (if (decide (0 < st1.2.1)) = true then ((bd_ (⟨st1.2.2.1, st1.2.2.2.1, st1.2.2.2.2⟩ : ae_)).bind fun y5 => ((catB st1.1 y5.1).bind fun y6 => (some (.inl (y6, (w4 (st1.2.1 - 1)), y5.2.code_, y5.2.at_, y5.2.seed_))))) else (some (.inr (st1.1, st1.2.2.1, st1.2.2.2.1, st1.2.2.2.2))))) (x, (m : Int), c, a, sd) = some (x', c', a', sd') ∧ x'.size ≤ x.size + 3 * m ∧ cP_ ⟨c', a', sd'⟩ (k + m)
 | 0, x, c, a, sd, k, h, _, _, _ => ⟨x, c, a, sd, aj_ (by simp), by omega, h⟩
 | m + 1, x, c, a, sd, k, h, hk, hx, hm => by
  obtain ⟨y, s', q1, q2, q3, q4⟩ := mx_ h (by omega)
  obtain ⟨x', c', a', sd', r1, r2, r3⟩ := subject_loop m (x ++ y) s'.code_ s'.at_ s'.seed_ (k + 1) q4 (by omega) (by rw [ByteArray.size_append]; omega) (by omega)
  refine ⟨x', c', a', sd', au_ ?_ r1, by rw [ByteArray.size_append] at r2; omega, by rw [show k + (m + 1) = k + 1 + m by omega]; exact r3⟩
  have w : w4 (((m + 1 : Nat) : Int) - 1) = m := by rw [a4_ (by omega) (by omega)]; simp
  simp only
  rw [if_pos (by simp), q1, Option.bind_some]
  unfold catB
  rw [if_pos (by show x.size + y.size ≤ _; omega), Option.bind_some, w]
theorem nx_ (c : Sl (Iv .u8)) (h : Bys c) : ∃ x, dW_ c = some x ∧ x.size ≤ 15 := by
 suffices H : ∃ x s', cd_ ⟨c, 0, 0⟩ = some (x, s') ∧ x.size ≤ 15 by
  obtain ⟨x, s', q1, q2⟩ := H
  refine ⟨x, hX_ _ _ ?_, q2⟩
  unfold dV_; rw [q1]; rfl
 have h0 : cP_ ⟨c, 0, 0⟩ 0 := ⟨h, Int.le_refl _, Int.le_refl _, by decide⟩
 obtain ⟨b, s1, q1, q2⟩ := mM_ 4 h0 (by decide) (by decide) (by decide)
 unfold cd_
 rw [q1, Option.bind_some]
 cases b with
 | true =>
  rw [if_pos rfl]
  obtain ⟨x, s', r1, r2, r3⟩ := lC_ (l := ⟨false, [⟨#[]⟩, ⟨#[97]⟩, ⟨#[97, 98]⟩, ⟨#[40, 97, 41, 40, 98, 41]⟩, ⟨#[40, 40, 97, 41, 98, 41]⟩, ⟨#[97, 97, 97, 97]⟩, ⟨#[97, 98, 99, 97, 98, 99]⟩, ⟨#[120, 40, 121]⟩, ⟨#[41, 40]⟩, ⟨#[97, 98, 34, 99]⟩]⟩) q2 (by decide) (by decide) (by decide)
  rw [r1]
  exact ⟨x, s', rfl, Nat.le_trans (j8_ (a := 0) (b := 6) x r2 (by kernel_rfl)).2 (by omega)⟩
 | false =>
  rw [if_neg (by simp)]
  obtain ⟨m, s2, r1, r2, r3, r4⟩ := gF_ 6 q2 (by decide) (by decide) (by decide)
  obtain ⟨n, rfl⟩ : ∃ n : Nat, m = n := ⟨m.toNat, by omega⟩
  obtain ⟨x', c', a', sd', t1, t2, t3⟩ := subject_loop n ⟨#[]⟩ s2.code_ s2.at_ s2.seed_ _ r4 (by omega) (by show (0 : Nat) + _ ≤ _; omega) (by omega)
  rw [r1, Option.bind_some, t1]
  exact ⟨x', _, rfl, by have : (⟨#[]⟩ : ByteArray).size = 0 := rfl; omega⟩
theorem mP_ (i : Int) (a : Sl (Iv .u8)) (h : ∀ x ∈ a.l, 0 ≤ x.v ∧ x.v ≤ 255) (hl : a.l.length ≤ 1048576) : ∃ b, c4_ i a = some b ∧ Bys b := by
 have hw : 0 ≤ IntKind.u8.wrap i ∧ IntKind.u8.wrap i ≤ 255 := by
  simp only [w4, IntKind.wrap, IntKind.signed, IntKind.bits, Bool.false_and, Bool.false_eq_true, if_false]
  omega
 suffices H : ∃ b, appS 1 ((⟨false, [⟨IntKind.u8.wrap i⟩]⟩ : Sl (Iv .u8))) a = some b ∧ Bys b by
  obtain ⟨b, q1, q2⟩ := H
  refine ⟨b, kM_ _ _ _ ?_, q2⟩
  unfold gb_; rw [q1]; rfl
 obtain ⟨z, l⟩ := a
 unfold appS
 cases l with
 | nil => exact ⟨_, rfl, fun x hx => by simp at hx; rw [hx]; exact hw, by simp⟩
 | cons y l =>
  simp only at h hl
  refine ⟨⟨false, [⟨IntKind.u8.wrap i⟩] ++ (y :: l)⟩, by rw [if_pos (by simp at hl ⊢; omega)], fun x hx => ?_, by simp at hl ⊢; omega⟩
  simp only [List.cons_append, List.nil_append, List.mem_cons] at hx
  rcases hx with rfl | hx
  ·exact hw
  ·exact h x (List.mem_cons.2 hx)
end Go.Am
end
