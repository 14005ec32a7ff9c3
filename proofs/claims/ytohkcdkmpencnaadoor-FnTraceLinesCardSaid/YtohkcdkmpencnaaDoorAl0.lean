/- The law. -/
import Derived.Test.YtohkcdkmpencnaaDoorAg0
import Derived.Test.YtohkcdkmpencnaaDoorAm5
section
set_option maxRecDepth 100000
set_option maxHeartbeats 1000000
set_option linter.unusedVariables false
set_option linter.unusedSimpArgs false
namespace Go.Am
def Bys (a : Sl (Iv .u8)) : Prop := (∀ x ∈ a.l, 0 ≤ x.v ∧ x.v ≤ 255) ∧ a.l.length ≤ 1048580
def SrcOk (s : DL00Src) (k : Nat) : Prop := Bys s.code_ ∧ 0 ≤ s.at_ ∧ s.at_ ≤ k ∧ k ≤ 1000000000
theorem and_255 (x : Int) : 0 ≤ andI .u64 x 255 ∧ andI .u64 x 255 ≤ 255 := by
  have h : (BitVec.ofInt 64 x &&& BitVec.ofInt 64 255).toNat ≤ 255 := by
    rw [BitVec.toNat_and]
    exact Nat.and_le_right
  have e : andI .u64 x 255 = ((BitVec.ofInt 64 x &&& BitVec.ofInt 64 255).toNat : Int) := by
    show IntKind.u64.wrap _ = _
    simp only [IntKind.wrap]
    show (((BitVec.ofInt 64 x &&& BitVec.ofInt 64 255).toNat : Int)) % (2 ^ 64) = _
    omega
  rw [e]; omega
theorem next_ok {s : DL00Src} {k : Nat} (h : SrcOk s k) (hk : k + 1 ≤ 1000000000) : ∃ n s', B_spec_l00Src_next s = some (n, s') ∧ 0 ≤ n ∧ n ≤ 255 ∧ SrcOk s' (k + 1) := by
  obtain ⟨⟨h1, h2⟩, h3, h4, h5⟩ := h
  obtain ⟨c, a, sd⟩ := s
  simp only at h1 h2 h3 h4
  have w : IntKind.i64.wrap (a + 1) = a + 1 := wrapB (by omega) (by omega)
  have hn : ∃ n, (if (decide (a < (c.l.length : Int))) = true then ((elt c a).bind fun y2 => (some (IntKind.i64.wrap y2.v))) else (some 0) : Option Int) = some n ∧ 0 ≤ n ∧ n ≤ 255 := by
    by_cases ha : a < (c.l.length : Int)
    · obtain ⟨i, rfl⟩ : ∃ i : Nat, a = i := ⟨a.toNat, by omega⟩
      have hlt : i < c.l.length := by omega
      have := h1 _ (List.getElem_mem hlt)
      rw [if_pos (by simpa using ha), elt_lt hlt, Option.bind_some, wrapB (by omega) (by omega)]
      exact ⟨_, rfl, this⟩
    · rw [if_neg (by simpa using ha)]; exact ⟨0, rfl, by omega, by omega⟩
  obtain ⟨n, hn, n0, n1⟩ := hn
  unfold B_spec_l00Src_next
  simp only
  rw [hn, Option.bind_some, w]
  by_cases ha : a + 1 ≤ (c.l.length : Int)
  · rw [if_pos (by simpa using ha)]
    exact ⟨_, _, rfl, n0, n1, ⟨h1, h2⟩, by show 0 ≤ a + 1; omega, by show a + 1 ≤ ((k + 1 : Nat) : Int); omega, hk⟩
  · rw [if_neg (by simpa using ha)]
    have := and_255 ((IntKind.u64.wrap ((IntKind.u64.wrap ((IntKind.u64.wrap (sd * 6364136223846793005)) + (IntKind.u64.wrap n))) + 1442695040888963407)).fdiv (2 ^ 40))
    refine ⟨_, _, rfl, ?_, ?_, ⟨h1, h2⟩, by show 0 ≤ a + 1; omega, by show a + 1 ≤ ((k + 1 : Nat) : Int); omega, hk⟩
    · rw [wrapB (by omega) (by omega)]; omega
    · rw [wrapB (by omega) (by omega)]; omega
theorem pick_ok {s : DL00Src} {k : Nat} (n : Int) (h : SrcOk s k) (hk : k + 1 ≤ 1000000000) (h1 : 1 ≤ n) (h2 : n ≤ 200) : ∃ m s', B_spec_l00Src_pick s n = some (m, s') ∧ 0 ≤ m ∧ m < n ∧ SrcOk s' (k + 1) := by
  unfold B_spec_l00Src_pick
  by_cases hn : n ≤ 1
  · rw [if_pos (by simpa using hn)]
    exact ⟨0, s, rfl, by omega, by omega, h.1, h.2.1, by have := h.2.2.1; omega, hk⟩
  · rw [if_neg (by simpa using hn)]
    obtain ⟨m, s', q1, q2, q3, q4⟩ := next_ok h hk
    rw [q1, Option.bind_some, if_neg (by simp; omega)]
    have : m.tmod n = m % n := Int.tmod_eq_emod_of_nonneg q2
    refine ⟨m % n, s', ?_, Int.emod_nonneg _ (by omega), Int.emod_lt_of_pos _ (by omega), q4⟩
    unfold remI
    rw [if_neg (by omega), this]; rfl
theorem one_ok {s : DL00Src} {k : Nat} (n : Int) (h : SrcOk s k) (hk : k + 1 ≤ 1000000000) (h1 : 1 ≤ n) (h2 : n ≤ 200) : ∃ b s', B_spec_l00Src_one s n = some (b, s') ∧ SrcOk s' (k + 1) := by
  obtain ⟨m, s', q1, q2, q3, q4⟩ := pick_ok n h hk h1 h2
  unfold B_spec_l00Src_one
  rw [q1]
  exact ⟨_, s', rfl, q4⟩
theorem text_ok {s : DL00Src} {k : Nat} (l : Sl ByteArray) (h : SrcOk s k) (hk : k + 1 ≤ 1000000000) (h1 : 1 ≤ l.l.length) (h2 : l.l.length ≤ 200) : ∃ x s', B_spec_l00Src_text s l = some (x, s', l) ∧ x ∈ l.l ∧ SrcOk s' (k + 1) := by
  obtain ⟨m, s', q1, q2, q3, q4⟩ := pick_ok (l.l.length : Int) h hk (by omega) (by omega)
  unfold B_spec_l00Src_text
  obtain ⟨i, rfl⟩ : ∃ i : Nat, m = i := ⟨m.toNat, by omega⟩
  have hlt : i < l.l.length := by omega
  rw [q1, Option.bind_some, elt_lt hlt]
  exact ⟨_, s', rfl, List.getElem_mem hlt, q4⟩
theorem all_mem {l : List ByteArray} {a b : Nat} (x : ByteArray) (hx : x ∈ l) (h : (l.all fun x => Nat.ble a x.size && Nat.ble x.size b) = true) : a ≤ x.size ∧ x.size ≤ b := by
  have := List.all_eq_true.1 h x hx
  simp only [Bool.and_eq_true] at this
  exact ⟨Nat.le_of_ble_eq_true this.1, Nat.le_of_ble_eq_true this.2⟩
end Go.Am
end
