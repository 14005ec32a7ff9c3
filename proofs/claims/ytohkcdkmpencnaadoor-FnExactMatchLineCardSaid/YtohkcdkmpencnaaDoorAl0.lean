/- The law. -/
import Derived.Test.YtohkcdkmpencnaaDoorAd0
import Derived.Test.YtohkcdkmpencnaaDoorAm5
import Derived.Test.YtohkcdkmpencnaaDoorAm6
import Derived.Lib.CountLaws
section
set_option maxRecDepth 100000
set_option maxHeartbeats 1000000
set_option linter.unusedVariables false
set_option linter.unusedSimpArgs false
namespace Go.Am
open Go
abbrev bs (l : List UInt8) : ByteArray := ⟨l.toArray⟩
theorem bs_app (a b : List UInt8) : bs a ++ bs b = bs (a ++ b) := by
  apply ByteArray.ext
  simp [ByteArray.data_append]
theorem bs_size (a : List UInt8) : (bs a).size = a.length := by
  show a.toArray.size = _; simp
theorem cat_bs {a b : List UInt8} (h : a.length + b.length ≤ 9223372036854775807) : catB (bs a) (bs b) = some (bs (a ++ b)) := by
  unfold catB
  rw [if_pos (by rw [bs_size, bs_size]; exact h), bs_app]
def dd (u : Nat) : List UInt8 := if u = 0 then [] else Lib.decDigits u
theorem dd_step {u : Nat} (h : u ≠ 0) : dd u = dd (u / 10) ++ [UInt8.ofNat (48 + u % 10)] := by
  unfold dd
  rw [if_neg h, Lib.decDigits]
  by_cases h1 : u < 10
  · rw [dif_pos h1, if_pos (by omega), show u % 10 = u by omega]; rfl
  · rw [dif_neg h1, if_neg (by omega)]
theorem dd_len (u k : Nat) (h : u < 10 ^ k) : (dd u).length ≤ k := by
  induction k generalizing u with
  | zero => have : u = 0 := by simpa using h
            subst this; simp [dd]
  | succ k ih =>
    by_cases h0 : u = 0
    · subst h0; simp [dd]
    · rw [dd_step h0, List.length_append, List.length_singleton]
      have := ih (u / 10) (by rw [Nat.pow_succ] at h; omega)
      omega
theorem wrap_u8 {n : Int} (h0 : 0 ≤ n) (h1 : n < 256) : IntKind.u8.wrap n = n := by
  simp only [IntKind.wrap, IntKind.signed, IntKind.bits]
  simp
  omega
theorem digit_str {d : Nat} (h : d ≤ 9) : strS ((⟨false, [⟨(IntKind.u8.wrap (IntKind.i64.wrap (48 + (d : Int))))⟩]⟩ : Sl (Iv .u8))) = some (bs [UInt8.ofNat (48 + d)]) := by
  unfold strS
  rw [wrapB (by omega) (by omega), wrap_u8 (by omega) (by omega)]
  simp only [ofIv]
  rw [if_pos ⟨by omega, by omega⟩]
  simp only [Option.map_some]
  rw [show ((48 + (d : Int)).toNat) = 48 + d by omega]
def dbl : List UInt8 → List UInt8
  | [] => []
  | b :: l => (if b = 34 then [34, 34] else [b]) ++ dbl l
theorem dbl_len : ∀ l : List UInt8, (dbl l).length ≤ 2 * l.length
  | [] => by simp [dbl]
  | b :: l => by
    have := dbl_len l
    simp only [dbl, List.length_append, List.length_cons]
    split <;> simp <;> omega
theorem pre34 (b : UInt8) (l : List UInt8) : ([34] : List UInt8).isPrefixOf (b :: l) = decide (b = 34) := by
  simp only [List.isPrefixOf, Bool.and_true]
  rw [Bool.eq_iff_iff]; simp; exact eq_comm
theorem idx_none : ∀ s : List UInt8, Lib.index s [34] = -1 → dbl s = s
  | [], _ => rfl
  | b :: l, h => by
    rw [Lib.index, pre34] at h
    by_cases hb : b = 34
    · rw [if_pos (by simpa using hb)] at h; cases h
    · rw [if_neg (by simpa using hb)] at h
      have := Lib.index_ge l [34]
      by_cases hl : Lib.index l [34] = -1
      · simp only [dbl, if_neg hb, idx_none l hl]; rfl
      · rw [if_neg (by simpa using hl)] at h; omega
theorem idx_some : ∀ (s : List UInt8) (i : Nat), Lib.index s [34] = i → dbl s = s.take i ++ [34, 34] ++ dbl (s.drop (i + 1))
  | [], i, h => by simp [Lib.index] at h
  | b :: l, i, h => by
    rw [Lib.index, pre34] at h
    by_cases hb : b = 34
    · rw [if_pos (by simpa using hb)] at h
      have : i = 0 := by omega
      subst this; subst hb; rfl
    · rw [if_neg (by simpa using hb)] at h
      have := Lib.index_ge l [34]
      by_cases hl : Lib.index l [34] = -1
      · rw [if_pos (by simpa using hl)] at h; omega
      · rw [if_neg (by simpa using hl)] at h
        match i, h with
        | 0, h => omega
        | i + 1, h =>
          have := idx_some l i (by omega)
          simp only [dbl, if_neg hb, this, List.take_succ_cons, List.drop_succ_cons]; rfl
theorem rep_dbl : ∀ (k : Nat) (s : List UInt8), Lib.count s [34] = k → Lib.replaceK [34] [34, 34] k s = dbl s
  | 0, s, h => by
    have hge := Lib.index_ge s [34]
    by_cases hi : Lib.index s [34] = -1
    · rw [idx_none s hi]; rfl
    · obtain ⟨i, hi'⟩ : ∃ i : Nat, Lib.index s [34] = i := ⟨(Lib.index s [34]).toNat, by omega⟩
      have := Lib.count_hit (sub := [34]) (by simp) hi'
      omega
  | k + 1, s, h => by
    obtain ⟨i, hi⟩ := Lib.index_of_count (s := s) (old := [34]) (by omega)
    have hc := Lib.count_hit (sub := [34]) (by simp) hi
    rw [Lib.replaceK_hit _ _ _ _ i hi, idx_some s i hi]
    congr 1
    exact rep_dbl k _ (by simp only [List.length_singleton] at hc ⊢; omega)
theorem repB_dbl {s : List UInt8} (h : s.length ≤ 10000000) : repB (bs s) (bs [34]) (bs [34, 34]) = some (bs (dbl s)) := by
  have hc : Lib.countB (bs s) (bs [34]) ≤ s.length + 1 := Lib.count_le s [34]
  unfold repB
  rw [if_pos ⟨by rw [bs_size]; omega, by decide, by
    have : (bs [34, 34]).size = 2 := rfl
    rw [bs_size, this]; omega⟩]
  have e : Lib.replaceAll s [34] [34, 34] = dbl s := by
    unfold Lib.replaceAll Lib.replace
    rw [if_neg (by decide)]
    unfold Lib.replaceNum
    rw [if_pos (.inl (by omega))]
    exact rep_dbl _ s rfl
  show some (bs (Lib.replaceAll s [34] [34, 34])) = _
  rw [e]
theorem bAt_bs {s : List UInt8} {i : Nat} (h : i < s.length) : bAt (bs s) i = (s[i].toNat : Int) := by
  unfold bAt
  rw [dif_pos (by rw [bs_size]; simpa using h)]; rfl
theorem byte_bs {s : List UInt8} {i : Nat} (h : i < s.length) : byteAt (bs s) i = some (s[i].toNat : Int) := by
  unfold byteAt
  rw [if_pos ⟨by omega, by rw [bs_size]; omega⟩, bAt_bs h]
end Go.Am
end
