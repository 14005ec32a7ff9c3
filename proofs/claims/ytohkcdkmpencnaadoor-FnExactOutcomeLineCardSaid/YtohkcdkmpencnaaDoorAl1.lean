/- The law. -/
import Derived.Test.YtohkcdkmpencnaaDoorAg0
import Derived.Test.YtohkcdkmpencnaaDoorAl0
section
set_option maxRecDepth 100000
set_option maxHeartbeats 2000000
set_option linter.unusedVariables false
set_option linter.unusedSimpArgs false
namespace Go.Am
open Go
def I64 (n : Int) : Prop := -9223372036854775808 ≤ n ∧ n ≤ 9223372036854775807
theorem dec_len (u : Nat) (h : u ≤ 9223372036854775808) : 1 ≤ (Lib.decDigits u).length ∧ (Lib.decDigits u).length ≤ 19 := by
  refine ⟨by rw [Lib.decDigits]; split <;> simp, ?_⟩
  by_cases h0 : u = 0
  · subst h0; rw [Lib.decDigits, dif_pos (by omega)]; simp
  · have : dd u = Lib.decDigits u := by unfold dd; rw [if_neg h0]
    rw [← this]; exact dd_len _ 19 (by omega)
theorem itoa_le (n : Int) (h : I64 n) : 1 ≤ (Lib.itoa n).length ∧ (Lib.itoa n).length ≤ 20 := by
  obtain ⟨h0, h1⟩ := h
  unfold Lib.itoa
  split
  · have := dec_len n.natAbs (by omega); simp only [List.length_cons]; omega
  · have := dec_len n.toNat (by omega); omega
theorem dig11 : ∀ u : Nat, u ≤ 9223372036854775807 → F_spec_l11Digits (u : Int) = some (bs (Lib.decDigits u)) := by
  intro u
  induction u using Nat.strongRecOn with
  | _ u ih =>
    intro hu
    refine u_spec_l11Digits _ _ ?_
    unfold B_spec_l11Digits
    by_cases h9 : u < 10
    · rw [if_pos (by simp; omega), digit_str (d := u) (by omega), Lib.decDigits, dif_pos h9]; rfl
    · have e1 : IntKind.i64.wrap ((u : Int).tdiv 10) = ((u / 10 : Nat) : Int) := by rw [Int.tdiv_eq_ediv_of_nonneg (by omega), wrap_id (by omega) (by omega)]; omega
      have e2 : (u : Int).tmod 10 = ((u % 10 : Nat) : Int) := by rw [Int.tmod_eq_emod_of_nonneg (by omega)]; omega
      have hl := (dec_len (u / 10) (by omega)).2
      rw [if_neg (by simp; omega), e1, ih (u / 10) (by omega) (by omega), Option.bind_some, e2, digit_str (by omega), Option.bind_some, cat_bs (by simp only [List.length_singleton]; omega)]
      conv => rhs; rw [Lib.decDigits, dif_neg h9]
      rfl
theorem dig16 : ∀ u : Nat, 1 ≤ u → u ≤ 9223372036854775808 → F_spec_l16Below (-(u : Int)) = some (bs (Lib.decDigits u)) := by
  intro u
  induction u using Nat.strongRecOn with
  | _ u ih =>
    intro h0 hu
    refine u_spec_l16Below _ _ ?_
    unfold B_spec_l16Below
    have e2 : (u : Int).tmod 10 = ((u % 10 : Nat) : Int) := by rw [Int.tmod_eq_emod_of_nonneg (by omega)]; omega
    have e3 : (48 : Int) - (-(u : Int)).tmod 10 = 48 + ((u % 10 : Nat) : Int) := by rw [Int.neg_tmod, e2]; omega
    rw [e3, digit_str (by omega), Option.bind_some]
    by_cases h9 : u < 10
    · rw [if_pos (by simp; omega), Lib.decDigits, dif_pos h9, show u % 10 = u by omega]
    · have e1 : IntKind.i64.wrap ((-(u : Int)).tdiv 10) = -((u / 10 : Nat) : Int) := by rw [Int.neg_tdiv, Int.tdiv_eq_ediv_of_nonneg (by omega), wrap_id (by omega) (by omega)]; omega
      have hl := (dec_len (u / 10) (by omega)).2
      rw [if_neg (by simp; omega), e1, ih (u / 10) (by omega) (by omega) (by omega), Option.bind_some, cat_bs (by simp only [List.length_singleton]; omega)]
      conv => rhs; rw [Lib.decDigits, dif_neg h9]
      rfl
theorem digits16 (n : Int) (h : I64 n) : F_spec_l16Digits n = some (bs (Lib.itoa n)) := by
  obtain ⟨h0, h1⟩ := h
  refine u_spec_l16Digits n _ ?_
  unfold B_spec_l16Digits Lib.itoa
  by_cases hn : n < 0
  · have hl := (dec_len n.natAbs (by omega)).2
    have e : F_spec_l16Below n = some (bs (Lib.decDigits n.natAbs)) := by
      have := dig16 n.natAbs (by omega) (by omega)
      rw [show -(n.natAbs : Int) = n by omega] at this; exact this
    have := cat_bs (a := [45]) (b := Lib.decDigits n.natAbs) (by simp only [List.length_singleton]; omega)
    have e1 : bs [45] = (⟨#[45]⟩ : ByteArray) := rfl
    rw [e1] at this
    rw [if_pos (by simpa using hn), e, Option.bind_some, this, if_pos hn]; rfl
  · have e : F_spec_l11Digits n = some (bs (Lib.decDigits n.toNat)) := by
      have := dig11 n.toNat (by omega)
      rw [show (n.toNat : Int) = n by omega] at this; exact this
    rw [if_neg (by simpa using hn), e, if_neg hn]; rfl
theorem decim (n : Int) (h : I64 n) : F_impl_decimal n = some (bs (Lib.itoa n)) := by
  refine u_impl_decimal n _ ?_
  unfold B_impl_decimal
  have : F_strconv_FormatInt n 10 = some (bs (Lib.itoa n)) := u_strconv_FormatInt n 10 _ (by unfold B_strconv_FormatInt fmtB; rw [if_pos ⟨rfl, h.1, h.2⟩])
  rw [this]; rfl
end Go.Am
end
