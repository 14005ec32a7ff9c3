/- The law. -/
import Derived.Test.YtohkcdkmpencnaaDoorAg0
import Derived.Test.YtohkcdkmpencnaaDoorAl0
section
set_option maxRecDepth 100000
set_option maxHeartbeats 2000000
set_option linter.unusedVariables false
set_option linter.unusedSimpArgs false
namespace Go.Am
open Go
def I64 (n : Int) : Prop := -9223372036854775808 ≤ n ∧ n ≤ 9223372036854775807
theorem dec_len (u : Nat) (h : u ≤ 9223372036854775808) : 1 ≤ (Lib.decDigits u).length ∧ (Lib.decDigits u).length ≤ 19 := by
  refine ⟨by rw [Lib.decDigits]; split <;> simp, ?_⟩
  by_cases h0 : u = 0
  · subst h0; rw [Lib.decDigits, dif_pos (by omega)]; simp
  · have : dd u = Lib.decDigits u := by unfold dd; rw [if_neg h0]
    rw [← this]; exact dd_len _ 19 (by omega)
theorem itoa_le (n : Int) (h : I64 n) : 1 ≤ (Lib.itoa n).length ∧ (Lib.itoa n).length ≤ 20 := by
  obtain ⟨h0, h1⟩ := h
  unfold Lib.itoa
  split
  · have := dec_len n.natAbs (by omega); simp only [List.length_cons]; omega
  · have := dec_len n.toNat (by omega); omega
theorem dig11 : ∀ u : Nat, u ≤ 9223372036854775807 → F_spec_l11Digits (u : Int) = some (bs (Lib.decDigits u)) := by
  intro u
  induction u using Nat.strongRecOn with
  | _ u ih =>
    intro hu
    refine u_spec_l11Digits _ _ ?_
    unfold B_spec_l11Digits
    by_cases h9 : u < 10
    · rw [if_pos (by simp; omega), digit_str (d := u) (by omega), Lib.decDigits, dif_pos h9]; rfl
    · have e1 : IntKind.i64.wrap ((u : Int).tdiv 10) = ((u / 10 : Nat) : Int) := by rw [Int.tdiv_eq_ediv_of_nonneg (by omega), wrap_id (by omega) (by omega)]; omega
      have e2 : (u : Int).tmod 10 = ((u % 10 : Nat) : Int) := by rw [Int.tmod_eq_emod_of_nonneg (by omega)]; omega
      have hl := (dec_len (u / 10) (by omega)).2
      rw [if_neg (by simp; omega), e1, ih (u / 10) (by omega) (by omega), Option.bind_some, e2, digit_str (by omega), Option.bind_some, cat_bs (by simp only [List.length_singleton]; omega)]
      conv => rhs; rw [Lib.decDigits, dif_neg h9]
      rfl
theorem dig16 : ∀ u : Nat, 1 ≤ u → u ≤ 9223372036854775808 → F_spec_l16Below (-(u : Int)) = some (bs (Lib.decDigits u)) := by
  intro u
  induction u using Nat.strongRecOn with
  | _ u ih =>
    intro h0 hu
    refine u_spec_l16Below _ _ ?_
    unfold B_spec_l16Below
    have e2 : (u : Int).tmod 10 = ((u % 10 : Nat) : Int) := by rw [Int.tmod_eq_emod_of_nonneg (by omega)]; omega
    have e3 : (48 : Int) - (-(u : Int)).tmod 10 = 48 + ((u % 10 : Nat) : Int) := by rw [Int.neg_tmod, e2]; omega
    rw [e3, digit_str (by omega), Option.bind_some]
    by_cases h9 : u < 10
    · rw [if_pos (by simp; omega), Lib.decDigits, dif_pos h9, show u % 10 = u by omega]
    · have e1 : IntKind.i64.wrap ((-(u : Int)).tdiv 10) = -((u / 10 : Nat) : Int) := by rw [Int.neg_tdiv, Int.tdiv_eq_ediv_of_nonneg (by omega), wrap_id (by omega) (by omega)]; omega
      have hl := (dec_len (u / 10) (by omega)).2
      rw [if_neg (by simp; omega), e1, ih (u / 10) (by omega) (by omega) (by omega), Option.bind_some, cat_bs (by simp only [List.length_singleton]; omega)]
      conv => rhs; rw [Lib.decDigits, dif_neg h9]
      rfl
theorem digits16 (n : Int) (h : I64 n) : F_spec_l16Digits n = some (bs (Lib.itoa n)) := by
  obtain ⟨h0, h1⟩ := h
  refine u_spec_l16Digits n _ ?_
  unfold B_spec_l16Digits Lib.itoa
  by_cases hn : n < 0
  · have hl := (dec_len n.natAbs (by omega)).2
    have e : F_spec_l16Below n = some (bs (Lib.decDigits n.natAbs)) := by
      have := dig16 n.natAbs (by omega) (by omega)
      rw [show -(n.natAbs : Int) = n by omega] at this; exact this
    have := cat_bs (a := [45]) (b := Lib.decDigits n.natAbs) (by simp only [List.length_singleton]; omega)
    have e1 : bs [45] = (⟨#[45]⟩ : ByteArray) := rfl
    rw [e1] at this
    rw [if_pos (by simpa using hn), e, Option.bind_some, this, if_pos hn]; rfl
  · have e : F_spec_l11Digits n = some (bs (Lib.decDigits n.toNat)) := by
      have := dig11 n.toNat (by omega)
      rw [show (n.toNat : Int) = n by omega] at this; exact this
    rw [if_neg (by simpa using hn), e, if_neg hn]; rfl
theorem decim (n : Int) (h : I64 n) : F_impl_decimal n = some (bs (Lib.itoa n)) := by
  refine u_impl_decimal n _ ?_
  unfold B_impl_decimal
  have : F_strconv_FormatInt n 10 = some (bs (Lib.itoa n)) := u_strconv_FormatInt n 10 _ (by unfold B_strconv_FormatInt fmtB; rw [if_pos ⟨rfl, h.1, h.2⟩])
  rw [this]; rfl
theorem quoted2 (l : List UInt8) (h : l.length ≤ 1048576) : F_impl_QuoteText (bs l) = some (bs (34 :: dbl l ++ [34])) := by
  have hd := dbl_len l
  refine u_impl_QuoteText _ _ ?_
  unfold B_impl_QuoteText
  have e : F_strings_ReplaceAll (bs l) ⟨#[34]⟩ ⟨#[34, 34]⟩ = some (bs (dbl l)) := u_strings_ReplaceAll _ _ _ _ (repB_dbl (by omega))
  rw [e, Option.bind_some]
  have e1 : bs [34] = (⟨#[34]⟩ : ByteArray) := rfl
  have a1 := cat_bs (a := [34]) (b := dbl l) (by simp; omega)
  have a2 := cat_bs (a := [34] ++ dbl l) (b := [34]) (by simp; omega)
  rw [e1] at a1 a2
  rw [a1, Option.bind_some, a2]; rfl
def ivs (l : List UInt8) : List (Iv .u8) := l.map fun b => ⟨(b.toNat : Int)⟩
theorem ofIv_ivs : ∀ l : List UInt8, ofIv (ivs l) = some l
  | [] => rfl
  | b :: l => by
    have hb := b.toNat_lt
    show ofIv (⟨(b.toNat : Int)⟩ :: ivs l) = _
    rw [ofIv, if_pos ⟨by simp, by simp; omega⟩, ofIv_ivs l]
    simp
theorem ivs_app (a b : List UInt8) : ivs (a ++ b) = ivs a ++ ivs b := by simp [ivs]
theorem app_iv {acc : Sl (Iv .u8)} (h : acc.l.length ≤ 100000000) (x : Iv .u8) : appS 1 acc (⟨false, [x]⟩ : Sl (Iv .u8)) = some ⟨false, acc.l ++ [x]⟩ := by
  obtain ⟨z, l⟩ := acc
  exact appS_new (by simp only at h; omega)
theorem lit_loop (l : List UInt8) (hl : l.length ≤ 1048576) (body : Int × Sl (Iv .u8) → Option ((Int × Sl (Iv .u8)) ⊕ Sl (Iv .u8))) (hb : ∀ st1, body st1 = (if (decide (st1.1 < ((bs l).size : Int))) = true then ((byteAt (bs l) st1.1).bind fun y2 => ((appS 1 st1.2 (⟨false, [⟨y2⟩]⟩ : Sl (Iv .u8))).bind fun y3 => ((byteAt (bs l) st1.1).bind fun y4 => (if (decide (y4 = 34)) = true then ((appS 1 y3 (⟨false, [⟨34⟩]⟩ : Sl (Iv .u8))).bind fun y5 => (some (.inl ((IntKind.i64.wrap (st1.1 + 1)), y5)))) else (some (.inl ((IntKind.i64.wrap (st1.1 + 1)), y3))))))) else (some (.inr st1.2)))) :
    ∀ (m i : Nat) (acc : Sl (Iv .u8)) (x : List UInt8), i + m = l.length → acc.l = ivs x → x.length ≤ 2 * i + 1 → ∃ acc', loopO body ((i : Int), acc) = some acc' ∧ acc'.l = ivs (x ++ dbl (l.drop i))
  | 0, i, acc, x, hi, ha, hx => by
    refine ⟨acc, loopO_stop ?_, ?_⟩
    · rw [hb, if_neg (by rw [bs_size]; simp; omega)]
    · rw [List.drop_of_length_le (by omega), ha]; simp [dbl]
  | m + 1, i, acc, x, hi, ha, hx => by
    have h : i < l.length := by omega
    have hal : acc.l.length = x.length := by rw [ha]; simp [ivs]
    have w : IntKind.i64.wrap ((i : Int) + 1) = ((i + 1 : Nat) : Int) := by rw [wrapB (by omega) (by omega)]; rfl
    by_cases hq : l[i] = 34
    · obtain ⟨acc', r1, r2⟩ := lit_loop l hl body hb m (i + 1) ⟨false, acc.l ++ [⟨(l[i].toNat : Int)⟩] ++ [⟨34⟩]⟩ (x ++ [34, 34]) (by omega) (by rw [ivs_app, ← ha, hq]; simp [ivs]) (by simp; omega)
      refine ⟨acc', loopO_go ?_ r1, ?_⟩
      · rw [hb, if_pos (by rw [bs_size]; simp; omega)]
        dsimp only
        rw [byte_bs h, Option.bind_some, app_iv (by omega), Option.bind_some, Option.bind_some, if_pos (by rw [hq]; rfl), app_iv (by simp; omega), Option.bind_some, w]
      · rw [r2, List.drop_eq_getElem_cons h]; simp only [dbl, hq, if_true, List.append_assoc]
    · obtain ⟨acc', r1, r2⟩ := lit_loop l hl body hb m (i + 1) ⟨false, acc.l ++ [⟨(l[i].toNat : Int)⟩]⟩ (x ++ [l[i]]) (by omega) (by rw [ivs_app, ← ha]; simp [ivs]) (by simp; omega)
      refine ⟨acc', loopO_go ?_ r1, ?_⟩
      · rw [hb, if_pos (by rw [bs_size]; simp; omega)]
        dsimp only
        rw [byte_bs h, Option.bind_some, app_iv (by omega), Option.bind_some, Option.bind_some, if_neg (by simp; intro e; exact hq (UInt8.toNat_inj.1 (by simpa using Int.ofNat.inj e))), w]
      · rw [r2, List.drop_eq_getElem_cons h]; simp only [dbl, hq, if_false, List.append_assoc]
theorem quoted1 (l : List UInt8) (h : l.length ≤ 1048576) : F_spec_l11Literal (bs l) = some (bs (34 :: dbl l ++ [34])) := by
  have hd := dbl_len l
  refine u_spec_l11Literal _ _ ?_
  unfold B_spec_l11Literal
  obtain ⟨acc', r1, r2⟩ := lit_loop l h _ (fun _ => rfl) l.length 0 ⟨false, [⟨34⟩]⟩ [34] (by omega) rfl (by simp)
  have r1 := r1
  simp only [Int.natCast_zero] at r1
  rw [r1, Option.bind_some, app_iv (by rw [r2]; simp [ivs]; omega), Option.bind_some]
  have e : strS (⟨false, acc'.l ++ [⟨34⟩]⟩ : Sl (Iv .u8)) = some (bs (34 :: dbl l ++ [34])) := by
    unfold strS
    rw [r2]
    have : (ivs ([34] ++ dbl (l.drop 0)) ++ [⟨34⟩] : List (Iv .u8)) = ivs (34 :: dbl l ++ [34]) := by
      rw [List.drop_zero]; simp [ivs]
    show (ofIv (ivs ([34] ++ dbl (l.drop 0)) ++ [⟨34⟩])).map _ = _
    rw [this, ofIv_ivs]; rfl
  rw [e]; rfl
theorem quoted_same (s : ByteArray) (h : s.size ≤ 1048576) : ∃ t, F_spec_l11Literal s = some t ∧ F_impl_QuoteText s = some t ∧ t.size ≤ 2100000 := by
  obtain ⟨l, rfl, hl⟩ : ∃ l, s = bs l ∧ l.length = s.size := by
    obtain ⟨⟨l⟩⟩ := s
    exact ⟨l, rfl, rfl⟩
  have hd := dbl_len l
  refine ⟨_, quoted1 l (by omega), quoted2 l (by omega), ?_⟩
  rw [bs_size]; simp; omega
end Go.Am
end
