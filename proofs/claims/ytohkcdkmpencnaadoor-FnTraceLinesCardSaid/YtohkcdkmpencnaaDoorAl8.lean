/- The law. -/
import Derived.Test.YtohkcdkmpencnaaDoorAg0
import Derived.Test.YtohkcdkmpencnaaDoorAg1
import Derived.Test.YtohkcdkmpencnaaDoorAl6
import Derived.Test.YtohkcdkmpencnaaDoorAl7
section
set_option maxRecDepth 100000
set_option maxHeartbeats 2000000
set_option linter.unusedVariables false
set_option linter.unusedSimpArgs false
namespace Go.Am
open Go
theorem catk {a b : ByteArray} (h : a.size + b.size ≤ 100000) : catB a b = some (a ++ b) := by
  unfold catB; rw [if_pos (by omega)]
theorem itoa_ln (n : Int) (h0 : -1000000000000000 ≤ n) (h1 : n ≤ 1000000000000000) : (Lib.itoa n).length ≤ 17 := by
  have hd : ∀ u, u ≤ 1000000000000000 → (Lib.decDigits u).length ≤ 16 := fun u hu => by
    by_cases h : u = 0
    · subst h; rw [Lib.decDigits, dif_pos (by omega)]; simp
    · have : dd u = Lib.decDigits u := by unfold dd; rw [if_neg h]
      rw [← this]; exact dd_len _ 16 (by omega)
  unfold Lib.itoa
  split
  · have := hd n.natAbs (by omega); simp only [List.length_cons]; omega
  · have := hd n.toNat (by omega); omega
theorem deci2 (n : Int) (h0 : -1000000000000000 ≤ n) (h1 : n ≤ 1000000000000000) : F_impl_decimal n = some (bs (Lib.itoa n)) := by
  refine u_impl_decimal n _ ?_
  unfold B_impl_decimal
  have : F_strconv_FormatInt n 10 = some (bs (Lib.itoa n)) := u_strconv_FormatInt n 10 _ (by unfold B_strconv_FormatInt fmtB; rw [if_pos ⟨rfl, by omega, by omega⟩])
  rw [this]; rfl
theorem quot2 (s : ByteArray) (h : s.size ≤ 200) : ∃ t, F_impl_QuoteText s = some t ∧ t.size ≤ 402 := by
  obtain ⟨l, rfl, hl⟩ : ∃ l, s = bs l ∧ l.length = s.size := by
    obtain ⟨⟨l⟩⟩ := s
    exact ⟨l, rfl, rfl⟩
  rw [← hl] at h
  have hd := dbl_len l
  refine ⟨bs (34 :: dbl l ++ [34]), u_impl_QuoteText _ _ ?_, ?_⟩
  · unfold B_impl_QuoteText
    have e : F_strings_ReplaceAll (bs l) ⟨#[34]⟩ ⟨#[34, 34]⟩ = some (bs (dbl l)) := u_strings_ReplaceAll _ _ _ _ (repB_dbl (by omega))
    rw [e, Option.bind_some]
    have e1 : bs [34] = (⟨#[34]⟩ : ByteArray) := rfl
    have a1 := cat_bs (a := [34]) (b := dbl l) (by simp; omega)
    have a2 := cat_bs (a := [34] ++ dbl l) (b := [34]) (by simp; omega)
    rw [e1] at a1 a2
    rw [a1, Option.bind_some, a2]; rfl
  · rw [bs_size]; simp; omega
theorem valu2 (v : DValue) (hv : ValP v) : ∃ t, F_impl_Value_text v = some t ∧ t.size ≤ 1202 := by
  suffices H : ∃ t, B_impl_Value_text v = some t ∧ t.size ≤ 1202 by
    obtain ⟨t, h2, h3⟩ := H
    exact ⟨t, u_impl_Value_text _ _ h2, h3⟩
  unfold B_impl_Value_text
  obtain ⟨K, N, X, R⟩ := v
  unfold ValP at hv
  dsimp only at hv ⊢
  rcases hv with ⟨rfl, h2, h3, h4⟩ | ⟨rfl, h2, h3, h4, h5⟩ | ⟨rfl, h2, h3, h4, h5⟩ | ⟨h1, h2, h3, h4, h5⟩ | ⟨h1, h2, h3, h4⟩
  · obtain ⟨t, a2, a3⟩ := quot2 X h4
    rw [if_pos (by rfl), a2]
    exact ⟨t, rfl, by omega⟩
  · rw [if_neg (by simp), if_pos (by rfl), deci2 N (by omega) (by omega)]
    refine ⟨_, rfl, ?_⟩
    rw [bs_size]; have := itoa_ln N (by omega) (by omega); omega
  · have z1 : (⟨#[60]⟩ : ByteArray).size = 1 := rfl
    have z2 : (⟨#[62]⟩ : ByteArray).size = 1 := rfl
    rw [if_neg (by simp), if_neg (by simp), if_pos (by rfl), catk (by omega), Option.bind_some, catk (by rw [ByteArray.size_append]; omega)]
    refine ⟨_, rfl, ?_⟩
    rw [ByteArray.size_append, ByteArray.size_append]; omega
  · have hK : K ≠ 1 ∧ K ≠ 2 ∧ K ≠ 3 ∧ K ≠ 7 ∧ K ≠ 8 := by omega
    simp only [hK.1, hK.2.1, hK.2.2.1, hK.2.2.2.1, hK.2.2.2.2, decide_false, Bool.false_eq_true, if_false]
    have ty : ∃ t, F_impl_typeName K = some t ∧ t.size ≤ 6 := by
      rcases h1 with rfl | rfl | rfl
      · exact ⟨_, u_impl_typeName _ _ rfl, by decide⟩
      · exact ⟨_, u_impl_typeName _ _ rfl, by decide⟩
      · exact ⟨_, u_impl_typeName _ _ rfl, by decide⟩
    obtain ⟨t, t2, t3⟩ := ty
    have z1 : (⟨#[35]⟩ : ByteArray).size = 1 := rfl
    have z2 := itoa_ln R (by omega) (by omega)
    rw [t2, Option.bind_some, catk (by omega), Option.bind_some, deci2 R (by omega) (by omega), Option.bind_some, catk (by rw [ByteArray.size_append, bs_size (Lib.itoa R)]; omega)]
    refine ⟨_, rfl, ?_⟩
    rw [ByteArray.size_append, ByteArray.size_append, bs_size (Lib.itoa R)]; omega
  · have z1 : (⟨#[46]⟩ : ByteArray).size = 1 := rfl
    have z2 : (⟨#[42]⟩ : ByteArray).size = 1 := rfl
    have := h4.2.1
    rcases h1 with rfl | rfl
    · rw [if_neg (by simp), if_neg (by simp), if_neg (by simp), if_pos (by rfl), catk (by omega)]
      refine ⟨_, rfl, ?_⟩
      rw [ByteArray.size_append]; omega
    · rw [if_neg (by simp), if_neg (by simp), if_neg (by simp), if_neg (by simp), if_pos (by rfl), catk (by omega)]
      refine ⟨_, rfl, ?_⟩
      rw [ByteArray.size_append]; omega
theorem trac2 (k st : Int) (nm : ByteArray) (v : DValue) (hn : nm.size ≤ 1048576) (hv : SmValue v) : ∃ t, F_impl_TraceText k st nm v = some t ∧ t.size ≤ 1300 := by
  suffices H : ∃ t, B_impl_TraceText k st nm v = some t ∧ t.size ≤ 1300 by
    obtain ⟨t, h2, h3⟩ := H
    exact ⟨t, u_impl_TraceText _ _ _ _ _ h2, h3⟩
  have none_ : ∃ t : ByteArray, (some (⟨#[]⟩ : ByteArray)) = some t ∧ t.size ≤ 1300 := ⟨_, rfl, by decide⟩
  unfold B_impl_TraceText
  rw [in2, name2 nm hn, val2 v hv]
  simp only [Option.bind_some]
  by_cases h1 : 1 ≤ st ∧ st ≤ 1000
  rotate_left
  · rw [says_f h1]; exact none_
  by_cases h2 : NameP nm
  rotate_left
  · rw [says_f h2, says_t h1]; exact none_
  by_cases h3 : ValP v
  rotate_left
  · rw [says_f h3, says_t h1, says_t h2]; exact none_
  obtain ⟨t, t2, t3⟩ := valu2 v h3
  have z0 := h2.2.1
  have hl : (Lib.itoa st).length ≤ 4 := by
    have hd : ∀ u, u ≤ 1000 → (Lib.decDigits u).length ≤ 4 := fun u hu => by
      by_cases h : u = 0
      · subst h; rw [Lib.decDigits, dif_pos (by omega)]; simp
      · have : dd u = Lib.decDigits u := by unfold dd; rw [if_neg h]
        rw [← this]; exact dd_len _ 4 (by omega)
    unfold Lib.itoa
    rw [if_neg (by omega)]
    exact hd _ (by omega)
  have a1 : (⟨#[58, 32]⟩ : ByteArray).size = 2 := rfl
  have a2 : (⟨#[32, 61, 32]⟩ : ByteArray).size = 3 := rfl
  have a3 : (⟨#[99, 97, 108, 108, 32]⟩ : ByteArray).size = 5 := rfl
  have a4 : (⟨#[114, 101, 116, 117, 114, 110, 32]⟩ : ByteArray).size = 7 := rfl
  have a5 : (⟨#[102, 97, 105, 108, 32]⟩ : ByteArray).size = 5 := rfl
  have a6 : (⟨#[103, 111, 116, 111, 32]⟩ : ByteArray).size = 5 := rfl
  have a7 : (bs (Lib.itoa st)).size = (Lib.itoa st).length := bs_size _
  rw [says_t h1, says_t h2, says_t h3, deci2 st (by omega) (by omega), t2]
  simp only [Bool.not_true, Bool.false_eq_true, if_false, Option.bind_some]
  rw [catk (a := bs (Lib.itoa st)) (by omega)]
  simp only [Option.bind_some]
  by_cases e1 : k = 1
  · rw [if_pos (by simpa using e1), catk (by simp only [ByteArray.size_append]; omega), Option.bind_some, catk (by simp only [ByteArray.size_append]; omega), Option.bind_some, catk (by simp only [ByteArray.size_append]; omega)]
    exact ⟨_, rfl, by simp only [ByteArray.size_append]; omega⟩
  rw [if_neg (by simpa using e1)]
  by_cases e2 : k = 2
  · rw [if_pos (by simpa using e2), catk (by simp only [ByteArray.size_append]; omega), Option.bind_some, catk (by simp only [ByteArray.size_append]; omega)]
    exact ⟨_, rfl, by simp only [ByteArray.size_append]; omega⟩
  rw [if_neg (by simpa using e2)]
  by_cases e3 : k = 3
  · rw [if_pos (by simpa using e3), catk (by simp only [ByteArray.size_append]; omega), Option.bind_some, catk (by simp only [ByteArray.size_append]; omega), Option.bind_some, catk (by simp only [ByteArray.size_append]; omega), Option.bind_some, catk (by simp only [ByteArray.size_append]; omega)]
    exact ⟨_, rfl, by simp only [ByteArray.size_append]; omega⟩
  rw [if_neg (by simpa using e3)]
  by_cases e4 : k = 4
  · rw [if_pos (by simpa using e4), catk (by simp only [ByteArray.size_append]; omega), Option.bind_some, catk (by simp only [ByteArray.size_append]; omega)]
    exact ⟨_, rfl, by simp only [ByteArray.size_append]; omega⟩
  rw [if_neg (by simpa using e4)]
  by_cases e5 : k = 5
  · rw [if_pos (by simpa using e5), catk (by simp only [ByteArray.size_append]; omega), Option.bind_some, catk (by simp only [ByteArray.size_append]; omega)]
    exact ⟨_, rfl, by simp only [ByteArray.size_append]; omega⟩
  rw [if_neg (by simpa using e5)]
  exact none_
end Go.Am
end
