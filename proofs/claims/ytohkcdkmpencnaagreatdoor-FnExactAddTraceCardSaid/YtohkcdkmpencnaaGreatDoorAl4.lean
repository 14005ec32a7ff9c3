/- The law. -/
import Derived.Test.YtohkcdkmpencnaaGreatDoorAg0
import Derived.Test.YtohkcdkmpencnaaGreatDoorAg1
import Derived.Test.YtohkcdkmpencnaaGreatDoorAl0
import Derived.Test.YtohkcdkmpencnaaGreatDoorAl3
section
set_option maxRecDepth 100000
set_option maxHeartbeats 2000000
set_option linter.unusedVariables false
set_option linter.unusedSimpArgs false
namespace Go.Am
open Go
theorem cat_ok {a b : ByteArray} (h : a.size + b.size ≤ 100000) : catB a b = some (a ++ b) := by
  unfold catB; rw [if_pos (by omega)]
theorem digits1 (n : Int) (h0 : -1000000000000000 ≤ n) (h1 : n ≤ 1000000000000000) : F_spec_l06Digits n = some (bs (Lib.itoa n)) := by
  refine u_spec_l06Digits n _ ?_
  unfold B_spec_l06Digits
  by_cases hz : n = 0
  · subst hz
    rw [if_pos (by rfl)]
    unfold Lib.itoa
    rw [if_neg (by omega), show (0 : Int).toNat = 0 from rfl, Lib.decDigits, dif_pos (by omega)]; rfl
  · rw [if_neg (by simpa using hz)]
    have hl := digits_loop _ (fun _ => rfl) n.natAbs (decide (n < 0)) [] (by omega) (by simp; omega)
    have e : (if decide (n < 0) = true then -(n.natAbs : Int) else (n.natAbs : Int)) = n := by
      by_cases hn : n < 0
      · rw [if_pos (by simpa using hn)]; omega
      · rw [if_neg (by simpa using hn)]; omega
    rw [e] at hl
    have hl' := hl
    have e0 : bs [] = (⟨#[]⟩ : ByteArray) := rfl
    rw [e0] at hl'
    rw [hl', Option.bind_some, List.append_nil]
    have hd : (dd n.natAbs).length ≤ 16 := dd_len _ 16 (by omega)
    have ed : dd n.natAbs = Lib.decDigits n.natAbs := by unfold dd; rw [if_neg (by omega)]
    unfold Lib.itoa
    by_cases hn : n < 0
    · rw [if_pos (by simpa using hn), if_pos hn]
      have := cat_bs (a := [45]) (b := dd n.natAbs) (by simp only [List.length_singleton]; omega)
      have e1 : bs [45] = (⟨#[45]⟩ : ByteArray) := rfl
      rw [e1] at this
      rw [this, Option.bind_some, ed]; rfl
    · rw [if_neg (by simpa using hn), if_neg hn, ed, show n.natAbs = n.toNat by omega]
theorem itoa_len (n : Int) (h0 : -1000000000000000 ≤ n) (h1 : n ≤ 1000000000000000) : 1 ≤ (Lib.itoa n).length ∧ (Lib.itoa n).length ≤ 17 := by
  have hp : ∀ u, 1 ≤ (Lib.decDigits u).length := fun u => by
    rw [Lib.decDigits]; split <;> simp
  have hd : ∀ u, u ≤ 1000000000000000 → (Lib.decDigits u).length ≤ 16 := fun u hu => by
    by_cases h : u = 0
    · subst h; rw [Lib.decDigits, dif_pos (by omega)]; simp
    · have : dd u = Lib.decDigits u := by unfold dd; rw [if_neg h]
      rw [← this]; exact dd_len _ 16 (by omega)
  unfold Lib.itoa
  split
  · have := hd n.natAbs (by omega); simp only [List.length_cons]; omega
  · exact ⟨hp _, by have := hd n.toNat (by omega); omega⟩
theorem decimal2 (n : Int) (h0 : -1000000000000000 ≤ n) (h1 : n ≤ 1000000000000000) : F_impl_decimal n = some (bs (Lib.itoa n)) := by
  refine u_impl_decimal n _ ?_
  unfold B_impl_decimal
  have : F_strconv_FormatInt n 10 = some (bs (Lib.itoa n)) := u_strconv_FormatInt n 10 _ (by unfold B_strconv_FormatInt fmtB; rw [if_pos ⟨rfl, by omega, by omega⟩])
  rw [this]; rfl
theorem bs_of (s : ByteArray) : ∃ l, s = bs l ∧ l.length = s.size := by
  obtain ⟨⟨l⟩⟩ := s
  exact ⟨l, rfl, rfl⟩
theorem quote_same (s : ByteArray) (h : s.size ≤ 200) : ∃ t, F_spec_QuoteText s = some t ∧ F_impl_QuoteText s = some t ∧ t.size ≤ 402 := by
  obtain ⟨l, rfl, hl⟩ := bs_of s
  rw [← hl] at h
  have hd := dbl_len l
  refine ⟨bs (34 :: dbl l ++ [34]), u_spec_QuoteText _ _ ?_, u_impl_QuoteText _ _ ?_, ?_⟩
  · unfold B_spec_QuoteText
    have := quote_loop (s := l) (by omega) _ (fun _ => rfl) l.length 0 [34] (by omega) (by simp)
    simp only [Int.natCast_zero, List.drop_zero] at this
    have e1 : bs [34] = (⟨#[34]⟩ : ByteArray) := rfl
    rw [e1] at this
    rw [this, Option.bind_some]
    have := cat_bs (a := [34] ++ dbl l) (b := [34]) (by simp; omega)
    rw [e1] at this
    rw [this]; rfl
  · unfold B_impl_QuoteText
    have e : F_strings_ReplaceAll (bs l) ⟨#[34]⟩ ⟨#[34, 34]⟩ = some (bs (dbl l)) := u_strings_ReplaceAll _ _ _ _ (repB_dbl (by omega))
    rw [e, Option.bind_some]
    have e1 : bs [34] = (⟨#[34]⟩ : ByteArray) := rfl
    have a1 := cat_bs (a := [34]) (b := dbl l) (by simp; omega)
    have a2 := cat_bs (a := [34] ++ dbl l) (b := [34]) (by simp; omega)
    rw [e1] at a1 a2
    rw [a1, Option.bind_some, a2]; rfl
  · rw [bs_size]; simp; omega
theorem name_size {s : ByteArray} (h : NameP s) : s.size ≤ 12 := h.2.1
theorem value_same (v : DValue) (hs : SmValue v) (hv : ValP v) : ∃ t, F_spec_ValueText v = some t ∧ F_impl_Value_text v = some t ∧ t.size ≤ 1202 := by
  suffices H : ∃ t, B_spec_ValueText v = some t ∧ B_impl_Value_text v = some t ∧ t.size ≤ 1202 by
    obtain ⟨t, h1, h2, h3⟩ := H
    exact ⟨t, u_spec_ValueText _ _ h1, u_impl_Value_text _ _ h2, h3⟩
  unfold B_spec_ValueText B_impl_Value_text
  rw [val1 v hs, Option.bind_some, says_t hv, if_neg (by simp)]
  obtain ⟨K, N, X, R⟩ := v
  have hv0 := hv
  unfold ValP at hv
  dsimp only at hv ⊢
  rcases hv with ⟨rfl, h2, h3, h4⟩ | ⟨rfl, h2, h3, h4, h5⟩ | ⟨rfl, h2, h3, h4, h5⟩ | ⟨h1, h2, h3, h4, h5⟩ | ⟨h1, h2, h3, h4⟩
  · obtain ⟨t, a1, a2, a3⟩ := quote_same X h4
    simp only [show decide ((1 : Int) = 1) = true from rfl, Bool.false_eq_true, if_false, if_true]
    rw [a1, a2]
    exact ⟨t, rfl, rfl, by omega⟩
  · simp only [show decide ((2 : Int) = 1) = false from rfl, show decide ((2 : Int) = 2) = true from rfl, Bool.false_eq_true, if_false, if_true]
    rw [digits1 N (by omega) (by omega), decimal2 N (by omega) (by omega)]
    refine ⟨_, rfl, rfl, ?_⟩
    rw [bs_size]; have := (itoa_len N (by omega) (by omega)).2; omega
  · have z1 : (⟨#[60]⟩ : ByteArray).size = 1 := rfl
    have z2 : (⟨#[62]⟩ : ByteArray).size = 1 := rfl
    simp only [show decide ((3 : Int) = 1) = false from rfl, show decide ((3 : Int) = 2) = false from rfl, show decide ((3 : Int) = 3) = true from rfl, Bool.false_eq_true, if_false, if_true]
    rw [cat_ok (by omega), Option.bind_some, cat_ok (by rw [ByteArray.size_append]; omega)]
    refine ⟨_, rfl, rfl, ?_⟩
    rw [ByteArray.size_append, ByteArray.size_append]; omega
  · have hK : K ≠ 1 ∧ K ≠ 2 ∧ K ≠ 3 ∧ K ≠ 7 ∧ K ≠ 8 := by omega
    simp only [hK.1, hK.2.1, hK.2.2.1, hK.2.2.2.1, hK.2.2.2.2, decide_false, Bool.false_eq_true, if_false]
    have ty : ∃ t, F_spec_DataType ⟨K, N, X, R⟩ = some t ∧ F_impl_typeName K = some t ∧ t.size ≤ 6 := by
      have e : ∀ t, elt (⟨false, [⟨#[115, 116, 114, 105, 110, 103]⟩, ⟨#[105, 110, 116, 101, 103, 101, 114]⟩, ⟨#[112, 97, 116, 116, 101, 114, 110]⟩, ⟨#[97, 114, 114, 97, 121]⟩, ⟨#[116, 97, 98, 108, 101]⟩, ⟨#[114, 101, 99, 111, 114, 100]⟩, ⟨#[110, 97, 109, 101]⟩, ⟨#[101, 120, 112, 114, 101, 115, 115, 105, 111, 110]⟩]⟩ : Sl ByteArray) (IntKind.i64.wrap (K - 1)) = some t → F_spec_DataType ⟨K, N, X, R⟩ = some t := fun t ht => u_spec_DataType _ _ (by
        unfold B_spec_DataType
        rw [val1 _ hs, Option.bind_some, says_t hv0, if_neg (by simp)]
        dsimp only
        rw [ht]; rfl)
      rcases h1 with rfl | rfl | rfl
      · exact ⟨_, e _ rfl, u_impl_typeName _ _ rfl, by decide⟩
      · exact ⟨_, e _ rfl, u_impl_typeName _ _ rfl, by decide⟩
      · exact ⟨_, e _ rfl, u_impl_typeName _ _ rfl, by decide⟩
    obtain ⟨t, t1, t2, t3⟩ := ty
    have z1 : (⟨#[35]⟩ : ByteArray).size = 1 := rfl
    have z2 := (itoa_len R (by omega) (by omega)).2
    rw [t1, t2]
    simp only [Option.bind_some]
    rw [cat_ok (by omega)]
    simp only [Option.bind_some]
    rw [digits1 R (by omega) (by omega), decimal2 R (by omega) (by omega)]
    simp only [Option.bind_some]
    rw [cat_ok (by rw [ByteArray.size_append, bs_size (Lib.itoa R)]; omega)]
    refine ⟨_, rfl, rfl, ?_⟩
    rw [ByteArray.size_append, ByteArray.size_append, bs_size (Lib.itoa R)]; omega
  · have z1 : (⟨#[46]⟩ : ByteArray).size = 1 := rfl
    have z2 : (⟨#[42]⟩ : ByteArray).size = 1 := rfl
    have := name_size h4
    rcases h1 with rfl | rfl
    · simp only [show decide ((7 : Int) = 1) = false from rfl, show decide ((7 : Int) = 2) = false from rfl, show decide ((7 : Int) = 3) = false from rfl, show decide ((7 : Int) = 7) = true from rfl, Bool.false_eq_true, if_false, if_true]
      rw [cat_ok (by omega)]
      refine ⟨_, rfl, rfl, ?_⟩
      rw [ByteArray.size_append]; omega
    · simp only [show decide ((8 : Int) = 1) = false from rfl, show decide ((8 : Int) = 2) = false from rfl, show decide ((8 : Int) = 3) = false from rfl, show decide ((8 : Int) = 7) = false from rfl, show decide ((8 : Int) = 8) = true from rfl, Bool.false_eq_true, if_false, if_true]
      rw [cat_ok (by omega)]
      refine ⟨_, rfl, rfl, ?_⟩
      rw [ByteArray.size_append]; omega
theorem trace_same (k st : Int) (nm : ByteArray) (v : DValue) (hn : nm.size ≤ 1048576) (hv : SmValue v) : ∃ t, F_spec_TraceText k st nm v = some t ∧ F_impl_TraceText k st nm v = some t ∧ t.size ≤ 1300 := by
  suffices H : ∃ t, B_spec_TraceText k st nm v = some t ∧ B_impl_TraceText k st nm v = some t ∧ t.size ≤ 1300 by
    obtain ⟨t, h1, h2, h3⟩ := H
    exact ⟨t, u_spec_TraceText _ _ _ _ _ h1, u_impl_TraceText _ _ _ _ _ h2, h3⟩
  have none_ : ∃ t : ByteArray, (some (⟨#[]⟩ : ByteArray)) = some t ∧ (some (⟨#[]⟩ : ByteArray)) = some t ∧ t.size ≤ 1300 := ⟨_, rfl, rfl, by decide⟩
  unfold B_spec_TraceText B_impl_TraceText
  rw [in1, in1, in2, name1 nm hn, name2 nm hn, val1 v hv, val2 v hv]
  simp only [Option.bind_some]
  by_cases h1 : 1 ≤ st ∧ st ≤ 1000
  rotate_left
  · rw [says_f h1]
    simp only [Bool.not_false, if_true]
    by_cases h0 : 1 ≤ k ∧ k ≤ 5
    · rw [says_t h0]; exact none_
    · rw [says_f h0]; exact none_
  by_cases h2 : NameP nm
  rotate_left
  · rw [says_f h2, says_t h1]
    simp only [Bool.not_false, Bool.not_true, Bool.false_eq_true, if_false, if_true]
    by_cases h0 : 1 ≤ k ∧ k ≤ 5
    · rw [says_t h0]; exact none_
    · rw [says_f h0]; exact none_
  by_cases h3 : ValP v
  rotate_left
  · rw [says_f h3, says_t h1, says_t h2]
    simp only [Bool.not_false, Bool.not_true, Bool.false_eq_true, if_false, if_true]
    by_cases h0 : 1 ≤ k ∧ k ≤ 5
    · rw [says_t h0]; exact none_
    · rw [says_f h0]; exact none_
  obtain ⟨t, t1, t2, t3⟩ := value_same v hv h3
  have z0 := name_size h2
  have z1 := (itoa_len st (by omega) (by omega)).2
  have hl : (Lib.itoa st).length ≤ 4 := by
    have hd : ∀ u, u ≤ 1000 → (Lib.decDigits u).length ≤ 4 := fun u hu => by
      by_cases h : u = 0
      · subst h; rw [Lib.decDigits, dif_pos (by omega)]; simp
      · have : dd u = Lib.decDigits u := by unfold dd; rw [if_neg h]
        rw [← this]; exact dd_len _ 4 (by omega)
    unfold Lib.itoa
    rw [if_neg (by omega)]
    exact hd _ (by omega)
  have a1 : (⟨#[58, 32]⟩ : ByteArray).size = 2 := rfl
  have a2 : (⟨#[32, 61, 32]⟩ : ByteArray).size = 3 := rfl
  have a3 : (⟨#[99, 97, 108, 108, 32]⟩ : ByteArray).size = 5 := rfl
  have a4 : (⟨#[114, 101, 116, 117, 114, 110, 32]⟩ : ByteArray).size = 7 := rfl
  have a5 : (⟨#[102, 97, 105, 108, 32]⟩ : ByteArray).size = 5 := rfl
  have a6 : (⟨#[103, 111, 116, 111, 32]⟩ : ByteArray).size = 5 := rfl
  have a7 : (bs (Lib.itoa st)).size = (Lib.itoa st).length := bs_size _
  rw [says_t h1, says_t h2, says_t h3, digits1 st (by omega) (by omega), decimal2 st (by omega) (by omega), t1, t2]
  simp only [Bool.not_true, Bool.false_eq_true, if_false, Option.bind_some]
  rw [cat_ok (a := bs (Lib.itoa st)) (by omega)]
  simp only [Option.bind_some]
  by_cases h0 : 1 ≤ k ∧ k ≤ 5
  rotate_left
  · have e1 : k ≠ 1 := by omega
    have e2 : k ≠ 2 := by omega
    have e3 : k ≠ 3 := by omega
    have e4 : k ≠ 4 := by omega
    have e5 : k ≠ 5 := by omega
    rw [says_f h0]
    simp only [e1, e2, e3, e4, e5, decide_false, Bool.not_false, Bool.false_eq_true, if_false, if_true]
    exact none_
  rw [says_t h0]
  simp only [Bool.not_true, Bool.false_eq_true, if_false]
  have hk : k = 1 ∨ k = 2 ∨ k = 3 ∨ k = 4 ∨ k = 5 := by omega
  rcases hk with rfl | rfl | rfl | rfl | rfl
  · simp only [show decide ((1 : Int) = 1) = true from rfl, Bool.false_eq_true, if_false, if_true]
    rw [cat_ok (by simp only [ByteArray.size_append]; omega), Option.bind_some, cat_ok (by simp only [ByteArray.size_append]; omega), Option.bind_some, cat_ok (by simp only [ByteArray.size_append]; omega)]
    exact ⟨_, rfl, rfl, by simp only [ByteArray.size_append]; omega⟩
  · simp only [show decide ((2 : Int) = 1) = false from rfl, show decide ((2 : Int) = 2) = true from rfl, Bool.false_eq_true, if_false, if_true]
    rw [cat_ok (by simp only [ByteArray.size_append]; omega), Option.bind_some, cat_ok (by simp only [ByteArray.size_append]; omega)]
    exact ⟨_, rfl, rfl, by simp only [ByteArray.size_append]; omega⟩
  · simp only [show decide ((3 : Int) = 1) = false from rfl, show decide ((3 : Int) = 2) = false from rfl, show decide ((3 : Int) = 3) = true from rfl, Bool.false_eq_true, if_false, if_true]
    rw [cat_ok (by simp only [ByteArray.size_append]; omega), Option.bind_some, cat_ok (by simp only [ByteArray.size_append]; omega), Option.bind_some, cat_ok (by simp only [ByteArray.size_append]; omega), Option.bind_some, cat_ok (by simp only [ByteArray.size_append]; omega)]
    exact ⟨_, rfl, rfl, by simp only [ByteArray.size_append]; omega⟩
  · simp only [show decide ((4 : Int) = 1) = false from rfl, show decide ((4 : Int) = 2) = false from rfl, show decide ((4 : Int) = 3) = false from rfl, show decide ((4 : Int) = 4) = true from rfl, Bool.false_eq_true, if_false, if_true]
    rw [cat_ok (by simp only [ByteArray.size_append]; omega), Option.bind_some, cat_ok (by simp only [ByteArray.size_append]; omega)]
    exact ⟨_, rfl, rfl, by simp only [ByteArray.size_append]; omega⟩
  · simp only [show decide ((5 : Int) = 1) = false from rfl, show decide ((5 : Int) = 2) = false from rfl, show decide ((5 : Int) = 3) = false from rfl, show decide ((5 : Int) = 4) = false from rfl, show decide ((5 : Int) = 5) = true from rfl, Bool.false_eq_true, if_false, if_true]
    rw [cat_ok (by simp only [ByteArray.size_append]; omega), Option.bind_some, cat_ok (by simp only [ByteArray.size_append]; omega)]
    exact ⟨_, rfl, rfl, by simp only [ByteArray.size_append]; omega⟩
end Go.Am
end
