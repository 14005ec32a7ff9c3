/- The law. -/
import Derived.Test.YtohkcdkmpencnaaGreatDoorAd0
import Derived.Test.YtohkcdkmpencnaaGreatDoorAm6
import Derived.Test.YtohkcdkmpencnaaGreatDoorAm7
import Derived.Lib.CountLaws
section
set_option maxRecDepth 100000
set_option maxHeartbeats 1000000
set_option linter.unusedVariables false
set_option linter.unusedSimpArgs false
namespace Go.Am
open Go
abbrev bs (l : List UInt8) : ByteArray := ⟨l.toArray⟩
theorem bs_app (a b : List UInt8) : bs a ++ bs b = bs (a ++ b) := by
  apply ByteArray.ext
  simp [ByteArray.data_append]
theorem bs_size (a : List UInt8) : (bs a).size = a.length := by
  show a.toArray.size = _; simp
theorem cat_bs {a b : List UInt8} (h : a.length + b.length ≤ 9223372036854775807) : catB (bs a) (bs b) = some (bs (a ++ b)) := by
  unfold catB
  rw [if_pos (by rw [bs_size, bs_size]; exact h), bs_app]
def dd (u : Nat) : List UInt8 := if u = 0 then [] else Lib.decDigits u
theorem dd_step {u : Nat} (h : u ≠ 0) : dd u = dd (u / 10) ++ [UInt8.ofNat (48 + u % 10)] := by
  unfold dd
  rw [if_neg h, Lib.decDigits]
  by_cases h1 : u < 10
  · rw [dif_pos h1, if_pos (by omega), show u % 10 = u by omega]; rfl
  · rw [dif_neg h1, if_neg (by omega)]
theorem dd_len (u k : Nat) (h : u < 10 ^ k) : (dd u).length ≤ k := by
  induction k generalizing u with
  | zero => have : u = 0 := by simpa using h
            subst this; simp [dd]
  | succ k ih =>
    by_cases h0 : u = 0
    · subst h0; simp [dd]
    · rw [dd_step h0, List.length_append, List.length_singleton]
      have := ih (u / 10) (by rw [Nat.pow_succ] at h; omega)
      omega
theorem wrap_u8 {n : Int} (h0 : 0 ≤ n) (h1 : n < 256) : IntKind.u8.wrap n = n := by
  simp only [IntKind.wrap, IntKind.signed, IntKind.bits]
  simp
  omega
theorem digit_str {d : Nat} (h : d ≤ 9) : strS ((⟨false, [⟨(IntKind.u8.wrap (IntKind.i64.wrap (48 + (d : Int))))⟩]⟩ : Sl (Iv .u8))) = some (bs [UInt8.ofNat (48 + d)]) := by
  unfold strS
  rw [wrapB (by omega) (by omega), wrap_u8 (by omega) (by omega)]
  simp only [ofIv]
  rw [if_pos ⟨by omega, by omega⟩]
  simp only [Option.map_some]
  rw [show ((48 + (d : Int)).toNat) = 48 + d by omega]
theorem digits_loop (body : ByteArray × Int → Option ((ByteArray × Int) ⊕ ByteArray)) (hb : ∀ st1, body st1 = (if (!decide (st1.2 = 0)) = true then (((if (decide ((st1.2.tmod 10) < 0)) = true then (some (IntKind.i64.wrap (0 - (st1.2.tmod 10)))) else (some (st1.2.tmod 10))) : Option Int).bind fun y2 => ((strS ((⟨false, [⟨(IntKind.u8.wrap (IntKind.i64.wrap (48 + y2)))⟩]⟩ : Sl (Iv .u8)))).bind fun y3 => ((catB y3 st1.1).bind fun y4 => (some (.inl (y4, (IntKind.i64.wrap (st1.2.tdiv 10)))))))) else (some (.inr st1.1)))) :
    ∀ (u : Nat) (neg : Bool) (out : List UInt8), u < 10000000000000000 → out.length + u ≤ 9000000000000000000 → loopO body (bs out, if neg then -(u : Int) else (u : Int)) = some (bs (dd u ++ out)) := by
  intro u
  induction u using Nat.strongRecOn with
  | _ u ih =>
    intro neg out hu ho
    by_cases h0 : u = 0
    · subst h0
      refine loopO_stop ?_
      rw [hb, if_neg (by cases neg <;> simp)]
      simp [dd]
    · have key : body (bs out, if neg then -(u : Int) else (u : Int)) = some (.inl (bs (UInt8.ofNat (48 + u % 10) :: out), if neg then -((u / 10 : Nat) : Int) else ((u / 10 : Nat) : Int))) := by
        rw [hb, if_pos (by cases neg <;> simp [h0])]
        have m1 : (if (decide (((bs out, if neg then -(u : Int) else (u : Int)).2.tmod 10) < 0)) = true then (some (IntKind.i64.wrap (0 - ((bs out, if neg then -(u : Int) else (u : Int)).2.tmod 10)))) else (some ((bs out, if neg then -(u : Int) else (u : Int)).2.tmod 10)) : Option Int) = some ((u % 10 : Nat) : Int) := by
          have e : ((u : Int).tmod 10) = ((u % 10 : Nat) : Int) := by rw [Int.tmod_eq_emod_of_nonneg (by omega)]; omega
          cases neg with
          | false => simp only [Bool.false_eq_true, if_false]; rw [e, if_neg (by simp; omega)]
          | true =>
            simp only [if_true]
            rw [Int.neg_tmod, e]
            by_cases hz : u % 10 = 0
            · rw [hz]; rfl
            · rw [if_pos (by simp; omega), wrap_id (by omega) (by omega)]; congr 1; omega
        rw [m1, Option.bind_some, digit_str (by omega), Option.bind_some]
        rw [cat_bs (by simp only [List.length_singleton]; omega), Option.bind_some]
        have e : ((u : Int).tdiv 10) = ((u / 10 : Nat) : Int) := by rw [Int.tdiv_eq_ediv_of_nonneg (by omega)]; omega
        cases neg with
        | false => simp only [Bool.false_eq_true, if_false]; rw [e, wrap_id (by omega) (by omega)]; rfl
        | true => simp only [if_true]; rw [Int.neg_tdiv, e, wrap_id (by omega) (by omega)]; rfl
      refine loopO_go key ?_
      rw [ih (u / 10) (by omega) neg _ (by omega) (by simp only [List.length_cons]; omega), dd_step h0, List.append_assoc]; rfl
def dbl : List UInt8 → List UInt8
  | [] => []
  | b :: l => (if b = 34 then [34, 34] else [b]) ++ dbl l
theorem dbl_len : ∀ l : List UInt8, (dbl l).length ≤ 2 * l.length
  | [] => by simp [dbl]
  | b :: l => by
    have := dbl_len l
    simp only [dbl, List.length_append, List.length_cons]
    split <;> simp <;> omega
theorem pre34 (b : UInt8) (l : List UInt8) : ([34] : List UInt8).isPrefixOf (b :: l) = decide (b = 34) := by
  simp only [List.isPrefixOf, Bool.and_true]
  rw [Bool.eq_iff_iff]; simp; exact eq_comm
theorem idx_none : ∀ s : List UInt8, Lib.index s [34] = -1 → dbl s = s
  | [], _ => rfl
  | b :: l, h => by
    rw [Lib.index, pre34] at h
    by_cases hb : b = 34
    · rw [if_pos (by simpa using hb)] at h; cases h
    · rw [if_neg (by simpa using hb)] at h
      have := Lib.index_ge l [34]
      by_cases hl : Lib.index l [34] = -1
      · simp only [dbl, if_neg hb, idx_none l hl]; rfl
      · rw [if_neg (by simpa using hl)] at h; omega
theorem idx_some : ∀ (s : List UInt8) (i : Nat), Lib.index s [34] = i → dbl s = s.take i ++ [34, 34] ++ dbl (s.drop (i + 1))
  | [], i, h => by simp [Lib.index] at h
  | b :: l, i, h => by
    rw [Lib.index, pre34] at h
    by_cases hb : b = 34
    · rw [if_pos (by simpa using hb)] at h
      have : i = 0 := by omega
      subst this; subst hb; rfl
    · rw [if_neg (by simpa using hb)] at h
      have := Lib.index_ge l [34]
      by_cases hl : Lib.index l [34] = -1
      · rw [if_pos (by simpa using hl)] at h; omega
      · rw [if_neg (by simpa using hl)] at h
        match i, h with
        | 0, h => omega
        | i + 1, h =>
          have := idx_some l i (by omega)
          simp only [dbl, if_neg hb, this, List.take_succ_cons, List.drop_succ_cons]; rfl
theorem rep_dbl : ∀ (k : Nat) (s : List UInt8), Lib.count s [34] = k → Lib.replaceK [34] [34, 34] k s = dbl s
  | 0, s, h => by
    have hge := Lib.index_ge s [34]
    by_cases hi : Lib.index s [34] = -1
    · rw [idx_none s hi]; rfl
    · obtain ⟨i, hi'⟩ : ∃ i : Nat, Lib.index s [34] = i := ⟨(Lib.index s [34]).toNat, by omega⟩
      have := Lib.count_hit (sub := [34]) (by simp) hi'
      omega
  | k + 1, s, h => by
    obtain ⟨i, hi⟩ := Lib.index_of_count (s := s) (old := [34]) (by omega)
    have hc := Lib.count_hit (sub := [34]) (by simp) hi
    rw [Lib.replaceK_hit _ _ _ _ i hi, idx_some s i hi]
    congr 1
    exact rep_dbl k _ (by simp only [List.length_singleton] at hc ⊢; omega)
theorem repB_dbl {s : List UInt8} (h : s.length ≤ 10000000) : repB (bs s) (bs [34]) (bs [34, 34]) = some (bs (dbl s)) := by
  have hc : Lib.countB (bs s) (bs [34]) ≤ s.length + 1 := Lib.count_le s [34]
  unfold repB
  rw [if_pos ⟨by rw [bs_size]; omega, by decide, by
    have : (bs [34, 34]).size = 2 := rfl
    rw [bs_size, this]; omega⟩]
  have e : Lib.replaceAll s [34] [34, 34] = dbl s := by
    unfold Lib.replaceAll Lib.replace
    rw [if_neg (by decide)]
    unfold Lib.replaceNum
    rw [if_pos (.inl (by omega))]
    exact rep_dbl _ s rfl
  show some (bs (Lib.replaceAll s [34] [34, 34])) = _
  rw [e]
theorem bAt_bs {s : List UInt8} {i : Nat} (h : i < s.length) : bAt (bs s) i = (s[i].toNat : Int) := by
  unfold bAt
  rw [dif_pos (by rw [bs_size]; simpa using h)]; rfl
theorem byte_bs {s : List UInt8} {i : Nat} (h : i < s.length) : byteAt (bs s) i = some (s[i].toNat : Int) := by
  unfold byteAt
  rw [if_pos ⟨by omega, by rw [bs_size]; omega⟩, bAt_bs h]
theorem sub_bs {s : List UInt8} {i : Nat} (h : i < s.length) : subB (bs s) i ((i : Int) + 1) = some (bs [s[i]]) := by
  unfold subB
  rw [if_pos ⟨by omega, by omega, by rw [bs_size]; omega⟩]
  congr 1
  apply ByteArray.ext
  rw [ByteArray.data_extract]
  apply Array.ext'
  rw [Array.toList_extract]
  have e1 : ((i : Int) + 1).toNat = i + 1 := by omega
  rw [e1, Int.toNat_natCast]
  show List.extract s i (i + 1) = [s[i]]
  rw [List.extract_eq_take_drop, show i + 1 - i = 1 by omega, List.drop_eq_getElem_cons h]; rfl
theorem quote_loop {s : List UInt8} (hs : s.length ≤ 10000000) (body : ByteArray × Int → Option ((ByteArray × Int) ⊕ ByteArray)) (hb : ∀ st1, body st1 = (if (decide (st1.2 < ((bs s).size : Int))) = true then ((byteAt (bs s) st1.2).bind fun y2 => (((if (decide (y2 = 34)) = true then ((catB st1.1 ⟨#[34]⟩).bind fun y6 => (some y6)) else (some st1.1)) : Option ByteArray).bind fun y3 => ((subB (bs s) st1.2 (IntKind.i64.wrap (st1.2 + 1))).bind fun y4 => ((catB y3 y4).bind fun y5 => (some (.inl (y5, (IntKind.i64.wrap (st1.2 + 1))))))))) else (some (.inr st1.1)))) :
    ∀ (m i : Nat) (out : List UInt8), i + m = s.length → out.length ≤ 2 * i + 2 → loopO body (bs out, (i : Int)) = some (bs (out ++ dbl (s.drop i)))
  | 0, i, out, hi, ho => by
    refine loopO_stop ?_
    rw [hb, if_neg (by rw [bs_size]; simp; omega), List.drop_of_length_le (by omega)]
    simp [dbl]
  | m + 1, i, out, hi, ho => by
    have h : i < s.length := by omega
    refine loopO_go (s' := (bs (out ++ (if s[i] = 34 then [34, 34] else [s[i]])), ((i + 1 : Nat) : Int))) ?_ ?_
    · rw [hb, if_pos (by rw [bs_size]; simp; omega)]
      dsimp only
      rw [byte_bs h, Option.bind_some, wrapB (by omega) (by omega), sub_bs h]
      by_cases hq : s[i] = 34
      · rw [if_pos (by rw [hq]; rfl), cat_bs (b := [34]) (by simp; omega), Option.bind_some, Option.bind_some, Option.bind_some, cat_bs (by simp; omega), if_pos hq, hq, List.append_assoc]; rfl
      · rw [if_neg (by simp; intro e; exact hq (UInt8.toNat_inj.1 (by simpa using Int.ofNat.inj e))), Option.bind_some, Option.bind_some, cat_bs (by simp; omega), if_neg hq]; rfl
    · rw [quote_loop hs body hb m (i + 1) _ (by omega) (by rw [List.length_append]; split <;> simp <;> omega), List.drop_eq_getElem_cons h]
      simp only [dbl, List.append_assoc]
end Go.Am
end
