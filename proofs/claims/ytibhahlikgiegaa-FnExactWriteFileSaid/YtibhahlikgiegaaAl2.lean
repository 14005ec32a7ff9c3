/- The law. -/
import Derived.Test.YtibhahlikgiegaaAl1
import Derived.Test.YtibhahlikgiegaaAg5
import Derived.Test.YtibhahlikgiegaaAg6
import Derived.Test.YtibhahlikgiegaaAg7
section
set_option maxRecDepth 100000
set_option maxHeartbeats 1000000
set_option linter.unusedVariables false
set_option linter.unusedSimpArgs false
namespace Go.Am
/-! texts in order -/
theorem bl_irrefl : ∀ x : List UInt8, Op.bytesLess x x = false
  | [] => rfl
  | a :: x => by simp [Op.bytesLess, bl_irrefl x]
theorem bl_trans : ∀ x y z : List UInt8, Op.bytesLess x y = true → Op.bytesLess y z = true → Op.bytesLess x z = true
  | _, [], _, h, _ => by simp [Op.bytesLess] at h
  | _, _ :: _, [], _, h => by simp [Op.bytesLess] at h
  | [], _ :: _, _ :: _, _, _ => rfl
  | a :: x, b :: y, c :: z, h, k => by
    simp only [Op.bytesLess, Bool.or_eq_true, Bool.and_eq_true, decide_eq_true_eq, beq_iff_eq] at h k ⊢
    rcases h with h | ⟨rfl, h⟩
    · rcases k with k | ⟨rfl, k⟩
      · exact .inl (UInt8.lt_trans h k)
      · exact .inl h
    · rcases k with k | ⟨rfl, k⟩
      · exact .inl k
      · exact .inr ⟨rfl, bl_trans x y z h k⟩
def Less (x y : ByteArray) : Prop := Op.bytesLess x.toList y.toList = true
theorem compare_ok (x y : ByteArray) : ∃ r : Int, F_cmp_Compare_string x y = some r ∧ (r < 0 ↔ Less x y) ∧ (r = 0 ↔ x = y) := by
  suffices h : ∃ r : Int, B_cmp_Compare_string x y = some r ∧ (r < 0 ↔ Less x y) ∧ (r = 0 ↔ x = y) by
    obtain ⟨r, h1, h2⟩ := h; exact ⟨r, u_cmp_Compare_string x y r h1, h2⟩
  have hn : ∀ z, F_cmp_isNaN_string z = some false := fun z => u_cmp_isNaN_string z _ (by unfold B_cmp_isNaN_string; simp)
  unfold B_cmp_Compare_string
  rw [hn, Option.bind_some, hn, Option.bind_some, if_neg (by simp), if_neg (by simp)]
  unfold Less
  cases hl : Op.bytesLess x.toList y.toList with
  | true =>
    refine ⟨-1, by simp, by simp, ⟨fun h => by omega, fun h => ?_⟩⟩
    subst h; rw [bl_irrefl] at hl; cases hl
  | false =>
    by_cases e : x = y
    · exact ⟨0, by simp [e], by simp, by simp [e]⟩
    · exact ⟨1, by simp [e], by simp, by simp [e]⟩
/-- Names that rise. -/
def Rises (l : List DFile) : Prop := ∀ i, 1 ≤ i → i < l.length → LessAt l i
theorem rises_lt {l : List DFile} (h : Rises l) : ∀ (d i : Nat) (hi : i + d + 1 < l.length), Less (l[i]'(by omega)).Name (l[i + d + 1]'hi).Name
  | 0, i, hi => h (i + 1) (by omega) hi _ _ (by rw [Nat.add_sub_cancel]; exact List.getElem?_eq_getElem (by omega)) (List.getElem?_eq_getElem hi)
  | d + 1, i, hi => by
    have h1 := rises_lt h d i (by omega)
    have h2 := h (i + d + 2) (by omega) hi _ _ (by rw [show i + d + 2 - 1 = i + d + 1 by omega]; exact List.getElem?_eq_getElem (by omega)) (List.getElem?_eq_getElem hi)
    exact bl_trans _ _ _ h1 h2
theorem rises_lt' {l : List DFile} (h : Rises l) {i j : Nat} (hij : i < j) (hj : j < l.length) : Less (l[i]'(by omega)).Name l[j].Name := by
  obtain ⟨d, rfl⟩ : ∃ d, j = i + d + 1 := ⟨j - i - 1, by omega⟩
  exact rises_lt h d i hj
theorem rises_map {l : List DFile} (h : Rises l) : Rises (l.map cpFile) := fun i h1 h2 x y hx hy => by
  rw [List.getElem?_map] at hx hy
  obtain ⟨x', e1, rfl⟩ := Option.map_eq_some_iff.1 hx
  obtain ⟨y', e2, rfl⟩ := Option.map_eq_some_iff.1 hy
  exact h i h1 (by simpa using h2) x' y' e1 e2
theorem nameOf (x : DFile) : F_impl_nameOfFile x = some x.Name := u_impl_nameOfFile x _ rfl
/-- The binary search. -/
theorem bsearch (a : Sl DFile) (a1 : ByteArray) (hl : a.l.length ≤ 1048576) (hr : Rises a.l) : ∃ r : Nat, r ≤ a.l.length ∧ (loopO (S := (Int × Int)) (R := Int) (fun st1 => (if (decide (st1.1 < st1.2)) = true then ((elt a ((IntKind.i64.wrap (((IntKind.u64.wrap (IntKind.i64.wrap (st1.1 + st1.2))).fdiv (2 ^ 1)))))).bind fun y6 => ((F_impl_nameOfFile y6).bind fun y7 => ((F_cmp_Compare_string y7 a1).bind fun y8 => (if (decide (y8 < 0)) = true then (some (.inl ((IntKind.i64.wrap ((IntKind.i64.wrap (((IntKind.u64.wrap (IntKind.i64.wrap (st1.1 + st1.2))).fdiv (2 ^ 1)))) + 1)), st1.2))) else (some (.inl (st1.1, (IntKind.i64.wrap (((IntKind.u64.wrap (IntKind.i64.wrap (st1.1 + st1.2))).fdiv (2 ^ 1))))))))))) else (some (.inr st1.1)))) (0, (a.l.length : Int))) = some (r : Int) ∧ (∀ k, (hk : k < r) → (hk2 : k < a.l.length) → Less a.l[k].Name a1) ∧ (∀ k, r ≤ k → (hk : k < a.l.length) → ¬ Less a.l[k].Name a1) := by
  suffices H : ∀ (m lo hi : Nat), hi - lo ≤ m → lo ≤ hi → hi ≤ a.l.length → (∀ k, (hk : k < lo) → (hk2 : k < a.l.length) → Less a.l[k].Name a1) → (∀ k, hi ≤ k → (hk : k < a.l.length) → ¬ Less a.l[k].Name a1) →
      ∃ r : Nat, r ≤ a.l.length ∧ (loopO (S := (Int × Int)) (R := Int) (fun st1 => (if (decide (st1.1 < st1.2)) = true then ((elt a ((IntKind.i64.wrap (((IntKind.u64.wrap (IntKind.i64.wrap (st1.1 + st1.2))).fdiv (2 ^ 1)))))).bind fun y6 => ((F_impl_nameOfFile y6).bind fun y7 => ((F_cmp_Compare_string y7 a1).bind fun y8 => (if (decide (y8 < 0)) = true then (some (.inl ((IntKind.i64.wrap ((IntKind.i64.wrap (((IntKind.u64.wrap (IntKind.i64.wrap (st1.1 + st1.2))).fdiv (2 ^ 1)))) + 1)), st1.2))) else (some (.inl (st1.1, (IntKind.i64.wrap (((IntKind.u64.wrap (IntKind.i64.wrap (st1.1 + st1.2))).fdiv (2 ^ 1))))))))))) else (some (.inr st1.1)))) ((lo : Int), (hi : Int))) = some (r : Int) ∧ (∀ k, (hk : k < r) → (hk2 : k < a.l.length) → Less a.l[k].Name a1) ∧ (∀ k, r ≤ k → (hk : k < a.l.length) → ¬ Less a.l[k].Name a1) by
    exact H a.l.length 0 a.l.length (by omega) (by omega) (Nat.le_refl _) (fun k hk => by omega) (fun k hk hk2 => by omega)
  intro m
  induction m with
  | zero =>
    intro lo hi hm h1 h2 h3 h4
    have : lo = hi := by omega
    subst this
    refine ⟨lo, h2, loopO_stop ?_, h3, h4⟩
    show (if decide ((lo : Int) < (lo : Int)) = true then _ else _) = _
    rw [if_neg (by simp)]
  | succ m ih =>
    intro lo hi hm h1 h2 h3 h4
    by_cases hlt : lo < hi
    · obtain ⟨md, hmd⟩ : ∃ md, md = (lo + hi) / 2 := ⟨_, rfl⟩
      have hw : IntKind.i64.wrap ((IntKind.u64.wrap (IntKind.i64.wrap ((lo : Int) + (hi : Int)))).fdiv (2 ^ 1)) = (md : Int) := by
        rw [wrapB (n := (lo : Int) + hi) (by omega) (by omega)]
        have e1 : IntKind.u64.wrap ((lo : Int) + hi) = (lo : Int) + hi := by
          simp only [IntKind.wrap, IntKind.signed, IntKind.bits]; simp; omega
        have e2 : ((lo : Int) + hi).fdiv (2 ^ 1) = (md : Int) := by
          rw [Int.fdiv_eq_ediv_of_nonneg _ (by omega), hmd]; omega
        rw [e1, e2, wrapB (by omega) (by omega)]
      have hmlt : md < a.l.length := by omega
      obtain ⟨r, c1, c2, c3⟩ := compare_ok a.l[md].Name a1
      by_cases hc : Less a.l[md].Name a1
      · obtain ⟨R, r1, r2, r3⟩ := ih (md + 1) hi (by omega) (by omega) h2 (fun k hk hk2 => by
          by_cases e : k = md
          · subst e; exact hc
          · exact bl_trans _ _ _ (rises_lt' hr (by omega : k < md) hmlt) hc) h4
        · have e : (((md + 1 : Nat) : Int)) = (md : Int) + 1 := by simp
          rw [e] at r2
          refine ⟨R, r1, loopO_go ?_ r2, r3⟩
          show (if decide ((lo : Int) < (hi : Int)) = true then _ else _) = _
          rw [if_pos (by simpa using hlt), hw, elt_lt hmlt, Option.bind_some, nameOf, Option.bind_some, c1, Option.bind_some, if_pos (by simpa using c2.2 hc), wrapB (by omega) (by omega)]
      · obtain ⟨R, r1, r2, r3⟩ := ih lo md (by omega) (by omega) (by omega) h3 (fun k hk hk2 => by
          intro w
          by_cases e : k = md
          · subst e; exact hc w
          · exact hc (bl_trans _ _ _ (rises_lt' hr (by omega : md < k) hk2) w))
        · refine ⟨R, r1, loopO_go ?_ r2, r3⟩
          show (if decide ((lo : Int) < (hi : Int)) = true then _ else _) = _
          rw [if_pos (by simpa using hlt), hw, elt_lt hmlt, Option.bind_some, nameOf, Option.bind_some, c1, Option.bind_some, if_neg (by simpa using fun h => hc (c2.1 h))]
    · have : lo = hi := by omega
      subst this
      refine ⟨lo, h2, loopO_stop ?_, h3, h4⟩
      show (if decide ((lo : Int) < (lo : Int)) = true then _ else _) = _
      rw [if_neg (by simp)]
/-- Both searches: a file, or none. -/
theorem find_both (c : DConsole) (s : ByteArray) (h : SmCon c) (hv : ConP c) :
    (∃ n, ∃ hn : n < c.Files.l.length, c.Files.l[n].Name = s ∧ F_spec_l21Find c s = some (n : Int) ∧ (loopO (S := (Int × Int)) (R := Int) (fun st1 => (if (decide (st1.1 < st1.2)) = true then ((elt (cqCon c).Files ((IntKind.i64.wrap (((IntKind.u64.wrap (IntKind.i64.wrap (st1.1 + st1.2))).fdiv (2 ^ 1)))))).bind fun y6 => ((F_impl_nameOfFile y6).bind fun y7 => ((F_cmp_Compare_string y7 s).bind fun y8 => (if (decide (y8 < 0)) = true then (some (.inl ((IntKind.i64.wrap ((IntKind.i64.wrap (((IntKind.u64.wrap (IntKind.i64.wrap (st1.1 + st1.2))).fdiv (2 ^ 1)))) + 1)), st1.2))) else (some (.inl (st1.1, (IntKind.i64.wrap (((IntKind.u64.wrap (IntKind.i64.wrap (st1.1 + st1.2))).fdiv (2 ^ 1))))))))))) else (some (.inr st1.1)))) (0, ((cqCon c).Files.l.length : Int))) = some (n : Int)) ∨
    ((∀ f ∈ c.Files.l, f.Name ≠ s) ∧ F_spec_l21Find c s = some (-1) ∧ ∃ r : Nat, r ≤ c.Files.l.length ∧ (loopO (S := (Int × Int)) (R := Int) (fun st1 => (if (decide (st1.1 < st1.2)) = true then ((elt (cqCon c).Files ((IntKind.i64.wrap (((IntKind.u64.wrap (IntKind.i64.wrap (st1.1 + st1.2))).fdiv (2 ^ 1)))))).bind fun y6 => ((F_impl_nameOfFile y6).bind fun y7 => ((F_cmp_Compare_string y7 s).bind fun y8 => (if (decide (y8 < 0)) = true then (some (.inl ((IntKind.i64.wrap ((IntKind.i64.wrap (((IntKind.u64.wrap (IntKind.i64.wrap (st1.1 + st1.2))).fdiv (2 ^ 1)))) + 1)), st1.2))) else (some (.inl (st1.1, (IntKind.i64.wrap (((IntKind.u64.wrap (IntKind.i64.wrap (st1.1 + st1.2))).fdiv (2 ^ 1))))))))))) else (some (.inr st1.1)))) (0, ((cqCon c).Files.l.length : Int))) = some (r : Int)) := by
  have hlen := h.2.2.1.1
  have hr : Rises c.Files.l := hv.2.2.2.2.2.2
  obtain ⟨r, r1, r2, r3, r4⟩ := bsearch (cqCon c).Files s (by simpa [cqCon] using hlen) (rises_map hr)
  have hl2 : (cqCon c).Files.l.length = c.Files.l.length := by simp [cqCon]
  have hnm : ∀ k (hk : k < c.Files.l.length), ((cqCon c).Files.l[k]'(by omega)).Name = c.Files.l[k].Name := fun k hk => by simp [cqCon, cpFile]
  by_cases hex : ∃ n, ∃ hn : n < c.Files.l.length, c.Files.l[n].Name = s
  · obtain ⟨n, hn, he⟩ := hex
    refine .inl ⟨n, hn, he, u_spec_l21Find c s _ ?_, ?_⟩
    · unfold B_spec_l21Find
      suffices H : ∀ (m i : Nat), i + m = n → loopO (S := Int) (R := (Unit ⊕ Int)) (fun st1 => (if (decide (st1 < (c.Files.l.length : Int))) = true then ((elt c.Files st1).bind fun y2 => (if (decide (y2.Name = s)) = true then (some (.inr (.inr st1))) else (some (.inl (IntKind.i64.wrap (st1 + 1)))))) else (some (.inr (.inl ()))))) (i : Int) = some (.inr (n : Int)) by
        have := H n 0 (by omega)
        have e : loopO (S := Int) (R := (Unit ⊕ Int)) _ 0 = _ := this
        rw [e]; rfl
      intro m
      induction m with
      | zero =>
        intro i hi
        have : i = n := by omega
        subst this
        refine loopO_stop ?_
        rw [if_pos (by simpa using hn), elt_lt hn, Option.bind_some, if_pos (by simpa using he)]
      | succ m ih =>
        intro i hi
        have hlt := rises_lt' hr (by omega : i < n) hn
        have hne : c.Files.l[i].Name ≠ s := fun e => by rw [e, he] at hlt; unfold Less at hlt; rw [bl_irrefl] at hlt; cases hlt
        have := ih (i + 1) (by omega)
        have hc : ((i + 1 : Nat) : Int) = (i : Int) + 1 := by simp
        rw [hc] at this
        refine loopO_go ?_ this
        rw [if_pos (by simp; omega), elt_lt (by omega), Option.bind_some, if_neg (by simpa using hne), wrapB (by omega) (by omega)]
    · have : r = n := by
        rcases Nat.lt_trichotomy r n with hlt | e | hgt
        · refine absurd ?_ (r4 r (Nat.le_refl _) (by omega))
          rw [hnm r (by omega), ← he]; exact rises_lt' hr hlt hn
        · exact e
        · have := r3 n hgt (by omega)
          rw [hnm n hn, he] at this; unfold Less at this; rw [bl_irrefl] at this; cases this
      rw [← this]; exact r2
  · have hno : ∀ f ∈ c.Files.l, f.Name ≠ s := fun f hf e => by
      obtain ⟨i, hi, rfl⟩ := List.getElem_of_mem hf
      exact hex ⟨i, hi, e⟩
    refine .inr ⟨hno, u_spec_l21Find c s _ ?_, r, by omega, r2⟩
    unfold B_spec_l21Find
    have := (loop_all (R := Unit ⊕ Int) (n := c.Files.l.length) (p := fun _ => True) (bd := fun st1 => ((elt c.Files st1).bind fun y2 => (if (decide (y2.Name = s)) = true then (some (.inr (.inr st1))) else (some (.inl (IntKind.i64.wrap (st1 + 1))))))) (x := .inl ()) (y := .inl ()) 0 (by omega) (fun i _ hi _ => by
      show (elt c.Files (i : Int)).bind _ = _
      rw [elt_lt hi, Option.bind_some, if_neg (by simpa using hno _ (List.getElem_mem hi))]) (fun i _ _ hw => absurd trivial hw)).1 (fun _ _ _ => trivial)
    have e : loopO (S := Int) (R := (Unit ⊕ Int)) _ 0 = _ := this
    rw [e]; rfl
theorem unless_ok (b : Bool) (k : Int) : F_impl_unless b k = some (if b = true then 0 else k) := u_impl_unless b k _ (by unfold B_impl_unless; cases b <;> rfl)
/-- What a change of one file leaves. -/
theorem Len_set {c : DConsole} {j : Int} {x : DFile} (h : LenCon c) (hx : x.Lines.l.length ≤ 1048577) : LenCon ⟨c.Input, c.At, c.Output, setS c.Files j x, c.Trace⟩ := by
  obtain ⟨a1, a2, ⟨a3, a3'⟩, a4⟩ := h
  refine ⟨a1, a2, ⟨by simpa using a3, fun f hf => ?_⟩, a4⟩
  simp only [setS] at hf
  rcases List.mem_or_eq_of_mem_set hf with hf | rfl
  · exact a3' f hf
  · exact hx
theorem Len_nil : LenCon ⟨⟨true, []⟩, 0, ⟨true, []⟩, ⟨true, []⟩, ⟨true, []⟩⟩ := ⟨by simp, by simp, ⟨by simp, fun f hf => by simp at hf⟩, by simp⟩
/-- What the reference says of a name, and where the search ends. -/
theorem code1 (c : DConsole) (s : ByteArray) (h : SmCon c) (hs : s.size ≤ 1048576) : (¬ ConP c ∧ F_spec_l21Code c s = some (0, 1)) ∨ (ConP c ∧ ¬ NameP s ∧ F_spec_l21Code c s = some (0, 1)) ∨
    (ConP c ∧ NameP s ∧ ((∃ n, ∃ hn : n < c.Files.l.length, c.Files.l[n].Name = s ∧ F_spec_l21Code c s = some ((n : Int), 0) ∧ (loopO (S := (Int × Int)) (R := Int) (fun st1 => (if (decide (st1.1 < st1.2)) = true then ((elt (cqCon c).Files ((IntKind.i64.wrap (((IntKind.u64.wrap (IntKind.i64.wrap (st1.1 + st1.2))).fdiv (2 ^ 1)))))).bind fun y6 => ((F_impl_nameOfFile y6).bind fun y7 => ((F_cmp_Compare_string y7 s).bind fun y8 => (if (decide (y8 < 0)) = true then (some (.inl ((IntKind.i64.wrap ((IntKind.i64.wrap (((IntKind.u64.wrap (IntKind.i64.wrap (st1.1 + st1.2))).fdiv (2 ^ 1)))) + 1)), st1.2))) else (some (.inl (st1.1, (IntKind.i64.wrap (((IntKind.u64.wrap (IntKind.i64.wrap (st1.1 + st1.2))).fdiv (2 ^ 1))))))))))) else (some (.inr st1.1)))) (0, ((cqCon c).Files.l.length : Int))) = some (n : Int)) ∨
      ((∀ f ∈ c.Files.l, f.Name ≠ s) ∧ F_spec_l21Code c s = some (0, 11) ∧ ∃ r : Nat, r ≤ c.Files.l.length ∧ (loopO (S := (Int × Int)) (R := Int) (fun st1 => (if (decide (st1.1 < st1.2)) = true then ((elt (cqCon c).Files ((IntKind.i64.wrap (((IntKind.u64.wrap (IntKind.i64.wrap (st1.1 + st1.2))).fdiv (2 ^ 1)))))).bind fun y6 => ((F_impl_nameOfFile y6).bind fun y7 => ((F_cmp_Compare_string y7 s).bind fun y8 => (if (decide (y8 < 0)) = true then (some (.inl ((IntKind.i64.wrap ((IntKind.i64.wrap (((IntKind.u64.wrap (IntKind.i64.wrap (st1.1 + st1.2))).fdiv (2 ^ 1)))) + 1)), st1.2))) else (some (.inl (st1.1, (IntKind.i64.wrap (((IntKind.u64.wrap (IntKind.i64.wrap (st1.1 + st1.2))).fdiv (2 ^ 1))))))))))) else (some (.inr st1.1)))) (0, ((cqCon c).Files.l.length : Int))) = some (r : Int)))) := by
  by_cases hv : ConP c
  · by_cases hn : NameP s
    · refine .inr (.inr ⟨hv, hn, ?_⟩)
      rcases find_both c s h hv with ⟨n, hn', e, q, q2⟩ | ⟨e, q, q2⟩
      · refine .inl ⟨n, hn', e, u_spec_l21Code c s _ ?_, q2⟩
        unfold B_spec_l21Code
        rw [con1 c h, Option.bind_some, says_t hv, if_neg (by simp), name1 s hs, Option.bind_some, says_t hn, if_neg (by simp), q, Option.bind_some, if_neg (by simp)]
      · refine .inr ⟨e, u_spec_l21Code c s _ ?_, q2⟩
        unfold B_spec_l21Code
        rw [con1 c h, Option.bind_some, says_t hv, if_neg (by simp), name1 s hs, Option.bind_some, says_t hn, if_neg (by simp), q, Option.bind_some, if_pos (by simp)]
    · refine .inr (.inl ⟨hv, hn, u_spec_l21Code c s _ ?_⟩)
      unfold B_spec_l21Code
      rw [con1 c h, Option.bind_some, says_t hv, if_neg (by simp), name1 s hs, Option.bind_some, says_f hn, if_pos (by simp)]
  · refine .inl ⟨hv, u_spec_l21Code c s _ ?_⟩
    unfold B_spec_l21Code
    rw [con1 c h, Option.bind_some, says_f hv, if_pos (by simp)]
end Go.Am
end
