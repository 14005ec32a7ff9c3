/- The law. -/
import Derived.Test.YtfnjieagnkmceaaAl2
section
set_option maxRecDepth 100000
set_option maxHeartbeats 2000000
set_option linter.unusedVariables false
set_option linter.unusedSimpArgs false
namespace Go.Am

/-! finding objects -/
def OrdP (l : List DObject) : Prop := ∀ i, 1 ≤ i → i < l.length → ∀ x y, l[i - 1]? = some x → l[i]? = some y → x.Id < y.Id
theorem ord_lt {l : List DObject} (h : OrdP l) : ∀ (d i : Nat) (hi : i + d + 1 < l.length), (l[i]'(by omega)).Id < (l[i + d + 1]'hi).Id
  | 0, i, hi => h (i + 1) (by omega) hi _ _ (by rw [Nat.add_sub_cancel]; exact List.getElem?_eq_getElem (by omega)) (List.getElem?_eq_getElem hi)
  | d + 1, i, hi => by
    have h1 := ord_lt h d i (by omega)
    have h2 := h (i + d + 2) (by omega) hi _ _ (by rw [show i + d + 2 - 1 = i + d + 1 by omega]; exact List.getElem?_eq_getElem (by omega)) (List.getElem?_eq_getElem hi)
    exact Int.lt_trans h1 h2
theorem ord_lt' {l : List DObject} (h : OrdP l) {i j : Nat} (hij : i < j) (hj : j < l.length) : (l[i]'(by omega)).Id < l[j].Id := by
  obtain ⟨d, rfl⟩ : ∃ d, j = i + d + 1 := ⟨j - i - 1, by omega⟩
  exact ord_lt h d i hj
theorem cmp2 (a b : Int) : F_cmp_Compare_int64 a b = some (if a < b then -1 else if b < a then 1 else 0) := by
  refine u_cmp_Compare_int64 a b _ ?_
  unfold B_cmp_Compare_int64
  have n : ∀ x : Int, F_cmp_isNaN_int64 x = some false := fun x => u_cmp_isNaN_int64 x _ (by unfold B_cmp_isNaN_int64; simp)
  rw [n a, n b]
  by_cases h1 : a < b
  · simp [h1]
  · by_cases h2 : b < a <;> simp [h1, h2]
theorem cmpO (x : DObject) (b : Int) : F_impl_Heap_find_1 x b = some (if x.Id < b then -1 else if b < x.Id then 1 else 0) := u_impl_Heap_find_1 x b _ (by unfold B_impl_Heap_find_1; rw [cmp2]; rfl)
/-- Where an object is, or -1. -/
def AtP (h : DHeap) (id : Int) (r : Int) : Prop := (∃ n : Nat, ∃ hn : n < h.Objects.l.length, r = n ∧ h.Objects.l[n].Id = id) ∨ (r = -1 ∧ ∀ o ∈ h.Objects.l, o.Id ≠ id)
theorem find1 (h : DHeap) (id : Int) (hl : h.Objects.l.length ≤ 1048576) : ∃ r, F_spec_l07Find h id = some r ∧ AtP h id r := by
  have := loop_fst (n := h.Objects.l.length) (p := fun i => ∀ x, h.Objects.l[i]? = some x → x.Id = id) (bd := fun st1 => ((elt h.Objects st1).bind fun y2 => (if (decide (y2.Id = id)) = true then (some (.inr (.inr st1))) else (some (.inl (IntKind.i64.wrap (st1 + 1))))))) (by omega) (fun i hi hp => by
    show (elt h.Objects (i : Int)).bind _ = _
    rw [elt_lt hi, Option.bind_some, if_neg (by simp; exact fun e => hp fun x hx => by rw [List.getElem?_eq_getElem hi] at hx; injection hx with hx; subst hx; exact e)]) (fun i hi hp => by
    show (elt h.Objects (i : Int)).bind _ = _
    rw [elt_lt hi, Option.bind_some, if_pos (by simpa using hp _ (List.getElem?_eq_getElem hi))])
  rcases this with ⟨r, r1, r2, r3, r4⟩ | ⟨r1, r2⟩
  · exact ⟨r, u_spec_l07Find h id _ (by unfold B_spec_l07Find; exact r4), .inl ⟨r, r1, rfl, r2 _ (List.getElem?_eq_getElem r1)⟩⟩
  · refine ⟨-1, u_spec_l07Find h id _ (by unfold B_spec_l07Find; exact r2), .inr ⟨rfl, fun o ho e => ?_⟩⟩
    obtain ⟨i, hi, rfl⟩ := List.getElem_of_mem ho
    exact r1 i hi fun x hx => by rw [List.getElem?_eq_getElem hi] at hx; injection hx with hx; subst hx; exact e
theorem bsearch (a : Sl DObject) (a1 : Int) (hl : a.l.length ≤ 1048576) (hr : OrdP a.l) : ∃ r : Nat, r ≤ a.l.length ∧ loopO (S := (Int × Int)) (R := Int) (fun st1 => (if (decide (st1.1 < st1.2)) = true then ((elt a ((IntKind.i64.wrap (((IntKind.u64.wrap (IntKind.i64.wrap (st1.1 + st1.2))).fdiv (2 ^ 1)))))).bind fun y2 => ((F_impl_Heap_find_1 y2 a1).bind fun y3 => (if (decide (y3 < 0)) = true then (some (.inl ((IntKind.i64.wrap ((IntKind.i64.wrap (((IntKind.u64.wrap (IntKind.i64.wrap (st1.1 + st1.2))).fdiv (2 ^ 1)))) + 1)), st1.2))) else (some (.inl (st1.1, (IntKind.i64.wrap (((IntKind.u64.wrap (IntKind.i64.wrap (st1.1 + st1.2))).fdiv (2 ^ 1)))))))))) else (some (.inr st1.1)))) (0, (a.l.length : Int)) = some (r : Int) ∧ (∀ k, (hk : k < r) → (hk2 : k < a.l.length) → a.l[k].Id < a1) ∧ (∀ k, r ≤ k → (hk : k < a.l.length) → ¬ a.l[k].Id < a1) := by
  suffices H : ∀ (m lo hi : Nat), hi - lo ≤ m → lo ≤ hi → hi ≤ a.l.length → (∀ k, (hk : k < lo) → (hk2 : k < a.l.length) → a.l[k].Id < a1) → (∀ k, hi ≤ k → (hk : k < a.l.length) → ¬ a.l[k].Id < a1) →
      ∃ r : Nat, r ≤ a.l.length ∧ loopO (S := (Int × Int)) (R := Int) (fun st1 => (if (decide (st1.1 < st1.2)) = true then ((elt a ((IntKind.i64.wrap (((IntKind.u64.wrap (IntKind.i64.wrap (st1.1 + st1.2))).fdiv (2 ^ 1)))))).bind fun y2 => ((F_impl_Heap_find_1 y2 a1).bind fun y3 => (if (decide (y3 < 0)) = true then (some (.inl ((IntKind.i64.wrap ((IntKind.i64.wrap (((IntKind.u64.wrap (IntKind.i64.wrap (st1.1 + st1.2))).fdiv (2 ^ 1)))) + 1)), st1.2))) else (some (.inl (st1.1, (IntKind.i64.wrap (((IntKind.u64.wrap (IntKind.i64.wrap (st1.1 + st1.2))).fdiv (2 ^ 1)))))))))) else (some (.inr st1.1)))) ((lo : Int), (hi : Int)) = some (r : Int) ∧ (∀ k, (hk : k < r) → (hk2 : k < a.l.length) → a.l[k].Id < a1) ∧ (∀ k, r ≤ k → (hk : k < a.l.length) → ¬ a.l[k].Id < a1) by
    exact H a.l.length 0 a.l.length (by omega) (by omega) (Nat.le_refl _) (fun k hk => by omega) (fun k hk hk2 => by omega)
  intro m
  induction m with
  | zero =>
    intro lo hi hm h1 h2 h3 h4
    have : lo = hi := by omega
    subst this
    refine ⟨lo, h2, loopO_stop ?_, h3, h4⟩
    show (if decide ((lo : Int) < (lo : Int)) = true then _ else _) = _
    rw [if_neg (by simp)]
  | succ m ih =>
    intro lo hi hm h1 h2 h3 h4
    by_cases hlt : lo < hi
    · obtain ⟨md, hmd⟩ : ∃ md, md = (lo + hi) / 2 := ⟨_, rfl⟩
      have hw : IntKind.i64.wrap ((IntKind.u64.wrap (IntKind.i64.wrap ((lo : Int) + (hi : Int)))).fdiv (2 ^ 1)) = (md : Int) := by
        rw [wrapB (n := (lo : Int) + hi) (by omega) (by omega)]
        have e1 : IntKind.u64.wrap ((lo : Int) + hi) = (lo : Int) + hi := by
          simp only [IntKind.wrap, IntKind.signed, IntKind.bits]; simp; omega
        have e2 : ((lo : Int) + hi).fdiv (2 ^ 1) = (md : Int) := by
          rw [Int.fdiv_eq_ediv_of_nonneg _ (by omega), hmd]; omega
        rw [e1, e2, wrapB (by omega) (by omega)]
      have hmlt : md < a.l.length := by omega
      by_cases hc : a.l[md].Id < a1
      · obtain ⟨R, r1, r2, r3⟩ := ih (md + 1) hi (by omega) (by omega) h2 (fun k hk hk2 => by
          by_cases e : k = md
          · subst e; exact hc
          · exact Int.lt_trans (ord_lt' hr (by omega : k < md) hmlt) hc) h4
        · have e : (((md + 1 : Nat) : Int)) = (md : Int) + 1 := by simp
          rw [e] at r2
          refine ⟨R, r1, loopO_go ?_ r2, r3⟩
          show (if decide ((lo : Int) < (hi : Int)) = true then _ else _) = _
          rw [if_pos (by simpa using hlt), hw, elt_lt hmlt, Option.bind_some, cmpO, Option.bind_some, if_pos hc, if_pos (by simp), wrapB (by omega) (by omega)]
      · obtain ⟨R, r1, r2, r3⟩ := ih lo md (by omega) (by omega) (by omega) h3 (fun k hk hk2 => by
          intro w
          by_cases e : k = md
          · subst e; exact hc w
          · exact hc (Int.lt_trans (ord_lt' hr (by omega : md < k) hk2) w))
        · refine ⟨R, r1, loopO_go ?_ r2, r3⟩
          show (if decide ((lo : Int) < (hi : Int)) = true then _ else _) = _
          rw [if_pos (by simpa using hlt), hw, elt_lt hmlt, Option.bind_some, cmpO, Option.bind_some, if_neg hc, if_neg (by split <;> simp)]
    · have : lo = hi := by omega
      subst this
      refine ⟨lo, h2, loopO_stop ?_, h3, h4⟩
      show (if decide ((lo : Int) < (lo : Int)) = true then _ else _) = _
      rw [if_neg (by simp)]
theorem at_uniq {h : DHeap} {id r r' : Int} (ho : OrdP h.Objects.l) (h1 : AtP h id r) (h2 : AtP h id r') : r = r' := by
  rcases h1 with ⟨n, hn, rfl, e⟩ | ⟨rfl, e⟩ <;> rcases h2 with ⟨n', hn', rfl, e'⟩ | ⟨rfl, e'⟩
  · rcases Nat.lt_trichotomy n n' with c | c | c
    · have := ord_lt' ho c hn'; omega
    · rw [c]
    · have := ord_lt' ho c hn; omega
  · exact absurd e (e' _ (List.getElem_mem hn))
  · exact absurd e' (e _ (List.getElem_mem hn'))
  · rfl
theorem find2 (h : DHeap) (id : Int) (hl : h.Objects.l.length ≤ 1048576) (ho : OrdP h.Objects.l) : ∃ r, F_impl_Heap_find h id = some r ∧ AtP h id r := by
  suffices H : ∃ r, B_impl_Heap_find h id = some r ∧ AtP h id r by
    obtain ⟨r, a, b⟩ := H; exact ⟨r, u_impl_Heap_find h id r a, b⟩
  unfold B_impl_Heap_find
  obtain ⟨r, r1, r2, r3, r4⟩ := bsearch h.Objects id hl ho
  rw [r2, Option.bind_some]
  by_cases hlt : r < h.Objects.l.length
  · rw [if_pos (by simpa using hlt), elt_lt hlt, Option.bind_some, cmpO, Option.bind_some]
    by_cases e : h.Objects.l[r].Id = id
    · refine ⟨r, by simp [e], .inl ⟨r, hlt, rfl, e⟩⟩
    · refine ⟨-1, ?_, .inr ⟨rfl, fun o hm e2 => ?_⟩⟩
      · have n1 := r4 r (Nat.le_refl _) hlt
        have e3 : id < h.Objects.l[r].Id := by omega
        simp [n1, e3]
      · obtain ⟨k, hk, rfl⟩ := List.getElem_of_mem hm
        rcases Nat.lt_trichotomy k r with c | c | c
        · have := r3 k c hk; omega
        · subst c; exact e e2
        · have := ord_lt' ho c hk; have := r4 r (Nat.le_refl _) hlt; omega
  · rw [if_neg (by simpa using hlt)]
    refine ⟨-1, rfl, .inr ⟨rfl, fun o hm e2 => ?_⟩⟩
    obtain ⟨k, hk, rfl⟩ := List.getElem_of_mem hm
    have := r3 k (by omega) hk; omega
theorem find_both (h : DHeap) (id : Int) (hl : h.Objects.l.length ≤ 1048576) (ho : OrdP h.Objects.l) : ∃ r, F_spec_l07Find h id = some r ∧ F_impl_Heap_find h id = some r ∧ AtP h id r := by
  obtain ⟨r, a, b⟩ := find1 h id hl
  obtain ⟨r', a', b'⟩ := find2 h id hl ho
  have := at_uniq ho b b'; subst this
  exact ⟨r, a, a', b⟩

/-! values that fit -/
def kindOf (k : Int) : Int := IntKind.i64.wrap (IntKind.i64.wrap (k - 4) + 1)
def RefP (h : DHeap) (v : DValue) : Prop := ∃ o ∈ h.Objects.l, o.Id = v.Ref ∧ o.Kind = kindOf v.Kind
def FitsP (h : DHeap) (v : DValue) : Prop := ValP v ∧ ((4 ≤ v.Kind ∧ v.Kind ≤ 6) → RefP h v)
theorem ref1 (v : DValue) : F_spec_l07IsRef v = some (says (4 ≤ v.Kind ∧ v.Kind ≤ 6)) := u_spec_l07IsRef v _ (by unfold B_spec_l07IsRef; exact s_last (in1 _ _ _))
theorem ref2 (k : Int) : F_impl_refers k = some (says (4 ≤ k ∧ k ≤ 6)) := u_impl_refers k _ (by unfold B_impl_refers; exact s_last (in2 _ _ _))
theorem ref_at {h : DHeap} {v : DValue} {r : Int} (ho : OrdP h.Objects.l) (ha : AtP h v.Ref r) : (0 ≤ r → ∃ n : Nat, ∃ hn : n < h.Objects.l.length, r = n ∧ (h.Objects.l[n].Kind = kindOf v.Kind ↔ RefP h v)) ∧ (¬ 0 ≤ r → ¬ RefP h v) := by
  rcases ha with ⟨n, hn, rfl, e⟩ | ⟨rfl, e⟩
  · refine ⟨fun _ => ⟨n, hn, rfl, fun w => ⟨_, List.getElem_mem hn, e, w⟩, fun ⟨o, hm, e2, w⟩ => ?_⟩, fun w => absurd (by omega) w⟩
    obtain ⟨k, hk, rfl⟩ := List.getElem_of_mem hm
    have := at_uniq (r := (n : Int)) (r' := (k : Int)) (id := v.Ref) (h := h) ho (.inl ⟨n, hn, rfl, e⟩) (.inl ⟨k, hk, rfl, e2⟩)
    have : n = k := by omega
    subst this; exact w
  · exact ⟨fun w => by omega, fun _ ⟨o, hm, e2, _⟩ => e o hm e2⟩
theorem fits1 (h : DHeap) (v : DValue) (hl : h.Objects.l.length ≤ 1048576) (ho : OrdP h.Objects.l) (hv : SmValue v) : F_spec_l07Fits h v = some (says (FitsP h v)) := by
  refine u_spec_l07Fits h v _ ?_
  unfold B_spec_l07Fits
  refine s_bindn (val1 v hv) fun _ => ?_
  rw [ref1, Option.bind_some]
  by_cases hr : 4 ≤ v.Kind ∧ v.Kind ≤ 6
  · rw [says_t hr, if_neg (by simp)]
    obtain ⟨r, r1, ra⟩ := find1 h v.Ref hl
    obtain ⟨q1, q2⟩ := ref_at ho ra
    rw [r1, Option.bind_some]
    have hk : F_spec_l07ObjectKind v.Kind = some (kindOf v.Kind) := u_spec_l07ObjectKind _ _ rfl
    by_cases h0 : 0 ≤ r
    · obtain ⟨n, hn, rfl, e⟩ := q1 h0
      rw [if_pos (by simp), elt_lt hn, Option.bind_some, hk, Option.bind_some]
      exact s_iff s_dec (e.trans ⟨fun w _ => w, fun w => w hr⟩)
    · rw [if_neg (by simpa using h0), says_f fun w => q2 h0 (w hr)]
  · rw [says_f hr, if_pos (by simp), says_t fun w => absurd w hr]
theorem fits2 (h : DHeap) (v : DValue) (hl : h.Objects.l.length ≤ 1048576) (ho : OrdP h.Objects.l) (hv : SmValue v) : F_impl_Heap_fits h v = some (says (FitsP h v)) := by
  refine u_impl_Heap_fits h v _ ?_
  unfold B_impl_Heap_fits
  rw [val2 v hv]
  by_cases hvp : ValP v
  · rw [says_t hvp]
    simp only [Option.bind_some]
    rw [if_neg (by simp), ref2, Option.bind_some]
    by_cases hr : 4 ≤ v.Kind ∧ v.Kind ≤ 6
    · rw [says_t hr, if_neg (by simp)]
      obtain ⟨r, r1, ra⟩ := find2 h v.Ref hl ho
      obtain ⟨q1, q2⟩ := ref_at ho ra
      rw [r1, Option.bind_some]
      have hk : F_impl_objectKind v.Kind = some (kindOf v.Kind) := u_impl_objectKind _ _ rfl
      by_cases h0 : 0 ≤ r
      · obtain ⟨n, hn, rfl, e⟩ := q1 h0
        rw [if_pos (by simp), elt_lt hn, Option.bind_some, hk, Option.bind_some]
        exact s_iff s_dec (e.trans ⟨fun w => ⟨hvp, fun _ => w⟩, fun w => w.2 hr⟩)
      · rw [if_neg (by simpa using h0), says_f fun w => q2 h0 (w.2 hr)]
    · rw [says_f hr, if_pos (by simp), says_t ⟨hvp, fun w => absurd w hr⟩]
  · rw [says_f hvp]
    simp only [Option.bind_some]
    rw [if_pos (by simp), says_f fun w => hvp w.1]
theorem fitAll1 (h : DHeap) (s : Sl DValue) (hl : h.Objects.l.length ≤ 1048576) (ho : OrdP h.Objects.l) (hs : SmVS s) : F_spec_l07FitAll h s = some (says (∀ v ∈ s.l, FitsP h v)) := by
  refine u_spec_l07FitAll h s _ ?_
  unfold B_spec_l07FitAll
  have hl' := hs.1
  refine loop_allS (by omega) fun i x hx he => ?_
  rw [he, Option.bind_some, fits1 h x hl ho (hs.2 x hx), Option.bind_some]
  exact ⟨fun h => by rw [says_t h, if_neg (by simp)], fun h => by rw [says_f h, if_pos (by simp)]⟩
theorem fitAll2 (h : DHeap) (s : Sl DValue) (hl : h.Objects.l.length ≤ 1048576) (ho : OrdP h.Objects.l) (hn : s.l.length ≤ 2097160) (hs : ∀ v ∈ s.l, SmValue v) : F_impl_areAll_Value s (T.fn 73 [.agg (DHeap.cells h)] []) = some (says (∀ v ∈ s.l, FitsP h v)) := all2 s hn 73 _ _ _ fun x hx => by
  have e : callV Go.Proofs.Try.prog md ext E_bool (T.fn 73 [.agg (DHeap.cells h)] []) [.agg (DValue.cells x)] = F_impl_Heap_fits h x := rfl
  rw [e, fits2 h x hl ho (hs x hx)]

/-! all values of an object -/
theorem loop_cat {α : Type} {by_ : Nat} (hb : by_ ≤ 1000) {a b : Sl α} (ha : a.l.length ≤ 1048576) (hb' : b.l.length ≤ 1048576) (z : Bool) :
    ∃ s : Sl α, s.l = a.l ++ b.l ∧ (s.z = true → z = true) ∧ loopO (S := (Int × (Sl α))) (R := (Sl α)) (fun st2 => (if (decide (st2.1 < ((⟨false, [a, b]⟩ : Sl (Sl α)).l.length : Int))) = true then ((elt (⟨false, [a, b]⟩ : Sl (Sl α)) st2.1).bind fun y8 => ((appS by_ st2.2 y8).bind fun y9 => (some (.inl ((IntKind.i64.wrap (st2.1 + 1)), y9))))) else (some (.inr st2.2)))) (0, (⟨z, []⟩ : Sl α)) = some s := by
  have app : ∀ (x y : Sl α), x.l.length ≤ 1048576 → y.l.length ≤ 1048576 → ∃ s : Sl α, appS by_ x y = some s ∧ s.l = x.l ++ y.l ∧ (s.z = true → x.z = true) := fun x y h1 h2 => by
    unfold appS
    split
    · rename_i e; exact ⟨x, rfl, by rw [e]; simp, fun w => w⟩
    · rw [if_pos]
      · exact ⟨_, rfl, rfl, fun w => by cases w⟩
      · have : (x.l.length + y.l.length) * by_ ≤ 2097152 * 1000 := Nat.mul_le_mul (by omega) hb
        omega
  obtain ⟨s1, p1, p2, p3⟩ := app ⟨z, []⟩ a (by simp) ha
  obtain ⟨s2, q1, q2, q3⟩ := app s1 b (by rw [p2]; simpa using ha) hb'
  refine ⟨s2, by rw [q2, p2]; first | done | simp, fun w => p3 (q3 w), ?_⟩
  refine loopO_go (s' := (1, s1)) ?_ (loopO_go (s' := (2, s2)) ?_ (loopO_stop ?_))
  · show ((appS by_ ⟨z, []⟩ a).bind _) = _
    rw [p1]; rfl
  · show ((appS by_ s1 b).bind _) = _
    rw [q1]; rfl
  · rfl
theorem concat2 (a b : Sl DValue) (ha : a.l.length ≤ 1048576) (hb : b.l.length ≤ 1048576) : ∃ s : Sl DValue, F_slices_Concat_Value ⟨false, [a, b]⟩ = some s ∧ s.l = a.l ++ b.l := by
  suffices H : ∃ s : Sl DValue, B_slices_Concat_Value ⟨false, [a, b]⟩ = some s ∧ s.l = a.l ++ b.l by
    obtain ⟨s, h1, h2⟩ := H; exact ⟨s, u_slices_Concat_Value _ s h1, h2⟩
  unfold B_slices_Concat_Value
  have w1 : IntKind.i64.wrap (0 + (a.l.length : Int)) = (a.l.length : Int) := by rw [wrapB (by omega) (by omega)]; omega
  have w2 : IntKind.i64.wrap ((a.l.length : Int) + (b.l.length : Int)) = (a.l.length : Int) + b.l.length := wrapB (by omega) (by omega)
  have e : loopO (S := (Int × Int)) (R := Int) (fun st1 => (if (decide (st1.2 < ((⟨false, [a, b]⟩ : Sl (Sl DValue)).l.length : Int))) = true then ((elt (⟨false, [a, b]⟩ : Sl (Sl DValue)) st1.2).bind fun y2 => (if (decide ((IntKind.i64.wrap (st1.1 + (y2.l.length : Int))) < 0)) = true then none else (some (.inl ((IntKind.i64.wrap (st1.1 + (y2.l.length : Int))), (IntKind.i64.wrap (st1.2 + 1))))))) else (some (.inr st1.1)))) (0, 0) = some ((a.l.length : Int) + b.l.length) := by
    refine loopO_go (s' := ((a.l.length : Int), 1)) ?_ (loopO_go (s' := ((a.l.length : Int) + b.l.length, 2)) ?_ (loopO_stop ?_))
    · show (if decide (IntKind.i64.wrap (0 + (a.l.length : Int)) < 0) = true then none else _) = _
      rw [w1, if_neg (by rw [decide_eq_true_eq]; omega)]; rfl
    · show (if decide (IntKind.i64.wrap ((a.l.length : Int) + (b.l.length : Int)) < 0) = true then none else _) = _
      rw [w2, if_neg (by rw [decide_eq_true_eq]; omega)]; rfl
    · rfl
  have g1 : (if decide ((a.l.length : Int) + b.l.length < 0) = true then (none : Option Unit) else some ()) = some () := if_neg (by simp; omega)
  rw [e, Option.bind_some, g1, Option.bind_some]
  have w3 : IntKind.i64.wrap ((a.l.length : Int) + b.l.length - IntKind.i64.wrap (0 - 0)) = (a.l.length : Int) + b.l.length := by
    rw [show IntKind.i64.wrap (0 - 0) = 0 from rfl, wrapB (by omega) (by omega)]; omega
  rw [w3]
  by_cases hz : 0 < (a.l.length : Int) + b.l.length
  · rw [if_pos (by simpa using hz)]
    have z1 : zerosS 40 ((⟨0, 0, ⟨#[]⟩, 0⟩ : DValue) : DValue) ((a.l.length : Int) + b.l.length) = some ⟨false, List.replicate ((a.l.length : Int) + b.l.length).toNat ⟨0, 0, ⟨#[]⟩, 0⟩⟩ := by
      unfold zerosS; rw [if_pos ⟨hz, by omega⟩]
    rw [z1, Option.bind_some, if_pos (by simp; omega), Option.bind_some]
    obtain ⟨s, s1, s2, s3⟩ := loop_cat (by_ := 40) (by omega) ha hb false
    rw [s3, Option.bind_some, if_pos]
    · exact ⟨s, rfl, s1⟩
    · have : s.l.length ≠ 0 := by rw [s1, List.length_append]; omega
      simp [this]
  · rw [if_neg (by simpa using hz)]
    obtain ⟨s, s1, s2, s3⟩ := loop_cat (by_ := 40) (by omega) ha hb true
    rw [s3]; exact ⟨s, rfl, s1⟩
theorem values2 (o : DObject) (h : SmObject o) : ∃ s : Sl DValue, F_impl_Object_values o = some s ∧ s.l.length ≤ 2097160 ∧ ∀ v, v ∈ s.l ↔ (v ∈ o.Keys.l ∨ v ∈ o.Vals.l ∨ (o.Kind = 2 ∧ v = o.Default)) := by
  suffices H : ∃ s : Sl DValue, B_impl_Object_values o = some s ∧ s.l.length ≤ 2097160 ∧ ∀ v, v ∈ s.l ↔ (v ∈ o.Keys.l ∨ v ∈ o.Vals.l ∨ (o.Kind = 2 ∧ v = o.Default)) by
    obtain ⟨s, h1, h2⟩ := H; exact ⟨s, u_impl_Object_values _ s h1, h2⟩
  unfold B_impl_Object_values
  have hk := h.2.1.1; have hv := h.2.2.1.1
  obtain ⟨s, s1, s2⟩ := concat2 o.Keys o.Vals hk hv
  have hsl : s.l.length = o.Keys.l.length + o.Vals.l.length := by rw [s2]; simp
  rw [s1, Option.bind_some]
  by_cases hk2 : o.Kind = 2
  · rw [if_pos (by simpa using hk2)]
    have : appS 40 s (⟨false, [o.Default]⟩ : Sl DValue) = some ⟨false, s.l ++ [o.Default]⟩ := by
      unfold appS
      show (if (s.l.length + 1) * 40 ≤ 1099511627776 then _ else none) = _
      rw [if_pos (by omega)]
    rw [this]
    refine ⟨_, rfl, by simp; omega, fun v => ?_⟩
    simp only [s2, hk2]; simp
  · rw [if_neg (by simpa using hk2)]
    exact ⟨s, rfl, by omega, fun v => by rw [s2]; simp [hk2]⟩

/-! heaps -/
def RefsP (h : DHeap) (o : DObject) : Prop := (∀ v ∈ o.Keys.l, FitsP h v) ∧ (∀ v ∈ o.Vals.l, FitsP h v) ∧ (o.Kind = 2 → FitsP h o.Default)
def HeapP (h : DHeap) : Prop := (0 ≤ h.Next ∧ h.Next ≤ 1000000) ∧ (h.Objects.l.length : Int) ≤ 40 ∧ ((∀ o ∈ h.Objects.l, ObjP o ∧ o.Id ≤ h.Next) ∧ OrdP h.Objects.l) ∧ ∀ o ∈ h.Objects.l, RefsP h o
theorem sm_get {h : DHeap} (hs : SmHeap h) {i : Nat} (hi : i < h.Objects.l.length) : SmObject h.Objects.l[i] := hs.2 _ (List.getElem_mem hi)
theorem objs_iff {h : DHeap} : (∀ i, i < h.Objects.l.length → ∀ x, h.Objects.l[i]? = some x → (ObjP x ∧ x.Id ≤ h.Next) ∧ ∀ y, 0 < i → h.Objects.l[i - 1]? = some y → y.Id < x.Id) ↔ (∀ o ∈ h.Objects.l, ObjP o ∧ o.Id ≤ h.Next) ∧ OrdP h.Objects.l := by
  constructor
  · intro w
    exact ⟨mem_get.1 fun i hi x hx => (w i hi x hx).1, fun i h1 hi x y hx hy => (w i hi y hy).2 x (by omega) hx⟩
  · rintro ⟨w1, w2⟩ i hi x hx
    exact ⟨w1 x (List.mem_of_getElem? hx), fun y h0 hy => w2 i h0 hi y x hy hx⟩
theorem ok1 (h : DHeap) (hs : SmHeap h) : F_spec_l07Ok h = some (says (HeapP h)) := by
  refine u_spec_l07Ok h _ ?_
  unfold B_spec_l07Ok
  have hl := hs.1
  refine s_bindn (in1 _ _ _) fun hnx => s_gt fun h40 => ?_
  have := loop_allK (n := h.Objects.l.length) (p := fun i => ∀ x, h.Objects.l[i]? = some x → (ObjP x ∧ x.Id ≤ h.Next) ∧ ∀ y, 0 < i → h.Objects.l[i - 1]? = some y → y.Id < x.Id) (q := ∀ o ∈ h.Objects.l, RefsP h o) (bd := fun st1 => ((elt h.Objects st1).bind fun y3 => ((F_spec_l07Object y3).bind fun y4 => (if (!y4) = true then (some (.inr (.inr false))) else (if (decide (h.Next < y3.Id)) = true then (some (.inr (.inr false))) else (if (decide (0 < st1)) = true then ((elt h.Objects (IntKind.i64.wrap (st1 - 1))).bind fun y5 => (if (decide (y3.Id ≤ y5.Id)) = true then (some (.inr (.inr false))) else (some (.inl (IntKind.i64.wrap (st1 + 1)))))) else (some (.inl (IntKind.i64.wrap (st1 + 1)))))))))) (K := ((loopO (S := Int) (R := (Unit ⊕ Bool)) (fun st2 => (if (decide (st2 < (h.Objects.l.length : Int))) = true then ((elt h.Objects st2).bind fun y7 => ((F_spec_l07FitAll h y7.Keys).bind fun y8 => (if y8 = true then ((F_spec_l07FitAll h y7.Vals).bind fun y9 => (if y9 = true then (if (!decide (y7.Kind = 2)) = true then (some (.inl (IntKind.i64.wrap (st2 + 1)))) else ((F_spec_l07Fits h y7.Default).bind fun y10 => (if (!y10) = true then (some (.inr (.inr false))) else (some (.inl (IntKind.i64.wrap (st2 + 1))))))) else (some (.inr (.inr false))))) else (some (.inr (.inr false)))))) else (some (.inr (.inl ()))))) 0).bind fun y6 => (Sum.elim (fun y6 => (some true)) (fun y6 => (some y6)) y6))) (by omega) (fun i hi hp => ?_) (fun i hi hp => ?_) (fun hall => ?_)
  · refine this.trans (congrArg some (says_iff' ?_))
    rw [objs_iff]
  · obtain ⟨⟨w1, w2⟩, w3⟩ := hp _ (List.getElem?_eq_getElem hi)
    show (elt h.Objects (i : Int)).bind _ = _
    rw [elt_lt hi, Option.bind_some, obj1 _ (sm_get hs hi), Option.bind_some, says_t w1, if_neg (by simp), if_neg (by simpa using w2)]
    by_cases h0 : 0 < i
    · rw [if_pos (by simpa using h0), wrapB (by omega) (by omega), show ((i : Int) - 1) = ((i - 1 : Nat) : Int) by omega, elt_lt (by omega), Option.bind_some, if_neg (by
        have := w3 _ h0 (List.getElem?_eq_getElem (by omega)); simpa using this)]
    · rw [if_neg (by simpa using h0)]
  · show (elt h.Objects (i : Int)).bind _ = _
    rw [elt_lt hi, Option.bind_some, obj1 _ (sm_get hs hi), Option.bind_some]
    by_cases w1 : ObjP h.Objects.l[i]
    · rw [says_t w1, if_neg (by simp)]
      by_cases w2 : h.Objects.l[i].Id ≤ h.Next
      · rw [if_neg (by simpa using w2)]
        by_cases h0 : 0 < i
        · rw [if_pos (by simpa using h0), wrapB (by omega) (by omega), show ((i : Int) - 1) = ((i - 1 : Nat) : Int) by omega, elt_lt (by omega), Option.bind_some]
          by_cases w3 : h.Objects.l[i - 1].Id < h.Objects.l[i].Id
          · refine absurd (fun x hx => ?_) hp
            rw [List.getElem?_eq_getElem hi] at hx; injection hx with hx; subst hx
            exact ⟨⟨w1, w2⟩, fun y _ hy => by rw [List.getElem?_eq_getElem (by omega)] at hy; injection hy with hy; subst hy; exact w3⟩
          · rw [if_pos (by simpa using w3)]
        · refine absurd (fun x hx => ?_) hp
          rw [List.getElem?_eq_getElem hi] at hx; injection hx with hx; subst hx
          exact ⟨⟨w1, w2⟩, fun y h _ => absurd h h0⟩
      · rw [if_pos (by simpa using w2)]
    · rw [says_f w1, if_pos (by simp)]
  · obtain ⟨hob, hord⟩ := objs_iff.1 hall
    have := loop_allB (n := h.Objects.l.length) (p := fun i => ∀ x, h.Objects.l[i]? = some x → RefsP h x) (bd := fun st2 => ((elt h.Objects st2).bind fun y7 => ((F_spec_l07FitAll h y7.Keys).bind fun y8 => (if y8 = true then ((F_spec_l07FitAll h y7.Vals).bind fun y9 => (if y9 = true then (if (!decide (y7.Kind = 2)) = true then (some (.inl (IntKind.i64.wrap (st2 + 1)))) else ((F_spec_l07Fits h y7.Default).bind fun y10 => (if (!y10) = true then (some (.inr (.inr false))) else (some (.inl (IntKind.i64.wrap (st2 + 1))))))) else (some (.inr (.inr false))))) else (some (.inr (.inr false))))))) 0 (by omega) (fun i _ hi hp => ?_) (fun i _ hi hp => ?_)
    · have e0 : ((0 : Nat) : Int) = 0 := rfl
      rw [e0] at this
      refine this.trans (congrArg some (says_iff' ?_))
      rw [← mem_get]
      exact ⟨fun w i hi => w i (Nat.zero_le _) hi, fun w i _ hi => w i hi⟩
    all_goals
      have so := sm_get hs hi
      have f1 := fitAll1 h h.Objects.l[i].Keys hl hord so.2.1
      have f2 := fitAll1 h h.Objects.l[i].Vals hl hord so.2.2.1
      have f3 := fits1 h h.Objects.l[i].Default hl hord so.2.2.2
    · obtain ⟨w1, w2, w3⟩ := hp _ (List.getElem?_eq_getElem hi)
      show (elt h.Objects (i : Int)).bind _ = _
      rw [elt_lt hi, Option.bind_some, f1, Option.bind_some, says_t w1, if_pos rfl, f2, Option.bind_some, says_t w2, if_pos rfl]
      by_cases k2 : h.Objects.l[i].Kind = 2
      · rw [if_neg (by simp [k2]), f3, Option.bind_some, says_t (w3 k2), if_neg (by simp)]
      · rw [if_pos (by simp [k2])]
    · show (elt h.Objects (i : Int)).bind _ = _
      rw [elt_lt hi, Option.bind_some, f1, Option.bind_some]
      by_cases w1 : ∀ v ∈ h.Objects.l[i].Keys.l, FitsP h v
      · rw [says_t w1, if_pos rfl, f2, Option.bind_some]
        by_cases w2 : ∀ v ∈ h.Objects.l[i].Vals.l, FitsP h v
        · rw [says_t w2, if_pos rfl]
          have hno : ¬ (h.Objects.l[i].Kind = 2 → FitsP h h.Objects.l[i].Default) := fun w3 => hp fun x hx => by
            rw [List.getElem?_eq_getElem hi] at hx; injection hx with hx; subst hx; exact ⟨w1, w2, w3⟩
          by_cases k2 : h.Objects.l[i].Kind = 2
          · rw [if_neg (by simp [k2]), f3, Option.bind_some, says_f (fun w => hno fun _ => w), if_pos (by simp)]
          · exact absurd (fun w => absurd w k2) hno
        · rw [says_f w2, if_neg (by simp)]
      · rw [says_f w1, if_neg (by simp)]
theorem loop_ord (h : DHeap) (hl : h.Objects.l.length ≤ 1048576) : ((∀ o ∈ h.Objects.l, o.Id ≤ h.Next) ∧ OrdP h.Objects.l ∧ (∀ o ∈ h.Objects.l, 0 < o.Id) → loopO (S := (Int × Int)) (R := (Unit ⊕ Bool)) (fun st2 => (if (decide (st2.2 < (h.Objects.l.length : Int))) = true then ((elt h.Objects st2.2).bind fun y7 => (if (decide (y7.Id ≤ st2.1)) = true then (some (.inr (.inr false))) else (if (decide (h.Next < y7.Id)) = true then (some (.inr (.inr false))) else (some (.inl (y7.Id, (IntKind.i64.wrap (st2.2 + 1)))))))) else (some (.inr (.inl ()))))) (0, 0) = some (.inl ())) ∧ (¬ ((∀ o ∈ h.Objects.l, o.Id ≤ h.Next) ∧ OrdP h.Objects.l ∧ (∀ o ∈ h.Objects.l, 0 < o.Id)) → loopO (S := (Int × Int)) (R := (Unit ⊕ Bool)) (fun st2 => (if (decide (st2.2 < (h.Objects.l.length : Int))) = true then ((elt h.Objects st2.2).bind fun y7 => (if (decide (y7.Id ≤ st2.1)) = true then (some (.inr (.inr false))) else (if (decide (h.Next < y7.Id)) = true then (some (.inr (.inr false))) else (some (.inl (y7.Id, (IntKind.i64.wrap (st2.2 + 1)))))))) else (some (.inr (.inl ()))))) (0, 0) = some (.inr false)) := by
  suffices H : ∀ (m i : Nat) (last : Int), i + m = h.Objects.l.length → (((∀ k, i ≤ k → ∀ x, h.Objects.l[k]? = some x → x.Id ≤ h.Next) ∧ (∀ k, i < k → ∀ x y, h.Objects.l[k - 1]? = some x → h.Objects.l[k]? = some y → x.Id < y.Id) ∧ (∀ x, h.Objects.l[i]? = some x → last < x.Id)) → loopO (S := (Int × Int)) (R := (Unit ⊕ Bool)) (fun st2 => (if (decide (st2.2 < (h.Objects.l.length : Int))) = true then ((elt h.Objects st2.2).bind fun y7 => (if (decide (y7.Id ≤ st2.1)) = true then (some (.inr (.inr false))) else (if (decide (h.Next < y7.Id)) = true then (some (.inr (.inr false))) else (some (.inl (y7.Id, (IntKind.i64.wrap (st2.2 + 1)))))))) else (some (.inr (.inl ()))))) (last, (i : Int)) = some (.inl ())) ∧
      (¬ ((∀ k, i ≤ k → ∀ x, h.Objects.l[k]? = some x → x.Id ≤ h.Next) ∧ (∀ k, i < k → ∀ x y, h.Objects.l[k - 1]? = some x → h.Objects.l[k]? = some y → x.Id < y.Id) ∧ (∀ x, h.Objects.l[i]? = some x → last < x.Id)) → loopO (S := (Int × Int)) (R := (Unit ⊕ Bool)) (fun st2 => (if (decide (st2.2 < (h.Objects.l.length : Int))) = true then ((elt h.Objects st2.2).bind fun y7 => (if (decide (y7.Id ≤ st2.1)) = true then (some (.inr (.inr false))) else (if (decide (h.Next < y7.Id)) = true then (some (.inr (.inr false))) else (some (.inl (y7.Id, (IntKind.i64.wrap (st2.2 + 1)))))))) else (some (.inr (.inl ()))))) (last, (i : Int)) = some (.inr false)) by
    have := H h.Objects.l.length 0 0 (by omega)
    have e0 : ((0 : Nat) : Int) = 0 := rfl
    rw [e0] at this
    have key : ((∀ k, 0 ≤ k → ∀ x, h.Objects.l[k]? = some x → x.Id ≤ h.Next) ∧ (∀ k, 0 < k → ∀ x y, h.Objects.l[k - 1]? = some x → h.Objects.l[k]? = some y → x.Id < y.Id) ∧ (∀ x, h.Objects.l[0]? = some x → 0 < x.Id)) ↔ ((∀ o ∈ h.Objects.l, o.Id ≤ h.Next) ∧ OrdP h.Objects.l ∧ (∀ o ∈ h.Objects.l, 0 < o.Id)) := by
      constructor
      · rintro ⟨a1, a2, a3⟩
        have ho : OrdP h.Objects.l := fun i h1 hi x y hx hy => a2 i h1 x y hx hy
        refine ⟨fun o ho => by obtain ⟨i, hi, rfl⟩ := List.getElem_of_mem ho; exact a1 i (Nat.zero_le _) _ (List.getElem?_eq_getElem hi), ho, fun o hm => ?_⟩
        obtain ⟨i, hi, rfl⟩ := List.getElem_of_mem hm
        have p0 := a3 _ (List.getElem?_eq_getElem (by omega : 0 < h.Objects.l.length))
        by_cases e : i = 0
        · subst e; exact p0
        · have := ord_lt' ho (by omega : 0 < i) hi; omega
      · rintro ⟨a1, a2, a3⟩
        exact ⟨fun k _ x hx => a1 x (List.mem_of_getElem? hx), fun k hk x y hx hy => a2 k hk (by have := (List.getElem?_eq_some_iff.1 hy).1; exact this) x y hx hy, fun x hx => a3 x (List.mem_of_getElem? hx)⟩
    exact ⟨fun w => this.1 (key.2 w), fun w => this.2 fun q => w (key.1 q)⟩
  intro m
  induction m with
  | zero =>
    intro i last hi
    have hnone : ∀ k, i ≤ k → h.Objects.l[k]? = none := fun k hk => List.getElem?_eq_none (by omega)
    refine ⟨fun _ => loopO_stop ?_, fun w => (w ⟨fun k hk x hx => (by rw [hnone k hk] at hx; cases hx), fun k hk x y hx hy => (by rw [hnone k (by omega)] at hy; cases hy), fun x hx => (by rw [hnone i (Nat.le_refl _)] at hx; cases hx)⟩).elim⟩
    show (if decide ((i : Int) < (h.Objects.l.length : Int)) = true then _ else _) = _
    rw [if_neg (by simp; omega)]
  | succ m ih =>
    intro i last hi
    have hlt : i < h.Objects.l.length := by omega
    have e1 : ((i + 1 : Nat) : Int) = (i : Int) + 1 := by simp
    have hw : IntKind.i64.wrap ((i : Int) + 1) = (i : Int) + 1 := wrapB (by omega) (by omega)
    have hi' := ih (i + 1) h.Objects.l[i].Id (by omega)
    rw [e1] at hi'
    have start : ∀ r, (if decide (h.Objects.l[i].Id ≤ last) = true then (some (.inr (.inr false)) : Option ((Int × Int) ⊕ (Unit ⊕ Bool))) else (if decide (h.Next < h.Objects.l[i].Id) = true then (some (.inr (.inr false))) else (some (.inl (h.Objects.l[i].Id, (IntKind.i64.wrap ((i : Int) + 1))))))) = r → (fun st2 => (if (decide (st2.2 < (h.Objects.l.length : Int))) = true then ((elt h.Objects st2.2).bind fun y7 => (if (decide (y7.Id ≤ st2.1)) = true then (some (.inr (.inr false))) else (if (decide (h.Next < y7.Id)) = true then (some (.inr (.inr false))) else (some (.inl (y7.Id, (IntKind.i64.wrap (st2.2 + 1)))))))) else (some (.inr (.inl ()))))) (last, (i : Int)) = r := fun r hr => by
      show (if decide ((i : Int) < (h.Objects.l.length : Int)) = true then _ else _) = _
      rw [if_pos (by simpa using hlt), elt_lt hlt, Option.bind_some]; exact hr
    by_cases c1 : h.Objects.l[i].Id ≤ last
    · refine ⟨fun w => absurd (w.2.2 _ (List.getElem?_eq_getElem hlt)) (by omega), fun _ => loopO_stop (start _ (by rw [if_pos (by simpa using c1)]))⟩
    · by_cases c2 : h.Next < h.Objects.l[i].Id
      · refine ⟨fun w => absurd (w.1 i (Nat.le_refl _) _ (List.getElem?_eq_getElem hlt)) (by omega), fun _ => loopO_stop (start _ (by rw [if_neg (by simpa using c1), if_pos (by simpa using c2)]))⟩
      · have st := start (some (.inl (h.Objects.l[i].Id, (i : Int) + 1))) (by rw [if_neg (by simpa using c1), if_neg (by simpa using c2), hw])
        have key : ((∀ k, i ≤ k → ∀ x, h.Objects.l[k]? = some x → x.Id ≤ h.Next) ∧ (∀ k, i < k → ∀ x y, h.Objects.l[k - 1]? = some x → h.Objects.l[k]? = some y → x.Id < y.Id) ∧ (∀ x, h.Objects.l[i]? = some x → last < x.Id)) ↔ ((∀ k, i + 1 ≤ k → ∀ x, h.Objects.l[k]? = some x → x.Id ≤ h.Next) ∧ (∀ k, i + 1 < k → ∀ x y, h.Objects.l[k - 1]? = some x → h.Objects.l[k]? = some y → x.Id < y.Id) ∧ (∀ x, h.Objects.l[i + 1]? = some x → h.Objects.l[i].Id < x.Id)) := by
          constructor
          · rintro ⟨a1, a2, a3⟩
            exact ⟨fun k hk => a1 k (by omega), fun k hk => a2 k (by omega), fun x hx => a2 (i + 1) (by omega) _ x (by rw [Nat.add_sub_cancel]; exact List.getElem?_eq_getElem hlt) hx⟩
          · rintro ⟨a1, a2, a3⟩
            refine ⟨fun k hk x hx => ?_, fun k hk x y hx hy => ?_, fun x hx => ?_⟩
            · by_cases e : k = i
              · subst e; rw [List.getElem?_eq_getElem hlt] at hx; injection hx with hx; subst hx; omega
              · exact a1 k (by omega) x hx
            · by_cases e : k = i + 1
              · subst e; rw [Nat.add_sub_cancel, List.getElem?_eq_getElem hlt] at hx; injection hx with hx; subst hx; exact a3 y hy
              · exact a2 k (by omega) x y hx hy
            · rw [List.getElem?_eq_getElem hlt] at hx; injection hx with hx; subst hx; omega
        exact ⟨fun w => loopO_go st (hi'.1 (key.1 w)), fun w => loopO_go st (hi'.2 fun q => w (key.2 q))⟩
theorem ok2 (h : DHeap) (hs : SmHeap h) : F_impl_ValidHeap h = some (says (HeapP h)) := by
  refine u_impl_ValidHeap h _ ?_
  unfold B_impl_ValidHeap
  have hl := hs.1
  refine s_bindn (in2 _ _ _) fun hnx => s_gt fun h40 => ?_
  have A1 := loop_allU (n := h.Objects.l.length) (p := fun i => ∀ x, h.Objects.l[i]? = some x → ObjP x) (bd := fun st1 => ((elt h.Objects st1).bind fun y4 => ((F_impl_ValidObject y4).bind fun y5 => (if (!y5) = true then (some (.inr (.inr ()))) else (some (.inl (IntKind.i64.wrap (st1 + 1)))))))) (by omega) (fun i hi hp => by
    show (elt h.Objects (i : Int)).bind _ = _
    rw [elt_lt hi, Option.bind_some, obj2 _ (sm_get hs hi), Option.bind_some, says_t (hp _ (List.getElem?_eq_getElem hi)), if_neg (by simp)]) (fun i hi hp => by
    show (elt h.Objects (i : Int)).bind _ = _
    rw [elt_lt hi, Option.bind_some, obj2 _ (sm_get hs hi), Option.bind_some, says_f (fun w => hp fun x hx => by rw [List.getElem?_eq_getElem hi] at hx; injection hx with hx; subst hx; exact w), if_pos (by simp)])
  have A1 : _ = some (says (∀ o ∈ h.Objects.l, ObjP o)) := A1.trans (congrArg some (says_iff' mem_get))
  refine s_iff (s_bindn A1 fun hob => ?_) (q := ((∀ o ∈ h.Objects.l, ObjP o ∧ o.Id ≤ h.Next) ∧ OrdP h.Objects.l) ∧ ∀ o ∈ h.Objects.l, RefsP h o) (p := (∀ o ∈ h.Objects.l, ObjP o) ∧ ((∀ o ∈ h.Objects.l, o.Id ≤ h.Next) ∧ OrdP h.Objects.l) ∧ ∀ o ∈ h.Objects.l, RefsP h o) ⟨fun w => ⟨⟨fun o ho => ⟨w.1 o ho, w.2.1.1 o ho⟩, w.2.1.2⟩, w.2.2⟩, fun w => ⟨fun o ho => (w.1.1 o ho).1, ⟨fun o ho => (w.1.1 o ho).2, w.1.2⟩, w.2⟩⟩
  obtain ⟨L1, L2⟩ := loop_ord h hl
  have hpos : ∀ o ∈ h.Objects.l, 0 < o.Id := fun o ho => by have := (hob o ho).1.1; omega
  by_cases ho : (∀ o ∈ h.Objects.l, o.Id ≤ h.Next) ∧ OrdP h.Objects.l
  · rw [L1 ⟨ho.1, ho.2, hpos⟩, Option.bind_some]
    show ((_ : Option Bool).bind fun y8 => some y8) = _
    have vals : ∀ i (hi : i < h.Objects.l.length), ∃ s : Sl DValue, F_impl_Object_values h.Objects.l[i] = some s ∧ F_impl_areAll_Value s (T.fn 73 [.agg (DHeap.cells h)] []) = some (says (RefsP h h.Objects.l[i])) := fun i hi => by
      obtain ⟨s, s1, s2, s3⟩ := values2 _ (sm_get hs hi)
      have so := sm_get hs hi
      refine ⟨s, s1, ?_⟩
      rw [fitAll2 h s hl ho.2 s2 (fun v hv => by
        rcases (s3 v).1 hv with w | w | ⟨_, rfl⟩
        · exact so.2.1.2 v w
        · exact so.2.2.1.2 v w
        · exact so.2.2.2)]
      congr 1
      refine says_iff' ⟨fun w => ⟨fun v hv => w v ((s3 v).2 (.inl hv)), fun v hv => w v ((s3 v).2 (.inr (.inl hv))), fun hk => w _ ((s3 _).2 (.inr (.inr ⟨hk, rfl⟩)))⟩, fun w v hv => ?_⟩
      rcases (s3 v).1 hv with q | q | ⟨q, rfl⟩
      · exact w.1 v q
      · exact w.2.1 v q
      · exact w.2.2 q
    have A3 := loop_allU (n := h.Objects.l.length) (p := fun i => ∀ x, h.Objects.l[i]? = some x → RefsP h x) (bd := fun st3 => ((elt h.Objects st3).bind fun y10 => ((F_impl_Object_values y10).bind fun y11 => ((F_impl_areAll_Value y11 (T.fn 73 [.agg (DHeap.cells h)] [])).bind fun y12 => (if (!y12) = true then (some (.inr (.inr ()))) else (some (.inl (IntKind.i64.wrap (st3 + 1))))))))) (by omega) (fun i hi hp => by
      obtain ⟨s, s1, s2⟩ := vals i hi
      show (elt h.Objects (i : Int)).bind _ = _
      rw [elt_lt hi, Option.bind_some, s1, Option.bind_some, s2, Option.bind_some, says_t (hp _ (List.getElem?_eq_getElem hi)), if_neg (by simp)]) (fun i hi hp => by
      obtain ⟨s, s1, s2⟩ := vals i hi
      show (elt h.Objects (i : Int)).bind _ = _
      rw [elt_lt hi, Option.bind_some, s1, Option.bind_some, s2, Option.bind_some, says_f (fun w => hp fun x hx => by rw [List.getElem?_eq_getElem hi] at hx; injection hx with hx; subst hx; exact w), if_pos (by simp)])
    have A3 : _ = some (says (∀ o ∈ h.Objects.l, RefsP h o)) := A3.trans (congrArg some (says_iff' mem_get))
    refine (s_last A3).trans (congrArg some (says_iff' ⟨fun w => ⟨ho, w⟩, fun w => w.2⟩))
  · rw [L2 (fun w => ho ⟨w.1, w.2.1⟩), says_f fun w => ho w.1]; rfl

end Go.Am
end
