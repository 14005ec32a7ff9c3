/- The law. -/
import Derived.Test.YtfnjieagnkmceaaAl1
section
set_option maxRecDepth 100000
set_option maxHeartbeats 2000000
set_option linter.unusedVariables false
set_option linter.unusedSimpArgs false
namespace Go.Am

/-! lists of values -/
theorem same1 (a b : DValue) : F_spec_SameValue a b = some (says (a = b)) := by
  refine u_spec_SameValue a b _ ?_
  unfold B_spec_SameValue
  obtain ⟨a1, a2, a3, a4⟩ := a
  obtain ⟨b1, b2, b3, b4⟩ := b
  congr 1
  rw [Bool.eq_iff_iff, says_true_iff]
  simp
theorem eqV (a b : DValue) : (decide (a.Kind = b.Kind) && (decide (a.Num = b.Num) && (decide (a.Text = b.Text) && (decide (a.Ref = b.Ref) && true)))) = says (a = b) := by
  obtain ⟨a1, a2, a3, a4⟩ := a
  obtain ⟨b1, b2, b3, b4⟩ := b
  rw [Bool.eq_iff_iff, says_true_iff]
  simp
def SmVS (s : Sl DValue) : Prop := FitS 1048576 SmValue s
theorem vals1 (s : Sl DValue) (h : SmVS s) (n : Int) : F_spec_l07ValidValues s n = some (says ((s.l.length : Int) ≤ n ∧ ∀ v ∈ s.l, ValP v)) := by
  refine u_spec_l07ValidValues s n _ ?_
  unfold B_spec_l07ValidValues
  have hl := h.1
  refine s_gt fun h1 => ?_
  refine loop_allS (by omega) fun i x hx he => ?_
  rw [he, Option.bind_some, val1 x (h.2 x hx), Option.bind_some]
  exact ⟨fun h => by rw [says_t h, if_neg (by simp)], fun h => by rw [says_f h, if_pos (by simp)]⟩
theorem all2 (s : Sl DValue) (hs : s.l.length ≤ 2097160) (fn : Nat) (a b : List T) (p : DValue → Prop) (h : ∀ x ∈ s.l, callV Go.Proofs.Try.prog md ext E_bool (T.fn fn a b) [.agg (DValue.cells x)] = some (says (p x))) : F_impl_areAll_Value s (T.fn fn a b) = some (says (∀ x ∈ s.l, p x)) := by
  refine u_impl_areAll_Value s _ _ ?_
  unfold B_impl_areAll_Value
  refine Eq.trans (if_pos rfl) ?_
  refine loop_allS (by omega) fun i x hx he => ?_
  rw [he, Option.bind_some, h x hx, Option.bind_some]
  exact ⟨fun h => by rw [says_t h, if_neg (by simp)], fun h => by rw [says_f h, if_pos (by simp)]⟩
theorem allVal (s : Sl DValue) (h : SmVS s) : F_impl_areAll_Value s (T.fn 123 [] []) = some (says (∀ v ∈ s.l, ValP v)) := all2 s (by have := h.1; omega) 123 [] [] _ fun x hx => by
  have e : callV Go.Proofs.Try.prog md ext E_bool (T.fn 123 [] []) [.agg (DValue.cells x)] = F_impl_ValidValue x := rfl
  rw [e, val2 x (h.2 x hx)]
def FieldP (v : DValue) : Prop := v.Kind = 1 ∧ v.Num = 0 ∧ v.Ref = 0 ∧ NameP v.Text
theorem field2 (v : DValue) (h : SmValue v) : F_impl_isField v = some (says (FieldP v)) := by
  refine u_impl_isField v _ ?_
  unfold B_impl_isField
  have e : F_impl_textOf v.Text = some ⟨1, 0, v.Text, 0⟩ := u_impl_textOf _ _ rfl
  rw [e, Option.bind_some]
  refine s_iff (s_boolif fun _ => s_last (name2 _ h)) ?_
  unfold FieldP
  simp; grind
theorem allField (s : Sl DValue) (h : SmVS s) : F_impl_areAll_Value s (T.fn 125 [] []) = some (says (∀ v ∈ s.l, FieldP v)) := all2 s (by have := h.1; omega) 125 [] [] _ fun x hx => by
  have e : callV Go.Proofs.Try.prog md ext E_bool (T.fn 125 [] []) [.agg (DValue.cells x)] = F_impl_isField x := rfl
  rw [e, field2 x (h.2 x hx)]
/-- No value twice. -/
def DiffP (s : Sl DValue) : Prop := ∀ i, i < s.l.length → ∀ k, k < i → ∀ x y, s.l[i]? = some x → s.l[k]? = some y → x ≠ y
theorem diff1 (s : Sl DValue) (h : SmVS s) : F_spec_l07Distinct s = some (says (DiffP s)) := by
  refine u_spec_l07Distinct s _ ?_
  unfold B_spec_l07Distinct
  have hl := h.1
  have := loop_allB (n := s.l.length) (p := fun i => ∀ k, k < i → ∀ x y, s.l[i]? = some x → s.l[k]? = some y → x ≠ y) (bd := fun st1 => ((loopO (S := Int) (R := (Unit ⊕ Bool)) (fun st2 => (if (decide (st2 < st1)) = true then ((elt s st1).bind fun y3 => ((elt s st2).bind fun y4 => ((F_spec_SameValue y3 y4).bind fun y5 => (if y5 = true then (some (.inr (.inr false))) else (some (.inl (IntKind.i64.wrap (st2 + 1)))))))) else (some (.inr (.inl ()))))) 0).bind fun y2 => (Sum.elim (fun y2 => (some (.inl (IntKind.i64.wrap (st1 + 1))))) (fun y2 => (some (.inr (.inr y2)))) y2))) 0 (by omega) (fun i _ hi hp => ?_) (fun i _ hi hp => ?_)
  · have e0 : ((0 : Nat) : Int) = 0 := rfl
    rw [e0] at this
    refine this.trans (congrArg some (says_iff' ⟨fun w i hi => w i (Nat.zero_le _) hi, fun w i _ hi => w i hi⟩))
  all_goals
    have q := loop_all (R := Unit ⊕ Bool) (n := i) (p := fun k => ∀ x y, s.l[i]? = some x → s.l[k]? = some y → x ≠ y) (bd := fun st2 => ((elt s (i : Int)).bind fun y3 => ((elt s st2).bind fun y4 => ((F_spec_SameValue y3 y4).bind fun y5 => (if y5 = true then (some (.inr (.inr false))) else (some (.inl (IntKind.i64.wrap (st2 + 1))))))))) (x := .inl ()) (y := .inr false) 0 (by omega) (fun k _ hk hp => by
        show (elt s (i : Int)).bind _ = _
        rw [elt_lt hi, Option.bind_some, elt_lt (by omega : k < s.l.length), Option.bind_some, same1, Option.bind_some, says_f (hp _ _ (List.getElem?_eq_getElem hi) (List.getElem?_eq_getElem (by omega))), if_neg (by simp)]) (fun k _ hk hp => by
        show (elt s (i : Int)).bind _ = _
        have : s.l[i] = s.l[k] := Classical.byContradiction fun hne => hp fun x y hx hy => by
          rw [List.getElem?_eq_getElem hi] at hx; rw [List.getElem?_eq_getElem (by omega)] at hy
          injection hx with hx; injection hy with hy; subst hx; subst hy; exact hne
        rw [elt_lt hi, Option.bind_some, elt_lt (by omega : k < s.l.length), Option.bind_some, same1, Option.bind_some, says_t this, if_pos rfl])
    have e0 : ((0 : Nat) : Int) = 0 := rfl
    rw [e0] at q
  · show (loopO _ 0).bind _ = _
    rw [q.1 fun k _ hk => hp k hk]; rfl
  · show (loopO _ 0).bind _ = _
    rw [q.2 fun w => hp fun k hk => w k (Nat.zero_le _) hk]; rfl
theorem index2 (s : Sl DValue) (v : DValue) (hl : s.l.length ≤ 2097160) : ∃ r : Int, F_slices_Index_Value s v = some r ∧ -1 ≤ r ∧ (0 ≤ r ↔ v ∈ s.l) ∧ (∀ (n : Nat), r = n → s.l[n]? = some v ∧ ∀ k, k < n → s.l[k]? ≠ some v) := by
  have := loop_fst (n := s.l.length) (p := fun i => s.l[i]? = some v) (bd := fun st1 => ((elt s st1).bind fun y2 => (if ((decide (v.Kind = y2.Kind) && (decide (v.Num = y2.Num) && (decide (v.Text = y2.Text) && (decide (v.Ref = y2.Ref) && true))))) = true then (some (.inr (.inr st1))) else (some (.inl (IntKind.i64.wrap (st1 + 1))))))) (by omega) (fun i hi hp => by
    show (elt s (i : Int)).bind _ = _
    rw [elt_lt hi, Option.bind_some, eqV, says_f (fun e => hp (by rw [List.getElem?_eq_getElem hi, e])), if_neg (by simp)]) (fun i hi hp => by
    show (elt s (i : Int)).bind _ = _
    rw [List.getElem?_eq_getElem hi] at hp; injection hp with hp
    rw [elt_lt hi, Option.bind_some, eqV, says_t hp.symm, if_pos rfl])
  rcases this with ⟨r, r1, r2, r3, r4⟩ | ⟨r1, r2⟩
  · refine ⟨r, u_slices_Index_Value s v _ (by unfold B_slices_Index_Value; exact r4), by omega, ⟨fun _ => List.mem_of_getElem? r2, fun _ => by omega⟩, fun n hn => ?_⟩
    have : r = n := by omega
    subst this; exact ⟨r2, r3⟩
  · refine ⟨-1, u_slices_Index_Value s v _ (by unfold B_slices_Index_Value; exact r2), by omega, ⟨fun h => by omega, fun h => ?_⟩, fun n hn => by omega⟩
    obtain ⟨i, hi, e⟩ := List.getElem_of_mem h
    exact absurd (by rw [List.getElem?_eq_getElem hi, e]) (r1 i hi)
theorem contains2 (s : Sl DValue) (v : DValue) (hl : s.l.length ≤ 2097160) : F_slices_Contains_Value s v = some (says (v ∈ s.l)) := by
  refine u_slices_Contains_Value s v _ ?_
  unfold B_slices_Contains_Value
  obtain ⟨r, r1, r2, r3, _⟩ := index2 s v hl
  rw [r1, Option.bind_some]
  exact s_iff s_dec r3
theorem diff2 (s : Sl DValue) (h : SmVS s) : F_impl_areDifferent s = some (says (DiffP s)) := by
  refine u_impl_areDifferent s _ ?_
  unfold B_impl_areDifferent
  have hl := h.1
  have := loop_allB (n := s.l.length) (p := fun i => ∀ k, k < i → ∀ x y, s.l[i]? = some x → s.l[k]? = some y → x ≠ y) (bd := fun st1 => ((elt s st1).bind fun y2 => ((subS s 0 st1).bind fun y3 => ((F_slices_Contains_Value y3 y2).bind fun y4 => (if y4 = true then (some (.inr (.inr false))) else (some (.inl (IntKind.i64.wrap (st1 + 1))))))))) 0 (by omega) (fun i _ hi hp => ?_) (fun i _ hi hp => ?_)
  · have e0 : ((0 : Nat) : Int) = 0 := rfl
    rw [e0] at this
    refine this.trans (congrArg some (says_iff' ⟨fun w i hi => w i (Nat.zero_le _) hi, fun w i _ hi => w i hi⟩))
  all_goals
    have hsub : subS s 0 (i : Int) = some ⟨s.z, s.l.take i⟩ := by
      unfold subS; rw [if_pos ⟨by omega, by omega, by omega⟩]; simp
    have hc := contains2 ⟨s.z, s.l.take i⟩ s.l[i] (by simp; omega)
    have hmem : s.l[i] ∈ s.l.take i ↔ ¬ ∀ k, k < i → ∀ x y, s.l[i]? = some x → s.l[k]? = some y → x ≠ y := by
      constructor
      · intro hm w
        obtain ⟨k, hk, e⟩ := List.getElem_of_mem hm
        simp only [List.length_take] at hk
        rw [List.getElem_take] at e
        exact w k (by omega) _ _ (List.getElem?_eq_getElem hi) (List.getElem?_eq_getElem (by omega)) e.symm
      · intro w
        refine Classical.byContradiction fun hm => w fun k hk x y hx hy e => hm ?_
        rw [List.getElem?_eq_getElem hi] at hx; rw [List.getElem?_eq_getElem (by omega)] at hy
        injection hx with hx; injection hy with hy; subst hx; subst hy
        rw [e]
        have : (s.l.take i)[k]'(by simp; omega) = s.l[k] := List.getElem_take
        rw [← this]; exact List.getElem_mem _
  · show (elt s (i : Int)).bind _ = _
    rw [elt_lt hi, Option.bind_some, hsub, Option.bind_some, hc, Option.bind_some, says_f (fun w => hmem.1 w hp), if_neg (by simp)]
  · show (elt s (i : Int)).bind _ = _
    rw [elt_lt hi, Option.bind_some, hsub, Option.bind_some, hc, Option.bind_some, says_t (hmem.2 hp), if_pos rfl]

/-! objects -/
def Zero (v : DValue) : Prop := v.Kind = 0 ∧ v.Num = 0 ∧ v.Text = (⟨#[]⟩ : ByteArray) ∧ v.Ref = 0
def FieldsP (s : Sl DValue) : Prop := (∀ v ∈ s.l, v.Kind = 1 ∧ NameP v.Text) ∧ (1 ≤ (s.l.length : Int) ∧ (((s.l.length : Int) ≤ 6 ∧ ∀ v ∈ s.l, ValP v) ∧ DiffP s))
theorem fields1 (s : Sl DValue) (h : SmVS s) : F_spec_l07FieldNames s = some (says (FieldsP s)) := by
  refine u_spec_l07FieldNames s _ ?_
  unfold B_spec_l07FieldNames
  have hl := h.1
  refine (loop_allK (n := s.l.length) (p := fun i => ∀ x, s.l[i]? = some x → x.Kind = 1 ∧ NameP x.Text) (q := 1 ≤ (s.l.length : Int) ∧ (((s.l.length : Int) ≤ 6 ∧ ∀ v ∈ s.l, ValP v) ∧ DiffP s)) (by omega) (fun i hi hp => ?_) (fun i hi hp => ?_) (fun _ => s_and fun _ => s_bind (vals1 s h 6) fun _ => s_last (diff1 s h))).trans (congrArg some (says_iff' ?_))
  · rw [elt_lt hi]
    have := hp _ (List.getElem?_eq_getElem hi)
    simp only [Option.bind_some]
    rw [if_neg (by simp [this.1]), name1 _ (h.2 _ (List.getElem_mem hi)), Option.bind_some, says_t this.2, if_neg (by simp)]
  · rw [elt_lt hi]
    simp only [Option.bind_some]
    by_cases hk : s.l[i].Kind = 1
    · rw [if_neg (by simp [hk]), name1 _ (h.2 _ (List.getElem_mem hi)), Option.bind_some, says_f (fun w => hp fun x hx => by rw [List.getElem?_eq_getElem hi] at hx; injection hx with hx; subst hx; exact ⟨hk, w⟩), if_pos (by simp)]
    · rw [if_pos (by simp [hk])]
  · unfold FieldsP
    rw [show (∀ i, i < s.l.length → ∀ x, s.l[i]? = some x → x.Kind = 1 ∧ NameP x.Text) ↔ ∀ v ∈ s.l, v.Kind = 1 ∧ NameP v.Text from mem_get]
def ObjP (o : DObject) : Prop := (1 ≤ o.Id ∧ o.Id ≤ 1000000) ∧ ((o.Vals.l.length : Int) ≤ 30 ∧ ∀ v ∈ o.Vals.l, ValP v) ∧
  ((o.Kind = 1 ∧ (o.Name = (⟨#[]⟩ : ByteArray) ∧ (-1000 ≤ o.Low ∧ o.Low ≤ 1000) ∧ o.Keys.l.length = 0 ∧ Zero o.Default)) ∨
   (o.Kind = 2 ∧ (o.Name = (⟨#[]⟩ : ByteArray) ∧ o.Low = 0 ∧ o.Keys.l.length = o.Vals.l.length ∧ (∀ v ∈ o.Keys.l, ValP v) ∧ DiffP o.Keys ∧ ValP o.Default)) ∨
   (o.Kind = 3 ∧ (NameP o.Name ∧ o.Low = 0 ∧ o.Keys.l.length = o.Vals.l.length ∧ FieldsP o.Keys ∧ Zero o.Default)))
theorem zeroB (v : DValue) : (decide (v.Kind = 0) && (decide (v.Num = 0) && (decide (v.Text = (⟨#[]⟩ : ByteArray)) && (decide (v.Ref = 0) && true)))) = says (Zero v) := by
  rw [Bool.eq_iff_iff, says_true_iff]; unfold Zero; simp
theorem s_bind2 {c p : Prop} {o : Option Bool} {K : Bool → Option Bool} (ho : o = some (says c)) (h : ∀ b : Bool, b = says c → K b = some (says p)) : (o.bind fun y => K y) = some (says p) := by
  rw [ho, Option.bind_some]; exact h _ rfl
theorem s_boolif' {b : Bool} {c p : Prop} {K : Option Bool} (hb : b = says c) (h : c → K = some (says p)) : (if b = true then K else some false) = some (says (c ∧ p)) := by
  subst hb
  by_cases hc : c
  · rw [says_t hc, if_pos rfl, h hc]; congr 1; exact says_iff' ⟨fun w => ⟨hc, w⟩, fun w => w.2⟩
  · rw [says_f hc, if_neg (by simp), says_f fun w => hc w.1]
theorem s_says {p : Prop} : some (says p) = some (says p) := rfl
theorem obj1 (o : DObject) (h : SmObject o) : F_spec_l07Object o = some (says (ObjP o)) := by
  refine u_spec_l07Object o _ ?_
  unfold B_spec_l07Object
  obtain ⟨h1, h2, h3, h4⟩ := h
  simp only [zeroB]
  refine s_iff (s_bindn (in1 _ _ _) fun _ => s_bindn (vals1 _ h3 30) fun hv => s_if (fun _ => s_and fun _ => s_bind (in1 _ _ _) fun _ => s_and fun _ => s_says) fun _ => s_if (fun _ => s_and fun _ => s_and fun _ => s_and fun _ => s_bind (vals1 _ h2 30) fun _ => s_bind (diff1 _ h2) fun _ => s_last (val1 _ h4)) fun _ => s_if (fun _ => s_bind (name1 _ h1) fun _ => s_and fun _ => s_and fun _ => s_bind (fields1 _ h2) fun _ => s_says) fun _ => s_no) ?_
  unfold ObjP
  by_cases c1 : o.Kind = 1
  · simp [c1]
  by_cases c2 : o.Kind = 2
  · simp [c2]; grind
  by_cases c3 : o.Kind = 3
  · simp [c3]; grind
  simp [c1, c2, c3]
theorem fieldVal (v : DValue) : FieldP v ↔ (v.Kind = 1 ∧ NameP v.Text) ∧ ValP v := by
  constructor
  · rintro ⟨a, b, c, d⟩
    exact ⟨⟨a, d⟩, .inl ⟨a, b, c, by have := d.2.1; omega⟩⟩
  · rintro ⟨⟨a, d⟩, w⟩
    unfold ValP at w
    rcases w with w | w | w | w | w
    · exact ⟨a, w.2.1, w.2.2.1, d⟩
    · rw [a] at w; omega
    · rw [a] at w; omega
    · rw [a] at w; omega
    · rw [a] at w; omega
theorem fieldsIff {l : List DValue} : (∀ v ∈ l, FieldP v) ↔ (∀ v ∈ l, v.Kind = 1 ∧ NameP v.Text) ∧ ∀ v ∈ l, ValP v :=
  ⟨fun w => ⟨fun v hv => ((fieldVal v).1 (w v hv)).1, fun v hv => ((fieldVal v).1 (w v hv)).2⟩, fun w v hv => (fieldVal v).2 ⟨w.1 v hv, w.2 v hv⟩⟩
theorem obj2 (o : DObject) (h : SmObject o) : F_impl_ValidObject o = some (says (ObjP o)) := by
  refine u_impl_ValidObject o _ ?_
  unfold B_impl_ValidObject
  obtain ⟨h1, h2, h3, h4⟩ := h
  simp only [zeroB]
  refine s_iff (s_bindn (id2 _) fun _ => s_gt fun _ => s_bindn (allVal _ h3) fun hv => s_if (fun _ => s_bind (in2 _ _ _) fun _ => s_and fun _ => s_boolif fun _ => s_dec) fun _ => s_if (fun _ => s_iff ((s_bind2 (s_and fun _ => s_bind (allVal _ h2) fun _ => s_last (diff2 _ h2)) fun b q => s_and fun _ => s_boolif' q fun _ => s_bind (val2 _ h4) fun _ => s_dec)) Iff.rfl) fun _ => s_if (fun _ => s_iff ((s_bind2 (s_and fun _ => s_and fun _ => s_and fun _ => s_bind (allField _ h2) fun _ => s_last (diff2 _ h2)) fun b q => s_and fun _ => s_boolif' q fun _ => s_boolif fun _ => s_last (name2 _ h1))) Iff.rfl) fun _ => s_no) ?_
  unfold ObjP
  by_cases c1 : o.Kind = 1
  · simp [c1, says_true_iff]; grind
  by_cases c2 : o.Kind = 2
  · simp [c2, says_true_iff]; grind
  by_cases c3 : o.Kind = 3
  · simp [c3, says_true_iff, FieldsP]; intro _ _; rw [fieldsIff]; grind
  simp [c1, c2, c3]

end Go.Am
end
