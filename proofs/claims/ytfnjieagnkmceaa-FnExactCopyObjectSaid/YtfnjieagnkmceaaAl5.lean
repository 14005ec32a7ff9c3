/- The law. -/
import Derived.Test.YtfnjieagnkmceaaAl4
import Derived.Test.YtfnjieagnkmceaaAg5
import Derived.Test.YtfnjieagnkmceaaAg6
import Derived.Test.YtfnjieagnkmceaaAg7
section
set_option maxRecDepth 100000
set_option maxHeartbeats 2000000
set_option linter.unusedVariables false
set_option linter.unusedSimpArgs false
namespace Go.Am

def AllFit (h : DHeap) (s : Sl DValue) : Prop := HeapP h ∧ ∀ v ∈ s.l, FitsP h v
theorem fitS1 (h : DHeap) (s : Sl DValue) (hh : SmHeap h) (hs : SmVS s) : F_spec_l09Fit h s = some (says (AllFit h s)) := by
  refine u_spec_l09Fit h s _ ?_
  unfold B_spec_l09Fit
  exact s_bind (ok1 h hh) fun hv => s_last (fitAll1 h s hh.1 hv.2.2.1.2 hs)
theorem roots2 (h : DHeap) (s : Sl DValue) (hh : SmHeap h) (hs : SmVS s) : F_impl_ValidRoots h s = some (says (AllFit h s)) := by
  refine u_impl_ValidRoots h s _ ?_
  unfold B_impl_ValidRoots
  exact s_bind (ok2 h hh) fun hv => s_last (fitAll2 h s hh.1 hv.2.2.1.2 (by have := hs.1; omega) hs.2)
theorem unless_ok (b : Bool) (k : Int) : F_impl_unless b k = some (if b = true then 0 else k) := u_impl_unless b k _ (by unfold B_impl_unless; cases b <;> rfl)
theorem first_ok (x y : Int) : F_impl_first (⟨false, [⟨x⟩, ⟨y⟩]⟩) = some (if x = 0 then y else x) := by
  refine u_impl_first _ _ ?_
  unfold B_impl_first
  have w0 : IntKind.i64.wrap (0 + 1) = 1 := rfl
  have w1 : IntKind.i64.wrap (1 + 1) = 2 := rfl
  by_cases hx : x = 0
  · subst hx
    by_cases hy : y = 0
    · subst hy
      rw [loopO_go (s' := 1) rfl (loopO_go (s' := 2) rfl (loopO_stop (r := .inl ()) rfl))]; rfl
    · rw [loopO_go (s' := 1) rfl (loopO_stop (r := .inr y) (by show (if (!decide (y = 0)) = true then _ else _) = _; rw [if_pos (by simpa using hy)]))]; rfl
  · rw [loopO_stop (r := .inr x) (by show (if (!decide (x = 0)) = true then _ else _) = _; rw [if_pos (by simpa using hx)]), if_neg hx]; rfl
theorem fitS2 (h : DHeap) (s : Sl DValue) (hh : SmHeap h) (hs : SmVS s) : F_impl_fitAll h s = some (if says (AllFit h s) = true then 0 else 1) := by
  refine u_impl_fitAll h s _ ?_
  unfold B_impl_fitAll
  rw [roots2 h s hh hs, Option.bind_some, unless_ok]; rfl
/-- Slices as the functions make them. -/
def NilO (o : DObject) : Prop := (o.Keys.z = true → o.Keys.l = []) ∧ (o.Vals.z = true → o.Vals.l = [])
theorem clone3 (s : Sl DValue) (hz : s.z = true → s.l = []) (hs : s.l.length ≤ 1048577) : F_slices_Clone_Value s = some s := by
  refine u_slices_Clone_Value s _ ?_
  unfold B_slices_Clone_Value
  obtain ⟨z, l⟩ := s
  cases z with
  | true => have := hz rfl; simp only at this; subst this; rfl
  | false => rw [if_neg (by simp), appS_all (by simp only at hs ⊢; omega)]; rfl
theorem ownO3 (o : DObject) (h : LenObject o) (hz : NilO o) : F_impl_Object_copied o = some o := by
  refine u_impl_Object_copied o _ ?_
  unfold B_impl_Object_copied
  rw [clone3 _ hz.1 h.1.1, Option.bind_some, clone3 _ hz.2 h.2.1.1]; rfl
def addI (h : DHeap) (o : DObject) : DHeap := ⟨IntKind.i64.wrap (h.Next + 1), ⟨false, (ownH h).Objects.l ++ [⟨IntKind.i64.wrap (h.Next + 1), o.Kind, o.Name, o.Low, o.Keys, o.Vals, o.Default⟩]⟩⟩
theorem add3 (h : DHeap) (o : DObject) (hh : LenHeap h) (hz : NzH h) (ho : LenObject o) (hzo : NilO o) : F_impl_Heap_add h o = some (if (h.Objects.l.length : Int) = 40 ∨ h.Next = 1000000 then (⟨0, ⟨true, []⟩⟩, 0, 6) else (addI h o, IntKind.i64.wrap (h.Next + 1), 0)) := by
  refine u_impl_Heap_add h o _ ?_
  unfold B_impl_Heap_add
  by_cases c1 : (h.Objects.l.length : Int) = 40
  · rw [if_pos (by simpa using c1), if_pos (.inl c1)]
  · rw [if_neg (by simpa using c1)]
    by_cases c2 : h.Next = 1000000
    · rw [if_pos (by simpa using c2), if_pos (.inr c2)]
    · rw [if_neg (by simpa using c2), if_neg (by rintro (h | h); exact c1 h; exact c2 h), ownH2 h hh hz, Option.bind_some, ownO3 o ho hzo, Option.bind_some, app1 (Len_ownH hh).1]; rfl
theorem Eqv_add (h : DHeap) (o : DObject) : EqvHeap (addI h o) (addH h o) := by
  refine ⟨rfl, by simp [addI, addH], fun i u v hu hv => ?_⟩
  simp only [addI, addH] at hu hv
  by_cases hi : i < (ownH h).Objects.l.length
  · rw [List.getElem?_append_left hi] at hu hv
    rw [hu] at hv; injection hv with hv; subst hv; exact EqvObject_rfl
  · rw [List.getElem?_append_right (by omega)] at hu hv
    have hz : i - (ownH h).Objects.l.length = 0 := by
      have := (List.getElem?_eq_some_iff.1 hu).1
      simp only [List.length_singleton] at this; omega
    rw [hz] at hu hv
    simp only [List.getElem?_cons_zero] at hu hv
    injection hu with hu; injection hv with hv; subst hu; subst hv
    exact ⟨rfl, rfl, rfl, rfl, rfl, rfl, EqvValue_rfl⟩
theorem Len_addI {h : DHeap} {o : DObject} (hs : SmHeap h) (ho : LenObject o) : LenHeap (addI h o) := by
  have hh := SmHeap_Len hs
  refine ⟨by simp [addI, ownH]; have := hs.1; omega, fun f hf => ?_⟩
  simp only [addI, List.mem_append, List.mem_singleton] at hf
  rcases hf with hf | rfl
  · exact (Len_ownH hh).2 f hf
  · exact ho
def refOf (k id : Int) : DValue := ⟨IntKind.i64.wrap (IntKind.i64.wrap (k - 1) + 4), 0, ⟨#[]⟩, id⟩
/-- Both make an object: the heaps are the same but for nil. -/
theorem created (h : DHeap) (o : DObject) (hs : SmHeap h) (hv : HeapP h) (hz : NzH h) (ho : LenObject o) (hzo : NilO o) : ∃ w w' : DHeap × DValue × Int, F_spec_l09Created h o = some w ∧ F_impl_Heap_create h o = some w' ∧ LenHeap w'.1 ∧ EqvHeap w'.1 w.1 ∧ w'.2 = w.2 := by
  have hh := SmHeap_Len hs
  suffices H : ∃ w w' : DHeap × DValue × Int, B_spec_l09Created h o = some w ∧ B_impl_Heap_create h o = some w' ∧ LenHeap w'.1 ∧ EqvHeap w'.1 w.1 ∧ w'.2 = w.2 by
    obtain ⟨w, w', h1, h2, h3⟩ := H; exact ⟨w, w', u_spec_l09Created h o w h1, u_impl_Heap_create h o w' h2, h3⟩
  unfold B_spec_l09Created B_impl_Heap_create
  rw [add1 h o hh hv ho, add3 h o hh hz ho hzo]
  by_cases c : (h.Objects.l.length : Int) = 40 ∨ h.Next = 1000000
  · rw [if_pos c, if_pos c]
    exact ⟨_, _, rfl, rfl, Len_nilH, EqvHeap_rfl, rfl⟩
  · rw [if_neg c, if_neg c]
    have e : ∀ x : DObject, F_impl_Object_reference x = some (refOf x.Kind x.Id) := fun x => u_impl_Object_reference x _ rfl
    simp only [Option.bind_some, e, decide_true, Bool.not_true, Bool.false_eq_true, if_false]
    exact ⟨_, _, rfl, rfl, Len_addI hs ho, Eqv_add h o, rfl⟩
theorem kind_ref {k : Int} (h : 4 ≤ k ∧ k ≤ 6) : kindOf k = k - 3 := by
  unfold kindOf; rw [wrapB (n := k - 4) (by omega) (by omega), wrapB (by omega) (by omega)]; omega
/-- The object to which a value that fits refers. -/
theorem ref_obj {h : DHeap} {v : DValue} (hl : h.Objects.l.length ≤ 1048576) (ho : OrdP h.Objects.l) (hf : FitsP h v) (hr : 4 ≤ v.Kind ∧ v.Kind ≤ 6) : ∃ n : Nat, ∃ hn : n < h.Objects.l.length, F_spec_l07Find h v.Ref = some (n : Int) ∧ F_impl_Heap_find h v.Ref = some (n : Int) ∧ h.Objects.l[n].Kind = v.Kind - 3 := by
  obtain ⟨r, r1, r2, ra⟩ := find_both h v.Ref hl ho
  obtain ⟨q1, q2⟩ := ref_at ho ra
  have hp := hf.2 hr
  have h0 : 0 ≤ r := Classical.byContradiction fun w => q2 w hp
  obtain ⟨n, hn, rfl, e⟩ := q1 h0
  exact ⟨n, hn, r1, r2, (e.2 hp).trans (kind_ref hr)⟩
theorem key1 (s : Sl DValue) (v : DValue) (hl : s.l.length ≤ 1048577) : ∃ r : Int, F_spec_l09Key s v = some r ∧ F_slices_Index_Value s v = some r ∧ ((r = -1 ∧ ¬ 0 ≤ r) ∨ ∃ n : Nat, n < s.l.length ∧ r = n) := by
  obtain ⟨r', i1, i2, i3, i4⟩ := index2 s v (by omega)
  have := loop_fst (n := s.l.length) (p := fun i => s.l[i]? = some v) (bd := fun st1 => ((elt s st1).bind fun y2 => (if ((decide (y2.Kind = v.Kind) && (decide (y2.Num = v.Num) && (decide (y2.Text = v.Text) && (decide (y2.Ref = v.Ref) && true))))) = true then (some (.inr (.inr st1))) else (some (.inl (IntKind.i64.wrap (st1 + 1))))))) (by omega) (fun i hi hp => by
    show (elt s (i : Int)).bind _ = _
    rw [elt_lt hi, Option.bind_some, eqV, says_f (fun e => hp (by rw [List.getElem?_eq_getElem hi, e])), if_neg (by simp)]) (fun i hi hp => by
    show (elt s (i : Int)).bind _ = _
    rw [List.getElem?_eq_getElem hi] at hp; injection hp with hp
    rw [elt_lt hi, Option.bind_some, eqV, says_t hp, if_pos rfl])
  rcases this with ⟨r, r1, r2, r3, r4⟩ | ⟨r1, r2⟩
  · have h0 : 0 ≤ r' := i3.2 (List.mem_of_getElem? r2)
    obtain ⟨n, hn⟩ : ∃ n : Nat, r' = n := ⟨r'.toNat, by omega⟩
    obtain ⟨a1, a2⟩ := i4 n hn
    have : n = r := by
      rcases Nat.lt_trichotomy n r with c | c | c
      · exact absurd a1 (r3 n c)
      · exact c
      · exact absurd r2 (a2 r c)
    subst this; subst hn
    exact ⟨n, u_spec_l09Key s v _ (by unfold B_spec_l09Key; exact r4), i1, .inr ⟨n, r1, rfl⟩⟩
  · have h0 : ¬ 0 ≤ r' := fun w => by
      obtain ⟨i, hi, e⟩ := List.getElem_of_mem (i3.1 w)
      exact r1 i hi (by rw [List.getElem?_eq_getElem hi, e])
    have : r' = -1 := by omega
    subst this
    exact ⟨-1, u_spec_l09Key s v _ (by unfold B_spec_l09Key; exact r2), i1, .inl ⟨rfl, by omega⟩⟩
theorem object2 (h : DHeap) (v : DValue) (r : Int) (hr : 4 ≤ v.Kind ∧ v.Kind ≤ 6) (hf : F_impl_Heap_find h v.Ref = some r) : F_impl_Heap_object h v = some r := by
  refine u_impl_Heap_object h v _ ?_
  unfold B_impl_Heap_object
  rw [ref2, Option.bind_some, says_t hr, if_neg (by simp), hf]; rfl
theorem Sm_one {v : DValue} (h : SmValue v) : SmVS ⟨false, [v]⟩ := ⟨by simp, fun x hx => by simp at hx; subst hx; exact h⟩
theorem Sm_two {v w : DValue} (h : SmValue v) (h' : SmValue w) : SmVS ⟨false, [v, w]⟩ := ⟨by simp, fun x hx => by simp at hx; rcases hx with rfl | rfl; exact h; exact h'⟩

end Go.Am
end
