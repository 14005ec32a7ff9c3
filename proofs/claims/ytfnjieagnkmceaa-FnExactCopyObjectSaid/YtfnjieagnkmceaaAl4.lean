/- The law. -/
import Derived.Test.YtfnjieagnkmceaaAl3
import Derived.Test.YtfnjieagnkmceaaAg6
import Derived.Test.YtfnjieagnkmceaaAg3
import Derived.Test.YtfnjieagnkmceaaAg4
import Derived.Test.YtfnjieagnkmceaaAg5
section
set_option maxRecDepth 100000
set_option maxHeartbeats 2000000
set_option linter.unusedVariables false
set_option linter.unusedSimpArgs false
namespace Go.Am

def ownO (o : DObject) : DObject := ⟨o.Id, o.Kind, o.Name, o.Low, ⟨false, o.Keys.l⟩, ⟨false, o.Vals.l⟩, o.Default⟩
def ownH (h : DHeap) : DHeap := ⟨h.Next, ⟨h.Objects.l.isEmpty, h.Objects.l.map ownO⟩⟩
def NzO (o : DObject) : Prop := o.Keys.z = false ∧ o.Vals.z = false
theorem vals_own1 (s : Sl DValue) (hs : s.l.length ≤ 1048577) : F_spec_l07OwnValues s = some ⟨false, s.l⟩ := by
  refine u_spec_l07OwnValues s _ ?_
  unfold B_spec_l07OwnValues
  rw [appS_all (by omega)]; rfl
theorem vals_own2 (s : Sl DValue) (hz : s.z = false) (hs : s.l.length ≤ 1048577) : F_slices_Clone_Value s = some ⟨false, s.l⟩ := by
  refine u_slices_Clone_Value s _ ?_
  unfold B_slices_Clone_Value
  rw [if_neg (by simp [hz]), appS_all (by omega)]; rfl
theorem ownO1 (o : DObject) (h : LenObject o) : F_spec_l07OwnObject o = some (ownO o) := by
  refine u_spec_l07OwnObject o _ ?_
  unfold B_spec_l07OwnObject
  rw [vals_own1 _ h.1.1, Option.bind_some, vals_own1 _ h.2.1.1]; rfl
theorem ownO2 (o : DObject) (h : LenObject o) (hz : NzO o) : F_impl_Object_copied o = some (ownO o) := by
  refine u_impl_Object_copied o _ ?_
  unfold B_impl_Object_copied
  rw [vals_own2 _ hz.1 h.1.1, Option.bind_some, vals_own2 _ hz.2 h.2.1.1]; rfl
theorem ownH1 (h : DHeap) (hh : LenHeap h) : F_spec_l07Own h = some (ownH h) := by
  refine u_spec_l07Own h _ ?_
  unfold B_spec_l07Own
  have hlen := hh.1
  refine Eq.trans (congrArg (fun o => Option.bind o _) (loop_app ownO (a := h.Objects) (by omega) (fun i x s hx hi hs he => ?_) (fun s => by rw [if_neg (by simp)]))) ?_
  · show (if decide ((i : Int) < (h.Objects.l.length : Int)) = true then _ else _) = _
    rw [if_pos (by simpa using hi), he, Option.bind_some, ownO1 _ (hh.2 x hx), Option.bind_some]
    obtain ⟨z, l⟩ := s
    rw [appS_new (by simp only at hs; omega), wrapB (by omega) (by omega)]; rfl
  · rfl
def NzH (h : DHeap) : Prop := ∀ o ∈ h.Objects.l, NzO o
theorem ownH2 (h : DHeap) (hh : LenHeap h) (hz : NzH h) : F_impl_Heap_copied h = some (ownH h) := by
  refine u_impl_Heap_copied h _ ?_
  unfold B_impl_Heap_copied
  have hlen := hh.1
  refine Eq.trans (congrArg (fun o => Option.bind o _) (loop_app ownO (a := h.Objects) (by omega) (fun i x s hx hi hs he => ?_) (fun s => by rw [if_neg (by simp)]))) ?_
  · show (if decide ((i : Int) < (h.Objects.l.length : Int)) = true then _ else _) = _
    rw [if_pos (by simpa using hi), he, Option.bind_some, ownO2 _ (hh.2 x hx) (hz x hx), Option.bind_some]
    obtain ⟨z, l⟩ := s
    rw [appS_new (by simp only at hs; omega), wrapB (by omega) (by omega)]; rfl
  · rfl
theorem Nz_cpO (o : DObject) : NzO (cpObject o) := ⟨rfl, rfl⟩
theorem Nz_cp (h : DHeap) : NzH (cpHeap h) := fun o ho => by
  simp only [cpHeap, List.mem_map] at ho
  obtain ⟨x, _, rfl⟩ := ho; exact Nz_cpO x
theorem Len_ownO {o : DObject} (h : LenObject o) : LenObject (ownO o) := h
theorem Len_ownH {h : DHeap} (hh : LenHeap h) : LenHeap (ownH h) := by
  refine ⟨by simpa [ownH] using hh.1, fun o ho => ?_⟩
  simp only [ownH, List.mem_map] at ho
  obtain ⟨x, hx, rfl⟩ := ho; exact Len_ownO (hh.2 x hx)
theorem Len_nilH : LenHeap ⟨0, ⟨true, []⟩⟩ := ⟨by simp, fun o ho => by simp at ho⟩
theorem Len_nilO : LenObject ⟨0, 0, ⟨#[]⟩, 0, ⟨true, []⟩, ⟨true, []⟩, ⟨0, 0, ⟨#[]⟩, 0⟩⟩ := ⟨⟨by simp, fun o ho => by simp at ho⟩, ⟨by simp, fun o ho => by simp at ho⟩, trivial⟩
theorem Len_setH {n : Int} {s : Sl DObject} {j : Int} {o : DObject} (h : s.l.length ≤ 1048577 ∧ ∀ e ∈ s.l, LenObject e) (ho : LenObject o) : LenHeap ⟨n, setS s j o⟩ := by
  refine ⟨by simpa [setS] using h.1, fun f hf => ?_⟩
  simp only [setS] at hf
  rcases List.mem_or_eq_of_mem_set hf with hf | rfl
  · exact h.2 f hf
  · exact ho
/-- One object more. -/
def addH (h : DHeap) (o : DObject) : DHeap := ⟨IntKind.i64.wrap (h.Next + 1), ⟨false, (ownH h).Objects.l ++ [⟨IntKind.i64.wrap (h.Next + 1), o.Kind, o.Name, o.Low, ⟨false, o.Keys.l⟩, ⟨false, o.Vals.l⟩, o.Default⟩]⟩⟩
theorem app1 {s : Sl DObject} (hs : s.l.length ≤ 1048577) (o : DObject) : appS 128 s (⟨false, [o]⟩ : Sl DObject) = some ⟨false, s.l ++ [o]⟩ := by
  unfold appS
  show (if (s.l.length + 1) * 128 ≤ 1099511627776 then _ else none) = _
  rw [if_pos (by omega)]
theorem add1 (h : DHeap) (o : DObject) (hh : LenHeap h) (hv : HeapP h) (ho : LenObject o) : F_spec_l07Add h o = some (if (h.Objects.l.length : Int) = 40 ∨ h.Next = 1000000 then (⟨0, ⟨true, []⟩⟩, 0, 6) else (addH h o, IntKind.i64.wrap (h.Next + 1), 0)) := by
  refine u_spec_l07Add h o _ ?_
  unfold B_spec_l07Add
  have h40 := hv.2.1; have hnx := hv.1.2
  by_cases c1 : (h.Objects.l.length : Int) = 40
  · rw [if_pos (by simp; omega), if_pos (.inl c1)]
  · rw [if_neg (by rw [decide_eq_true_eq]; omega)]
    by_cases c2 : h.Next = 1000000
    · rw [if_pos (by simp; omega), if_pos (.inr c2)]
    · rw [if_neg (by rw [decide_eq_true_eq]; omega), if_neg (by rintro (h | h); exact c1 h; exact c2 h), ownH1 h hh, Option.bind_some, ownO1 o ho, Option.bind_some, app1 (Len_ownH hh).1]; rfl
theorem add2 (h : DHeap) (o : DObject) (hh : LenHeap h) (hz : NzH h) (ho : LenObject o) (hzo : NzO o) : F_impl_Heap_add h o = some (if (h.Objects.l.length : Int) = 40 ∨ h.Next = 1000000 then (⟨0, ⟨true, []⟩⟩, 0, 6) else (addH h o, IntKind.i64.wrap (h.Next + 1), 0)) := by
  refine u_impl_Heap_add h o _ ?_
  unfold B_impl_Heap_add
  by_cases c1 : (h.Objects.l.length : Int) = 40
  · rw [if_pos (by simpa using c1), if_pos (.inl c1)]
  · rw [if_neg (by simpa using c1)]
    by_cases c2 : h.Next = 1000000
    · rw [if_pos (by simpa using c2), if_pos (.inr c2)]
    · rw [if_neg (by simpa using c2), if_neg (by rintro (h | h); exact c1 h; exact c2 h), ownH2 h hh hz, Option.bind_some, ownO2 o ho hzo, Option.bind_some, app1 (Len_ownH hh).1]; rfl
theorem Len_addH {h : DHeap} {o : DObject} (hs : SmHeap h) (ho : LenObject o) : LenHeap (addH h o) := by
  have hh := SmHeap_Len hs
  refine ⟨by simp [addH, ownH]; have := hs.1; omega, fun f hf => ?_⟩
  simp only [addH, List.mem_append, List.mem_singleton] at hf
  rcases hf with hf | rfl
  · exact (Len_ownH hh).2 f hf
  · exact ho
theorem set2 (h : DHeap) (n : Nat) (o : DObject) (hh : LenHeap h) (hz : NzH h) (hn : n < h.Objects.l.length) (ho : LenObject o) (hzo : NzO o) : F_impl_Heap_set h (n : Int) o = some ⟨h.Next, setS (ownH h).Objects (n : Int) (ownO o)⟩ := by
  refine u_impl_Heap_set h _ o _ ?_
  unfold B_impl_Heap_set
  rw [ownH2 h hh hz, Option.bind_some, ownO2 o ho hzo, Option.bind_some, elt_lt (by simpa [ownH] using hn)]; rfl

end Go.Am
end
