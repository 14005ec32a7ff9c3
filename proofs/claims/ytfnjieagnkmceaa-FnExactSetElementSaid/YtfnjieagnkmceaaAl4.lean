/- The law. -/
import Derived.Test.YtfnjieagnkmceaaAl3
import Derived.Test.YtfnjieagnkmceaaAg7
import Derived.Test.YtfnjieagnkmceaaAg4
import Derived.Test.YtfnjieagnkmceaaAg5
import Derived.Test.YtfnjieagnkmceaaAg6
section
set_option maxRecDepth 100000
set_option maxHeartbeats 2000000
set_option linter.unusedVariables false
set_option linter.unusedSimpArgs false
namespace Go.Am

def ownO (o : aa_) : aa_ := ⟨o.Id, o.Kind, o.Name, o.Low, ⟨false, o.Keys.l⟩, ⟨false, o.Vals.l⟩, o.Default⟩
def ownH (h : aj_) : aj_ := ⟨h.Next, ⟨h.Objects.l.isEmpty, h.Objects.l.map ownO⟩⟩
def NzO (o : aa_) : Prop := o.Keys.z = false ∧ o.Vals.z = false
theorem ky_ (s : Sl ac_) (hs : s.l.length ≤ 1048577) : bO_ s = some ⟨false, s.l⟩ := by
 refine gw_ s _ ?_
 unfold cF_
 rw [jX_ (by omega)]; rfl
theorem li_ (s : Sl ac_) (hz : s.z = false) (hs : s.l.length ≤ 1048577) : bn_ s = some ⟨false, s.l⟩ := by
 refine d3_ s _ ?_
 unfold bF_
 rw [if_neg (by simp [hz]), jX_ (by omega)]; rfl
theorem qX_ (o : aa_) (h : aN_ o) : bX_ o = some (ownO o) := by
 refine gt_ o _ ?_
 unfold cH_
 rw [ky_ _ h.1.1, Option.bind_some, ky_ _ h.2.1.1]; rfl
theorem os_ (o : aa_) (h : aN_ o) (hz : NzO o) : aR_ o = some (ownO o) := by
 refine d2_ o _ ?_
 unfold bG_
 rw [li_ _ hz.1 h.1.1, Option.bind_some, li_ _ hz.2 h.2.1.1]; rfl
theorem qv_ (h : aj_) (hh : bL_ h) : d9_ h = some (ownH h) := by
 refine jV_ h _ ?_
 unfold fA_
 have hlen := hh.1
 refine Eq.trans (congrArg (fun o => Option.bind o _) (md_ ownO (a := h.Objects) (by omega) (fun i x s hx hi hs he => ?_) (fun s => by rw [if_neg (by simp)]))) ?_
 ·show (if decide ((i : Int) < (h.Objects.l.length : Int)) = true then _ else _) = _
  rw [if_pos (by simpa using hi), he, Option.bind_some, qX_ _ (hh.2 x hx), Option.bind_some]
  obtain ⟨z, l⟩ := s
  rw [mc_ (by simp only at hs; omega), cM_ (by omega) (by omega)]; rfl
 ·rfl
def NzH (h : aj_) : Prop := ∀ o ∈ h.Objects.l, NzO o
theorem oV_ (h : aj_) (hh : bL_ h) (hz : NzH h) : bw_ h = some (ownH h) := by
 refine hg_ h _ ?_
 unfold cU_
 have hlen := hh.1
 refine Eq.trans (congrArg (fun o => Option.bind o _) (md_ ownO (a := h.Objects) (by omega) (fun i x s hx hi hs he => ?_) (fun s => by rw [if_neg (by simp)]))) ?_
 ·show (if decide ((i : Int) < (h.Objects.l.length : Int)) = true then _ else _) = _
  rw [if_pos (by simpa using hi), he, Option.bind_some, os_ _ (hh.2 x hx) (hz x hx), Option.bind_some]
  obtain ⟨z, l⟩ := s
  rw [mc_ (by simp only at hs; omega), cM_ (by omega) (by omega)]; rfl
 ·rfl
theorem rR_ (o : aa_) : NzO (dD_ o) := ⟨rfl, rfl⟩
theorem sV_ (h : aj_) : NzH (gV_ h) := fun o ho => by
 simp only [gV_, List.mem_map] at ho
 obtain ⟨x, _, rfl⟩ := ho; exact rR_ x
theorem oC_ {o : aa_} (h : aN_ o) : aN_ (ownO o) := h
theorem eM_ {h : aj_} (hh : bL_ h) : bL_ (ownH h) := by
 refine ⟨by simpa [ownH] using hh.1, fun o ho => ?_⟩
 simp only [ownH, List.mem_map] at ho
 obtain ⟨x, hx, rfl⟩ := ho; exact oC_ (hh.2 x hx)
theorem Len_nilH : bL_ ⟨0, ⟨true, []⟩⟩ := ⟨by simp, fun o ho => by simp at ho⟩
theorem Len_nilO : aN_ ⟨0, 0, ⟨#[]⟩, 0, ⟨true, []⟩, ⟨true, []⟩, ⟨0, 0, ⟨#[]⟩, 0⟩⟩ := ⟨⟨by simp, fun o ho => by simp at ho⟩, ⟨by simp, fun o ho => by simp at ho⟩, trivial⟩
theorem l0_ {n : Int} {s : Sl aa_} {j : Int} {o : aa_} (h : s.l.length ≤ 1048577 ∧ ∀ e ∈ s.l, aN_ e) (ho : aN_ o) : bL_ ⟨n, setS s j o⟩ := by
 refine ⟨by simpa [setS] using h.1, fun f hf => ?_⟩
 simp only [setS] at hf
 rcases List.mem_or_eq_of_mem_set hf with hf | rfl
 ·exact h.2 f hf
 ·exact ho
/-- One object more. -/
def addH (h : aj_) (o : aa_) : aj_ := ⟨w4 (h.Next + 1), ⟨false, (ownH h).Objects.l ++ [⟨w4 (h.Next + 1), o.Kind, o.Name, o.Low, ⟨false, o.Keys.l⟩, ⟨false, o.Vals.l⟩, o.Default⟩]⟩⟩
theorem app1 {s : Sl aa_} (hs : s.l.length ≤ 1048577) (o : aa_) : appS 128 s (⟨false, [o]⟩ : Sl aa_) = some ⟨false, s.l ++ [o]⟩ := by
 unfold appS
 show (if (s.l.length + 1) * 128 ≤ 1099511627776 then _ else none) = _
 rw [if_pos (by omega)]
theorem add1 (h : aj_) (o : aa_) (hh : bL_ h) (hv : of_ h) (ho : aN_ o) : fz_ h o = some (if (h.Objects.l.length : Int) = 40 ∨ h.Next = 1000000 then (⟨0, ⟨true, []⟩⟩, 0, 6) else (addH h o, w4 (h.Next + 1), 0)) := by
 refine kl_ h o _ ?_
 unfold fD_
 have h40 := hv.2.1; have hnx := hv.1.2
 by_cases c1 : (h.Objects.l.length : Int) = 40
 ·rw [if_pos (by simp; omega), if_pos (.inl c1)]
 ·rw [if_neg (by rw [decide_eq_true_eq]; omega)]
  by_cases c2 : h.Next = 1000000
  ·rw [if_pos (by simp; omega), if_pos (.inr c2)]
  ·rw [if_neg (by rw [decide_eq_true_eq]; omega), if_neg (by rintro (h | h); exact c1 h; exact c2 h), qv_ h hh, Option.bind_some, qX_ o ho, Option.bind_some, app1 (eM_ hh).1]; rfl
theorem add2 (h : aj_) (o : aa_) (hh : bL_ h) (hz : NzH h) (ho : aN_ o) (hzo : NzO o) : cW_ h o = some (if (h.Objects.l.length : Int) = 40 ∨ h.Next = 1000000 then (⟨0, ⟨true, []⟩⟩, 0, 6) else (addH h o, w4 (h.Next + 1), 0)) := by
 refine fX_ h o _ ?_
 unfold c7_
 by_cases c1 : (h.Objects.l.length : Int) = 40
 ·rw [if_pos (by simpa using c1), if_pos (.inl c1)]
 ·rw [if_neg (by simpa using c1)]
  by_cases c2 : h.Next = 1000000
  ·rw [if_pos (by simpa using c2), if_pos (.inr c2)]
  ·rw [if_neg (by simpa using c2), if_neg (by rintro (h | h); exact c1 h; exact c2 h), oV_ h hh hz, Option.bind_some, os_ o ho hzo, Option.bind_some, app1 (eM_ hh).1]; rfl
theorem sg_ {h : aj_} {o : aa_} (hs : eD_ h) (ho : aN_ o) : bL_ (addH h o) := by
 have hh := eg_ hs
 refine ⟨by simp [addH, ownH]; have := hs.1; omega, fun f hf => ?_⟩
 simp only [addH, List.mem_append, List.mem_singleton] at hf
 rcases hf with hf | rfl
 ·exact (eM_ hh).2 f hf
 ·exact ho
theorem set2 (h : aj_) (n : Nat) (o : aa_) (hh : bL_ h) (hz : NzH h) (hn : n < h.Objects.l.length) (ho : aN_ o) (hzo : NzO o) : cg_ h (n : Int) o = some ⟨h.Next, setS (ownH h).Objects (n : Int) (ownO o)⟩ := by
 refine iM_ h _ o _ ?_
 unfold eA_
 rw [oV_ h hh hz, Option.bind_some, os_ o ho hzo, Option.bind_some, aW_ (by simpa [ownH] using hn)]; rfl

end Go.Am
end
