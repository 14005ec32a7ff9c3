/- The law. -/
import Derived.Test.YtfnjieagnkmceaaAl3
import Derived.Test.YtfnjieagnkmceaaAg6
import Derived.Test.YtfnjieagnkmceaaAg3
import Derived.Test.YtfnjieagnkmceaaAg4
import Derived.Test.YtfnjieagnkmceaaAg5
section
set_option maxRecDepth 100000
set_option maxHeartbeats 2000000
set_option linter.unusedVariables false
set_option linter.unusedSimpArgs false
namespace Go.Am

def ownO (o : aa_) : aa_ := ⟨o.Id, o.Kind, o.Name, o.Low, ⟨false, o.Keys.l⟩, ⟨false, o.Vals.l⟩, o.Default⟩
def ownH (h : ai_) : ai_ := ⟨h.Next, ⟨h.Objects.l.isEmpty, h.Objects.l.map ownO⟩⟩
def NzO (o : aa_) : Prop := o.Keys.z = false ∧ o.Vals.z = false
theorem j9_ (s : Sl ac_) (hs : s.l.length ≤ 1048577) : bO_ s = some ⟨false, s.l⟩ := by
 refine gd_ s _ ?_
 unfold cz_
 rw [jA_ (by omega)]; rfl
theorem kX_ (s : Sl ac_) (hz : s.z = false) (hs : s.l.length ≤ 1048577) : bh_ s = some ⟨false, s.l⟩ := by
 refine dV_ s _ ?_
 unfold bC_
 rw [if_neg (by simp [hz]), jA_ (by omega)]; rfl
theorem ql_ (o : aa_) (h : aN_ o) : bM_ o = some (ownO o) := by
 refine gg_ o _ ?_
 unfold cB_
 rw [j9_ _ h.1.1, Option.bind_some, j9_ _ h.2.1.1]; rfl
theorem nX_ (o : aa_) (h : aN_ o) (hz : NzO o) : aS_ o = some (ownO o) := by
 refine dS_ o _ ?_
 unfold bB_
 rw [kX_ _ hz.1 h.1.1, Option.bind_some, kX_ _ hz.2 h.2.1.1]; rfl
theorem rj_ (h : ai_) (hh : bE_ h) : dY_ h = some (ownH h) := by
 refine jB_ h _ ?_
 unfold e9_
 have hlen := hh.1
 refine Eq.trans (congrArg (fun o => Option.bind o _) (lw_ ownO (a := h.Objects) (by omega) (fun i x s hx hi hs he => ?_) (fun s => by rw [if_neg (by simp)]))) ?_
 ·show (if decide ((i : Int) < (h.Objects.l.length : Int)) = true then _ else _) = _
  rw [if_pos (by simpa using hi), he, Option.bind_some, ql_ _ (hh.2 x hx), Option.bind_some]
  obtain ⟨z, l⟩ := s
  rw [lN_ (by simp only at hs; omega), cy_ (by omega) (by omega)]; rfl
 ·rfl
def NzH (h : ai_) : Prop := ∀ o ∈ h.Objects.l, NzO o
theorem o3_ (h : ai_) (hh : bE_ h) (hz : NzH h) : b5_ h = some (ownH h) := by
 refine gQ_ h _ ?_
 unfold cI_
 have hlen := hh.1
 refine Eq.trans (congrArg (fun o => Option.bind o _) (lw_ ownO (a := h.Objects) (by omega) (fun i x s hx hi hs he => ?_) (fun s => by rw [if_neg (by simp)]))) ?_
 ·show (if decide ((i : Int) < (h.Objects.l.length : Int)) = true then _ else _) = _
  rw [if_pos (by simpa using hi), he, Option.bind_some, nX_ _ (hh.2 x hx) (hz x hx), Option.bind_some]
  obtain ⟨z, l⟩ := s
  rw [lN_ (by simp only at hs; omega), cy_ (by omega) (by omega)]; rfl
 ·rfl
theorem rt_ (o : aa_) : NzO (dx_ o) := ⟨rfl, rfl⟩
theorem sJ_ (h : ai_) : NzH (gW_ h) := fun o ho => by
 simp only [gW_, List.mem_map] at ho
 obtain ⟨x, _, rfl⟩ := ho; exact rt_ x
theorem nW_ {o : aa_} (h : aN_ o) : aN_ (ownO o) := h
theorem f1_ {h : ai_} (hh : bE_ h) : bE_ (ownH h) := by
 refine ⟨by simpa [ownH] using hh.1, fun o ho => ?_⟩
 simp only [ownH, List.mem_map] at ho
 obtain ⟨x, hx, rfl⟩ := ho; exact nW_ (hh.2 x hx)
theorem Len_nilH : bE_ ⟨0, ⟨true, []⟩⟩ := ⟨by simp, fun o ho => by simp at ho⟩
theorem Len_nilO : aN_ ⟨0, 0, ⟨#[]⟩, 0, ⟨true, []⟩, ⟨true, []⟩, ⟨0, 0, ⟨#[]⟩, 0⟩⟩ := ⟨⟨by simp, fun o ho => by simp at ho⟩, ⟨by simp, fun o ho => by simp at ho⟩, trivial⟩
theorem or_ {n : Int} {s : Sl aa_} {j : Int} {o : aa_} (h : s.l.length ≤ 1048577 ∧ ∀ e ∈ s.l, aN_ e) (ho : aN_ o) : bE_ ⟨n, setS s j o⟩ := by
 refine ⟨by simpa [setS] using h.1, fun f hf => ?_⟩
 simp only [setS] at hf
 rcases List.mem_or_eq_of_mem_set hf with hf | rfl
 ·exact h.2 f hf
 ·exact ho
/-- One object more. -/
def addH (h : ai_) (o : aa_) : ai_ := ⟨w4 (h.Next + 1), ⟨false, (ownH h).Objects.l ++ [⟨w4 (h.Next + 1), o.Kind, o.Name, o.Low, ⟨false, o.Keys.l⟩, ⟨false, o.Vals.l⟩, o.Default⟩]⟩⟩
theorem app1 {s : Sl aa_} (hs : s.l.length ≤ 1048577) (o : aa_) : appS 128 s (⟨false, [o]⟩ : Sl aa_) = some ⟨false, s.l ++ [o]⟩ := by
 unfold appS
 show (if (s.l.length + 1) * 128 ≤ 1099511627776 then _ else none) = _
 rw [if_pos (by omega)]
theorem add1 (h : ai_) (o : aa_) (hh : bE_ h) (hv : mG_ h) (ho : aN_ o) : fe_ h o = some (if (h.Objects.l.length : Int) = 40 ∨ h.Next = 1000000 then (⟨0, ⟨true, []⟩⟩, 0, 6) else (addH h o, w4 (h.Next + 1), 0)) := by
 refine jQ_ h o _ ?_
 unfold fh_
 have h40 := hv.2.1; have hnx := hv.1.2
 by_cases c1 : (h.Objects.l.length : Int) = 40
 ·rw [if_pos (by simp; omega), if_pos (.inl c1)]
 ·rw [if_neg (by rw [decide_eq_true_eq]; omega)]
  by_cases c2 : h.Next = 1000000
  ·rw [if_pos (by simp; omega), if_pos (.inr c2)]
  ·rw [if_neg (by rw [decide_eq_true_eq]; omega), if_neg (by rintro (h | h); exact c1 h; exact c2 h), rj_ h hh, Option.bind_some, ql_ o ho, Option.bind_some, app1 (f1_ hh).1]; rfl
theorem add2 (h : ai_) (o : aa_) (hh : bE_ h) (hz : NzH h) (ho : aN_ o) (hzo : NzO o) : c4_ h o = some (if (h.Objects.l.length : Int) = 40 ∨ h.Next = 1000000 then (⟨0, ⟨true, []⟩⟩, 0, 6) else (addH h o, w4 (h.Next + 1), 0)) := by
 refine fS_ h o _ ?_
 unfold cO_
 by_cases c1 : (h.Objects.l.length : Int) = 40
 ·rw [if_pos (by simpa using c1), if_pos (.inl c1)]
 ·rw [if_neg (by simpa using c1)]
  by_cases c2 : h.Next = 1000000
  ·rw [if_pos (by simpa using c2), if_pos (.inr c2)]
  ·rw [if_neg (by simpa using c2), if_neg (by rintro (h | h); exact c1 h; exact c2 h), o3_ h hh hz, Option.bind_some, nX_ o ho hzo, Option.bind_some, app1 (f1_ hh).1]; rfl
theorem r9_ {h : ai_} {o : aa_} (hs : ej_ h) (ho : aN_ o) : bE_ (addH h o) := by
 have hh := d4_ hs
 refine ⟨by simp [addH, ownH]; have := hs.1; omega, fun f hf => ?_⟩
 simp only [addH, List.mem_append, List.mem_singleton] at hf
 rcases hf with hf | rfl
 ·exact (f1_ hh).2 f hf
 ·exact ho
theorem set2 (h : ai_) (n : Nat) (o : aa_) (hh : bE_ h) (hz : NzH h) (hn : n < h.Objects.l.length) (ho : aN_ o) (hzo : NzO o) : en_ h (n : Int) o = some ⟨h.Next, setS (ownH h).Objects (n : Int) (ownO o)⟩ := by
 refine ic_ h _ o _ ?_
 unfold d6_
 rw [o3_ h hh hz, Option.bind_some, nX_ o ho hzo, Option.bind_some, aU_ (by simpa [ownH] using hn)]; rfl

end Go.Am
end
