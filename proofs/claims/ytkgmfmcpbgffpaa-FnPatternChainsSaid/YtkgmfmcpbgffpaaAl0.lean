/- The law. -/
import Derived.Test.YtkgmfmcpbgffpaaAd0
import Derived.Test.YtkgmfmcpbgffpaaAm6
section
set_option maxRecDepth 100000
set_option maxHeartbeats 1000000
set_option linter.unusedVariables false
set_option linter.unusedSimpArgs false
namespace Go.Am
mutual
theorem cg_ {P : DPattern → Prop} (h : ∀ p, (∀ q ∈ p.Kids.l, P q) → P p) : ∀ p, P p
 | ⟨k, n, t, ⟨z, l⟩⟩ => h ⟨k, n, t, ⟨z, l⟩⟩ (jC_ h l)
theorem jC_ {P : DPattern → Prop} (h : ∀ p, (∀ q ∈ p.Kids.l, P q) → P p) : ∀ l : List DPattern, ∀ q ∈ l, P q
 | [], q, hq => by cases hq
 | p :: l, q, hq => by
  rcases List.mem_cons.1 hq with e | e
  ·rw [e]; exact cg_ h p
  ·exact jC_ h l q e
end
mutual
/-- The nodes of a pattern. -/
def nd : DPattern → Nat
 | ⟨_, _, _, ⟨_, l⟩⟩ => 1 + ndL l
def ndL : List DPattern → Nat
 | [] => 0
 | p :: l => nd p + ndL l
end
theorem eQ_ (p : DPattern) : nd p = 1 + ndL p.Kids.l := by obtain ⟨k, n, t, ⟨z, l⟩⟩ := p; rw [nd]
theorem hh_ (p : DPattern) : 1 ≤ nd p := by rw [eQ_]; omega
theorem ndL_len : ∀ l : List DPattern, l.length ≤ ndL l
 | [] => by simp
 | p :: l => by have := ndL_len l; have := hh_ p; simp only [List.length_cons, ndL]; omega
theorem ndL_mem : ∀ {l : List DPattern} {p : DPattern}, p ∈ l → nd p ≤ ndL l
 | q :: l, p, h => by
  rcases List.mem_cons.1 h with e | e
  ·rw [e, ndL]; omega
  ·have := ndL_mem e; rw [ndL]; omega
inductive SmPt : DPattern → Prop
 | mk {p : DPattern} (h1 : p.Text.size ≤ 1048576) (h2 : p.Kids.l.length ≤ 1048576) (h3 : ∀ q ∈ p.Kids.l, SmPt q) : SmPt p
theorem SmPt.kid {p q : DPattern} (h : SmPt p) (hq : q ∈ p.Kids.l) : SmPt q := by cases h with | mk h1 h2 h3 => exact h3 q hq
mutual
def cpPt : DPattern → DPattern
 | ⟨k, n, t, ⟨_, l⟩⟩ => ⟨k, n, t, ⟨false, cpPtL l⟩⟩
def cpPtL : List DPattern → List DPattern
 | [] => []
 | p :: l => cpPt p :: cpPtL l
end
theorem cpPtL_eq : ∀ l, cpPtL l = l.map cpPt
 | [] => rfl
 | p :: l => by rw [cpPtL, cpPtL_eq l]; rfl
theorem dj_ (p : DPattern) : cpPt p = ⟨p.Kind, p.Num, p.Text, ⟨false, p.Kids.l.map cpPt⟩⟩ := by
 obtain ⟨k, n, t, ⟨z, l⟩⟩ := p; rw [cpPt, cpPtL_eq]
theorem nd_cp : ∀ p, nd (cpPt p) = nd p := by
 refine cg_ fun p ih => ?_
 rw [eQ_, eQ_ p, dj_]
 show 1 + ndL (p.Kids.l.map cpPt) = _
 congr 1
 generalize p.Kids.l = l at ih
 induction l with
 | nil => rfl
 | cons q l ih2 => simp only [List.map_cons, ndL]; rw [ih q (by simp), ih2 fun q hq => ih q (by simp [hq])]
theorem Sm_cpPt : ∀ p, SmPt p → SmPt (cpPt p) := by
 refine cg_ fun p ih hs => ?_
 cases hs with | mk s1 s2 s3 =>
 rw [dj_]
 exact .mk s1 (by simpa using s2) fun q hq => by
  simp only [List.mem_map] at hq
  obtain ⟨r, hr, rfl⟩ := hq
  exact ih r hr (s3 r hr)
inductive EqPt : DPattern → DPattern → Prop
 | mk {p q : DPattern} (h1 : p.Kind = q.Kind) (h2 : p.Num = q.Num) (h3 : p.Text = q.Text) (h4 : p.Kids.l.length = q.Kids.l.length) (h5 : ∀ (i : Nat) x y, p.Kids.l[i]? = some x → q.Kids.l[i]? = some y → EqPt x y) : EqPt p q
end Go.Am
end
