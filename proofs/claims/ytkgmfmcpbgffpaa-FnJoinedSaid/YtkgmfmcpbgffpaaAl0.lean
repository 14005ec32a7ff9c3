/- The law. -/
import Derived.Test.YtkgmfmcpbgffpaaAd0
import Derived.Test.YtkgmfmcpbgffpaaAm6
section
set_option maxRecDepth 100000
set_option maxHeartbeats 1000000
set_option linter.unusedVariables false
set_option linter.unusedSimpArgs false
namespace Go.Am
mutual
theorem eL_ {P : DPattern → Prop} (h : ∀ p, (∀ q ∈ p.Kids.l, P q) → P p) : ∀ p, P p
 | ⟨k, n, t, ⟨z, l⟩⟩ => h ⟨k, n, t, ⟨z, l⟩⟩ (o9_ h l)
theorem o9_ {P : DPattern → Prop} (h : ∀ p, (∀ q ∈ p.Kids.l, P q) → P p) : ∀ l : List DPattern, ∀ q ∈ l, P q
 | [], q, hq => by cases hq
 | p :: l, q, hq => by
  rcases List.mem_cons.1 hq with e | e
  ·rw [e]; exact eL_ h p
  ·exact o9_ h l q e
end
mutual
/-- The nodes of a pattern. -/
def nd : DPattern → Nat
 | ⟨_, _, _, ⟨_, l⟩⟩ => 1 + ndL l
def ndL : List DPattern → Nat
 | [] => 0
 | p :: l => nd p + ndL l
end
theorem go_ (p : DPattern) : nd p = 1 + ndL p.Kids.l := by obtain ⟨k, n, t, ⟨z, l⟩⟩ := p; rw [nd]
theorem g0_ (p : DPattern) : 1 ≤ nd p := by rw [go_]; omega
theorem ndL_len : ∀ l : List DPattern, l.length ≤ ndL l
 | [] => by simp
 | p :: l => by have := ndL_len l; have := g0_ p; simp only [List.length_cons, ndL]; omega
inductive SmPt : DPattern → Prop
 | mk {p : DPattern} (h1 : p.Text.size ≤ 1048576) (h2 : p.Kids.l.length ≤ 1048576) (h3 : ∀ q ∈ p.Kids.l, SmPt q) : SmPt p
theorem SmPt.kid {p q : DPattern} (h : SmPt p) (hq : q ∈ p.Kids.l) : SmPt q := by cases h with | mk h1 h2 h3 => exact h3 q hq
mutual
def cpPt : DPattern → DPattern
 | ⟨k, n, t, ⟨_, l⟩⟩ => ⟨k, n, t, ⟨false, cpPtL l⟩⟩
def cpPtL : List DPattern → List DPattern
 | [] => []
 | p :: l => cpPt p :: cpPtL l
end
theorem cpPtL_eq : ∀ l, cpPtL l = l.map cpPt
 | [] => rfl
 | p :: l => by rw [cpPtL, cpPtL_eq l]; rfl
theorem jY_ (p : DPattern) : cpPt p = ⟨p.Kind, p.Num, p.Text, ⟨false, p.Kids.l.map cpPt⟩⟩ := by
 obtain ⟨k, n, t, ⟨z, l⟩⟩ := p; rw [cpPt, cpPtL_eq]
inductive EqPt : DPattern → DPattern → Prop
 | mk {p q : DPattern} (h1 : p.Kind = q.Kind) (h2 : p.Num = q.Num) (h3 : p.Text = q.Text) (h4 : p.Kids.l.length = q.Kids.l.length) (h5 : ∀ (i : Nat) x y, p.Kids.l[i]? = some x → q.Kids.l[i]? = some y → EqPt x y) : EqPt p q
theorem EqPt.rfl' : ∀ p, EqPt p p := eL_ fun p ih => .mk rfl rfl rfl rfl fun i x y hx hy => by
 rw [hx] at hy; injection hy with hy; subst hy; exact ih x (List.mem_of_getElem? hx)
end Go.Am
end
