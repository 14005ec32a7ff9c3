/- The law. -/
import Derived.Test.YtilalopohkdmdaaGreatAg0
import Derived.Test.YtilalopohkdmdaaGreatAl15
import Derived.Test.YtilalopohkdmdaaGreatAl2
section
set_option maxRecDepth 100000
set_option maxHeartbeats 1000000
set_option linter.unusedVariables false
set_option linter.unusedSimpArgs false
namespace Go.Am
theorem fY_.up {s : av_} {k k' : Nat} (h : fY_ s k) (h1 : k ≤ k') (h2 : k' ≤ 1000000000) : fY_ s k' := ⟨h.1, h.2.1, by have := h.2.2.1; omega, h2⟩
instance (x : Int) : Decidable (LetP x) := by unfold LetP; infer_instance
instance (x : Int) : Decidable (NbP x) := by unfold NbP DigP; infer_instance
theorem sm_vp : ∀ p, VP p → SmPt p := by
 refine k2_ fun p ih hv => ?_
 have n := hv.node
 have ht : p.Text.size ≤ 1048576 := by
  have := n.2.2
  unfold ArgP at this
  have z : (⟨#[]⟩ : ByteArray).size = 0 := rfl
  by_cases h1 : p.Kind ≤ 5
  ·rw [if_pos h1] at this; omega
  ·rw [if_neg h1] at this
   by_cases h2 : p.Kind ≤ 10
   ·rw [if_pos h2] at this; rw [this.1, z]; omega
   ·rw [if_neg h2] at this
    by_cases h3 : 21 ≤ p.Kind
    ·rw [if_pos h3] at this; have := this.2.2.1; omega
    ·rw [if_neg h3] at this; rw [this.2, z]; omega
 have hk : p.Kids.l.length ≤ 2 := by
  have := n.2.1
  unfold kidN at this
  split at this
  ·omega
  ·split at this <;> omega
 exact .mk ht (by omega) fun q hq => ih q hq (hv.kid hq)
theorem mS_ {o : Sl DNamed} (h : EnvP o) : on_ o := ⟨by have := h.1; omega, fun x hx => ⟨by have := (h.2.1 x hx).1.2.1; omega, sm_vp _ (h.2.1 x hx).2.1⟩⟩
end Go.Am
end
