/- The law. -/
import Derived.Test.YtilalopohkdmdaaGreatAg0
import Derived.Test.YtilalopohkdmdaaGreatAl21
section
set_option maxRecDepth 100000
set_option maxHeartbeats 1000000
set_option linter.unusedVariables false
set_option linter.unusedSimpArgs false
namespace Go.Am
section
variable {s t : ByteArray} {m : DMatch}
abbrev mA (m : DMatch) : Nat := m.Start.toNat
abbrev mB (m : DMatch) : Nat := m.End.toNat
def FitM (s : ByteArray) (m : DMatch) : Prop := 0 ≤ m.Start ∧ m.Start ≤ m.End ∧ m.End ≤ s.size
theorem p5_ (h : FitM s m) : bw_ s m = some (s.extract (mA m) (mB m)) := by
 obtain ⟨h1, h2, h3⟩ := h
 refine ho_ _ _ _ ?_
 unfold dC_
 rw [if_neg (by simp; omega), if_neg (by simp; omega), if_neg (by simp; omega)]
 unfold subB
 rw [if_pos (by omega)]; rfl
end
end Go.Am
end
