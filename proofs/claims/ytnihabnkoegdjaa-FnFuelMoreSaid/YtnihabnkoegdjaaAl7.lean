/- The law. -/
import Derived.Test.YtnihabnkoegdjaaAg1
import Derived.Test.YtnihabnkoegdjaaAl6
section
set_option maxRecDepth 100000
set_option maxHeartbeats 4000000
set_option linter.unusedVariables false
set_option linter.unusedSimpArgs false
namespace Go.Am
def Bad (r : Bool × aa_) : Prop := r.1 = false ∧ r.2.code_ ≠ 0
theorem gJ_ {α β : Type} {c : Prop} [Decidable c] {a a' : Option β} {o : Option α} {P : α → β → Prop} (h : c) (k : Gt o a P) : Gt o (if c then a else a') P := by rw [if_pos h]; exact k
section
variable {I : aa_ → aa_ → Prop} {R R2 R' R2' : MTy} {p : DPattern} {c : Int} {Φ Φ' : PhiT}
end
end Go.Am
end
