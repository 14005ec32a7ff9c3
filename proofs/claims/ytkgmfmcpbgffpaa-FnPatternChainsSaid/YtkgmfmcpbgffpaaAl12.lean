/- The law. -/
import Derived.Test.YtkgmfmcpbgffpaaAd0
import Derived.Test.YtkgmfmcpbgffpaaAl11
section
set_option maxRecDepth 100000
set_option maxHeartbeats 2000000
set_option linter.unusedVariables false
set_option linter.unusedSimpArgs false
namespace Go.Am
inductive CalmP : DPattern → Prop
 | mk {p : DPattern} (h1 : p.Kind ≠ 14 ∧ p.Kind ≠ 15 ∧ p.Kind ≠ 17) (h2 : ∀ q ∈ p.Kids.l, CalmP q) : CalmP p
theorem CalmP.kid {p q : DPattern} (h : CalmP p) (hq : q ∈ p.Kids.l) : CalmP q := by cases h with | mk h1 h2 => exact h2 q hq
section
variable {env : Sl DNamed} {R1 R2 : MTy} {p : DPattern} {c : Int} {Φ : PhiT}
end
end Go.Am
end
