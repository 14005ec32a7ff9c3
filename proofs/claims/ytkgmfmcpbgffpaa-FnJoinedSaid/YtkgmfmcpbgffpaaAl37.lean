/- The law. -/
import Derived.Test.YtkgmfmcpbgffpaaAg0
import Derived.Test.YtkgmfmcpbgffpaaAg2
import Derived.Test.YtkgmfmcpbgffpaaAl35
import Derived.Test.YtkgmfmcpbgffpaaAl36
section
set_option maxRecDepth 100000
set_option maxHeartbeats 1000000
set_option linter.unusedVariables false
set_option linter.unusedSimpArgs false
namespace Go.Am
section
variable {env : Sl DNamed} {s : ByteArray} {p : DPattern}
end
theorem ub_ (k : Int) (p q : DPattern) : ft_ k ⟨#[]⟩ ⟨false, [p, q]⟩ = some ⟨k, 0, ⟨#[]⟩, ⟨false, [p, q]⟩⟩ := kd_ _ _ _ _ rfl
theorem vS_ (p q : DPattern) : gd_ p q = some ⟨19, 0, ⟨#[]⟩, ⟨false, [p, q]⟩⟩ := by
 refine kN_ _ _ _ ?_
 unfold ga_
 rw [ub_]; rfl
end Go.Am
end
