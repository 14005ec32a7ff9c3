/- The law. -/
import Derived.Test.YtkgmfmcpbgffpaaAd0
import Derived.Test.YtkgmfmcpbgffpaaAl0
section
set_option maxRecDepth 100000
set_option maxHeartbeats 1000000
set_option linter.unusedVariables false
set_option linter.unusedSimpArgs false
namespace Go.Am
def SmNm (x : DNamed) : Prop := x.Name.size ≤ 1048576 ∧ SmPt x.Pattern
def ti_ (s : Sl DNamed) : Prop := s.l.length ≤ 1048576 ∧ ∀ x ∈ s.l, SmNm x
end Go.Am
end
