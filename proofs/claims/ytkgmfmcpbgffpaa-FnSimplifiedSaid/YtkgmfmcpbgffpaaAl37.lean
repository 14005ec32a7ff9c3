/- The law. -/
import Derived.Test.YtkgmfmcpbgffpaaAd0
import Derived.Test.YtkgmfmcpbgffpaaAl35
import Derived.Test.YtkgmfmcpbgffpaaAl36
section
set_option maxRecDepth 100000
set_option maxHeartbeats 1000000
set_option linter.unusedVariables false
set_option linter.unusedSimpArgs false
namespace Go.Am
section
variable {env : Sl DNamed} {s : ByteArray} {p : DPattern}
end
end Go.Am
end
