/- The law. -/
import Derived.Test.YtkgmfmcpbgffpaaAg1
import Derived.Test.YtkgmfmcpbgffpaaAl10
section
set_option maxRecDepth 100000
set_option maxHeartbeats 4000000
set_option linter.unusedVariables false
set_option linter.unusedSimpArgs false
namespace Go.Am
section
variable {env : Sl DNamed} {s : ByteArray} {F M0 : Nat} {start : Int} {nw cd : Sl DCapture} {mt : Sl DMatch} {cs : Sl b7_} {ou : Sl DMatch} {nw2 cd2 : Sl DCapture} {Φ : PhiT} {c k n m : Nat}
end
end Go.Am
end
