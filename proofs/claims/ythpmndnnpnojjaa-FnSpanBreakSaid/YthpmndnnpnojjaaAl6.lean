/- The law. -/
import Derived.Test.YthpmndnnpnojjaaAd0
import Derived.Test.YthpmndnnpnojjaaAl5
section
set_option maxRecDepth 100000
set_option maxHeartbeats 4000000
set_option linter.unusedVariables false
set_option linter.unusedSimpArgs false
namespace Go.Am
section
variable {env : Sl an_} {s : ByteArray} {F M0 : Nat} {start : Int} {nw cd : Sl ad_} {mt : Sl as_} {cs : Sl ax_} {ou : Sl as_} {nw2 cd2 : Sl ad_} {Φ : PhiT} {c k n m : Nat}
end
end Go.Am
end
