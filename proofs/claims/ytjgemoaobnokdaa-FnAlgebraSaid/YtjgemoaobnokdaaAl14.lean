/- The law. -/
import Derived.Test.YtjgemoaobnokdaaAg1
import Derived.Test.YtjgemoaobnokdaaAg2
import Derived.Test.YtjgemoaobnokdaaAl9
import Derived.Test.YtjgemoaobnokdaaAl13
section
set_option maxRecDepth 100000
set_option maxHeartbeats 2000000
set_option linter.unusedVariables false
set_option linter.unusedSimpArgs false
namespace Go.Am
end Go.Am
end
