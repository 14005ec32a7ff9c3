/- The law. -/
import Derived.Test.YthpmndnnpnojjaaAl2
import Derived.Test.YthpmndnnpnojjaaAg5
section
set_option maxRecDepth 100000
set_option maxHeartbeats 1000000
set_option linter.unusedVariables false
set_option linter.unusedSimpArgs false
namespace Go.Am
theorem j9_ (n m : Int) (b : Bool) (h1 : 0 ≤ n ∧ n ≤ 200) (h2 : 0 ≤ m ∧ m ≤ 200) : cO_ n m b = some (if b = true then m - n else n) := by
 refine hc_ n m b _ ?_
 unfold dV_
 cases b
 ·rfl
 ·simp only [if_true]; rw [f6_ (by omega) (by omega)]
end Go.Am
end
