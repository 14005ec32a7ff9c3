/- The law. -/
import Derived.Test.YtilalopohkdmdaaGreatAg1
import Derived.Test.YtilalopohkdmdaaGreatAg2
import Derived.Test.YtilalopohkdmdaaGreatAl9
import Derived.Test.YtilalopohkdmdaaGreatAl13
section
set_option maxRecDepth 100000
set_option maxHeartbeats 2000000
set_option linter.unusedVariables false
set_option linter.unusedSimpArgs false
namespace Go.Am
abbrev Fr0 (env : Sl DNamed) (s : ByteArray) (f a : Int) : aa_ := ⟨env, s, f, 0, a, ⟨true, []⟩, ⟨true, []⟩, ⟨true, []⟩, 0, false, T.nilm, 0⟩
noncomputable abbrev Run0 (env : Sl DNamed) (s : ByteArray) (f a : Int) (p : DPattern) : Option (Bool × aa_) := aZ_ (Fr0 env s f a) p a (fun e S => al_ S e)
end Go.Am
end
