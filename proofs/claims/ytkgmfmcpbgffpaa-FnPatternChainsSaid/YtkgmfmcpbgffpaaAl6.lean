/- The law. -/
import Derived.Test.YtkgmfmcpbgffpaaAd0
import Derived.Test.YtkgmfmcpbgffpaaAl5
section
set_option maxRecDepth 100000
set_option maxHeartbeats 2000000
set_option linter.unusedVariables false
set_option linter.unusedSimpArgs false
namespace Go.Am
abbrev PhiT := Int → aH_ → Option (Bool × aH_)
abbrev NS (S : aH_) : aH_ := ⟨S.env_, S.subject_, S.fuel_, S.steps_, S.start_, S.now_, S.conds_, S.matches_, S.most_, S.isMere_, T.nilm, S.code_⟩
end Go.Am
end
