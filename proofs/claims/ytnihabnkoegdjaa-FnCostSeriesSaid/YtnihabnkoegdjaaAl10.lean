/- The law. -/
import Derived.Test.YtnihabnkoegdjaaAg4
import Derived.Test.YtnihabnkoegdjaaAl3
section
set_option maxRecDepth 100000
set_option maxHeartbeats 2000000
set_option linter.unusedVariables false
set_option linter.unusedSimpArgs false
namespace Go.Am
abbrev PhiT := Int → aa_ → Option (Bool × aa_)
abbrev j1_ (S : aa_) : (Sl DNamed) × ByteArray × Int × Int × Int × Int × Bool × Int × (Sl DCapture) × (Sl DCapture) × (Sl DMatch) := (S.env_, S.subject_, S.fuel_, S.steps_, S.start_, S.most_, S.isMere_, S.code_, S.now_, S.conds_, S.matches_)
abbrev NS (S : aa_) : aa_ := ⟨S.env_, S.subject_, S.fuel_, S.steps_, S.start_, S.now_, S.conds_, S.matches_, S.most_, S.isMere_, T.nilm, S.code_⟩
end Go.Am
end
