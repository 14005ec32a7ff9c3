/- The law. -/
import Derived.Test.YtohkcdkmpencnaaDoorAd0
import Derived.Test.YtohkcdkmpencnaaDoorAm5
section
set_option maxRecDepth 100000
set_option maxHeartbeats 1000000
set_option linter.unusedVariables false
set_option linter.unusedSimpArgs false
namespace Go.Am
def SmSS (s : Sl ByteArray) : Prop := FitS 1048576 (fun x => x.size ≤ 1048576) s
def SmFile (f : DFile) : Prop := f.Name.size ≤ 1048576 ∧ SmSS f.Lines
def SmCon (c : DConsole) : Prop := SmSS c.Input ∧ SmSS c.Output ∧ FitS 1048576 SmFile c.Files ∧ SmSS c.Trace
end Go.Am
end
