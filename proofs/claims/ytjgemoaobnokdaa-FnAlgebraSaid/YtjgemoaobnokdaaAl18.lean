/- The law. -/
import Derived.Test.YtjgemoaobnokdaaAg0
import Derived.Test.YtjgemoaobnokdaaAl14
import Derived.Test.YtjgemoaobnokdaaAl17
section
set_option maxRecDepth 100000
set_option maxHeartbeats 1000000
set_option linter.unusedVariables false
set_option linter.unusedSimpArgs false
namespace Go.Am
section
variable {env : Sl DNamed} {s : ByteArray} {p : DPattern}
end
theorem pn_ (k : Int) (p q : DPattern) : b0_ k ⟨#[]⟩ ⟨false, [p, q]⟩ = some ⟨k, 0, ⟨#[]⟩, ⟨false, [p, q]⟩⟩ := gK_ _ _ _ _ rfl
theorem ui_ (p q : DPattern) : bW_ p q = some ⟨18, 0, ⟨#[]⟩, ⟨false, [p, q]⟩⟩ := by
 refine kg_ _ _ _ ?_
 unfold fG_
 rw [pn_]; rfl
theorem tL_ (p q : DPattern) : bU_ p q = some ⟨19, 0, ⟨#[]⟩, ⟨false, [p, q]⟩⟩ := by
 refine kf_ _ _ _ ?_
 unfold fY_
 rw [pn_]; rfl
end Go.Am
end
