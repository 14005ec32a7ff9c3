/- The law. -/
import Derived.Test.YtnihabnkoegdjaaAg1
import Derived.Test.YtnihabnkoegdjaaAg2
import Derived.Test.YtnihabnkoegdjaaAl7
section
set_option maxRecDepth 100000
set_option maxHeartbeats 2000000
set_option linter.unusedVariables false
set_option linter.unusedSimpArgs false
namespace Go.Am
inductive CalmP : DPattern → Prop
 | mk {p : DPattern} (h1 : p.Kind ≠ 14 ∧ p.Kind ≠ 15 ∧ p.Kind ≠ 17) (h2 : ∀ q ∈ p.Kids.l, CalmP q) : CalmP p
def uF_ (env : Sl DNamed) : Prop := ∀ x ∈ env.l, CalmP x.Pattern
section
variable {env : Sl DNamed} {R1 R2 : MTy} {p : DPattern} {c : Int} {Φ : PhiT}
end
end Go.Am
end
