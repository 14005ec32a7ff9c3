/- The law. -/
import Derived.Test.YtkgmfmcpbgffpaaAg1
import Derived.Test.YtkgmfmcpbgffpaaAg2
import Derived.Test.YtkgmfmcpbgffpaaAl7
section
set_option maxRecDepth 100000
set_option maxHeartbeats 2000000
set_option linter.unusedVariables false
set_option linter.unusedSimpArgs false
namespace Go.Am
inductive CalmP : DPattern → Prop
 | mk {p : DPattern} (h1 : p.Kind ≠ 14 ∧ p.Kind ≠ 15 ∧ p.Kind ≠ 17) (h2 : ∀ q ∈ p.Kids.l, CalmP q) : CalmP p
section
variable {env : Sl DNamed} {R1 R2 : MTy} {p : DPattern} {c : Int} {Φ : PhiT}
theorem nU_ {α : Type} {a : Sl α} {j : Int} : Gv (elt a j) (fun x => x ∈ a.l) := fun r hr => by
 unfold elt at hr
 split at hr
 ·exact List.mem_of_getElem? hr
 ·cases hr
end
end Go.Am
end
