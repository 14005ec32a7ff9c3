/- The law. -/
import Derived.Test.YtkgmfmcpbgffpaaAg1
import Derived.Test.YtkgmfmcpbgffpaaAg2
import Derived.Test.YtkgmfmcpbgffpaaAl7
import Derived.Test.YtkgmfmcpbgffpaaAl8
import Derived.Test.YtkgmfmcpbgffpaaAl10
section
set_option maxRecDepth 100000
set_option maxHeartbeats 4000000
set_option linter.unusedVariables false
set_option linter.unusedSimpArgs false
namespace Go.Am
theorem qI_ {α : Type} {a : Sl α} {j : Int} : Gt (elt a j) (elt a j) (fun x y => x = y ∧ x ∈ a.l) := fun r r' h h' => ⟨by rw [h] at h'; injection h', nU_ r h⟩
section
variable {s : ByteArray} {R R2 R' R2' : MTy} {p : DPattern} {c : Int} {Φ Φ' : PhiT}
end
end Go.Am
end
