/- The law. -/
import Derived.Test.YtkgmfmcpbgffpaaAd0
import Derived.Test.YtkgmfmcpbgffpaaAl9
section
set_option maxRecDepth 100000
set_option maxHeartbeats 4000000
set_option linter.unusedVariables false
set_option linter.unusedSimpArgs false
namespace Go.Am
section
variable {α β γ δ : Type}
end
inductive RelD (k : Int) : aH_ → aH_ → Prop
 | mk {env : Sl DNamed} {s : ByteArray} {st mo co f t f' t' : Int} {nw cd : Sl DCapture} {mt : Sl DMatch} {me : Bool} (h1 : 0 ≤ t ∧ t ≤ f ∧ f ≤ 20000) (h2 : 0 ≤ t' ∧ t' ≤ f' ∧ f' ≤ 20000) (h3 : 0 ≤ k ∧ f - t + k ≤ f' - t') (h4 : nw.l.length + cd.l.length ≤ 100) (h5 : ∀ m ∈ mt.l, m.Captures.l.length ≤ 100) :
  RelD k ⟨env, s, f, t, st, nw, cd, mt, mo, me, T.nilm, co⟩ ⟨env, s, f', t', st, nw, cd, mt, mo, me, T.nilm, co⟩
abbrev MTy := aH_ → DPattern → Int → PhiT → Option (Bool × aH_)
section
variable {k : Int} {R R2 R' R2' : MTy} {p : DPattern} {c : Int} {Φ Φ' : PhiT}
theorem RelD.ns {S S' : aH_} (hA : RelD k S S') : RelD k (NS S) (NS S') := by cases hA with | mk h1 h2 h3 h4 h5 => exact .mk h1 h2 h3 h4 h5
end
end Go.Am
end
