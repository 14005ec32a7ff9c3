/- The law. -/
import Derived.Test.YtilalopohkdmdaaGreatAg1
import Derived.Test.YtilalopohkdmdaaGreatAg2
import Derived.Test.YtilalopohkdmdaaGreatAl8
import Derived.Test.YtilalopohkdmdaaGreatAl9
section
set_option maxRecDepth 100000
set_option maxHeartbeats 4000000
set_option linter.unusedVariables false
set_option linter.unusedSimpArgs false
namespace Go.Am
inductive Rz (s : ByteArray) : aa_ → aa_ → Prop
 | mk {env : Sl DNamed} {st mo f t f' t' : Int} {nw cd : Sl DCapture} {mt : Sl DMatch} {me : Bool} (hE : ∀ x ∈ env.l, VP x.Pattern) (h4 : nw.l.length + cd.l.length ≤ 100) (h5 : ∀ m ∈ mt.l, m.Captures.l.length ≤ 100) :
  Rz s ⟨env, s, f, t, st, nw, cd, mt, mo, me, T.nilm, 0⟩ ⟨env, s, f', t', st, nw, cd, mt, mo, me, T.nilm, 0⟩
def PZ (s : ByteArray) (r r' : Bool × aa_) : Prop := Bad r ∨ Bad r' ∨ (r.1 = r'.1 ∧ r.2.code_ = 0 ∧ r'.2.code_ = 0 ∧ r.2.matches_ = r'.2.matches_ ∧ (∀ m ∈ r.2.matches_.l, m.Captures.l.length ≤ 100) ∧ (r.1 = true → Rz s (NS r.2) (NS r'.2)))
theorem PZ.no {s : ByteArray} {b b' : Bool} {S S' : aa_} (h : PZ s (b, S) (b', S')) : PZ s (false, S) (false, S') := by
 rcases h with h | h | ⟨h1, h2, h3, h4, h5, _⟩
 ·exact .inl ⟨rfl, h.2⟩
 ·exact .inr (.inl ⟨rfl, h.2⟩)
 ·exact .inr (.inr ⟨rfl, h2, h3, h4, h5, fun h => (by cases h)⟩)
section
variable {s : ByteArray} {R R2 R' R2' : MTy} {p : DPattern} {c : Int} {Φ Φ' : PhiT}
end
end Go.Am
end
