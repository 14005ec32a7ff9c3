/- The law. -/
import Derived.Test.YtnihabnkoegdjaaAg1
import Derived.Test.YtnihabnkoegdjaaAg2
import Derived.Test.YtnihabnkoegdjaaAl11
section
set_option maxRecDepth 100000
set_option maxHeartbeats 4000000
set_option linter.unusedVariables false
set_option linter.unusedSimpArgs false
namespace Go.Am
section
variable {α β γ δ : Type}
end
inductive RelD (k : Int) : aa_ → aa_ → Prop
 | mk {env : Sl DNamed} {s : ByteArray} {st mo co f t f' t' : Int} {nw cd : Sl DCapture} {mt : Sl DMatch} {me : Bool} (h1 : 0 ≤ t ∧ t ≤ f ∧ f ≤ 20000) (h2 : 0 ≤ t' ∧ t' ≤ f' ∧ f' ≤ 20000) (h3 : 0 ≤ k ∧ f - t + k ≤ f' - t') (h4 : nw.l.length + cd.l.length ≤ 100) (h5 : ∀ m ∈ mt.l, m.Captures.l.length ≤ 100) :
  RelD k ⟨env, s, f, t, st, nw, cd, mt, mo, me, T.nilm, co⟩ ⟨env, s, f', t', st, nw, cd, mt, mo, me, T.nilm, co⟩
def Dead (r : Bool × aa_) : Prop := r.1 = false ∧ r.2.code_ = 7
def PB (k : Int) (r r' : Bool × aa_) : Prop := Dead r ∨ (r.1 = r'.1 ∧ r.2.code_ = r'.2.code_ ∧ r.2.matches_ = r'.2.matches_ ∧ (∀ m ∈ r.2.matches_.l, m.Captures.l.length ≤ 100) ∧ (r.1 = true → RelD k (NS r.2) (NS r'.2)))
theorem PB.no {k : Int} {b b' : Bool} {S S' : aa_} (h : PB k (b, S) (b', S')) : PB k (false, S) (false, S') := by
 rcases h with ⟨h, h'⟩ | ⟨h1, h2, h3, h4, h5⟩
 ·exact .inl ⟨rfl, h'⟩
 ·exact .inr ⟨rfl, h2, h3, h4, fun h => (by cases h)⟩
abbrev MTy := aa_ → DPattern → Int → PhiT → Option (Bool × aa_)
theorem PB.err {k : Int} {S S' : aa_} (h1 : S.code_ = S'.code_) (h2 : S.matches_ = S'.matches_) (h3 : ∀ m ∈ S.matches_.l, m.Captures.l.length ≤ 100) : PB k (false, S) (false, S') := .inr ⟨rfl, h1, h2, h3, fun h => (by cases h)⟩
section
variable {k : Int} {R R2 R' R2' : MTy} {p : DPattern} {c : Int} {Φ Φ' : PhiT}
theorem RelD.ns {S S' : aa_} (hA : RelD k S S') : RelD k (NS S) (NS S') := by cases hA with | mk h1 h2 h3 h4 h5 => exact .mk h1 h2 h3 h4 h5
end
end Go.Am
end
