/- The law. -/
import Derived.Test.YtilalopohkdmdaaGreatAg1
import Derived.Test.YtilalopohkdmdaaGreatAg2
import Derived.Test.YtilalopohkdmdaaGreatAl29
section
set_option maxRecDepth 100000
set_option maxHeartbeats 4000000
set_option linter.unusedVariables false
set_option linter.unusedSimpArgs false
namespace Go.Am
inductive RelX (X : List Int) (f f' : Int) : aa_ → aa_ → Prop
 | mk {env : Sl DNamed} {s : ByteArray} {st st' t t' : Int} {nw cd nw' cd' : Sl DCapture} {mt mt' : Sl DMatch} {me : Bool} (h1 : 0 ≤ t ∧ t ≤ f ∧ f ≤ 20000) (h2 : 0 ≤ t' ∧ t' ≤ f' ∧ f' ≤ 20000) (h3 : f - t ≤ f' - t') (h4 : nw'.l.length ≤ nw.l.length ∧ cd'.l.length ≤ cd.l.length ∧ nw.l.length + cd.l.length ≤ 100) (h5 : mt.l.map (fun x => x.End) = X ++ mt'.l.map (fun x => x.End) ∧ mt.l.length ≤ 60) :
  RelX X f f' ⟨env, s, f, t, st, nw, cd, mt, 0, me, T.nilm, 0⟩ ⟨env, s, f', t', st', nw', cd', mt', 0, me, T.nilm, 0⟩
theorem RelX.ns {X : List Int} {f f' : Int} {S S' : aa_} (h : RelX X f f' S S') : RelX X f f' (NS S) (NS S') := by cases h with | mk h1 h2 h3 h4 h5 => exact .mk h1 h2 h3 h4 h5
def PX (X : List Int) (f f' : Int) (r r' : Bool × aa_) : Prop := Bad r ∨ (r.1 = r'.1 ∧ RelX X f f' (NS r.2) (NS r'.2))
section
variable {X : List Int} {f f' : Int} {R R2 R' R2' : MTy} {p : DPattern} {c : Int} {Φ Φ' : PhiT}
theorem PX.no {b b' : Bool} {S S' : aa_} (h : PX X f f' (b, S) (b', S')) : PX X f f' (false, S) (false, S') := by
 rcases h with h | ⟨_, h⟩
 ·exact .inl ⟨rfl, h.2⟩
 ·exact .inr ⟨rfl, h⟩
theorem PX.ns {r r' : Bool × aa_} (h : PX X f f' r r') : PX X f f' (r.1, NS r.2) (r'.1, NS r'.2) := by
 rcases h with h | ⟨h1, h2⟩
 ·exact .inl h
 ·exact .inr ⟨h1, h2.ns⟩
end
end Go.Am
end
