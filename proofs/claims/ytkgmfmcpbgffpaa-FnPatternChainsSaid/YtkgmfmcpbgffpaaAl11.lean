/- The law. -/
import Derived.Test.YtkgmfmcpbgffpaaAd0
import Derived.Test.YtkgmfmcpbgffpaaAl10
section
set_option maxRecDepth 100000
set_option maxHeartbeats 4000000
set_option linter.unusedVariables false
set_option linter.unusedSimpArgs false
namespace Go.Am
structure Clo (I : aH_ → aH_ → Prop) : Prop where
 same : ∀ {S S'}, I S S' → S'.env_ = S.env_ ∧ S'.subject_ = S.subject_
 upd : ∀ {S S'} (f t nw cd co f' t' nw' cd' co'), I S S' → I ⟨S.env_, S.subject_, f, t, S.start_, nw, cd, S.matches_, S.most_, S.isMere_, T.nilm, co⟩ ⟨S'.env_, S'.subject_, f', t', S'.start_, nw', cd', S'.matches_, S'.most_, S'.isMere_, T.nilm, co'⟩
def Bad (r : Bool × aH_) : Prop := r.1 = false ∧ r.2.code_ ≠ 0
def PJ (I : aH_ → aH_ → Prop) (r r' : Bool × aH_) : Prop := Bad r ∨ Bad r' ∨ (r.1 = r'.1 ∧ I r.2 r'.2 ∧ (r.1 = true → r.2.code_ = 0 ∧ r'.2.code_ = 0))
section
variable {I : aH_ → aH_ → Prop} {R R2 R' R2' : MTy} {p : DPattern} {c : Int} {Φ Φ' : PhiT}
theorem Clo.ns (C : Clo I) {S S' : aH_} (h : I S S') : I (NS S) (NS S') := C.upd _ _ _ _ _ _ _ _ _ _ h
theorem PJ.ns (C : Clo I) {r r' : Bool × aH_} (h : PJ I r r') : PJ I (r.1, NS r.2) (r'.1, NS r'.2) := by
 rcases h with h | h | ⟨h1, h2, h3⟩
 ·exact .inl h
 ·exact .inr (.inl h)
 ·exact .inr (.inr ⟨h1, C.ns h2, h3⟩)
end
end Go.Am
end
