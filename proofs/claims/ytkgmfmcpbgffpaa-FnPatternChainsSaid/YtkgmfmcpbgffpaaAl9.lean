/- The law. -/
import Derived.Test.YtkgmfmcpbgffpaaAd0
import Derived.Test.YtkgmfmcpbgffpaaAl6
section
set_option maxRecDepth 100000
set_option maxHeartbeats 2000000
set_option linter.unusedVariables false
set_option linter.unusedSimpArgs false
namespace Go.Am
def Go0 (S : aH_) : Prop := S.code_ = 0 ∧ S.now_.l.length + S.conds_.l.length ≤ 100
def Up (S : aH_) (r : Bool × aH_) : Prop := (r.2.start_ = S.start_ ∧ r.2.env_ = S.env_) ∧ (r.1 = true → Go0 r.2) ∧ (r.2.code_ = 0 → ∃ x, r.2.matches_.l = S.matches_.l ++ x ∧ ∀ m ∈ x, m.Start = S.start_ ∧ m.Captures.l.length ≤ 100)
theorem Up.same {S : aH_} {b : Bool} (h : Go0 S) : Up S (b, S) := ⟨⟨rfl, rfl⟩, fun _ => h, fun _ => ⟨[], by simp, fun m hm => by simp at hm⟩⟩
theorem Up.off {S S' : aH_} (h1 : S'.start_ = S.start_ ∧ S'.env_ = S.env_) (h2 : S'.code_ ≠ 0) : Up S (false, S') := ⟨h1, fun h => (by cases h), fun h => absurd h h2⟩
end Go.Am
end
