/- The law. -/
import Derived.Test.YtkgmfmcpbgffpaaAg0
import Derived.Test.YtkgmfmcpbgffpaaAl19
section
set_option maxRecDepth 100000
set_option maxHeartbeats 1000000
set_option linter.unusedVariables false
set_option linter.unusedSimpArgs false
namespace Go.Am
theorem uw_ {s : ae_} {k : Nat} {d : Int} (h : cP_ s k) (hd : 0 ≤ d ∧ d ≤ 3) (hk : k + 200 ≤ 1000000000) : ∃ p s', ct_ s d = some (p, s') ∧ VP p ∧ nd p ≤ 15 ∧ (d ≤ 2 → nd p ≤ 7) ∧ cP_ s' (k + 200) := by
 obtain ⟨n, rfl⟩ : ∃ n : Nat, d = n := ⟨d.toNat, by omega⟩
 have : ∀ n : Nat, n ≤ 3 → RD n ≤ 200 ∧ ND n ≤ 15 ∧ (n ≤ 2 → ND n ≤ 7) := by decide
 have := this n (by omega)
 have hb : bigN = 100000000000 := rfl
 obtain ⟨p, s', r1, r2, r3, r4⟩ := draw_ok n bigN (by rw [hb]; omega) (by omega) s k h (by omega)
 exact ⟨p, s', r1, r2, by omega, fun h2 => by have := this.2.2 (by omega); omega, r4.up (by omega) (by omega)⟩
end Go.Am
end
