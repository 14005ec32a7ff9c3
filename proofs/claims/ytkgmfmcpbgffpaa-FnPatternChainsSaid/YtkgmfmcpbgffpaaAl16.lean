/- The law. -/
import Derived.Test.YtkgmfmcpbgffpaaAg0
import Derived.Test.YtkgmfmcpbgffpaaAl15
section
set_option maxRecDepth 100000
set_option maxHeartbeats 1000000
set_option linter.unusedVariables false
set_option linter.unusedSimpArgs false
namespace Go.Am
theorem n2_ {s : aa_} {k : Nat} {d : Int} (h : b9_ s k) (hd : 0 ≤ d ∧ d ≤ 3) (hk : k + 200 ≤ 1000000000) : ∃ p s', cW_ s d = some (p, s') ∧ VP p ∧ nd p ≤ 15 ∧ (d ≤ 2 → nd p ≤ 7) ∧ b9_ s' (k + 200) := by
 obtain ⟨n, rfl⟩ : ∃ n : Nat, d = n := ⟨d.toNat, by omega⟩
 have : ∀ n : Nat, n ≤ 3 → RD n ≤ 200 ∧ ND n ≤ 15 ∧ (n ≤ 2 → ND n ≤ 7) := by decide
 have := this n (by omega)
 have hb : bigN = 100000000000 := rfl
 obtain ⟨p, s', r1, r2, r3, r4⟩ := draw_ok n bigN (by rw [hb]; omega) (by omega) s k h (by omega)
 exact ⟨p, s', r1, r2, by omega, fun h2 => by have := this.2.2 (by omega); omega, r4.up (by omega) (by omega)⟩
theorem fI_ (c : Sl (Iv .u8)) (h : Bys c) : ∃ p, bE_ c = some p ∧ VP p ∧ CalmP p ∧ nd p ≤ 7 := by
 have h0 : b9_ ⟨c, 0, 0⟩ 0 := ⟨h, Int.le_refl _, Int.le_refl _, by decide⟩
 obtain ⟨m, s1, q1, q2, q3, q4⟩ := fQ_ 3 h0 (by decide) (by decide) (by decide)
 obtain ⟨p, s', r1, r2, r3, r4, _⟩ := n2_ q4 ⟨q2, by omega⟩ (by decide)
 obtain ⟨q, k1, k2, k3, k4⟩ := calm_ok p r2
 refine ⟨q, gN_ _ _ ?_, k2, k3, by have := r4 (by omega); omega⟩
 unfold dk_
 rw [q1, Option.bind_some, r1, Option.bind_some, k1]; rfl
end Go.Am
end
