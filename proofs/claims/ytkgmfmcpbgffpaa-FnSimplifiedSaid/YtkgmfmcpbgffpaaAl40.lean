/- The law. -/
import Derived.Test.YtkgmfmcpbgffpaaAg0
import Derived.Test.YtkgmfmcpbgffpaaAl39
section
set_option maxRecDepth 100000
set_option maxHeartbeats 1000000
set_option linter.unusedVariables false
set_option linter.unusedSimpArgs false
namespace Go.Am
theorem hA_ (a : Sl (Iv .u8)) (h : ∀ x ∈ a.l, 0 ≤ x.v ∧ x.v ≤ 255) : ec_ a = some true := by
 refine gI_ _ _ ?_
 unfold cV_
 by_cases hl : 1048576 < (a.l.length : Int)
 ·rw [if_pos (by simpa using hl)]
 rw [if_neg (by simpa using hl)]
 have hb : Bys a := ⟨h, by omega⟩
 obtain ⟨env, e1, hE, _⟩ := um_ a hb
 obtain ⟨b1, e2, hb1⟩ := qH_ 1 a h (by omega)
 obtain ⟨p, e3, p1, p2, p3⟩ := nq_ b1 hb1
 obtain ⟨b2, e4, hb2⟩ := qH_ 2 a h (by omega)
 obtain ⟨s, e5, hs⟩ := nl_ b2 hb2
 obtain ⟨c, e6, _⟩ := u2_ a 3 2 hb (by omega) (by omega)
 have hP : VPat p := ⟨p1, by omega⟩
 obtain ⟨q, q1, q2, q3, q4⟩ := jt_ hP
 obtain ⟨q', r1, r2, r3, r4⟩ := jt_ q3
 have hsame := same_pat q' (sm_vp q' r3.1) q (nf_same q q3.1 q1.nf q' r1)
 obtain ⟨x, y, x1, y1, hxy⟩ := kG_ (s := s) (f := 400) hE (by omega) (decide (c = 0)) hP q3 (by omega) q1 (by omega)
 rw [e1, Option.bind_some, e2, Option.bind_some, e3, Option.bind_some, e4, Option.bind_some, e5, Option.bind_some, e6, Option.bind_some, q2, Option.bind_some, o4_ q3, Option.bind_some, if_neg (by simp), nodes_ok q (by omega), Option.bind_some, nodes_ok p (by omega), Option.bind_some, if_neg (by simp; omega), r2, Option.bind_some, hsame, Option.bind_some, if_neg (by simp), x1, Option.bind_some, y1, Option.bind_some]
 rcases hxy with ⟨k1, k2⟩ | ⟨k1, k2⟩
 ·rw [if_pos (by simpa using k1)]
  by_cases k6 : x.2 = 6
  ·rw [if_neg (by simp [k6]), if_pos (by simp [k2])]
  ·rw [if_pos (by simpa using k6)]
 ·by_cases k0 : x.2 = 0
  ·rw [if_neg (by simp [k0]), if_pos (by simpa using k1), k2]; rfl
  ·rw [if_pos (by simpa using k0)]
   by_cases k6 : x.2 = 6
   ·rw [if_neg (by simp [k6])]
    by_cases kl : (x.1.l.length : Int) = 0
    ·rw [if_pos (by simpa using kl)]
    ·rw [if_neg (by simpa using kl), if_pos (by simpa using k1), k2]; rfl
   ·rw [if_pos (by simpa using k6)]
theorem law_FnSimplified {fu0 : Nat} {t0 : T} (h0 : Shp Go.Proofs.Try.prog fu0 22 [t0]) : ∃ σ', run Go.Proofs.Try.prog md ext 11 [t0] St.empty = some (.bool true, σ') := by
 obtain ⟨a, e0, ha⟩ := o8_ h0
 injection e0 with e0; subst e0
 exact ⟨_, fR_ (hA_ a ha.2) St.empty⟩
end Go.Am
end
