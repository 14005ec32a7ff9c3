/- The law. -/
import Derived.Test.YtilalopohkdmdaaGreatAg0
import Derived.Test.YtilalopohkdmdaaGreatAl18
import Derived.Test.YtilalopohkdmdaaGreatAl20
section
set_option maxRecDepth 100000
set_option maxHeartbeats 1000000
set_option linter.unusedVariables false
set_option linter.unusedSimpArgs false
namespace Go.Am
theorem hp_ (a : Sl (Iv .u8)) (h : ∀ x ∈ a.l, 0 ≤ x.v ∧ x.v ≤ 255) : dO_ a = some true := by
 refine f3_ _ _ ?_
 unfold cE_
 by_cases hl : 1048576 < (a.l.length : Int)
 ·rw [if_pos (by simpa using hl)]
 rw [if_neg (by simpa using hl)]
 have hb : Bys a := ⟨h, by omega⟩
 obtain ⟨env, e1, hE, _, hC⟩ := mv_ a hb
 obtain ⟨b1, e2, hb1⟩ := m1_ 1 a h (by omega)
 obtain ⟨p, e3, p1, p2, p3⟩ := j4_ b1 hb1
 obtain ⟨b2, e4, hb2⟩ := m1_ 2 a h (by omega)
 obtain ⟨q, e5, q1, q2, q3⟩ := j4_ b2 hb2
 obtain ⟨b3, e6, hb3⟩ := m1_ 3 a h (by omega)
 obtain ⟨s, e7, hs⟩ := l9_ b3 hb3
 obtain ⟨c, e8, hc⟩ := uc_ a 4 (w4 ((s.size : Int) + 1)) hb (by omega) (by rw [aT_ (by omega) (by omega)]; omega)
 have hc := hc (by rw [aT_ (by omega) (by omega)]; omega)
 rw [aT_ (n := (s.size : Int) + 1) (by omega) (by omega)] at hc
 have hP : VPat p := ⟨p1, by omega⟩
 have hQ : VPat q := ⟨q1, by omega⟩
 obtain ⟨x, x1, x2, x3⟩ := mZ_ (s := s) (f := 1000) hE hP (by omega) ⟨hc.1, by omega⟩ (by omega)
 obtain ⟨y, y1, y2, y3⟩ := mZ_ (s := s) (f := 1000) hE hQ (by omega) ⟨hc.1, by omega⟩ (by omega)
 obtain ⟨z, z1, z2, z3⟩ := mZ_ (s := s) (f := 3000) hE (rV_ 18 (.inl rfl) p1 q1 (by omega)) (by omega) ⟨hc.1, by omega⟩ (by omega)
 rw [e1, Option.bind_some, e2, Option.bind_some, e3, Option.bind_some, e4, Option.bind_some, e5, Option.bind_some, e6, Option.bind_some, e7, Option.bind_some, e8, Option.bind_some, x1, Option.bind_some, y1, Option.bind_some, tY_, Option.bind_some, z1, Option.bind_some]
 simp only [Bool.not_true, Bool.false_eq_true, if_false]
 by_cases c1 : x.2 = 0
 ·by_cases c2 : y.2 = 0
  ·by_cases c3 : z.2 = 0
   ·rw [if_neg (by simp [c1]), if_neg (by simp [c2]), if_neg (by simp [c3])]
    obtain ⟨w1, k1, k2⟩ := mT_ 8 ⟨false, []⟩ x.1 (by omega) (by simp; omega)
    obtain ⟨w2, k3, k4⟩ := mT_ 8 w1 y.1 (by omega) (by rw [k2]; simp; omega)
    obtain ⟨rx, f1, f2, f3⟩ := x3 c1
    obtain ⟨ry, g1, g2, g3⟩ := y3 c2
    obtain ⟨rz, h1, h2, h3⟩ := z3 c3
    have := oJ_ hC p2 q2 (by omega) h1 f1 g1 h2 f2 g2
    have e : z.1.l = w2.l := by
     rw [k4, k2, h3, f3, g3]
     have := congrArg (List.map fun x : Int => (⟨x⟩ : Iv .i64)) this
     simpa [Function.comp_def] using this
    rw [k1, Option.bind_some, k3, Option.bind_some, o6_ z.1 w2 e (by omega)]; rfl
   ·rw [if_neg (by simp [c1]), if_neg (by simp [c2]), if_pos (by simp [c3])]
  ·rw [if_neg (by simp [c1]), if_pos (by simp [c2])]
 ·rw [if_pos (by simp [c1])]
theorem law_FnAlternation {fu0 : Nat} {t0 : T} (h0 : Shp Go.Proofs.Tryz.prog fu0 22 [t0]) : ∃ σ', run Go.Proofs.Tryz.prog md ext 3 [t0] St.empty = some (.bool true, σ') := by
 obtain ⟨a, e0, ha⟩ := nF_ h0
 injection e0 with e0; subst e0
 exact ⟨_, fH_ (hp_ a ha.2) St.empty⟩
end Go.Am
end
