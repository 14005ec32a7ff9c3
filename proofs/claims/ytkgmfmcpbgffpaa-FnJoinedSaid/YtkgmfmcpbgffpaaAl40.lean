/- The law. -/
import Derived.Test.YtkgmfmcpbgffpaaAg0
import Derived.Test.YtkgmfmcpbgffpaaAl39
section
set_option maxRecDepth 100000
set_option maxHeartbeats 1000000
set_option linter.unusedVariables false
set_option linter.unusedSimpArgs false
namespace Go.Am
theorem kj_ (a : Sl (Iv .u8)) (h : ∀ x ∈ a.l, 0 ≤ x.v ∧ x.v ≤ 255) : f7_ a = some true := by
 refine ii_ _ _ ?_
 unfold eg_
 by_cases hl : 1048576 < (a.l.length : Int)
 ·rw [if_pos (by simpa using hl)]
 rw [if_neg (by simpa using hl)]
 have hb : Bys a := ⟨h, by omega⟩
 obtain ⟨env, e1, hE, _⟩ := ud_ a hb
 obtain ⟨b1, e2, hb1⟩ := mP_ 1 a h (by omega)
 obtain ⟨p, e3, p1, p2, p3⟩ := hy_ b1 hb1
 obtain ⟨b2, e4, hb2⟩ := mP_ 2 a h (by omega)
 obtain ⟨q, e5, q1, q2, q3⟩ := hy_ b2 hb2
 obtain ⟨b3, e6, hb3⟩ := mP_ 3 a h (by omega)
 obtain ⟨r, e7, r1, r2, r3⟩ := hy_ b3 hb3
 obtain ⟨b4, e8, hb4⟩ := mP_ 4 a h (by omega)
 obtain ⟨s, e9, hs⟩ := nx_ b4 hb4
 have hp : VPat p := ⟨p1, by omega⟩
 have hq : VPat q := ⟨q1, by omega⟩
 have hr : VPat r := ⟨r1, by omega⟩
 obtain ⟨A, B, AB, a1, a2, a3, a4, a5, a6⟩ := my_ hp hq (by omega)
 obtain ⟨B', E, BE, b1', b2', b3', b4', b5', b6'⟩ := my_ hq hr (by omega)
 obtain ⟨AB', E', L, c1, c2, c3, c4, c5, c6⟩ := my_ a5 hr (by omega)
 obtain ⟨A', BE', R, d1, d2, d3, d4, d5, d6⟩ := my_ hp b5' (by omega)
 have vA := a1.vp p1
 have vB := a2.vp q1
 have vE := b2'.vp r1
 have hB : B' = B := SR.det q1 b1' a2
 have hA : A' = A := SR.det p1 d1 a1
 have hE' : E' = E := SR.det r1 c2 b2'
 subst hB hA hE'
 have nAB := nf_same AB a5.1 (a3.nf a1.nf a2.nf) AB' c1
 have nBE := nf_same BE b5'.1 (b3'.nf a2.nf b2'.nf) BE' d2
 obtain ⟨l0, l1, l2⟩ := c3.eq AB _ nAB (EqPt.rfl' _)
 obtain ⟨r0, s1, s2⟩ := d3.eq _ BE (EqPt.rfl' _) nBE
 have tA := a1.tl
 have tB := a2.tl
 have tE := b2'.tl
 have hlr : l0 = r0 := qR_ a3 vA vB a1.nf a2.nf _ l0 BE r0 vE (by omega) l1 b3' s1
 subst hlr
 have hsame := same_pat L (sm_vp L c5.1) R (l2.trans s2.symm)
 have hC : VPat (catP p q) := ⟨fw_ p1 q1, by have : nd (catP p q) = 1 + nd p + nd q := nd2 rfl; omega⟩
 obtain ⟨x, y, x1, y1, hxy⟩ := k9_ (s := s) (f := 800) hE (by omega) true hC a5 (by rw [nQ_]; omega) (.cat rfl rfl a1 a2 a3) (by omega)
 have x1 : bg_ env ⟨19, 0, ⟨#[]⟩, ⟨false, [p, q]⟩⟩ s true 800 = some x := x1
 have y1 : bg_ env AB s true 20000 = some y := y1
 simp only [e1, e2, e3, e4, e5, e6, e7, e8, e9, a4, b4', c4, d4, hsame, vS_, x1, y1, Option.bind_some, Bool.not_true, Bool.false_eq_true, if_false]
 rcases hxy with ⟨k1, k2⟩ | ⟨k1, k2⟩
 ·rw [if_pos (by simpa using k1)]
 ·by_cases k0 : x.2 = 0
  ·rw [if_neg (by simp [k0]), if_pos (by rw [← k1]; simpa using k0), k2]; rfl
  ·rw [if_pos (by simpa using k0)]
theorem law_FnJoined {fu0 : Nat} {t0 : T} (h0 : Shp Go.Proofs.Try.prog fu0 22 [t0]) : ∃ σ', run Go.Proofs.Try.prog md ext 10 [t0] St.empty = some (.bool true, σ') := by
 obtain ⟨a, e0, ha⟩ := pA_ h0
 injection e0 with e0; subst e0
 exact ⟨_, e9_ (kj_ a ha.2) St.empty⟩
end Go.Am
end
