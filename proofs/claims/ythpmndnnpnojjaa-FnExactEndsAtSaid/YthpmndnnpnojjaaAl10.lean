/- The law. -/
import Derived.Test.YthpmndnnpnojjaaAl9
import Derived.Test.YthpmndnnpnojjaaAg0
section
set_option maxRecDepth 100000
set_option maxHeartbeats 1000000
set_option linter.unusedVariables false
set_option linter.unusedSimpArgs false
namespace Go.Am
theorem pn_ (a b : Sl (Iv .i64)) (h : a.l = b.l) (hl : b.l.length ≤ 60) : ce_ a b = some true := by
 refine hH_ a b _ ?_
 obtain ⟨z, l⟩ := a
 obtain ⟨z2, l2⟩ := b
 obtain rfl : l = l2 := h
 unfold eg_
 refine jW_ (a := ⟨z, l⟩) (by show l.length < _; simp at hl; omega) fun i x hx he => ?_
 have he2 : elt (⟨z2, l⟩ : Sl (Iv .i64)) (i : Int) = some x := he
 rw [he, Option.bind_some, he2, Option.bind_some, if_neg (by simp)]
theorem mj_ (s : Sl (Iv .i64)) (hl : s.l.length ≤ 60) : ∃ k t, bO_ s 1 = some (k, t) ∧ ci_ t 1 = some k ∧ 1 ≤ k := by
 obtain ⟨k, t, q1, q2, q3, q4, q5⟩ := pg_ (P := fun _ : Iv .i64 => True) (N := 1) (s := s) (k := 1)
  (mb := fun st1 => (if (decide (st1.2.1 < (st1.2.2.l.length : Int))) = true then ((elt st1.2.2 st1.2.1).bind fun y2 => (some (.inl ((w4 (st1.1 + 1)), (w4 (st1.2.1 + 1)), (setS st1.2.2 st1.2.1 (⟨st1.1⟩ : (Iv .i64))))))) else (some (.inr (st1.1, st1.2.2)))))
  (hb := fun a0 st1 => (if (decide (st1.2 < (a0.l.length : Int))) = true then ((elt a0 st1.2).bind fun y2 => (if (!decide (y2.v = st1.1)) = true then (some (.inr (.inr (-1)))) else (some (.inl ((w4 (st1.1 + 1)), (w4 (st1.2 + 1))))))) else (some (.inr (.inl st1.1)))))
  (fun _ _ => trivial) (by omega) (by omega) (by omega)
  (fun k i t x he hi hts _ hk hkN => by
   refine ⟨k + 1, ⟨k⟩, ?_, by omega, by simp, fun t' ht' he' hi' => ?_⟩
   ·simp only [he, Option.bind_some]
    rw [if_pos (by simpa using hi), aT_ (by omega) (by omega), aT_ (by omega) (by omega)]
   ·simp only [he', Option.bind_some]
    rw [if_pos (by simpa using hi'), if_neg (by simp), aT_ (by omega) (by omega), aT_ (by omega) (by omega)])
  (fun k t => by simp) (fun k t => by simp)
 refine ⟨k, t, ?_, hd_ _ _ _ ?_, q4⟩
 ·unfold bO_; rw [q1]; rfl
 ·unfold c6_; rw [q3]; rfl
theorem kF_ (a : Sl ac_) (p : DPattern) (s : ByteArray) (c f : Int) (ha : FitS maxLen mm_ a) (hp : FitPt p) : dI_ a p s c f = some true := by
 refine f2_ a p s c f _ ?_
 unfold ct_
 by_cases hss : 1048576 < (s.size : Int)
 ·rw [if_pos (by simpa using hss)]
 rw [if_neg (by simpa using hss)]
 rcases qs_ a ha 1048576 (by omega) (by omega) with e | ⟨l', e, h0, hl', hs⟩
 ·rw [e]; rfl
 have hk0 : decide (l' < 0) = false := by simp; omega
 rcases sz_Pt p hp l' h0 (by omega) with e' | ⟨l2, e', h02, hl2, hsp⟩
 ·rw [e, Option.bind_some, hk0, e']; rfl
 have hc := nV_ hs
 have hcp := Sm_cpPt p hsp
 obtain ⟨w1, w2, m1, m2, m3, m4, m5⟩ := mK_ (j0_ a) (cpPt p) s c f hc hcp
 have e7 := eq_Pt _ _ hcp (EqPt.rfl' _)
 have e8 := rb_ (j0_ a) hc
 have e9 := pn_ w2.1 w1.1 m4 m5
 obtain ⟨k, t, n1, n2, n3⟩ := qD_ (j0_ a) (by show ndN (a.l.map cpNm) < _; rw [ndN_cp]; omega) (by have := hc.1; omega) 1 (by omega) (by omega)
 have n3' : k ≤ 1 + 4 * (ndN a.l : Int) := by have := n3; rw [show ndN (j0_ a).l = ndN a.l from ndN_cp a.l] at this; exact this
 have hnd := hs_ (cpPt p)
 have hnp := hi_ p
 have hnc := nd_cp p
 have hlen := ndL_len (cpPt p).Kids.l
 obtain ⟨k2, t2, o1, o2, o3, o4, o5⟩ := mh_PtS bigN (cpPt p).Kids (by unfold bigN; omega) (by omega) k (by omega) (by omega)
 have o1 : a1_ (cpPt p).Kids k = some (k2, t2) := o1
 have mk : bD_ (cpPt p) k = some (k2, ⟨(cpPt p).Kind, (cpPt p).Num, (cpPt p).Text, t2⟩) := by
  unfold bD_; rw [o1]; rfl
 obtain ⟨k3, t3, r1, r2, r3⟩ := mj_ w2.1 (by rw [m4]; exact m5)
 have hk1 : decide (l2 < 0) = false := by simp; omega
 have hk2 : decide (k2 < 0) = false := by simp; omega
 have hk3 : decide (k3 < 0) = false := by simp; omega
 simp only [e, e', rP_ a hs, to_Pt p hsp, m1, m2, m3, e7, e8, e9, n1, mk, r1, r2, Option.bind_some, hk0, hk1, hk2, hk3]
 simp
theorem law_FnExactEndsAt {fu0 fu1 fu2 fu3 fu4 : Nat} {t0 : T} {t1 : List T} {t2 t3 t4 : T} (h0 : Shp Go.Proofs.Try.prog fu0 35 [t0]) (h1 : Shp Go.Proofs.Try.prog fu1 51 t1) (h2 : Shp Go.Proofs.Try.prog fu2 9 [t2]) (h3 : Shp Go.Proofs.Try.prog fu3 2 [t3]) (h4 : Shp Go.Proofs.Try.prog fu4 2 [t4]) : ∃ σ', run Go.Proofs.Try.prog md ext 9 [t0, .agg t1, t2, t3, t4] St.empty = some (.bool true, σ') := by
 obtain ⟨a, e0, ha⟩ := oP_ h0
 injection e0 with e0; subst e0
 obtain ⟨p, rfl, hp⟩ := dec_Pt h1
 obtain ⟨s, e, hs⟩ := kQ_ h2
 injection e with e; subst e
 obtain ⟨c, e3⟩ := jH_ h3
 injection e3 with e3; subst e3
 obtain ⟨f, e4⟩ := jH_ h4
 injection e4 with e4; subst e4
 rw [DPattern.enc_eq p]
 exact ⟨_, gC_ (kF_ a p s c f ha hp) St.empty⟩
end Go.Am
end
