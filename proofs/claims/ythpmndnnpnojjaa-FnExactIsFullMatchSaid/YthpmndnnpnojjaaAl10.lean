/- The law. -/
import Derived.Test.YthpmndnnpnojjaaAl9
import Derived.Test.YthpmndnnpnojjaaAg0
import Derived.Test.YthpmndnnpnojjaaAg4
section
set_option maxRecDepth 100000
set_option maxHeartbeats 1000000
set_option linter.unusedVariables false
set_option linter.unusedSimpArgs false
namespace Go.Am
theorem ny_ (y : Sl (Iv .i64)) (v : Int) (hl : y.l.length ≤ 60) : ∀ (m i : Nat), i + m = y.l.length →
  (∃ r : Nat, az_ (S := Int) (R := (Unit ⊕ Bool)) (fun st1 => (if (decide (st1 < (y.l.length : Int))) = true then ((elt y st1).bind fun y2 => (if (decide (y2.v = v)) = true then (some (.inr (.inr true))) else (some (.inl (w4 (st1 + 1)))))) else (some (.inr (.inl ()))))) (i : Int) = some (.inr true) ∧ az_ (S := Int) (R := (Unit ⊕ Int)) (fun st1 => (if (decide (st1 < (y.l.length : Int))) = true then ((elt y st1).bind fun y2 => (if (decide (v = y2.v)) = true then (some (.inr (.inr st1))) else (some (.inl (w4 (st1 + 1)))))) else (some (.inr (.inl ()))))) (i : Int) = some (.inr (r : Int))) ∨
  (az_ (S := Int) (R := (Unit ⊕ Bool)) (fun st1 => (if (decide (st1 < (y.l.length : Int))) = true then ((elt y st1).bind fun y2 => (if (decide (y2.v = v)) = true then (some (.inr (.inr true))) else (some (.inl (w4 (st1 + 1)))))) else (some (.inr (.inl ()))))) (i : Int) = some (.inl ()) ∧ az_ (S := Int) (R := (Unit ⊕ Int)) (fun st1 => (if (decide (st1 < (y.l.length : Int))) = true then ((elt y st1).bind fun y2 => (if (decide (v = y2.v)) = true then (some (.inr (.inr st1))) else (some (.inl (w4 (st1 + 1)))))) else (some (.inr (.inl ()))))) (i : Int) = some (.inl ())) := by
 intro m
 induction m with
 | zero =>
  intro i hi
  have d0 : decide ((i : Int) < (y.l.length : Int)) = false := by simp; omega
  exact .inr ⟨ak_ (by simp only [d0, Bool.false_eq_true, if_false]), ak_ (by simp only [d0, Bool.false_eq_true, if_false])⟩
 | succ m ih =>
  intro i hi
  have hlt : i < y.l.length := by omega
  have d0 : decide ((i : Int) < (y.l.length : Int)) = true := by simp; omega
  have ec : ((i + 1 : Nat) : Int) = (i : Int) + 1 := by simp
  have w1 : w4 ((i : Int) + 1) = (i : Int) + 1 := a0_ (by omega) (by omega)
  by_cases hv : y.l[i].v = v
  ·exact .inl ⟨i, ak_ (by simp only [d0, if_true, bp_ hlt, Option.bind_some, hv, decide_true]), ak_ (by simp only [d0, if_true, bp_ hlt, Option.bind_some, hv, decide_true])⟩
  ·have hv1 : decide (y.l[i].v = v) = false := by simpa using hv
   have hv2 : decide (v = y.l[i].v) = false := by simpa using fun h => hv h.symm
   have := ih (i + 1) (by omega)
   rw [ec] at this
   rcases this with ⟨r, q1, q2⟩ | ⟨q1, q2⟩
   ·exact .inl ⟨r, aw_ (by simp only [d0, if_true, bp_ hlt, Option.bind_some, hv1, Bool.false_eq_true, if_false, w1]) q1, aw_ (by simp only [d0, if_true, bp_ hlt, Option.bind_some, hv2, Bool.false_eq_true, if_false, w1]) q2⟩
   ·exact .inr ⟨aw_ (by simp only [d0, if_true, bp_ hlt, Option.bind_some, hv1, Bool.false_eq_true, if_false, w1]) q1, aw_ (by simp only [d0, if_true, bp_ hlt, Option.bind_some, hv2, Bool.false_eq_true, if_false, w1]) q2⟩
theorem sl_ (y y2 : Sl (Iv .i64)) (v : Int) (h : y2.l = y.l) (hl : y.l.length ≤ 60) : ∃ b, fq_ y v = some b ∧ bQ_ y2 v = some b := by
 have hy : ∀ w, bD_ y v = some w → bD_ y2 v = some w → True := fun _ _ _ => trivial
 suffices H : ∃ b n, dH_ y v = some b ∧ bB_ y2 v = some n ∧ b = decide (0 ≤ n) by
  obtain ⟨b, n, h1, h2, rfl⟩ := H
  refine ⟨_, i6_ _ _ _ h1, fo_ _ _ _ ?_⟩
  unfold bO_
  rw [fW_ _ _ _ h2]; rfl
 obtain ⟨z, l⟩ := y
 obtain ⟨z2, l2⟩ := y2
 obtain rfl : l2 = l := h
 unfold dH_ bB_
 rcases ny_ ⟨z, l2⟩ v hl _ 0 (Nat.zero_add _) with ⟨r, q1, q2⟩ | ⟨q1, q2⟩
 ·have q1 := q1; have q2 := q2
  refine ⟨true, (r : Int), ?_, ?_, by simp⟩
  ·exact (congrArg (fun o => Option.bind o _) q1).trans rfl
  ·exact (congrArg (fun o => Option.bind o _) q2).trans rfl
 ·refine ⟨false, -1, ?_, ?_, by decide⟩
  ·exact (congrArg (fun o => Option.bind o _) q1).trans rfl
  ·exact (congrArg (fun o => Option.bind o _) q2).trans rfl
theorem m6_ (env : Sl ag_) (p : DPattern) (s : ByteArray) (f : Int) (hE : hX_ env) (hp : SmPt p) : ∃ b, cT_ env p s f = some b ∧ cV_ env p s f = some b := by
 suffices H : ∃ b, b6_ env p s f = some b ∧ b3_ env p s f = some b by
  obtain ⟨b, h1, h2⟩ := H
  exact ⟨b, gD_ _ _ _ _ _ h1, gr_ _ _ _ _ _ h2⟩
 obtain ⟨w1, w2, m1, m2, m3, m4, m5⟩ := mv_ env p s 0 f hE hp
 unfold b6_ b3_
 rw [m1, m2, Option.bind_some, Option.bind_some, m3]
 by_cases hc : w1.2 = 0
 ·obtain ⟨b, q1, q2⟩ := sl_ w1.1 w2.1 (s.size : Int) m4 m5
  rw [if_pos (by simp [hc]), if_pos (by simp [hc]), q1, q2]
  exact ⟨b, rfl, rfl⟩
 ·rw [if_neg (by simp [hc]), if_neg (by simp [hc])]
  exact ⟨_, rfl, rfl⟩
theorem mt_ (a : Sl ag_) (p : DPattern) (s : ByteArray) (f : Int) (ha : FitS maxLen ni_ a) (hp : FitPt p) : ct_ a p s f = some true := by
 refine ex_ a p s f _ ?_
 unfold bx_
 by_cases hss : 1048576 < (s.size : Int)
 ·rw [if_pos (by simpa using hss)]
 rw [if_neg (by simpa using hss)]
 rcases q1_ a ha 1048576 (by omega) (by omega) with e | ⟨l', e, h0, hl', hs⟩
 ·rw [e]; rfl
 have hk0 : decide (l' < 0) = false := by simp; omega
 rcases sz_Pt p hp l' h0 (by omega) with e' | ⟨l2, e', h02, hl2, hsp⟩
 ·rw [e, Option.bind_some, hk0, e']; rfl
 have hc := nW_ hs
 have hcp := Sm_cpPt p hsp
 obtain ⟨w, e1, e2⟩ := m6_ (lr_ a) (cpPt p) s f hc hcp
 have e7 := eq_Pt _ _ hcp (EqPt.rfl' _)
 have e8 := qu_ (lr_ a) hc
 have hk1 : decide (l2 < 0) = false := by simp; omega
 simp only [e, e', qj_ a hs, to_Pt p hsp, e1, e2, e7, e8, Option.bind_some, hk0, hk1]
 simp
theorem law_FnExactIsFullMatch {fu0 fu1 fu2 fu3 : Nat} {t0 : T} {t1 : List T} {t2 t3 : T} (h0 : Shp Go.Proofs.Try.prog fu0 35 [t0]) (h1 : Shp Go.Proofs.Try.prog fu1 51 t1) (h2 : Shp Go.Proofs.Try.prog fu2 9 [t2]) (h3 : Shp Go.Proofs.Try.prog fu3 2 [t3]) : ∃ σ', run Go.Proofs.Try.prog md ext 8 [t0, .agg t1, t2, t3] St.empty = some (.bool true, σ') := by
 obtain ⟨a, e0, ha⟩ := o9_ h0
 injection e0 with e0; subst e0
 obtain ⟨p, rfl, hp⟩ := dec_Pt h1
 obtain ⟨s, e, hs⟩ := kq_ h2
 injection e with e; subst e
 obtain ⟨f, e4⟩ := ky_ h3
 injection e4 with e4; subst e4
 rw [DPattern.enc_eq p]
 exact ⟨_, gv_ (mt_ a p s f ha hp) St.empty⟩
end Go.Am
end
