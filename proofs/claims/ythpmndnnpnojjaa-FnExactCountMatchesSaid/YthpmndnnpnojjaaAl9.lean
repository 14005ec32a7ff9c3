/- The law. -/
import Derived.Test.YthpmndnnpnojjaaAl8
import Derived.Test.YthpmndnnpnojjaaAg0
section
set_option maxRecDepth 100000
set_option maxHeartbeats 1000000
set_option linter.unusedVariables false
set_option linter.unusedSimpArgs false
namespace Go.Am
theorem mh_ {P : Program} {t : TypeId} {d : Nat} {ts : List T} (kt : aC_ P t = 1) (h : Shp P d t ts) : ∃ b : Bool, ts = [.bool b] := by
 cases d with
 | zero => exact h.elim
 | succ d =>
  rcases h with h | h | h | h | h
  ·exact h.2
  ·simp [bw_, kt] at h
  ·rw [kt] at h; exact absurd h.1 (by decide)
  ·rw [kt] at h; exact absurd h.1 (by decide)
  ·rw [kt] at h; exact absurd h.1 (by decide)
theorem ld_ (env : Sl ag_) (p : DPattern) (s : ByteArray) (b : Bool) (f : Int) (hE : h8_ env) (hp : SmPt p) : ∃ w, cx_ env p s b f = some w ∧ cC_ env p s b f = some w := by
 suffices H : ∃ w1 w2 : (Sl aj_) × Int, dp_ env p s b f = some w1 ∧ dr_ env p s b f = some w2 ∧ w2.2 = w1.2 ∧ w2.1.l.length = w1.1.l.length by
  obtain ⟨w1, w2, h1, h2, h3, h4⟩ := H
  refine ⟨((w1.1.l.length : Int), w1.2), fZ_ _ _ _ _ _ _ ?_, f6_ _ _ _ _ _ _ ?_⟩
  ·unfold cv_; rw [h1]; rfl
  ·unfold cB_; rw [h2, Option.bind_some, h3, h4]
 suffices H : ∃ w1 w2 : (Sl aj_) × Int, cn_ env p s b f = some w1 ∧ cm_ env p s b f = some w2 ∧ w2.2 = w1.2 ∧ w2.1.l.length = w1.1.l.length by
  obtain ⟨w1, w2, h1, h2, h3⟩ := H
  exact ⟨w1, w2, gY_ _ _ _ _ _ _ h1, g3_ _ _ _ _ _ _ h2, h3⟩
 obtain ⟨a1, a2⟩ := se_ env p s f hE hp
 unfold cn_ cm_
 rw [a1, a2, Option.bind_some, Option.bind_some]
 by_cases h0 : askV env p s f = 0
 ·obtain ⟨k1, k2, k3, k4⟩ := pK_ h0
  obtain ⟨w, s1, s2, s3, s4⟩ := nS_ s b (by omega)
  obtain ⟨w1, w2, m1, m2, m3, m4, _⟩ := l4_ (env := env) (s := s) (p := p) (starts := w) (by omega) (fun x hx => (k1.2.1 x hx).2.1) k1.1 k2.1 s4 s3 f k4
  rw [if_neg (by simp [h0]), if_neg (by simp [h0]), s1, s2, Option.bind_some, Option.bind_some, m1, m2]
  exact ⟨w1, w2, rfl, rfl, m3, by have := congrArg List.length m4; simpa using this⟩
 ·rw [if_pos (by simp [h0]), if_pos (by simp [h0])]
  exact ⟨_, _, rfl, rfl, rfl, rfl⟩
theorem lE_ (a : Sl ag_) (p : DPattern) (s : ByteArray) (b : Bool) (f : Int) (ha : FitS maxLen lL_ a) (hp : FitPt p) : cc_ a p s b f = some true := by
 refine ee_ a p s b f _ ?_
 unfold bp_
 by_cases hss : 1048576 < (s.size : Int)
 ·rw [if_pos (by simpa using hss)]
 rw [if_neg (by simpa using hss)]
 rcases rn_ a ha 1048576 (by omega) (by omega) with e | ⟨l', e, h0, hl', hs⟩
 ·rw [e]; rfl
 have hk0 : decide (l' < 0) = false := by simp; omega
 rcases sz_Pt p hp l' h0 (by omega) with e' | ⟨l2, e', h02, hl2, hsp⟩
 ·rw [e, Option.bind_some, hk0, e']; rfl
 have hc := ne_ hs
 have hcp := Sm_cpPt p hsp
 obtain ⟨w, e1, e2⟩ := ld_ (k9_ a) (cpPt p) s b f hc hcp
 have e7 := eq_Pt _ _ hcp (EqPt.rfl' _)
 have e8 := p1_ (k9_ a) hc
 have hk1 : decide (l2 < 0) = false := by simp; omega
 simp only [e, e', qe_ a hs, to_Pt p hsp, e1, e2, e7, e8, Option.bind_some, hk0, hk1]
 simp
theorem law_FnExactCountMatches {fu0 fu1 fu2 fu3 fu4 : Nat} {t0 : T} {t1 : List T} {t2 t3 t4 : T} (h0 : Shp Go.Proofs.Try.prog fu0 35 [t0]) (h1 : Shp Go.Proofs.Try.prog fu1 51 t1) (h2 : Shp Go.Proofs.Try.prog fu2 9 [t2]) (h3 : Shp Go.Proofs.Try.prog fu3 4 [t3]) (h4 : Shp Go.Proofs.Try.prog fu4 2 [t4]) : ∃ σ', run Go.Proofs.Try.prog md ext 7 [t0, .agg t1, t2, t3, t4] St.empty = some (.bool true, σ') := by
 obtain ⟨a, e0, ha⟩ := oW_ h0
 injection e0 with e0; subst e0
 obtain ⟨p, rfl, hp⟩ := dec_Pt h1
 obtain ⟨s, e, hs⟩ := ke_ h2
 injection e with e; subst e
 obtain ⟨b, e3⟩ := mh_ (by kernel_rfl) h3
 injection e3 with e3; subst e3
 obtain ⟨f, e4⟩ := kr_ h4
 injection e4 with e4; subst e4
 rw [DPattern.enc_eq p]
 exact ⟨_, gm_ (lE_ a p s b f ha hp) St.empty⟩
end Go.Am
end
