/- The law. -/
import Derived.Test.YtnihabnkoegdjaaAg0
import Derived.Test.YtnihabnkoegdjaaAg2
import Derived.Test.YtnihabnkoegdjaaAg3
import Derived.Test.YtnihabnkoegdjaaAl8
section
set_option maxRecDepth 100000
set_option maxHeartbeats 1000000
set_option linter.unusedVariables false
set_option linter.unusedSimpArgs false
namespace Go.Am
open Nt
theorem mq_ {P : Program} {t : TypeId} {d : Nat} {ts : List T} (kt : aB_ P t = 1) (h : Shp P d t ts) : ∃ b : Bool, ts = [.bool b] := by
 cases d with
 | zero => exact h.elim
 | succ d =>
  rcases h with h | h | h | h | h
  ·exact h.2
  ·simp [bo_, kt] at h
  ·rw [kt] at h; exact absurd h.1 (by decide)
  ·rw [kt] at h; exact absurd h.1 (by decide)
  ·rw [kt] at h; exact absurd h.1 (by decide)
theorem lQ_ (env : Sl ah_) (p : DPattern) (s : ByteArray) (b : Bool) (f : Int) (hE : h3_ env) (hp : SmPt p) : ∃ w, c4_ env p s b f = some w ∧ cY_ env p s b f = some w := by
 suffices H : ∃ w, bZ_ env p s b f = some w ∧ b2_ env p s b f = some w by
  obtain ⟨w, h1, h2⟩ := H
  exact ⟨w, gt_ _ _ _ _ _ _ h1, gy_ _ _ _ _ _ _ h2⟩
 obtain ⟨a1, a2⟩ := sY_ env p s f hE hp
 unfold bZ_ b2_
 rw [a1, a2, Option.bind_some, Option.bind_some]
 by_cases h0 : askV env p s f = 0
 ·obtain ⟨k1, k2, k3, k4⟩ := q1_ h0
  obtain ⟨w, s1, s2, s3, s4⟩ := n0_ s b (by omega)
  obtain ⟨S', r', m1, m2, m3, m4⟩ := pd_ (env := env) (s := s) (p := p) (starts := w) (by omega) (fun x hx => (k1.2.1 x hx).2.1) k1.1 k2.1 s4 s3 f k4
  rw [if_neg (by simp [h0]), if_neg (by simp [h0]), s1, s2, Option.bind_some, Option.bind_some]
  unfold IMF at m1
  unfold RMF at m2
  rw [m1, m2]
  by_cases hc : r'.code_ = 0
  ·refine ⟨(r'.steps_, 0), ?_, ?_⟩
   ·show (if (!decide (r'.code_ = 0)) = true then _ else _) = _
    rw [if_neg (by simp [hc])]
   ·show (if (!decide (S'.code_ = 0)) = true then _ else _) = _
    rw [if_neg (by simp [m3, hc]), ← m4 hc]
  ·refine ⟨(0, r'.code_), ?_, ?_⟩
   ·show (if (!decide (r'.code_ = 0)) = true then _ else _) = _
    rw [if_pos (by simp [hc])]
   ·show (if (!decide (S'.code_ = 0)) = true then _ else _) = _
    rw [if_pos (by simp [m3, hc]), ← m3]
 ·rw [if_pos (by simp [h0]), if_pos (by simp [h0])]
  exact ⟨_, rfl, rfl⟩
theorem l0_ (a : Sl ah_) (p : DPattern) (s : ByteArray) (b : Bool) (f : Int) (ha : FitS maxLen mI_ a) (hp : FitPt p) : cx_ a p s b f = some true := by
 refine eE_ a p s b f _ ?_
 unfold bz_
 by_cases hss : 1048576 < (s.size : Int)
 ·rw [if_pos (by simpa using hss)]
 rw [if_neg (by simpa using hss)]
 rcases rx_ a ha 1048576 (by omega) (by omega) with e | ⟨l', e, h0, hl', hs⟩
 ·rw [e]; rfl
 have hk0 : decide (l' < 0) = false := by simp; omega
 rcases sz_Pt p hp l' h0 (by omega) with e' | ⟨l2, e', h02, hl2, hsp⟩
 ·rw [e, Option.bind_some, hk0, e']; rfl
 have hc := nD_ hs
 have hcp := Sm_cpPt p hsp
 obtain ⟨w, e1, e2⟩ := lQ_ (lX_ a) (cpPt p) s b f hc hcp
 have e7 := eq_Pt _ _ hcp (EqPt.rfl' _)
 have e8 := p8_ (lX_ a) hc
 have hk1 : decide (l2 < 0) = false := by simp; omega
 simp only [e, e', rS_ a hs, to_Pt p hsp, e1, e2, e7, e8, Option.bind_some, hk0, hk1]
 simp
theorem law_FnExactMatchSteps {fu0 fu1 fu2 fu3 fu4 : Nat} {t0 : T} {t1 : List T} {t2 t3 t4 : T} (h0 : Shp Go.Proofs.Try.prog fu0 49 [t0]) (h1 : Shp Go.Proofs.Try.prog fu1 51 t1) (h2 : Shp Go.Proofs.Try.prog fu2 9 [t2]) (h3 : Shp Go.Proofs.Try.prog fu3 4 [t3]) (h4 : Shp Go.Proofs.Try.prog fu4 2 [t4]) : ∃ σ', run Go.Proofs.Try.prog md ext 13 [t0, .agg t1, t2, t3, t4] St.empty = some (.bool true, σ') := by
 obtain ⟨a, e0, ha⟩ := o4_ h0
 injection e0 with e0; subst e0
 obtain ⟨p, rfl, hp⟩ := dec_Pt h1
 obtain ⟨s, e, hs⟩ := kK_ h2
 injection e with e; subst e
 obtain ⟨b, e3⟩ := mq_ (by kernel_rfl) h3
 injection e3 with e3; subst e3
 obtain ⟨f, e4⟩ := km_ h4
 injection e4 with e4; subst e4
 rw [DPattern.enc_eq p]
 exact ⟨_, fi_ (l0_ a p s b f ha hp) St.empty⟩
end Go.Am
end
