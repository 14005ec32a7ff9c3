/- The law. -/
import Derived.Test.YtilalopohkdmdaaGreatAg0
import Derived.Test.YtilalopohkdmdaaGreatAg2
import Derived.Test.YtilalopohkdmdaaGreatAg1
import Derived.Test.YtilalopohkdmdaaGreatAl21
import Derived.Test.YtilalopohkdmdaaGreatAl18
import Derived.Test.YtilalopohkdmdaaGreatAl30
import Derived.Test.YtilalopohkdmdaaGreatAl31
section
set_option maxRecDepth 100000
set_option maxHeartbeats 1000000
set_option linter.unusedVariables false
set_option linter.unusedSimpArgs false
namespace Go.Am
section
variable {env : Sl DNamed} {s : ByteArray} {p : DPattern}
theorem nf_ (hE : EnvP env) (hv : VPat p) (hs : s.size ≤ 200) {a f : Int} (ha : 0 ≤ a ∧ a ≤ s.size) (hf : 0 ≤ f ∧ f ≤ 20000) : ∃ (w : Sl (Iv .i64) × Int) (r : Bool × aa_), fh_ env p s a f = some w ∧ w.1.l.length ≤ 60 ∧ Run0 env s f a p = some r ∧ w.2 = r.2.code_ ∧ (w.2 = 0 → w.1.l = r.2.matches_.l.map (fun x => ⟨x.End⟩)) := by
 suffices H : ∃ (w : Sl (Iv .i64) × Int) (r : Bool × aa_), dT_ env p s a f = some w ∧ w.1.l.length ≤ 60 ∧ Run0 env s f a p = some r ∧ w.2 = r.2.code_ ∧ (w.2 = 0 → w.1.l = r.2.matches_.l.map (fun x => ⟨x.End⟩)) by
  obtain ⟨w, r, h1, h2⟩ := H; exact ⟨w, r, iZ_ _ _ _ _ _ _ h1, h2⟩
 have hA : askV env p s f = 0 := by
  unfold askV
  rw [aR_ (show AskP env p s from ⟨hE, hv, by omega⟩), aR_ hf]; rfl
 unfold dT_
 rw [(qe_ env p s f (mS_ hE) (sm_vp _ hv.1)).2, hA, Option.bind_some, in2, Option.bind_some, kS_, Option.bind_some, oQ_, Option.bind_some]
 obtain ⟨x, x1, x2, x3⟩ := rJ_ (env := env) (s := s) (p := p) (starts := ⟨false, [⟨a⟩]⟩) hs (fun x hx => (hE.2.1 x hx).2.1) hE.1 hv.1 (fun v hv => by simp at hv; rw [hv]; exact ha) (by simp) f hf
 obtain ⟨r, r1, r2⟩ := rF_ x1
 have em : x.2.2.2.2.2.2.2.2.2.2 = r.2.matches_ := congrArg aa_.matches_ r2
 have ec : x.2.2.2.2.2.2.2.1 = r.2.code_ := congrArg aa_.code_ r2
 rw [aR_ ha, if_pos rfl, if_pos rfl, if_neg (by simp), x2, Option.bind_some]
 by_cases hc : x.2.2.2.2.2.2.2.1 = 0
 ·rw [if_neg (by simp [hc]), mG_ _ x3]
  exact ⟨_, r, rfl, by simpa using x3, r1, by rw [← ec]; exact hc.symm, fun _ => by rw [em]⟩
 ·rw [if_pos (by simp [hc])]
  exact ⟨_, r, rfl, by simp, r1, ec, fun h => absurd h hc⟩
end
end Go.Am
end
