/- The law. -/
import Derived.Test.YtnihabnkoegdjaaAg2
import Derived.Test.YtnihabnkoegdjaaAg3
import Derived.Test.YtnihabnkoegdjaaAl8
section
set_option maxRecDepth 100000
set_option maxHeartbeats 1000000
set_option linter.unusedVariables false
set_option linter.unusedSimpArgs false
namespace Go.Am
open Nt
theorem l4_ (env : Sl DNamed) (p : DPattern) (s : ByteArray) (b : Bool) (f : Int) (hE : mY_ env) (hp : SmPt p) : ∃ w, eH_ env p s b f = some w ∧ aR_ env p s b f = some w := by
 suffices H : ∃ w, cg_ env p s b f = some w ∧ ci_ env p s b f = some w by
  obtain ⟨w, h1, h2⟩ := H
  exact ⟨w, gT_ _ _ _ _ _ _ h1, gP_ _ _ _ _ _ _ h2⟩
 obtain ⟨a1, a2⟩ := ty_ env p s f hE hp
 unfold cg_ ci_
 rw [a1, a2, Option.bind_some, Option.bind_some]
 by_cases h0 : askV env p s f = 0
 ·obtain ⟨k1, k2, k3, k4⟩ := rZ_ h0
  obtain ⟨w, s1, s2, s3, s4⟩ := oK_ s b (by omega)
  obtain ⟨S', r', m1, m2, m3, m4⟩ := pi_ (env := env) (s := s) (p := p) (starts := w) (by omega) (fun x hx => (k1.2.1 x hx).2.1) k1.1 k2.1 s4 s3 f k4
  rw [if_neg (by simp [h0]), if_neg (by simp [h0]), s1, s2, Option.bind_some, Option.bind_some]
  unfold IMF at m1
  unfold RMF at m2
  rw [m1, m2]
  by_cases hc : r'.code_ = 0
  ·refine ⟨(r'.steps_, 0), ?_, ?_⟩
   ·show (if (!decide (r'.code_ = 0)) = true then _ else _) = _
    rw [if_neg (by simp [hc])]
   ·show (if (!decide (S'.code_ = 0)) = true then _ else _) = _
    rw [if_neg (by simp [m3, hc]), ← m4 hc]
  ·refine ⟨(0, r'.code_), ?_, ?_⟩
   ·show (if (!decide (r'.code_ = 0)) = true then _ else _) = _
    rw [if_pos (by simp [hc])]
   ·show (if (!decide (S'.code_ = 0)) = true then _ else _) = _
    rw [if_pos (by simp [m3, hc]), ← m3]
 ·rw [if_pos (by simp [h0]), if_pos (by simp [h0])]
  exact ⟨_, rfl, rfl⟩
end Go.Am
end
