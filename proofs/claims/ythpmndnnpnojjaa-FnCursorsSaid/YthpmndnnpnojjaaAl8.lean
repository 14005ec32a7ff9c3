/- The law. -/
import Derived.Test.YthpmndnnpnojjaaAl7
import Derived.Test.YthpmndnnpnojjaaAg3
import Derived.Test.YthpmndnnpnojjaaAg1
section
set_option maxRecDepth 100000
set_option maxHeartbeats 4000000
set_option linter.unusedVariables false
set_option linter.unusedSimpArgs false
namespace Go.Am
section
variable {env : Sl al_} {s : ByteArray} {F : Nat}
end
theorem nq_ (a b : Int) : dO_ ⟨false, [⟨a⟩, ⟨b⟩]⟩ = some (if a = 0 then b else a) := by
 refine i1_ _ _ ?_
 unfold eI_
 by_cases ha : a = 0
 ·subst ha
  by_cases hb : b = 0
  ·subst hb
   rw [aL_ (s' := 1) rfl (aL_ (s' := 2) rfl (aA_ rfl))]; rfl
  ·rw [aL_ (s' := 1) rfl (aA_ (r := .inr b) (by
    show (if (!decide (b = 0)) = true then _ else _) = _
    rw [if_pos (by simp [hb])]))]; rfl
 ·rw [aA_ (r := .inr a) (by
    show (if (!decide (a = 0)) = true then _ else _) = _
    rw [if_pos (by simp [ha])]), if_neg ha]; rfl
theorem jq_ (b : Bool) (a : Int) : cn_ b a = some (if b = true then 0 else a) := by
 refine hO_ b a _ ?_
 unfold el_
 cases b <;> rfl
def AskP (env : Sl al_) (p : DPattern) (s : ByteArray) : Prop := EnvP env ∧ VPat p ∧ (s.size : Int) ≤ 200
noncomputable def askV (env : Sl al_) (p : DPattern) (s : ByteArray) (f : Int) : Int := if says (AskP env p s) = true then (if says (0 ≤ f ∧ f ≤ 20000) = true then 0 else 3) else 1
theorem rf_ (env : Sl al_) (p : DPattern) (s : ByteArray) (f : Int) (hE : oj_ env) (hp : SmPt p) : fS_ env p s f = some (askV env p s f) ∧ cu_ env p s f = some (askV env p s f) := by
 refine ⟨ia_ env p s f _ ?_, fY_ env p s f _ ?_⟩
 ·unfold eg_
  rw [env1 env hE, Option.bind_some, qi_ p hp, Option.bind_some, in1, Option.bind_some]
  unfold askV AskP
  by_cases h1 : EnvP env
  ·by_cases h2 : VPat p
   ·by_cases h3 : (s.size : Int) ≤ 200
    ·rw [a5_ h1, a5_ h2, a5_ (show EnvP env ∧ VPat p ∧ (s.size : Int) ≤ 200 from ⟨h1, h2, h3⟩), if_neg (by simp), if_neg (by simp), if_neg (by simp; omega), if_pos rfl]
     cases says (0 ≤ f ∧ f ≤ 20000) <;> rfl
    ·rw [a5_ h1, a5_ h2, aT_ (fun w : EnvP env ∧ VPat p ∧ (s.size : Int) ≤ 200 => h3 w.2.2), if_neg (by simp), if_neg (by simp), if_pos (by simp; omega)]; rfl
   ·rw [a5_ h1, aT_ h2, aT_ (fun w : EnvP env ∧ VPat p ∧ (s.size : Int) ≤ 200 => h2 w.2.1), if_neg (by simp), if_pos (by simp)]; rfl
  ·rw [aT_ h1, aT_ (fun w : EnvP env ∧ VPat p ∧ (s.size : Int) ≤ 200 => h1 w.1), if_pos (by simp)]; rfl
 ·unfold cC_
  rw [j3_ (env2 env hE) fun _ => j3_ (p1_ p hp) fun _ => d0_ (lr_ s), Option.bind_some, jq_, Option.bind_some, in2, Option.bind_some, jq_, Option.bind_some, nq_]
  unfold askV AskP
  cases says (EnvP env ∧ VPat p ∧ (s.size : Int) ≤ 200) <;> cases says (0 ≤ f ∧ f ≤ 20000) <;> rfl
end Go.Am
end
