/- The law. -/
import Derived.Test.YthpmndnnpnojjaaAl7
import Derived.Test.YthpmndnnpnojjaaAg3
import Derived.Test.YthpmndnnpnojjaaAg1
section
set_option maxRecDepth 100000
set_option maxHeartbeats 4000000
set_option linter.unusedVariables false
set_option linter.unusedSimpArgs false
namespace Go.Am
section
variable {env : Sl an_} {s : ByteArray} {F : Nat}
end
theorem nu_ (a b : Int) : dM_ ⟨false, [⟨a⟩, ⟨b⟩]⟩ = some (if a = 0 then b else a) := by
 refine iZ_ _ _ ?_
 unfold eK_
 by_cases ha : a = 0
 ·subst ha
  by_cases hb : b = 0
  ·subst hb
   rw [aK_ (s' := 1) rfl (aK_ (s' := 2) rfl (aw_ rfl))]; rfl
  ·rw [aK_ (s' := 1) rfl (aw_ (r := .inr b) (by
    show (if (!decide (b = 0)) = true then _ else _) = _
    rw [if_pos (by simp [hb])]))]; rfl
 ·rw [aw_ (r := .inr a) (by
    show (if (!decide (a = 0)) = true then _ else _) = _
    rw [if_pos (by simp [ha])]), if_neg ha]; rfl
theorem jG_ (b : Bool) (a : Int) : cn_ b a = some (if b = true then 0 else a) := by
 refine h6_ b a _ ?_
 unfold ex_
 cases b <;> rfl
def AskP (env : Sl an_) (p : DPattern) (s : ByteArray) : Prop := EnvP env ∧ VPat p ∧ (s.size : Int) ≤ 200
noncomputable def askV (env : Sl an_) (p : DPattern) (s : ByteArray) (f : Int) : Int := if says (AskP env p s) = true then (if says (0 ≤ f ∧ f ≤ 20000) = true then 0 else 3) else 1
theorem rv_ (env : Sl an_) (p : DPattern) (s : ByteArray) (f : Int) (hE : n9_ env) (hp : SmPt p) : fx_ env p s f = some (askV env p s f) ∧ cy_ env p s f = some (askV env p s f) := by
 refine ⟨ik_ env p s f _ ?_, f6_ env p s f _ ?_⟩
 ·unfold er_
  rw [env1 env hE, Option.bind_some, qd_ p hp, Option.bind_some, in1, Option.bind_some]
  unfold askV AskP
  by_cases h1 : EnvP env
  ·by_cases h2 : VPat p
   ·by_cases h3 : (s.size : Int) ≤ 200
    ·rw [aV_ h1, aV_ h2, aV_ (show EnvP env ∧ VPat p ∧ (s.size : Int) ≤ 200 from ⟨h1, h2, h3⟩), if_neg (by simp), if_neg (by simp), if_neg (by simp; omega), if_pos rfl]
     cases says (0 ≤ f ∧ f ≤ 20000) <;> rfl
    ·rw [aV_ h1, aV_ h2, aP_ (fun w : EnvP env ∧ VPat p ∧ (s.size : Int) ≤ 200 => h3 w.2.2), if_neg (by simp), if_neg (by simp), if_pos (by simp; omega)]; rfl
   ·rw [aV_ h1, aP_ h2, aP_ (fun w : EnvP env ∧ VPat p ∧ (s.size : Int) ≤ 200 => h2 w.2.1), if_neg (by simp), if_pos (by simp)]; rfl
  ·rw [aP_ h1, aP_ (fun w : EnvP env ∧ VPat p ∧ (s.size : Int) ≤ 200 => h1 w.1), if_pos (by simp)]; rfl
 ·unfold cD_
  rw [jX_ (env2 env hE) fun _ => jX_ (ps_ p hp) fun _ => d4_ (lQ_ s), Option.bind_some, jG_, Option.bind_some, in2, Option.bind_some, jG_, Option.bind_some, nu_]
  unfold askV AskP
  cases says (EnvP env ∧ VPat p ∧ (s.size : Int) ≤ 200) <;> cases says (0 ≤ f ∧ f ≤ 20000) <;> rfl
end Go.Am
end
