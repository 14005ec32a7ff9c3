/- The law. -/
import Derived.Test.YtkgmfmcpbgffpaaAg0
import Derived.Test.YtkgmfmcpbgffpaaAg2
import Derived.Test.YtkgmfmcpbgffpaaAg1
import Derived.Test.YtkgmfmcpbgffpaaAl22
section
set_option maxRecDepth 100000
set_option maxHeartbeats 4000000
set_option linter.unusedVariables false
set_option linter.unusedSimpArgs false
namespace Go.Am
noncomputable abbrev IMF (p : DPattern) (starts : Sl (Iv .i64)) (x : (Int × (Sl DNamed) × ByteArray × Int × Int × Int × Int × Bool × Int × (Sl DCapture) × (Sl DCapture) × (Sl DMatch))) : Option (((Sl DNamed) × ByteArray × Int × Int × Int × Int × Bool × Int × (Sl DCapture) × (Sl DCapture) × (Sl DMatch))) := az_ (S := (Int × (Sl DNamed) × ByteArray × Int × Int × Int × Int × Bool × Int × (Sl DCapture) × (Sl DCapture) × (Sl DMatch))) (R := ((Sl DNamed) × ByteArray × Int × Int × Int × Int × Bool × Int × (Sl DCapture) × (Sl DCapture) × (Sl DMatch))) (fun st1 => (if (decide (st1.1 < (starts.l.length : Int))) = true then ((elt starts st1.1).bind fun y2 => ((cQ_ (⟨st1.2.1, st1.2.2.1, st1.2.2.2.1, st1.2.2.2.2.1, y2.v, st1.2.2.2.2.2.2.2.2.2.1, st1.2.2.2.2.2.2.2.2.2.2.1, st1.2.2.2.2.2.2.2.2.2.2.2, st1.2.2.2.2.2.2.1, st1.2.2.2.2.2.2.2.1, T.nilm, st1.2.2.2.2.2.2.2.2.1⟩ : aa_) p y2.v (fun e (S : aa_) => aK_ S e)).bind fun y3 => (if (!y3.1) = true then (some (.inr (y3.2.env_, y3.2.subject_, y3.2.fuel_, y3.2.steps_, y3.2.start_, y3.2.most_, y3.2.isMere_, y3.2.code_, y3.2.now_, y3.2.conds_, y3.2.matches_))) else (some (.inl ((w4 (st1.1 + 1)), y3.2.env_, y3.2.subject_, y3.2.fuel_, y3.2.steps_, y3.2.start_, y3.2.most_, y3.2.isMere_, y3.2.code_, y3.2.now_, y3.2.conds_, y3.2.matches_)))))) else (some (.inr (st1.2.1, st1.2.2.1, st1.2.2.2.1, st1.2.2.2.2.1, st1.2.2.2.2.2.1, st1.2.2.2.2.2.2.1, st1.2.2.2.2.2.2.2.1, st1.2.2.2.2.2.2.2.2.1, st1.2.2.2.2.2.2.2.2.2.1, st1.2.2.2.2.2.2.2.2.2.2.1, st1.2.2.2.2.2.2.2.2.2.2.2))))) x
section
variable {env : Sl DNamed} {s : ByteArray} {F : Nat}
end
theorem ug_ (a b : Int) : fY_ ⟨false, [⟨a⟩, ⟨b⟩]⟩ = some (if a = 0 then b else a) := by
 refine lH_ _ _ ?_
 unfold ga_
 by_cases ha : a = 0
 ·subst ha
  by_cases hb : b = 0
  ·subst hb
   rw [av_ (s' := 1) rfl (av_ (s' := 2) rfl (ai_ rfl))]; rfl
  ·rw [av_ (s' := 1) rfl (ai_ (r := .inr b) (by
    show (if (!decide (b = 0)) = true then _ else _) = _
    rw [if_pos (by simp [hb])]))]; rfl
 ·rw [ai_ (r := .inr a) (by
    show (if (!decide (a = 0)) = true then _ else _) = _
    rw [if_pos (by simp [ha])]), if_neg ha]; rfl
theorem py_ (b : Bool) (a : Int) : ed_ b a = some (if b = true then 0 else a) := by
 refine kl_ b a _ ?_
 unfold fp_
 cases b <;> rfl
def AskP (env : Sl DNamed) (p : DPattern) (s : ByteArray) : Prop := EnvP env ∧ VPat p ∧ (s.size : Int) ≤ 200
noncomputable def askV (env : Sl DNamed) (p : DPattern) (s : ByteArray) (f : Int) : Int := if says (AskP env p s) = true then (if says (0 ≤ f ∧ f ≤ 20000) = true then 0 else 3) else 1
theorem vw_ (env : Sl DNamed) (p : DPattern) (s : ByteArray) (f : Int) (hE : qk_ env) (hp : SmPt p) : g5_ env p s f = some (askV env p s f) ∧ dB_ env p s f = some (askV env p s f) := by
 refine ⟨kh_ env p s f _ ?_, hD_ env p s f _ ?_⟩
 ·unfold fs_
  rw [env1 env hE, Option.bind_some, sH_ p hp, Option.bind_some, in1, Option.bind_some]
  unfold askV AskP
  by_cases h1 : EnvP env
  ·by_cases h2 : VPat p
   ·by_cases h3 : (s.size : Int) ≤ 200
    ·rw [aZ_ h1, aZ_ h2, aZ_ (show EnvP env ∧ VPat p ∧ (s.size : Int) ≤ 200 from ⟨h1, h2, h3⟩), if_neg (by simp), if_neg (by simp), if_neg (by simp; omega), if_pos rfl]
     cases says (0 ≤ f ∧ f ≤ 20000) <;> rfl
    ·rw [aZ_ h1, aZ_ h2, aP_ (fun w : EnvP env ∧ VPat p ∧ (s.size : Int) ≤ 200 => h3 w.2.2), if_neg (by simp), if_neg (by simp), if_pos (by simp; omega)]; rfl
   ·rw [aZ_ h1, aP_ h2, aP_ (fun w : EnvP env ∧ VPat p ∧ (s.size : Int) ≤ 200 => h2 w.2.1), if_neg (by simp), if_pos (by simp)]; rfl
  ·rw [aP_ h1, aP_ (fun w : EnvP env ∧ VPat p ∧ (s.size : Int) ≤ 200 => h1 w.1), if_pos (by simp)]; rfl
 ·unfold dt_
  rw [nd_ (env2 env hE) fun _ => nd_ (rD_ p hp) fun _ => fm_ (oF_ s), Option.bind_some, py_, Option.bind_some, in2, Option.bind_some, py_, Option.bind_some, ug_]
  unfold askV AskP
  cases says (EnvP env ∧ VPat p ∧ (s.size : Int) ≤ 200) <;> cases says (0 ≤ f ∧ f ≤ 20000) <;> rfl
theorem lU_ (s : ByteArray) (b : Bool) (hs : s.size ≤ 200) : ∀ (m j : Nat), j + m = s.size + 1 → ∀ st : Sl (Iv .i64), st.l.length ≤ j → (∀ x ∈ st.l, 0 ≤ x.v ∧ x.v ≤ s.size) → ∃ w : Sl (Iv .i64), az_ (S := (Int × (Sl (Iv .i64)))) (R := (Sl (Iv .i64))) (fun st1 => (if (decide (st1.1 ≤ (s.size : Int))) = true then (if (!b) = true then ((appS 8 st1.2 (⟨false, [⟨st1.1⟩]⟩ : Sl (Iv .i64))).bind fun y2 => (some (.inl ((w4 (st1.1 + 1)), y2)))) else (some (.inr st1.2))) else (some (.inr st1.2)))) ((j : Int), st) = some w ∧ w.l.length ≤ s.size + 1 ∧ ∀ x ∈ w.l, 0 ≤ x.v ∧ x.v ≤ s.size := by
 intro m
 induction m with
 | zero =>
  intro j hj st h1 h2
  refine ⟨st, ai_ ?_, by omega, h2⟩
  show (if decide ((j : Int) ≤ (s.size : Int)) = true then _ else _) = _
  rw [if_neg (by simp; omega)]
 | succ m ih =>
  intro j hj st h1 h2
  have ec : ((j + 1 : Nat) : Int) = (j : Int) + 1 := by simp
  cases b with
  | true =>
   refine ⟨st, ai_ ?_, by omega, h2⟩
   show (if decide ((j : Int) ≤ (s.size : Int)) = true then _ else _) = _
   rw [if_pos (by simp; omega)]; rfl
  | false =>
   obtain ⟨z, l⟩ := st
   have h1 : l.length ≤ j := h1
   obtain ⟨w, w1, w2, w3⟩ := ih (j + 1) (by omega) ⟨false, l ++ [⟨(j : Int)⟩]⟩ (by simp; omega) (fun x hx => by
    rcases List.mem_append.1 hx with h | h
    ·exact h2 x h
    ·rw [List.mem_singleton] at h; subst h; exact ⟨by simp, by show (j : Int) ≤ _; omega⟩)
   rw [ec] at w1
   refine ⟨w, av_ ?_ w1, w2, w3⟩
   show (if decide ((j : Int) ≤ (s.size : Int)) = true then ((appS 8 (⟨z, l⟩ : Sl (Iv .i64)) ⟨false, [⟨(j : Int)⟩]⟩).bind _) else _) = _
   rw [if_pos (by simp; omega), ef_ (by omega), Option.bind_some]
   show some (Sum.inl (w4 ((j : Int) + 1), _)) = _
   rw [aV_ (by omega) (by omega)]
theorem qv_ (s : ByteArray) (b : Bool) (hs : s.size ≤ 200) : ∃ w : Sl (Iv .i64), fR_ s b = some w ∧ dd_ s b = some w ∧ w.l.length ≤ 1000 ∧ ∀ x ∈ w.l, 0 ≤ x.v ∧ x.v ≤ s.size := by
 obtain ⟨w, h1, h2, h3⟩ := lU_ s b hs s.size 1 (by omega) ⟨false, [⟨0⟩]⟩ (by simp) (fun x hx => by rw [List.mem_singleton] at hx; subst hx; exact ⟨by simp, by simp⟩)
 rw [show ((1 : Nat) : Int) = 1 from rfl] at h1
 refine ⟨w, ib_ s b w ?_, i6_ s b w ?_, by omega, h3⟩
 ·unfold dV_; rw [h1]; rfl
 ·unfold ev_; rw [h1]; rfl
end Go.Am
end
