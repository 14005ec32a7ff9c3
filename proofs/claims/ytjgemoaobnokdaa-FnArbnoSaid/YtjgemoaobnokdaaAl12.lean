/- The law. -/
import Derived.Test.YtjgemoaobnokdaaAg0
import Derived.Test.YtjgemoaobnokdaaAg2
import Derived.Test.YtjgemoaobnokdaaAg1
import Derived.Test.YtjgemoaobnokdaaAg3
import Derived.Test.YtjgemoaobnokdaaAl11
section
set_option maxRecDepth 100000
set_option maxHeartbeats 4000000
set_option linter.unusedVariables false
set_option linter.unusedSimpArgs false
namespace Go.Am
noncomputable abbrev IMF (p : DPattern) (starts : Sl (Iv .i64)) (x : (Int × (Sl DNamed) × ByteArray × Int × Int × Int × Int × Bool × Int × (Sl DCapture) × (Sl DCapture) × (Sl DMatch))) : Option (((Sl DNamed) × ByteArray × Int × Int × Int × Int × Bool × Int × (Sl DCapture) × (Sl DCapture) × (Sl DMatch))) := aC_ (S := (Int × (Sl DNamed) × ByteArray × Int × Int × Int × Int × Bool × Int × (Sl DCapture) × (Sl DCapture) × (Sl DMatch))) (R := ((Sl DNamed) × ByteArray × Int × Int × Int × Int × Bool × Int × (Sl DCapture) × (Sl DCapture) × (Sl DMatch))) (fun st1 => (if (decide (st1.1 < (starts.l.length : Int))) = true then ((elt starts st1.1).bind fun y2 => ((bk_ (⟨st1.2.1, st1.2.2.1, st1.2.2.2.1, st1.2.2.2.2.1, y2.v, st1.2.2.2.2.2.2.2.2.2.1, st1.2.2.2.2.2.2.2.2.2.2.1, st1.2.2.2.2.2.2.2.2.2.2.2, st1.2.2.2.2.2.2.1, st1.2.2.2.2.2.2.2.1, T.nilm, st1.2.2.2.2.2.2.2.2.1⟩ : aa_) p y2.v (fun e (S : aa_) => aj_ S e)).bind fun y3 => (if (!y3.1) = true then (some (.inr (y3.2.env_, y3.2.subject_, y3.2.fuel_, y3.2.steps_, y3.2.start_, y3.2.most_, y3.2.isMere_, y3.2.code_, y3.2.now_, y3.2.conds_, y3.2.matches_))) else (some (.inl ((w4 (st1.1 + 1)), y3.2.env_, y3.2.subject_, y3.2.fuel_, y3.2.steps_, y3.2.start_, y3.2.most_, y3.2.isMere_, y3.2.code_, y3.2.now_, y3.2.conds_, y3.2.matches_)))))) else (some (.inr (st1.2.1, st1.2.2.1, st1.2.2.2.1, st1.2.2.2.2.1, st1.2.2.2.2.2.1, st1.2.2.2.2.2.2.1, st1.2.2.2.2.2.2.2.1, st1.2.2.2.2.2.2.2.2.1, st1.2.2.2.2.2.2.2.2.2.1, st1.2.2.2.2.2.2.2.2.2.2.1, st1.2.2.2.2.2.2.2.2.2.2.2))))) x
noncomputable abbrev RMF (p : DPattern) (starts : Sl (Iv .i64)) (x : (Int × (Sl DNamed) × ByteArray × Int × Int × Int × Bool × Bool × Bool × Int × (Sl ah_) × (Sl DMatch) × (Sl DCapture) × (Sl DCapture))) : Option (((Sl DNamed) × ByteArray × Int × Int × Int × Bool × Bool × Bool × Int × (Sl ah_) × (Sl DMatch) × (Sl DCapture) × (Sl DCapture))) := aC_ (S := (Int × (Sl DNamed) × ByteArray × Int × Int × Int × Bool × Bool × Bool × Int × (Sl ah_) × (Sl DMatch) × (Sl DCapture) × (Sl DCapture))) (R := ((Sl DNamed) × ByteArray × Int × Int × Int × Bool × Bool × Bool × Int × (Sl ah_) × (Sl DMatch) × (Sl DCapture) × (Sl DCapture))) (fun st1 => (if (decide (st1.1 < (starts.l.length : Int))) = true then (if st1.2.2.2.2.2.2.2.1 = true then (some (.inr (st1.2.1, st1.2.2.1, st1.2.2.2.1, st1.2.2.2.2.1, st1.2.2.2.2.2.1, st1.2.2.2.2.2.2.1, st1.2.2.2.2.2.2.2.1, st1.2.2.2.2.2.2.2.2.1, st1.2.2.2.2.2.2.2.2.2.1, st1.2.2.2.2.2.2.2.2.2.2.1, st1.2.2.2.2.2.2.2.2.2.2.2.1, st1.2.2.2.2.2.2.2.2.2.2.2.2.1, st1.2.2.2.2.2.2.2.2.2.2.2.2.2))) else (if st1.2.2.2.2.2.2.2.2.1 = true then (some (.inr (st1.2.1, st1.2.2.1, st1.2.2.2.1, st1.2.2.2.2.1, st1.2.2.2.2.2.1, st1.2.2.2.2.2.2.1, st1.2.2.2.2.2.2.2.1, st1.2.2.2.2.2.2.2.2.1, st1.2.2.2.2.2.2.2.2.2.1, st1.2.2.2.2.2.2.2.2.2.2.1, st1.2.2.2.2.2.2.2.2.2.2.2.1, st1.2.2.2.2.2.2.2.2.2.2.2.2.1, st1.2.2.2.2.2.2.2.2.2.2.2.2.2))) else (if (!(!decide (st1.2.2.2.2.2.2.2.2.2.1 = 0))) = true then ((elt starts st1.1).bind fun y2 => ((elt starts st1.1).bind fun y3 => ((cG_ (⟨st1.2.1, st1.2.2.1, st1.2.2.2.1, st1.2.2.2.2.1, st1.2.2.2.2.2.1, ⟨false, [(⟨(⟨0, 0, ⟨#[]⟩, ⟨true, []⟩⟩ : DPattern), y2.v, 0⟩ : ah_)]⟩, st1.2.2.2.2.2.2.2.2.2.2.2.1, st1.2.2.2.2.2.2.2.2.2.2.2.2.1, ⟨false, []⟩, st1.2.2.2.2.2.2.1, st1.2.2.2.2.2.2.2.1, st1.2.2.2.2.2.2.2.2.1, st1.2.2.2.2.2.2.2.2.2.1⟩ : ap_) p y3.v 0).bind fun y4 => (some (.inl ((w4 (st1.1 + 1)), y4.2.env_, y4.2.s_, y4.2.fuel_, y4.2.mode_, y4.2.steps_, y4.2.full_, y4.2.abort_, y4.2.stop_, y4.2.code_, y4.2.conts_, y4.2.out_, y4.2.now_, y4.2.conds_)))))) else (some (.inr (st1.2.1, st1.2.2.1, st1.2.2.2.1, st1.2.2.2.2.1, st1.2.2.2.2.2.1, st1.2.2.2.2.2.2.1, st1.2.2.2.2.2.2.2.1, st1.2.2.2.2.2.2.2.2.1, st1.2.2.2.2.2.2.2.2.2.1, st1.2.2.2.2.2.2.2.2.2.2.1, st1.2.2.2.2.2.2.2.2.2.2.2.1, st1.2.2.2.2.2.2.2.2.2.2.2.2.1, st1.2.2.2.2.2.2.2.2.2.2.2.2.2)))))) else (some (.inr (st1.2.1, st1.2.2.1, st1.2.2.2.1, st1.2.2.2.2.1, st1.2.2.2.2.2.1, st1.2.2.2.2.2.2.1, st1.2.2.2.2.2.2.2.1, st1.2.2.2.2.2.2.2.2.1, st1.2.2.2.2.2.2.2.2.2.1, st1.2.2.2.2.2.2.2.2.2.2.1, st1.2.2.2.2.2.2.2.2.2.2.2.1, st1.2.2.2.2.2.2.2.2.2.2.2.2.1, st1.2.2.2.2.2.2.2.2.2.2.2.2.2))))) x
section
variable {env : Sl DNamed} {s : ByteArray} {F : Nat}
def Res (S : aa_) (r : ap_) : Prop := Fin S r ∨ (S.code_ = 0 ∧ r.code_ = 0 ∧ r.full_ = false ∧ S.matches_.l.map (fun x => x.End) = r.out_.l.map (fun x => x.End) ∧ S.matches_.l.length ≤ 60)
theorem m2_ {p : DPattern} {starts : Sl (Iv .i64)} (hs : s.size ≤ 200) (hE : ∀ x ∈ env.l, VP x.Pattern) (hEl : env.l.length ≤ 40) (hv : VP p) (hst : ∀ x ∈ starts.l, 0 ≤ x.v ∧ x.v ≤ s.size) (hl : starts.l.length ≤ 1000) :
  ∀ (m i : Nat), i + m = starts.l.length → ∀ M nw cd mt csx ou nw2 cdx st0, Inv F M nw cd mt ⟨false, [⟨⟨0, 0, ⟨#[]⟩, ⟨true, []⟩⟩, 0, 0⟩]⟩ ou nw2 ⟨false, []⟩ →
  ∃ S' r', IMF p starts ((i : Int), env, s, (F : Int), (F : Int) - M, st0, 0, false, 0, nw, cd, mt) = some (e2_ S') ∧
   RMF p starts ((i : Int), env, s, (F : Int), 1, (F : Int) - M, false, false, false, 0, csx, ou, nw2, cdx) = some (unR r') ∧ Res S' r' := by
 intro m
 induction m with
 | zero =>
  intro i hi M nw cd mt csx ou nw2 cdx st0 hinv
  have d0 : decide ((i : Int) < (starts.l.length : Int)) = false := by simp; omega
  refine ⟨sI env s F ((F : Int) - M) st0 nw cd mt, sR env s F ((F : Int) - M) csx ou nw2 cdx, an_ ?_, an_ ?_, .inr ⟨rfl, rfl, rfl, hinv.hmt, hinv.hml⟩⟩
  ·simp only [d0, Bool.false_eq_true, if_false]
  ·simp only [d0, Bool.false_eq_true, if_false]
 | succ m ih =>
  intro i hi M nw cd mt csx ou nw2 cdx st0 hinv
  have hlt : i < starts.l.length := by omega
  have d0 : decide ((i : Int) < (starts.l.length : Int)) = true := by simp; omega
  have ec : ((i + 1 : Nat) : Int) = (i : Int) + 1 := by simp
  have w1 : w4 ((i : Int) + 1) = (i : Int) + 1 := aS_ (by omega) (by omega)
  obtain ⟨h0, h1⟩ := hst _ (List.getElem_mem hlt)
  obtain ⟨c, hc⟩ : ∃ c : Nat, starts.l[i].v = c := ⟨starts.l[i].v.toNat, by omega⟩
  have hel := bC_ hlt
  have hF := hinv.hF
  have hMF := hinv.hM
  have hEE : EE = 30002 := rfl
  have hi2 : Inv F M nw cd mt ⟨false, [⟨⟨0, 0, ⟨#[]⟩, ⟨true, []⟩⟩, starts.l[i].v, 0⟩]⟩ ou nw2 ⟨false, []⟩ := ⟨hinv.hF, hinv.hM, hinv.hnw, hinv.hcd, hinv.hcap, hinv.hmt, hinv.hml, hinv.hcl⟩
  have hfo : KOk env s F M 0 starts.l[i].v (fun e (S : aa_) => aj_ S e) [⟨⟨0, 0, ⟨#[]⟩, ⟨true, []⟩⟩, starts.l[i].v, 0⟩] c := (lG_ (env := env) (s := s) (F := F) (M := M) (C := []) rfl).mono (Nat.le_refl _) ⟨[], rfl⟩ (Nat.zero_le _)
  have hbig : bigN = 100000000000 := rfl
  obtain ⟨b, S', r', g1, g2, g3⟩ := o1_ hs hE hEl M starts.l[i].v nw cd mt _ ou nw2 _ p c 0 _ bigN bigN hi2 hv (by omega) (by simp) hfo (by rw [hbig]; omega) (by rw [hbig, hEE]; omega)
  have g1 : bk_ (sI env s F ((F : Int) - M) starts.l[i].v nw cd mt) p starts.l[i].v (fun e (S : aa_) => aj_ S e) = some (b, S') := by
   unfold bk_; rw [hc] at g1 ⊢; exact g1
  have g2 : cG_ (sR env s F ((F : Int) - M) ⟨false, [⟨⟨0, 0, ⟨#[]⟩, ⟨true, []⟩⟩, starts.l[i].v, 0⟩]⟩ ou nw2 ⟨false, []⟩) p starts.l[i].v 0 = some ((), r') := by
   unfold cG_; rw [hc] at g2 ⊢; exact g2
  have hR : ∀ z, RMF p starts ((i : Int) + 1, unR r') = some z → RMF p starts ((i : Int), env, s, (F : Int), 1, (F : Int) - M, false, false, false, 0, csx, ou, nw2, cdx) = some z := fun z hz => by
   refine ay_ ?_ hz
   simp only [d0, decide_true, Bool.false_eq_true, Bool.not_true, Bool.not_false, if_true, if_false, hel, g2, Option.bind_some, w1]
  cases b with
  | false =>
   refine ⟨S', r', an_ ?_, hR _ (an_ ?_), .inl (g3.no rfl)⟩
   ·simp only [d0, if_true, hel, Option.bind_some, g1, Bool.not_false]
   ·have ho := (g3.no rfl).over
    dsimp only [unR]
    split
    ·split
     ·rfl
     ·split
      ·rfl
      ·rename_i h1 h2
       have h3 : r'.code_ ≠ 0 := by
        rcases ho with h | h | h
        ·exact absurd h h1
        ·exact absurd h h2
        ·exact h
       rw [if_neg (by simp [h3])]
    ·rfl
  | true =>
   obtain ⟨M2, nw', cd', mt', cs', ou', nw2', cd2', q1, rfl, rfl, q4, q5⟩ := g3.go rfl
   have hcd0 : cd.l.length = 0 := hinv.hcd
   have hi3 : Inv F M2 nw' cd' mt' ⟨false, [⟨⟨0, 0, ⟨#[]⟩, ⟨true, []⟩⟩, 0, 0⟩]⟩ ou' nw2' ⟨false, []⟩ := ⟨hF, by omega, q4.hnw, by rw [q5, hcd0]; rfl, q4.hcap, q4.hmt, q4.hml, by simp; omega⟩
   obtain ⟨S', r', u1, u2, u3⟩ := ih (i + 1) (by omega) M2 nw' cd' mt' cs' ou' nw2' cd2' starts.l[i].v hi3
   rw [ec] at u1 u2
   refine ⟨S', r', ay_ ?_ u1, hR _ u2, u3⟩
   simp only [d0, if_true, hel, Option.bind_some, g1, Bool.not_true, Bool.false_eq_true, if_false, w1]
end
theorem o9_ (a b : Int) : er_ ⟨false, [⟨a⟩, ⟨b⟩]⟩ = some (if a = 0 then b else a) := by
 refine jV_ _ _ ?_
 unfold fD_
 by_cases ha : a = 0
 ·subst ha
  by_cases hb : b = 0
  ·subst hb
   rw [ay_ (s' := 1) rfl (ay_ (s' := 2) rfl (an_ rfl))]; rfl
  ·rw [ay_ (s' := 1) rfl (an_ (r := .inr b) (by
    show (if (!decide (b = 0)) = true then _ else _) = _
    rw [if_pos (by simp [hb])]))]; rfl
 ·rw [an_ (r := .inr a) (by
    show (if (!decide (a = 0)) = true then _ else _) = _
    rw [if_pos (by simp [ha])]), if_neg ha]; rfl
theorem k3_ (b : Bool) (a : Int) : cX_ b a = some (if b = true then 0 else a) := by
 refine je_ b a _ ?_
 unfold eX_
 cases b <;> rfl
def AskP (env : Sl DNamed) (p : DPattern) (s : ByteArray) : Prop := EnvP env ∧ VPat p ∧ (s.size : Int) ≤ 200
noncomputable def askV (env : Sl DNamed) (p : DPattern) (s : ByteArray) (f : Int) : Int := if says (AskP env p s) = true then (if says (0 ≤ f ∧ f ≤ 20000) = true then 0 else 3) else 1
theorem tG_ (env : Sl DNamed) (p : DPattern) (s : ByteArray) (f : Int) (hE : ol_ env) (hp : SmPt p) : gy_ env p s f = some (askV env p s f) ∧ da_ env p s f = some (askV env p s f) := by
 refine ⟨iQ_ env p s f _ ?_, gX_ env p s f _ ?_⟩
 ·unfold e3_
  rw [env1 env hE, Option.bind_some, sQ_ p hp, Option.bind_some, in1, Option.bind_some]
  unfold askV AskP
  by_cases h1 : EnvP env
  ·by_cases h2 : VPat p
   ·by_cases h3 : (s.size : Int) ≤ 200
    ·rw [a4_ h1, a4_ h2, a4_ (show EnvP env ∧ VPat p ∧ (s.size : Int) ≤ 200 from ⟨h1, h2, h3⟩), if_neg (by simp), if_neg (by simp), if_neg (by simp; omega), if_pos rfl]
     cases says (0 ≤ f ∧ f ≤ 20000) <;> rfl
    ·rw [a4_ h1, a4_ h2, aT_ (fun w : EnvP env ∧ VPat p ∧ (s.size : Int) ≤ 200 => h3 w.2.2), if_neg (by simp), if_neg (by simp), if_pos (by simp; omega)]; rfl
   ·rw [a4_ h1, aT_ h2, aT_ (fun w : EnvP env ∧ VPat p ∧ (s.size : Int) ≤ 200 => h2 w.2.1), if_neg (by simp), if_pos (by simp)]; rfl
  ·rw [aT_ h1, aT_ (fun w : EnvP env ∧ VPat p ∧ (s.size : Int) ≤ 200 => h1 w.1), if_pos (by simp)]; rfl
 ·unfold c8_
  rw [lH_ (env2 env hE) fun _ => lH_ (sJ_ p hp) fun _ => eM_ (mQ_ s), Option.bind_some, k3_, Option.bind_some, in2, Option.bind_some, k3_, Option.bind_some, o9_]
  unfold askV AskP
  cases says (EnvP env ∧ VPat p ∧ (s.size : Int) ≤ 200) <;> cases says (0 ≤ f ∧ f ≤ 20000) <;> rfl
end Go.Am
end
