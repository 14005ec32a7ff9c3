/- The law. -/
import Derived.Test.YtnihabnkoegdjaaAg4
import Derived.Test.YtnihabnkoegdjaaAg1
import Derived.Test.YtnihabnkoegdjaaAg2
import Derived.Test.YtnihabnkoegdjaaAg3
import Derived.Test.YtnihabnkoegdjaaAl7
section
set_option maxRecDepth 100000
set_option maxHeartbeats 4000000
set_option linter.unusedVariables false
set_option linter.unusedSimpArgs false
namespace Go.Am
namespace Nt
noncomputable abbrev IMF (p : DPattern) (starts : Sl (Iv .i64)) (x : (Int × (Sl DNamed) × ByteArray × Int × Int × Int × Int × Bool × Int × (Sl DCapture) × (Sl DCapture) × (Sl DMatch))) : Option (((Sl DNamed) × ByteArray × Int × Int × Int × Int × Bool × Int × (Sl DCapture) × (Sl DCapture) × (Sl DMatch))) := aA_ (S := (Int × (Sl DNamed) × ByteArray × Int × Int × Int × Int × Bool × Int × (Sl DCapture) × (Sl DCapture) × (Sl DMatch))) (R := ((Sl DNamed) × ByteArray × Int × Int × Int × Int × Bool × Int × (Sl DCapture) × (Sl DCapture) × (Sl DMatch))) (fun st1 => (if (decide (st1.1 < (starts.l.length : Int))) = true then ((elt starts st1.1).bind fun y2 => ((br_ (⟨st1.2.1, st1.2.2.1, st1.2.2.2.1, st1.2.2.2.2.1, y2.v, st1.2.2.2.2.2.2.2.2.2.1, st1.2.2.2.2.2.2.2.2.2.2.1, st1.2.2.2.2.2.2.2.2.2.2.2, st1.2.2.2.2.2.2.1, st1.2.2.2.2.2.2.2.1, T.nilm, st1.2.2.2.2.2.2.2.2.1⟩ : aa_) p y2.v (fun e (S : aa_) => aJ_ S e)).bind fun y3 => (if (!y3.1) = true then (some (.inr (y3.2.env_, y3.2.subject_, y3.2.fuel_, y3.2.steps_, y3.2.start_, y3.2.most_, y3.2.isMere_, y3.2.code_, y3.2.now_, y3.2.conds_, y3.2.matches_))) else (some (.inl ((w4 (st1.1 + 1)), y3.2.env_, y3.2.subject_, y3.2.fuel_, y3.2.steps_, y3.2.start_, y3.2.most_, y3.2.isMere_, y3.2.code_, y3.2.now_, y3.2.conds_, y3.2.matches_)))))) else (some (.inr (st1.2.1, st1.2.2.1, st1.2.2.2.1, st1.2.2.2.2.1, st1.2.2.2.2.2.1, st1.2.2.2.2.2.2.1, st1.2.2.2.2.2.2.2.1, st1.2.2.2.2.2.2.2.2.1, st1.2.2.2.2.2.2.2.2.2.1, st1.2.2.2.2.2.2.2.2.2.2.1, st1.2.2.2.2.2.2.2.2.2.2.2))))) x
noncomputable abbrev RMF (p : DPattern) (starts : Sl (Iv .i64)) (x : (Int × (Sl DNamed) × ByteArray × Int × Int × Int × Bool × Bool × Bool × Int × (Sl ag_) × (Sl DMatch) × (Sl DCapture) × (Sl DCapture))) : Option (((Sl DNamed) × ByteArray × Int × Int × Int × Bool × Bool × Bool × Int × (Sl ag_) × (Sl DMatch) × (Sl DCapture) × (Sl DCapture))) := aA_ (S := (Int × (Sl DNamed) × ByteArray × Int × Int × Int × Bool × Bool × Bool × Int × (Sl ag_) × (Sl DMatch) × (Sl DCapture) × (Sl DCapture))) (R := ((Sl DNamed) × ByteArray × Int × Int × Int × Bool × Bool × Bool × Int × (Sl ag_) × (Sl DMatch) × (Sl DCapture) × (Sl DCapture))) (fun st1 => (if (decide (st1.1 < (starts.l.length : Int))) = true then (if st1.2.2.2.2.2.2.2.1 = true then (some (.inr (st1.2.1, st1.2.2.1, st1.2.2.2.1, st1.2.2.2.2.1, st1.2.2.2.2.2.1, st1.2.2.2.2.2.2.1, st1.2.2.2.2.2.2.2.1, st1.2.2.2.2.2.2.2.2.1, st1.2.2.2.2.2.2.2.2.2.1, st1.2.2.2.2.2.2.2.2.2.2.1, st1.2.2.2.2.2.2.2.2.2.2.2.1, st1.2.2.2.2.2.2.2.2.2.2.2.2.1, st1.2.2.2.2.2.2.2.2.2.2.2.2.2))) else (if st1.2.2.2.2.2.2.2.2.1 = true then (some (.inr (st1.2.1, st1.2.2.1, st1.2.2.2.1, st1.2.2.2.2.1, st1.2.2.2.2.2.1, st1.2.2.2.2.2.2.1, st1.2.2.2.2.2.2.2.1, st1.2.2.2.2.2.2.2.2.1, st1.2.2.2.2.2.2.2.2.2.1, st1.2.2.2.2.2.2.2.2.2.2.1, st1.2.2.2.2.2.2.2.2.2.2.2.1, st1.2.2.2.2.2.2.2.2.2.2.2.2.1, st1.2.2.2.2.2.2.2.2.2.2.2.2.2))) else (if (!(!decide (st1.2.2.2.2.2.2.2.2.2.1 = 0))) = true then ((elt starts st1.1).bind fun y2 => ((elt starts st1.1).bind fun y3 => ((bY_ (⟨st1.2.1, st1.2.2.1, st1.2.2.2.1, st1.2.2.2.2.1, st1.2.2.2.2.2.1, ⟨false, [(⟨(⟨0, 0, ⟨#[]⟩, ⟨true, []⟩⟩ : DPattern), y2.v, 0⟩ : ag_)]⟩, st1.2.2.2.2.2.2.2.2.2.2.2.1, st1.2.2.2.2.2.2.2.2.2.2.2.2.1, ⟨false, []⟩, st1.2.2.2.2.2.2.1, st1.2.2.2.2.2.2.2.1, st1.2.2.2.2.2.2.2.2.1, st1.2.2.2.2.2.2.2.2.2.1⟩ : ak_) p y3.v 0).bind fun y4 => (some (.inl ((w4 (st1.1 + 1)), y4.2.env_, y4.2.s_, y4.2.fuel_, y4.2.mode_, y4.2.steps_, y4.2.full_, y4.2.abort_, y4.2.stop_, y4.2.code_, y4.2.conts_, y4.2.out_, y4.2.now_, y4.2.conds_)))))) else (some (.inr (st1.2.1, st1.2.2.1, st1.2.2.2.1, st1.2.2.2.2.1, st1.2.2.2.2.2.1, st1.2.2.2.2.2.2.1, st1.2.2.2.2.2.2.2.1, st1.2.2.2.2.2.2.2.2.1, st1.2.2.2.2.2.2.2.2.2.1, st1.2.2.2.2.2.2.2.2.2.2.1, st1.2.2.2.2.2.2.2.2.2.2.2.1, st1.2.2.2.2.2.2.2.2.2.2.2.2.1, st1.2.2.2.2.2.2.2.2.2.2.2.2.2)))))) else (some (.inr (st1.2.1, st1.2.2.1, st1.2.2.2.1, st1.2.2.2.2.1, st1.2.2.2.2.2.1, st1.2.2.2.2.2.2.1, st1.2.2.2.2.2.2.2.1, st1.2.2.2.2.2.2.2.2.1, st1.2.2.2.2.2.2.2.2.2.1, st1.2.2.2.2.2.2.2.2.2.2.1, st1.2.2.2.2.2.2.2.2.2.2.2.1, st1.2.2.2.2.2.2.2.2.2.2.2.2.1, st1.2.2.2.2.2.2.2.2.2.2.2.2.2))))) x
abbrev QS : MdQ := ⟨0, true, 3⟩
section
variable {env : Sl DNamed} {s : ByteArray} {F : Nat}
def ResS (S : aa_) (r : ak_) : Prop := Fin QS S r ∨ (S.code_ = 0 ∧ r.code_ = 0 ∧ S.steps_ = r.steps_)
theorem nH_ {p : DPattern} {starts : Sl (Iv .i64)} (hs : s.size ≤ 200) (hE : ∀ x ∈ env.l, VP x.Pattern) (hEl : env.l.length ≤ 40) (hv : VP p) (hst : ∀ x ∈ starts.l, 0 ≤ x.v ∧ x.v ≤ s.size) (hl : starts.l.length ≤ 1000) :
  ∀ (m i : Nat), i + m = starts.l.length → ∀ M nw cd mt csx ou nw2 cdx st0, Inv s F M nw cd mt ⟨false, [⟨⟨0, 0, ⟨#[]⟩, ⟨true, []⟩⟩, 0, 0⟩]⟩ ou nw2 ⟨false, []⟩ →
  ∃ S' r', IMF p starts ((i : Int), env, s, (F : Int), (F : Int) - M, st0, 0, true, 0, nw, cd, mt) = some (j1_ S') ∧
   RMF p starts ((i : Int), env, s, (F : Int), 3, (F : Int) - M, false, false, false, 0, csx, ou, nw2, cdx) = some (unR r') ∧ ResS S' r' := by
 intro m
 induction m with
 | zero =>
  intro i hi M nw cd mt csx ou nw2 cdx st0 hinv
  have d0 : decide ((i : Int) < (starts.l.length : Int)) = false := by simp; omega
  refine ⟨sI QS env s F ((F : Int) - M) st0 nw cd mt, sR QS env s F ((F : Int) - M) csx ou nw2 cdx, al_ ?_, al_ ?_, .inr ⟨rfl, rfl, rfl⟩⟩
  ·simp only [d0, Bool.false_eq_true, if_false]
  ·simp only [d0, Bool.false_eq_true, if_false]
 | succ m ih =>
  intro i hi M nw cd mt csx ou nw2 cdx st0 hinv
  have hlt : i < starts.l.length := by omega
  have d0 : decide ((i : Int) < (starts.l.length : Int)) = true := by simp; omega
  have ec : ((i + 1 : Nat) : Int) = (i : Int) + 1 := by simp
  have w1 : w4 ((i : Int) + 1) = (i : Int) + 1 := aT_ (by omega) (by omega)
  obtain ⟨h0, h1⟩ := hst _ (List.getElem_mem hlt)
  obtain ⟨c, hc⟩ : ∃ c : Nat, starts.l[i].v = c := ⟨starts.l[i].v.toNat, by omega⟩
  have hel := bQ_ hlt
  have hF := hinv.hF
  have hMF := hinv.hM
  have hEE : EE = 30002 := rfl
  have hi2 : Inv s F M nw cd mt ⟨false, [⟨⟨0, 0, ⟨#[]⟩, ⟨true, []⟩⟩, starts.l[i].v, 0⟩]⟩ ou nw2 ⟨false, []⟩ := ⟨hinv.hF, hinv.hM, hinv.nwE, hinv.cdE, hinv.hcap, hinv.mtE, hinv.hml, hinv.hcl⟩
  have hfo : KOk QS env s F M 0 starts.l[i].v (fun e (S : aa_) => aJ_ S e) [⟨⟨0, 0, ⟨#[]⟩, ⟨true, []⟩⟩, starts.l[i].v, 0⟩] c := ms_ (Q := QS) (env := env) (s := s) (F := F) (M := M) (C := []) rfl rfl rfl (c0 := c)
  have hbig : bigN = 100000000000 := rfl
  obtain ⟨b, S', r', g1, g2, g3⟩ := rM_ hs hE hEl M starts.l[i].v nw cd mt _ ou nw2 _ p c 0 _ bigN bigN hi2 hv (by omega) (by simp) hfo (by rw [hbig]; omega) (by rw [hbig, hEE]; omega)
  have g1 : br_ (sI QS env s F ((F : Int) - M) starts.l[i].v nw cd mt) p starts.l[i].v (fun e (S : aa_) => aJ_ S e) = some (b, S') := by
   unfold br_; rw [hc] at g1 ⊢; exact g1
  have g2 : bY_ (sR QS env s F ((F : Int) - M) ⟨false, [⟨⟨0, 0, ⟨#[]⟩, ⟨true, []⟩⟩, starts.l[i].v, 0⟩]⟩ ou nw2 ⟨false, []⟩) p starts.l[i].v 0 = some ((), r') := by
   unfold bY_; rw [hc] at g2 ⊢; exact g2
  have hR : ∀ z, RMF p starts ((i : Int) + 1, unR r') = some z → RMF p starts ((i : Int), env, s, (F : Int), 3, (F : Int) - M, false, false, false, 0, csx, ou, nw2, cdx) = some z := fun z hz => by
   refine ax_ ?_ hz
   simp only [d0, decide_true, Bool.false_eq_true, Bool.not_true, Bool.not_false, if_true, if_false, hel, g2, Option.bind_some, w1]
  cases b with
  | false =>
   refine ⟨S', r', al_ ?_, hR _ (al_ ?_), .inl (g3.no rfl)⟩
   ·simp only [d0, if_true, hel, Option.bind_some, g1, Bool.not_false]
   ·have ho := (g3.no rfl).over
    dsimp only [unR]
    split
    ·split
     ·rfl
     ·split
      ·rfl
      ·rename_i h1 h2
       have h3 : r'.code_ ≠ 0 := by
        rcases ho with h | h | h
        ·exact absurd h h1
        ·exact absurd h h2
        ·exact h
       rw [if_neg (by simp [h3])]
    ·rfl
  | true =>
   obtain ⟨M2, nw', cd', mt', cs', ou', nw2', cd2', q1, rfl, rfl, q4, q5⟩ := g3.go rfl
   have hcd0 : cd.l.length = 0 := hinv.hcd
   have hi3 : Inv s F M2 nw' cd' mt' ⟨false, [⟨⟨0, 0, ⟨#[]⟩, ⟨true, []⟩⟩, 0, 0⟩]⟩ ou' nw2' ⟨false, []⟩ := ⟨hF, by omega, q4.nwE, by show cd'.l = []; exact List.length_eq_zero_iff.1 (by rw [q5, hcd0]), q4.hcap, q4.mtE, q4.hml, by simp; omega⟩
   obtain ⟨S', r', u1, u2, u3⟩ := ih (i + 1) (by omega) M2 nw' cd' mt' cs' ou' nw2' cd2' starts.l[i].v hi3
   rw [ec] at u1 u2
   refine ⟨S', r', ax_ ?_ u1, hR _ u2, u3⟩
   simp only [d0, if_true, hel, Option.bind_some, g1, Bool.not_true, Bool.false_eq_true, if_false, w1]
theorem pi_ {p : DPattern} {starts : Sl (Iv .i64)} (hs : s.size ≤ 200) (hE : ∀ x ∈ env.l, VP x.Pattern) (hEl : env.l.length ≤ 40) (hv : VP p) (hst : ∀ x ∈ starts.l, 0 ≤ x.v ∧ x.v ≤ s.size) (hl : starts.l.length ≤ 1000) (f : Int) (hf : 0 ≤ f ∧ f ≤ 20000) :
  ∃ S' r', IMF p starts (0, env, s, f, 0, 0, 0, true, 0, ⟨true, []⟩, ⟨true, []⟩, ⟨true, []⟩) = some (j1_ S') ∧ RMF p starts (0, env, s, f, 3, 0, false, false, false, 0, ⟨true, []⟩, ⟨true, []⟩, ⟨true, []⟩, ⟨true, []⟩) = some (unR r') ∧ S'.code_ = r'.code_ ∧ (r'.code_ = 0 → S'.steps_ = r'.steps_) := by
 obtain ⟨F, rfl⟩ : ∃ F : Nat, f = F := ⟨f.toNat, by omega⟩
 obtain ⟨S', r', h1, h2, h3⟩ := nH_ (F := F) hs hE hEl hv hst hl starts.l.length 0 (by omega) F ⟨true, []⟩ ⟨true, []⟩ ⟨true, []⟩ ⟨true, []⟩ ⟨true, []⟩ ⟨true, []⟩ ⟨true, []⟩ 0 ⟨by omega, Nat.le_refl _, rfl, rfl, by decide, j5_.nil, by decide, by simp; omega⟩
 have e0 : (F : Int) - F = 0 := by omega
 rw [e0, show ((0 : Nat) : Int) = 0 from rfl] at h1 h2
 refine ⟨S', r', h1, h2, ?_⟩
 rcases h3 with (w | w | w) | w
 ·exact ⟨w.2.1, fun h => absurd h w.1⟩
 ·have := w.2.2.2.2.2.2; cases this
 ·exact ⟨by rw [w.1, w.2.2.2.1], fun _ => w.2.2.2.2.2.2⟩
 ·exact ⟨by rw [w.1, w.2.1], fun _ => w.2.2⟩
end
theorem o3_ (a b : Int) : dm_ ⟨false, [⟨a⟩, ⟨b⟩]⟩ = some (if a = 0 then b else a) := by
 refine ke_ _ _ ?_
 unfold fw_
 by_cases ha : a = 0
 ·subst ha
  by_cases hb : b = 0
  ·subst hb
   rw [ax_ (s' := 1) rfl (ax_ (s' := 2) rfl (al_ rfl))]; rfl
  ·rw [ax_ (s' := 1) rfl (al_ (r := .inr b) (by
    show (if (!decide (b = 0)) = true then _ else _) = _
    rw [if_pos (by simp [hb])]))]; rfl
 ·rw [al_ (r := .inr a) (by
    show (if (!decide (a = 0)) = true then _ else _) = _
    rw [if_pos (by simp [ha])]), if_neg ha]; rfl
theorem kR_ (b : Bool) (a : Int) : bH_ b a = some (if b = true then 0 else a) := by
 refine jz_ b a _ ?_
 unfold e5_
 cases b <;> rfl
def AskP (env : Sl DNamed) (p : DPattern) (s : ByteArray) : Prop := EnvP env ∧ VPat p ∧ (s.size : Int) ≤ 200
noncomputable def askV (env : Sl DNamed) (p : DPattern) (s : ByteArray) (f : Int) : Int := if says (AskP env p s) = true then (if says (0 ≤ f ∧ f ≤ 20000) = true then 0 else 3) else 1
theorem ty_ (env : Sl DNamed) (p : DPattern) (s : ByteArray) (f : Int) (hE : mY_ env) (hp : SmPt p) : e9_ env p s f = some (askV env p s f) ∧ da_ env p s f = some (askV env p s f) := by
 refine ⟨iZ_ env p s f _ ?_, gO_ env p s f _ ?_⟩
 ·unfold eU_
  rw [env1 env hE, Option.bind_some, rm_ p hp, Option.bind_some, in1, Option.bind_some]
  unfold askV AskP
  by_cases h1 : EnvP env
  ·by_cases h2 : VPat p
   ·by_cases h3 : (s.size : Int) ≤ 200
    ·rw [aW_ h1, aW_ h2, aW_ (show EnvP env ∧ VPat p ∧ (s.size : Int) ≤ 200 from ⟨h1, h2, h3⟩), if_neg (by simp), if_neg (by simp), if_neg (by simp; omega), if_pos rfl]
     cases says (0 ≤ f ∧ f ≤ 20000) <;> rfl
    ·rw [aW_ h1, aW_ h2, aM_ (fun w : EnvP env ∧ VPat p ∧ (s.size : Int) ≤ 200 => h3 w.2.2), if_neg (by simp), if_neg (by simp), if_pos (by simp; omega)]; rfl
   ·rw [aW_ h1, aM_ h2, aM_ (fun w : EnvP env ∧ VPat p ∧ (s.size : Int) ≤ 200 => h2 w.2.1), if_neg (by simp), if_pos (by simp)]; rfl
  ·rw [aM_ h1, aM_ (fun w : EnvP env ∧ VPat p ∧ (s.size : Int) ≤ 200 => h1 w.1), if_pos (by simp)]; rfl
 ·unfold c5_
  rw [lt_ (env2 env hE) fun _ => lt_ (pZ_ p hp) fun _ => eM_ (mM_ s), Option.bind_some, kR_, Option.bind_some, in2, Option.bind_some, kR_, Option.bind_some, o3_]
  unfold askV AskP
  cases says (EnvP env ∧ VPat p ∧ (s.size : Int) ≤ 200) <;> cases says (0 ≤ f ∧ f ≤ 20000) <;> rfl
theorem rZ_ {env : Sl DNamed} {p : DPattern} {s : ByteArray} {f : Int} (h : askV env p s f = 0) : EnvP env ∧ VPat p ∧ (s.size : Int) ≤ 200 ∧ 0 ≤ f ∧ f ≤ 20000 := by
 unfold askV at h
 by_cases h1 : AskP env p s
 ·rw [aW_ h1, if_pos rfl] at h
  by_cases h2 : 0 ≤ f ∧ f ≤ 20000
  ·exact ⟨h1.1, h1.2.1, h1.2.2, h2⟩
  ·rw [aM_ h2] at h; simp at h
 ·rw [aM_ h1] at h; simp at h
theorem kO_ (s : ByteArray) (b : Bool) (hs : s.size ≤ 200) : ∀ (m j : Nat), j + m = s.size + 1 → ∀ st : Sl (Iv .i64), st.l.length ≤ j → (∀ x ∈ st.l, 0 ≤ x.v ∧ x.v ≤ s.size) → ∃ w : Sl (Iv .i64), aA_ (S := (Int × (Sl (Iv .i64)))) (R := (Sl (Iv .i64))) (fun st1 => (if (decide (st1.1 ≤ (s.size : Int))) = true then (if (!b) = true then ((appS 8 st1.2 (⟨false, [⟨st1.1⟩]⟩ : Sl (Iv .i64))).bind fun y2 => (some (.inl ((w4 (st1.1 + 1)), y2)))) else (some (.inr st1.2))) else (some (.inr st1.2)))) ((j : Int), st) = some w ∧ w.l.length ≤ s.size + 1 ∧ ∀ x ∈ w.l, 0 ≤ x.v ∧ x.v ≤ s.size := by
 intro m
 induction m with
 | zero =>
  intro j hj st h1 h2
  refine ⟨st, al_ ?_, by omega, h2⟩
  show (if decide ((j : Int) ≤ (s.size : Int)) = true then _ else _) = _
  rw [if_neg (by simp; omega)]
 | succ m ih =>
  intro j hj st h1 h2
  have ec : ((j + 1 : Nat) : Int) = (j : Int) + 1 := by simp
  cases b with
  | true =>
   refine ⟨st, al_ ?_, by omega, h2⟩
   show (if decide ((j : Int) ≤ (s.size : Int)) = true then _ else _) = _
   rw [if_pos (by simp; omega)]; rfl
  | false =>
   obtain ⟨z, l⟩ := st
   have h1 : l.length ≤ j := h1
   obtain ⟨w, w1, w2, w3⟩ := ih (j + 1) (by omega) ⟨false, l ++ [⟨(j : Int)⟩]⟩ (by simp; omega) (fun x hx => by
    rcases List.mem_append.1 hx with h | h
    ·exact h2 x h
    ·rw [List.mem_singleton] at h; subst h; exact ⟨by simp, by show (j : Int) ≤ _; omega⟩)
   rw [ec] at w1
   refine ⟨w, ax_ ?_ w1, w2, w3⟩
   show (if decide ((j : Int) ≤ (s.size : Int)) = true then ((appS 8 (⟨z, l⟩ : Sl (Iv .i64)) ⟨false, [⟨(j : Int)⟩]⟩).bind _) else _) = _
   rw [if_pos (by simp; omega), bJ_ (by omega), Option.bind_some]
   show some (Sum.inl (w4 ((j : Int) + 1), _)) = _
   rw [aT_ (by omega) (by omega)]
theorem oK_ (s : ByteArray) (b : Bool) (hs : s.size ≤ 200) : ∃ w : Sl (Iv .i64), dt_ s b = some w ∧ dS_ s b = some w ∧ w.l.length ≤ 1000 ∧ ∀ x ∈ w.l, 0 ≤ x.v ∧ x.v ≤ s.size := by
 obtain ⟨w, h1, h2, h3⟩ := kO_ s b hs s.size 1 (by omega) ⟨false, [⟨0⟩]⟩ (by simp) (fun x hx => by rw [List.mem_singleton] at hx; subst hx; exact ⟨by simp, by simp⟩)
 rw [show ((1 : Nat) : Int) = 1 from rfl] at h1
 refine ⟨w, hg_ s b w ?_, ic_ s b w ?_, by omega, h3⟩
 ·unfold dr_; rw [h1]; rfl
 ·unfold ea_; rw [h1]; rfl
end Nt
end Go.Am
end
