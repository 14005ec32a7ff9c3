/- The law. -/
import Derived.Test.YtilalopohkdmdaaGreatAg0
import Derived.Test.YtilalopohkdmdaaGreatAg2
import Derived.Test.YtilalopohkdmdaaGreatAg3
import Derived.Test.YtilalopohkdmdaaGreatAg1
import Derived.Test.YtilalopohkdmdaaGreatAl11
section
set_option maxRecDepth 100000
set_option maxHeartbeats 4000000
set_option linter.unusedVariables false
set_option linter.unusedSimpArgs false
namespace Go.Am
noncomputable abbrev IMF (p : DPattern) (starts : Sl (Iv .i64)) (x : (Int × (Sl DNamed) × ByteArray × Int × Int × Int × Int × Bool × Int × (Sl DCapture) × (Sl DCapture) × (Sl DMatch))) : Option (((Sl DNamed) × ByteArray × Int × Int × Int × Int × Bool × Int × (Sl DCapture) × (Sl DCapture) × (Sl DMatch))) := aD_ (S := (Int × (Sl DNamed) × ByteArray × Int × Int × Int × Int × Bool × Int × (Sl DCapture) × (Sl DCapture) × (Sl DMatch))) (R := ((Sl DNamed) × ByteArray × Int × Int × Int × Int × Bool × Int × (Sl DCapture) × (Sl DCapture) × (Sl DMatch))) (fun st1 => (if (decide (st1.1 < (starts.l.length : Int))) = true then ((elt starts st1.1).bind fun y2 => ((bl_ (⟨st1.2.1, st1.2.2.1, st1.2.2.2.1, st1.2.2.2.2.1, y2.v, st1.2.2.2.2.2.2.2.2.2.1, st1.2.2.2.2.2.2.2.2.2.2.1, st1.2.2.2.2.2.2.2.2.2.2.2, st1.2.2.2.2.2.2.1, st1.2.2.2.2.2.2.2.1, T.nilm, st1.2.2.2.2.2.2.2.2.1⟩ : aa_) p y2.v (fun e (S : aa_) => ao_ S e)).bind fun y3 => (if (!y3.1) = true then (some (.inr (y3.2.env_, y3.2.subject_, y3.2.fuel_, y3.2.steps_, y3.2.start_, y3.2.most_, y3.2.isMere_, y3.2.code_, y3.2.now_, y3.2.conds_, y3.2.matches_))) else (some (.inl ((w4 (st1.1 + 1)), y3.2.env_, y3.2.subject_, y3.2.fuel_, y3.2.steps_, y3.2.start_, y3.2.most_, y3.2.isMere_, y3.2.code_, y3.2.now_, y3.2.conds_, y3.2.matches_)))))) else (some (.inr (st1.2.1, st1.2.2.1, st1.2.2.2.1, st1.2.2.2.2.1, st1.2.2.2.2.2.1, st1.2.2.2.2.2.2.1, st1.2.2.2.2.2.2.2.1, st1.2.2.2.2.2.2.2.2.1, st1.2.2.2.2.2.2.2.2.2.1, st1.2.2.2.2.2.2.2.2.2.2.1, st1.2.2.2.2.2.2.2.2.2.2.2))))) x
noncomputable abbrev RMF (p : DPattern) (starts : Sl (Iv .i64)) (x : (Int × (Sl DNamed) × ByteArray × Int × Int × Int × Bool × Bool × Bool × Int × (Sl ah_) × (Sl DMatch) × (Sl DCapture) × (Sl DCapture))) : Option (((Sl DNamed) × ByteArray × Int × Int × Int × Bool × Bool × Bool × Int × (Sl ah_) × (Sl DMatch) × (Sl DCapture) × (Sl DCapture))) := aD_ (S := (Int × (Sl DNamed) × ByteArray × Int × Int × Int × Bool × Bool × Bool × Int × (Sl ah_) × (Sl DMatch) × (Sl DCapture) × (Sl DCapture))) (R := ((Sl DNamed) × ByteArray × Int × Int × Int × Bool × Bool × Bool × Int × (Sl ah_) × (Sl DMatch) × (Sl DCapture) × (Sl DCapture))) (fun st1 => (if (decide (st1.1 < (starts.l.length : Int))) = true then (if st1.2.2.2.2.2.2.2.1 = true then (some (.inr (st1.2.1, st1.2.2.1, st1.2.2.2.1, st1.2.2.2.2.1, st1.2.2.2.2.2.1, st1.2.2.2.2.2.2.1, st1.2.2.2.2.2.2.2.1, st1.2.2.2.2.2.2.2.2.1, st1.2.2.2.2.2.2.2.2.2.1, st1.2.2.2.2.2.2.2.2.2.2.1, st1.2.2.2.2.2.2.2.2.2.2.2.1, st1.2.2.2.2.2.2.2.2.2.2.2.2.1, st1.2.2.2.2.2.2.2.2.2.2.2.2.2))) else (if st1.2.2.2.2.2.2.2.2.1 = true then (some (.inr (st1.2.1, st1.2.2.1, st1.2.2.2.1, st1.2.2.2.2.1, st1.2.2.2.2.2.1, st1.2.2.2.2.2.2.1, st1.2.2.2.2.2.2.2.1, st1.2.2.2.2.2.2.2.2.1, st1.2.2.2.2.2.2.2.2.2.1, st1.2.2.2.2.2.2.2.2.2.2.1, st1.2.2.2.2.2.2.2.2.2.2.2.1, st1.2.2.2.2.2.2.2.2.2.2.2.2.1, st1.2.2.2.2.2.2.2.2.2.2.2.2.2))) else (if (!(!decide (st1.2.2.2.2.2.2.2.2.2.1 = 0))) = true then ((elt starts st1.1).bind fun y2 => ((elt starts st1.1).bind fun y3 => ((ca_ (⟨st1.2.1, st1.2.2.1, st1.2.2.2.1, st1.2.2.2.2.1, st1.2.2.2.2.2.1, ⟨false, [(⟨(⟨0, 0, ⟨#[]⟩, ⟨true, []⟩⟩ : DPattern), y2.v, 0⟩ : ah_)]⟩, st1.2.2.2.2.2.2.2.2.2.2.2.1, st1.2.2.2.2.2.2.2.2.2.2.2.2.1, ⟨false, []⟩, st1.2.2.2.2.2.2.1, st1.2.2.2.2.2.2.2.1, st1.2.2.2.2.2.2.2.2.1, st1.2.2.2.2.2.2.2.2.2.1⟩ : an_) p y3.v 0).bind fun y4 => (some (.inl ((w4 (st1.1 + 1)), y4.2.env_, y4.2.s_, y4.2.fuel_, y4.2.mode_, y4.2.steps_, y4.2.full_, y4.2.abort_, y4.2.stop_, y4.2.code_, y4.2.conts_, y4.2.out_, y4.2.now_, y4.2.conds_)))))) else (some (.inr (st1.2.1, st1.2.2.1, st1.2.2.2.1, st1.2.2.2.2.1, st1.2.2.2.2.2.1, st1.2.2.2.2.2.2.1, st1.2.2.2.2.2.2.2.1, st1.2.2.2.2.2.2.2.2.1, st1.2.2.2.2.2.2.2.2.2.1, st1.2.2.2.2.2.2.2.2.2.2.1, st1.2.2.2.2.2.2.2.2.2.2.2.1, st1.2.2.2.2.2.2.2.2.2.2.2.2.1, st1.2.2.2.2.2.2.2.2.2.2.2.2.2)))))) else (some (.inr (st1.2.1, st1.2.2.1, st1.2.2.2.1, st1.2.2.2.2.1, st1.2.2.2.2.2.1, st1.2.2.2.2.2.2.1, st1.2.2.2.2.2.2.2.1, st1.2.2.2.2.2.2.2.2.1, st1.2.2.2.2.2.2.2.2.2.1, st1.2.2.2.2.2.2.2.2.2.2.1, st1.2.2.2.2.2.2.2.2.2.2.2.1, st1.2.2.2.2.2.2.2.2.2.2.2.2.1, st1.2.2.2.2.2.2.2.2.2.2.2.2.2))))) x
section
variable {env : Sl DNamed} {s : ByteArray} {F : Nat}
def Res (s : ByteArray) (S : aa_) (r : an_) : Prop := (Fin S r ∧ r.s_ = s) ∨ (S.code_ = 0 ∧ r.code_ = 0 ∧ r.full_ = false ∧ gb_ s S.matches_.l r.out_.l ∧ S.matches_.l.length ≤ 60)
theorem kx_ {p : DPattern} {starts : Sl (Iv .i64)} (hs : s.size ≤ 200) (hE : ∀ x ∈ env.l, VP x.Pattern) (hEl : env.l.length ≤ 40) (hv : VP p) (hst : ∀ x ∈ starts.l, 0 ≤ x.v ∧ x.v ≤ s.size) (hl : starts.l.length ≤ 1000) :
  ∀ (m i : Nat), i + m = starts.l.length → ∀ M nw cd mt csx ou nw2 cdx st0, Inv s F M nw cd mt ⟨false, [⟨⟨0, 0, ⟨#[]⟩, ⟨true, []⟩⟩, 0, 0⟩]⟩ ou nw2 ⟨false, []⟩ →
  ∃ S' r', IMF p starts ((i : Int), env, s, (F : Int), (F : Int) - M, st0, 0, false, 0, nw, cd, mt) = some (fD_ S') ∧
   RMF p starts ((i : Int), env, s, (F : Int), 1, (F : Int) - M, false, false, false, 0, csx, ou, nw2, cdx) = some (unR r') ∧ Res s S' r' := by
 intro m
 induction m with
 | zero =>
  intro i hi M nw cd mt csx ou nw2 cdx st0 hinv
  have d0 : decide ((i : Int) < (starts.l.length : Int)) = false := by simp; omega
  refine ⟨sI env s F ((F : Int) - M) st0 nw cd mt, sR env s F ((F : Int) - M) csx ou nw2 cdx, aq_ ?_, aq_ ?_, .inr ⟨rfl, rfl, rfl, hinv.mtE, hinv.hml⟩⟩
  ·simp only [d0, Bool.false_eq_true, if_false]
  ·simp only [d0, Bool.false_eq_true, if_false]
 | succ m ih =>
  intro i hi M nw cd mt csx ou nw2 cdx st0 hinv
  have hlt : i < starts.l.length := by omega
  have d0 : decide ((i : Int) < (starts.l.length : Int)) = true := by simp; omega
  have ec : ((i + 1 : Nat) : Int) = (i : Int) + 1 := by simp
  have w1 : w4 ((i : Int) + 1) = (i : Int) + 1 := aY_ (by omega) (by omega)
  obtain ⟨h0, h1⟩ := hst _ (List.getElem_mem hlt)
  obtain ⟨c, hc⟩ : ∃ c : Nat, starts.l[i].v = c := ⟨starts.l[i].v.toNat, by omega⟩
  have hel := bK_ hlt
  have hF := hinv.hF
  have hMF := hinv.hM
  have hEE : EE = 30002 := rfl
  have hi2 : Inv s F M nw cd mt ⟨false, [⟨⟨0, 0, ⟨#[]⟩, ⟨true, []⟩⟩, starts.l[i].v, 0⟩]⟩ ou nw2 ⟨false, []⟩ := ⟨hinv.hF, hinv.hM, hinv.nwE, hinv.cdE, hinv.hcap, hinv.mtE, hinv.hml, hinv.hcl⟩
  have hfo : KOk env s F M 0 starts.l[i].v (fun e (S : aa_) => ao_ S e) [⟨⟨0, 0, ⟨#[]⟩, ⟨true, []⟩⟩, starts.l[i].v, 0⟩] c := oo_ (env := env) (s := s) (F := F) (M := M) (C := []) rfl rfl hc
  have hbig : bigN = 100000000000 := rfl
  obtain ⟨b, S', r', g1, g2, g3⟩ := tf_ hs hE hEl M starts.l[i].v nw cd mt _ ou nw2 _ p c 0 _ bigN bigN hi2 hv (by omega) (by simp) hfo (by rw [hbig]; omega) (by rw [hbig, hEE]; omega)
  have g1 : bl_ (sI env s F ((F : Int) - M) starts.l[i].v nw cd mt) p starts.l[i].v (fun e (S : aa_) => ao_ S e) = some (b, S') := by
   unfold bl_; rw [hc] at g1 ⊢; exact g1
  have g2 : ca_ (sR env s F ((F : Int) - M) ⟨false, [⟨⟨0, 0, ⟨#[]⟩, ⟨true, []⟩⟩, starts.l[i].v, 0⟩]⟩ ou nw2 ⟨false, []⟩) p starts.l[i].v 0 = some ((), r') := by
   unfold ca_; rw [hc] at g2 ⊢; exact g2
  have hR : ∀ z, RMF p starts ((i : Int) + 1, unR r') = some z → RMF p starts ((i : Int), env, s, (F : Int), 1, (F : Int) - M, false, false, false, 0, csx, ou, nw2, cdx) = some z := fun z hz => by
   refine aB_ ?_ hz
   simp only [d0, decide_true, Bool.false_eq_true, Bool.not_true, Bool.not_false, if_true, if_false, hel, g2, Option.bind_some, w1]
  cases b with
  | false =>
   refine ⟨S', r', aq_ ?_, hR _ (aq_ ?_), .inl ⟨g3.no rfl, g3.hs⟩⟩
   ·simp only [d0, if_true, hel, Option.bind_some, g1, Bool.not_false]
   ·have ho := (g3.no rfl).over
    dsimp only [unR]
    split
    ·split
     ·rfl
     ·split
      ·rfl
      ·rename_i h1 h2
       have h3 : r'.code_ ≠ 0 := by
        rcases ho with h | h | h
        ·exact absurd h h1
        ·exact absurd h h2
        ·exact h
       rw [if_neg (by simp [h3])]
    ·rfl
  | true =>
   obtain ⟨M2, nw', cd', mt', cs', ou', nw2', cd2', q1, rfl, rfl, q4, q5⟩ := g3.go rfl
   have hcd0 : cd.l.length = 0 := hinv.hcd
   have hi3 : Inv s F M2 nw' cd' mt' ⟨false, [⟨⟨0, 0, ⟨#[]⟩, ⟨true, []⟩⟩, 0, 0⟩]⟩ ou' nw2' ⟨false, []⟩ := ⟨hF, by omega, q4.nwE, by show cd'.l = []; exact List.length_eq_zero_iff.1 (by rw [q5, hcd0]), q4.hcap, q4.mtE, q4.hml, by simp; omega⟩
   obtain ⟨S', r', u1, u2, u3⟩ := ih (i + 1) (by omega) M2 nw' cd' mt' cs' ou' nw2' cd2' starts.l[i].v hi3
   rw [ec] at u1 u2
   refine ⟨S', r', aB_ ?_ u1, hR _ u2, u3⟩
   simp only [d0, if_true, hel, Option.bind_some, g1, Bool.not_true, Bool.false_eq_true, if_false, w1]
theorem nX_ {p : DPattern} {starts : Sl (Iv .i64)} (hs : s.size ≤ 200) (hE : ∀ x ∈ env.l, VP x.Pattern) (hEl : env.l.length ≤ 40) (hv : VP p) (hst : ∀ x ∈ starts.l, 0 ≤ x.v ∧ x.v ≤ s.size) (hl : starts.l.length ≤ 1000) (f : Int) (hf : 0 ≤ f ∧ f ≤ 20000) :
  ∃ w1 w2 : (Sl DMatch) × Int, dj_ env p s starts f = some w1 ∧ bS_ env p s starts f = some w2 ∧ w2.2 = w1.2 ∧ gb_ s w2.1.l w1.1.l ∧ w1.1.l.length ≤ 60 := by
 obtain ⟨F, rfl⟩ : ∃ F : Nat, f = F := ⟨f.toNat, by omega⟩
 obtain ⟨S', r', h1, h2, h3⟩ := kx_ (F := F) hs hE hEl hv hst hl starts.l.length 0 (by omega) F ⟨true, []⟩ ⟨true, []⟩ ⟨true, []⟩ ⟨true, []⟩ ⟨true, []⟩ ⟨true, []⟩ ⟨true, []⟩ 0 ⟨by omega, Nat.le_refl _, rfl, rfl, by decide, gb_.nil, by decide, by simp; omega⟩
 have e0 : (F : Int) - F = 0 := by omega
 rw [e0] at h1 h2
 have hI : bS_ env p s starts F = some (S'.matches_, S'.code_) := by
  refine eG_ _ _ _ _ _ _ ?_
  unfold cp_
  rw [show ((0 : Nat) : Int) = 0 from rfl] at h1
  unfold IMF at h1
  rw [h1]; rfl
 have app : ∀ (y : Sl DMatch), y.l.length ≤ 60 → ∃ w, appS 40 (⟨false, []⟩ : Sl DMatch) y = some w ∧ w.l = y.l := fun y hxy => by
  unfold appS
  cases hy : y.l with
  | nil => exact ⟨_, rfl, by simp⟩
  | cons q l => rw [hy] at hxy; exact ⟨⟨false, [] ++ (q :: l)⟩, by rw [if_pos (by simp at hxy ⊢; omega)], rfl⟩
 have hlen : ∀ {a b : List DMatch}, gb_ s a b → a.length = b.length := fun h => h.len
 suffices H : ∃ w1 : (Sl DMatch) × Int, cv_ env p s starts F = some w1 ∧ S'.code_ = w1.2 ∧ gb_ s S'.matches_.l w1.1.l ∧ w1.1.l.length ≤ 60 by
  obtain ⟨w1, a1, a2, a3, a4⟩ := H
  exact ⟨w1, _, hq_ _ _ _ _ _ _ a1, hI, a2, a3, a4⟩
 unfold cv_
 rw [show ((0 : Nat) : Int) = 0 from rfl] at h2
 unfold RMF at h2
 rw [h2, Option.bind_some]
 rcases h3 with ⟨w | w | w, hrs⟩ | w
 all_goals try rw [hrs] at w
 ·have dc : decide (r'.code_ = 0) = false := by simpa using w.1
  simp only [dc, Bool.not_false, if_true]
  exact ⟨_, rfl, w.2.1, by rw [w.2.2]; exact gb_.nil, by simp⟩
 ·have dc : decide (r'.code_ = 0) = true := by simpa using w.1
  simp only [dc, Bool.not_true, Bool.false_eq_true, if_false, w.2.1, if_true]
  exact ⟨_, rfl, w.2.2.2.1, w.2.2.2.2.1, by have := hlen w.2.2.2.2.1; have := w.2.2.2.2.2; show r'.out_.l.length ≤ 60; omega⟩
 ·have dc : decide (r'.code_ = 0) = true := by simpa using w.1
  have hl2 := hlen w.2.2.2.2.1
  obtain ⟨y, y1, y2⟩ := app r'.out_ (by have := w.2.2.2.2.2; omega)
  simp only [dc, Bool.not_true, Bool.false_eq_true, if_false, w.2.1, y1, Option.bind_some]
  exact ⟨_, rfl, w.2.2.2.1, by rw [y2]; exact w.2.2.2.2.1, by rw [y2]; have := w.2.2.2.2.2; omega⟩
 ·have dc : decide (r'.code_ = 0) = true := by simpa using w.2.1
  have hl2 := hlen w.2.2.2.1
  obtain ⟨y, y1, y2⟩ := app r'.out_ (by have := w.2.2.2.2; omega)
  simp only [dc, Bool.not_true, Bool.false_eq_true, if_false, w.2.2.1, y1, Option.bind_some]
  exact ⟨_, rfl, w.1, by rw [y2]; exact w.2.2.2.1, by rw [y2]; have := w.2.2.2.2; omega⟩
end
theorem n0_ (a b : Int) : ey_ ⟨false, [⟨a⟩, ⟨b⟩]⟩ = some (if a = 0 then b else a) := by
 refine ko_ _ _ ?_
 unfold fU_
 by_cases ha : a = 0
 ·subst ha
  by_cases hb : b = 0
  ·subst hb
   rw [aB_ (s' := 1) rfl (aB_ (s' := 2) rfl (aq_ rfl))]; rfl
  ·rw [aB_ (s' := 1) rfl (aq_ (r := .inr b) (by
    show (if (!decide (b = 0)) = true then _ else _) = _
    rw [if_pos (by simp [hb])]))]; rfl
 ·rw [aq_ (r := .inr a) (by
    show (if (!decide (a = 0)) = true then _ else _) = _
    rw [if_pos (by simp [ha])]), if_neg ha]; rfl
theorem jN_ (b : Bool) (a : Int) : c2_ b a = some (if b = true then 0 else a) := by
 refine jE_ b a _ ?_
 unfold fs_
 cases b <;> rfl
def AskP (env : Sl DNamed) (p : DPattern) (s : ByteArray) : Prop := EnvP env ∧ VPat p ∧ (s.size : Int) ≤ 200
noncomputable def askV (env : Sl DNamed) (p : DPattern) (s : ByteArray) (f : Int) : Int := if says (AskP env p s) = true then (if says (0 ≤ f ∧ f ≤ 20000) = true then 0 else 3) else 1
theorem rX_ (env : Sl DNamed) (p : DPattern) (s : ByteArray) (f : Int) (hE : nG_ env) (hp : SmPt p) : fk_ env p s f = some (askV env p s f) ∧ dh_ env p s f = some (askV env p s f) := by
 refine ⟨j0_ env p s f _ ?_, g9_ env p s f _ ?_⟩
 ·unfold ff_
  rw [env1 env hE, Option.bind_some, r1_ p hp, Option.bind_some, in1, Option.bind_some]
  unfold askV AskP
  by_cases h1 : EnvP env
  ·by_cases h2 : VPat p
   ·by_cases h3 : (s.size : Int) ≤ 200
    ·rw [a3_ h1, a3_ h2, a3_ (show EnvP env ∧ VPat p ∧ (s.size : Int) ≤ 200 from ⟨h1, h2, h3⟩), if_neg (by simp), if_neg (by simp), if_neg (by simp; omega), if_pos rfl]
     cases says (0 ≤ f ∧ f ≤ 20000) <;> rfl
    ·rw [a3_ h1, a3_ h2, aR_ (fun w : EnvP env ∧ VPat p ∧ (s.size : Int) ≤ 200 => h3 w.2.2), if_neg (by simp), if_neg (by simp), if_pos (by simp; omega)]; rfl
   ·rw [a3_ h1, aR_ h2, aR_ (fun w : EnvP env ∧ VPat p ∧ (s.size : Int) ≤ 200 => h2 w.2.1), if_neg (by simp), if_pos (by simp)]; rfl
  ·rw [aR_ h1, aR_ (fun w : EnvP env ∧ VPat p ∧ (s.size : Int) ≤ 200 => h1 w.1), if_pos (by simp)]; rfl
 ·unfold dl_
  rw [l8_ (env2 env hE) fun _ => l8_ (sg_ p hp) fun _ => e5_ (nY_ s), Option.bind_some, jN_, Option.bind_some, in2, Option.bind_some, jN_, Option.bind_some, n0_]
  unfold askV AskP
  cases says (EnvP env ∧ VPat p ∧ (s.size : Int) ≤ 200) <;> cases says (0 ≤ f ∧ f ≤ 20000) <;> rfl
theorem sy_ {env : Sl DNamed} {p : DPattern} {s : ByteArray} {f : Int} (h : askV env p s f = 0) : EnvP env ∧ VPat p ∧ (s.size : Int) ≤ 200 ∧ 0 ≤ f ∧ f ≤ 20000 := by
 unfold askV at h
 by_cases h1 : AskP env p s
 ·rw [a3_ h1, if_pos rfl] at h
  by_cases h2 : 0 ≤ f ∧ f ≤ 20000
  ·exact ⟨h1.1, h1.2.1, h1.2.2, h2⟩
  ·rw [aR_ h2] at h; simp at h
 ·rw [aR_ h1] at h; simp at h
end Go.Am
end
