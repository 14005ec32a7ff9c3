/- The law. -/
import Derived.Test.YtilalopohkdmdaaGreatAg1
import Derived.Test.YtilalopohkdmdaaGreatAg2
import Derived.Test.YtilalopohkdmdaaGreatAl14
section
set_option maxRecDepth 100000
set_option maxHeartbeats 2000000
set_option linter.unusedVariables false
set_option linter.unusedSimpArgs false
namespace Go.Am
noncomputable abbrev FOUND : PhiT := fun e S => ao_ S e
abbrev ends (S : aa_) : List Int := S.matches_.l.map fun x => x.End
structure Pl (env : Sl DNamed) (s : ByteArray) (S : aa_) : Prop where
 e : S.env_ = env
 s : S.subject_ = s
 m : S.most_ = 0
 r : S.isMere_ = false
theorem sC_ {env : Sl DNamed} {s : ByteArray} {S S' : aa_} {X : List Int} (h : Pl env s S) (h' : Pl env s S') (hl : ends S = X ++ ends S') : Ix env s X S S' := ⟨⟨h.e, h'.e⟩, ⟨h.s, h'.s⟩, ⟨h.m, h'.m⟩, ⟨h.r, h'.r⟩, hl⟩
def Fine (env : Sl DNamed) (s : ByteArray) (r : Bool × aa_) : Prop := Bad r ∨ (r.1 = true ∧ r.2.code_ = 0 ∧ Pl env s r.2)
theorem oR_ {env : Sl DNamed} {s : ByteArray} {q : DPattern} (hE : iH_ env) (hq : CalmP q) (n : Nat) {S : aa_} {e : Int} (h : Pl env s S) (h0 : S.code_ = 0) : Gv ((BG_impl_search_match n).1 S q e FOUND) (Fine env s) := fun r hr => by
 have cu := (oC_ hE n).1 S q e FOUND hq h.e h.m (qo_ env) r hr
 have J := (nS_ (pp_ env s []) n n).1 S S q e FOUND FOUND (sC_ h h rfl) h0 h0 (lH_ env s []) r r hr hr
 rcases cu.c with c | c
 ·rcases J with J | J | ⟨_, J, k⟩
  ·exact .inl J
  ·exact .inl J
  ·exact .inr ⟨c, (k c).1, ⟨J.e.1, J.s.1, J.m.1, J.r.1⟩⟩
 ·rcases J with J | J | ⟨_, J, k⟩
  ·exact .inl J
  ·exact .inl J
  ·by_cases hb : r.1 = true
   ·exact absurd (k hb).1 c
   ·exact .inl ⟨by cases h : r.1 <;> simp [h] at hb ⊢, c⟩
theorem mx_ {env : Sl DNamed} {s : ByteArray} {S : aa_} {e : Int} (h : Pl env s S) (h0 : S.code_ = 0) : Gv (FOUND e S) (fun r => Bad r ∨ (r.1 = true ∧ r.2.code_ = 0 ∧ Pl env s r.2 ∧ ends r.2 = ends S ++ [e])) := fun r hr => by
 have hr : ao_ S e = some r := hr
 have key : Gv (ao_ S e) (fun r => Bad r ∨ (r.1 = true ∧ r.2.code_ = 0 ∧ Pl env s r.2 ∧ ends r.2 = ends S ++ [e])) := by
  unfold ao_
  rw [h.r, if_neg (c := false = true) (by simp), h0]
  refine as_ (st_q _ _ 0 S.matches_) fun y hy => ?_
  obtain ⟨b, k, cs, m⟩ := y
  rcases hy with ⟨rfl, a2⟩ | ⟨rfl, a2, a3⟩
  ·exact aW_ (fun _ => am_ (.inl ⟨rfl, by show cs ≠ 0; intro w; simp only at a2; omega⟩)) fun w => absurd rfl w
  simp only at a2 a3
  subst a2 a3
  refine aW_ (fun w => by cases w) fun _ => aW_ (fun _ => am_ (.inl ⟨rfl, by show (6 : Int) ≠ 0; decide⟩)) fun _ => as_ cE_ fun y _ => as_ app1 fun q hq => am_ (.inr ⟨?_, rfl, ⟨h.e, h.s, h.m, rfl⟩, ?_⟩)
  ·have hq : q.l = S.matches_.l ++ [⟨S.start_, e, y⟩] := hq
   have hm := h.m
   show (!decide ((q.l.length : Int) = S.most_)) = true
   rw [hm, hq]
   simp; omega
  ·have hq : q.l = S.matches_.l ++ [⟨S.start_, e, y⟩] := hq
   show q.l.map _ = _
   rw [hq, List.map_append]; rfl
 exact key r hr
def gl_ (env : Sl DNamed) (s : ByteArray) (q : DPattern) (e : Int) (Y : List Int) : Prop := ∃ f r, Run0 env s f e q = some r ∧ r.2.code_ = 0 ∧ ends r.2 = Y
theorem oQ_ {env : Sl DNamed} {s : ByteArray} {q : DPattern} (hE : iH_ env) (hq : CalmP q) (n : Nat) {S : aa_} {e : Int} {Y : List Int} (h : Pl env s S) (h0 : S.code_ = 0) (hY : gl_ env s q e Y) {r : Bool × aa_} (hr : (BG_impl_search_match n).1 S q e FOUND = some r) (hb : r.1 = true) : ends r.2 = ends S ++ Y := by
 obtain ⟨f, r0, k1, k2, rfl⟩ := hY
 have J := (nS_ (pp_ env s (ends S)) n bigN).1 S (Fr0 env s f e) q e FOUND FOUND (sC_ h ⟨rfl, rfl, rfl, rfl⟩ (by simp)) h0 rfl (lH_ env s _) r r0 hr k1
 rcases J with J | J | ⟨_, J, _⟩
 ·exact absurd J.1 (by rw [hb]; simp)
 ·exact absurd k2 J.2
 ·exact J.l
theorem qn_ {env : Sl DNamed} {s : ByteArray} {a f : Int} {p q : DPattern} {Φ : PhiT} (n : Nat) (hf : 0 < f ∧ f ≤ 20000) :
  (BG_impl_search_match (n + 2)).1 (Fr0 env s f a) ⟨19, 0, ⟨#[]⟩, ⟨false, [p, q]⟩⟩ a Φ = (((BG_impl_search_match n).1 ⟨env, s, f, 1, a, ⟨true, []⟩, ⟨true, []⟩, ⟨true, []⟩, 0, false, T.nilm, 0⟩ p a (ag_ (BG_impl_search_match n).1 (BG_impl_search_match n).2 ⟨19, 0, ⟨#[]⟩, ⟨false, [p, q]⟩⟩ Φ)).bind fun y => some (y.1, NS y.2)).bind (fun y => some (y.1, NS y.2)) := by
 have w1 : w4 (0 + 1) = 1 := rfl
 have d1 : decide ((0 : Int) = f) = false := by simp; omega
 have dl : decide (0 < (([p, q] : List DPattern).length : Int)) = true := rfl
 have e0 : elt (⟨false, [p, q]⟩ : Sl DPattern) 0 = some p := rfl
 show ac_ _ _ _ _ _ _ = _
 unfold ac_
 simp only [d1, w1, Int.reduceEq, decide_true, decide_false, Bool.false_eq_true, Bool.not_true, Bool.not_false, if_true, if_false, Option.bind_some, dl]
 rw [bgI2 n]
 unfold aj_
 simp only [e0, Option.bind_some, Int.reduceEq, decide_true, decide_false, Bool.false_eq_true, if_true, if_false]
end Go.Am
end
