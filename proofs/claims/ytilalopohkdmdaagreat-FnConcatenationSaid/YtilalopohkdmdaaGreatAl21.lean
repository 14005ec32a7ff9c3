/- The law. -/
import Derived.Test.YtilalopohkdmdaaGreatAg1
import Derived.Test.YtilalopohkdmdaaGreatAg2
import Derived.Test.YtilalopohkdmdaaGreatAl14
section
set_option maxRecDepth 100000
set_option maxHeartbeats 2000000
set_option linter.unusedVariables false
set_option linter.unusedSimpArgs false
namespace Go.Am
noncomputable abbrev FOUND : PhiT := fun e S => an_ S e
abbrev ends (S : aa_) : List Int := S.matches_.l.map fun x => x.End
structure Pl (env : Sl DNamed) (s : ByteArray) (S : aa_) : Prop where
 e : S.env_ = env
 s : S.subject_ = s
 m : S.most_ = 0
 r : S.isMere_ = false
theorem sn_ {env : Sl DNamed} {s : ByteArray} {S S' : aa_} {X : List Int} (h : Pl env s S) (h' : Pl env s S') (hl : ends S = X ++ ends S') : Ix env s X S S' := ⟨⟨h.e, h'.e⟩, ⟨h.s, h'.s⟩, ⟨h.m, h'.m⟩, ⟨h.r, h'.r⟩, hl⟩
def Fine (env : Sl DNamed) (s : ByteArray) (r : Bool × aa_) : Prop := Bad r ∨ (r.1 = true ∧ r.2.code_ = 0 ∧ Pl env s r.2)
theorem o6_ {env : Sl DNamed} {s : ByteArray} {q : DPattern} (hE : kX_ env) (hq : CalmP q) (n : Nat) {S : aa_} {e : Int} (h : Pl env s S) (h0 : S.code_ = 0) : Gv ((BG_impl_search_match n).1 S q e FOUND) (Fine env s) := fun r hr => by
 have cu := (oL_ hE n).1 S q e FOUND hq h.e h.m (qy_ env) r hr
 have J := (mI_ (pw_ env s []) n n).1 S S q e FOUND FOUND (sn_ h h rfl) h0 h0 (lY_ env s []) r r hr hr
 rcases cu.c with c | c
 ·rcases J with J | J | ⟨_, J, k⟩
  ·exact .inl J
  ·exact .inl J
  ·exact .inr ⟨c, (k c).1, ⟨J.e.1, J.s.1, J.m.1, J.r.1⟩⟩
 ·rcases J with J | J | ⟨_, J, k⟩
  ·exact .inl J
  ·exact .inl J
  ·by_cases hb : r.1 = true
   ·exact absurd (k hb).1 c
   ·exact .inl ⟨by cases h : r.1 <;> simp [h] at hb ⊢, c⟩
theorem mc_ {env : Sl DNamed} {s : ByteArray} {S : aa_} {e : Int} (h : Pl env s S) (h0 : S.code_ = 0) : Gv (FOUND e S) (fun r => Bad r ∨ (r.1 = true ∧ r.2.code_ = 0 ∧ Pl env s r.2 ∧ ends r.2 = ends S ++ [e])) := fun r hr => by
 have hr : an_ S e = some r := hr
 have key : Gv (an_ S e) (fun r => Bad r ∨ (r.1 = true ∧ r.2.code_ = 0 ∧ Pl env s r.2 ∧ ends r.2 = ends S ++ [e])) := by
  unfold an_
  rw [h.r, if_neg (c := false = true) (by simp), h0]
  refine aR_ (st_q _ _ 0 S.matches_) fun y hy => ?_
  obtain ⟨b, k, cs, m⟩ := y
  rcases hy with ⟨rfl, a2⟩ | ⟨rfl, a2, a3⟩
  ·exact cp_ (fun _ => aM_ (.inl ⟨rfl, by show cs ≠ 0; intro w; simp only at a2; omega⟩)) fun w => absurd rfl w
  simp only at a2 a3
  subst a2 a3
  refine cp_ (fun w => by cases w) fun _ => cp_ (fun _ => aM_ (.inl ⟨rfl, by show (6 : Int) ≠ 0; decide⟩)) fun _ => aR_ gw_ fun y _ => aR_ app1 fun q hq => aM_ (.inr ⟨?_, rfl, ⟨h.e, h.s, h.m, rfl⟩, ?_⟩)
  ·have hq : q.l = S.matches_.l ++ [⟨S.start_, e, y⟩] := hq
   have hm := h.m
   show (!decide ((q.l.length : Int) = S.most_)) = true
   rw [hm, hq]
   simp; omega
  ·have hq : q.l = S.matches_.l ++ [⟨S.start_, e, y⟩] := hq
   show q.l.map _ = _
   rw [hq, List.map_append]; rfl
 exact key r hr
def iI_ (env : Sl DNamed) (s : ByteArray) (q : DPattern) (e : Int) (Y : List Int) : Prop := ∃ f r, Run0 env s f e q = some r ∧ r.2.code_ = 0 ∧ ends r.2 = Y
structure Fl (env : Sl DNamed) (s : ByteArray) (ok : Int → Prop) (Y : Int → List Int) (X : List Int) (S S' : aa_) : Prop where
 p : Pl env s S
 p' : Pl env s S'
 l : (∀ e ∈ ends S', ok e) → ends S = X ++ (ends S').flatMap Y
theorem r7_ (env : Sl DNamed) (s : ByteArray) (ok : Int → Prop) (Y : Int → List Int) (X : List Int) : Clo (Fl env s ok Y X) where
 same h := ⟨h.p'.e.trans h.p.e.symm, h.p'.s.trans h.p.s.symm⟩
 upd _ _ _ _ _ _ _ _ _ _ h := ⟨⟨h.p.e, h.p.s, h.p.m, h.p.r⟩, ⟨h.p'.e, h.p'.s, h.p'.m, h.p'.r⟩, h.l⟩
def Adds (env : Sl DNamed) (s : ByteArray) (ok : Int → Prop) (Y : Int → List Int) (Ψ : PhiT) : Prop := ∀ e S, Pl env s S → S.code_ = 0 → Gv (Ψ e S) (fun r => Fine env s r ∧ (ok e → r.1 = true → ends r.2 = ends S ++ Y e))
theorem pV_ {env : Sl DNamed} {s : ByteArray} {ok : Int → Prop} {Y : Int → List Int} {X : List Int} {Ψ : PhiT} (h : Adds env s ok Y Ψ) : PhiJ (Fl env s ok Y X) Ψ FOUND := fun e S S' hI h1 h2 r r' hr hr' => by
 obtain ⟨f, g⟩ := h e S hI.p h1 r hr
 rcases f with f | ⟨f1, f2, f3⟩
 ·exact .inl f
 rcases mc_ hI.p' h2 r' hr' with k | ⟨k1, k2, k3, k4⟩
 ·exact .inr (.inl k)
 refine .inr (.inr ⟨f1.trans k1.symm, ⟨f3, k3, fun hok => ?_⟩, fun _ => ⟨f2, k2⟩⟩)
 rw [k4] at hok ⊢
 rw [g (hok e (by simp)) f1, hI.l fun x hx => hok x (by simp [hx])]
 simp
theorem oZ_ {env : Sl DNamed} {s : ByteArray} {q : DPattern} (hE : kX_ env) (hq : CalmP q) (n : Nat) {S : aa_} {e : Int} {Y : List Int} (h : Pl env s S) (h0 : S.code_ = 0) (hY : iI_ env s q e Y) {r : Bool × aa_} (hr : (BG_impl_search_match n).1 S q e FOUND = some r) (hb : r.1 = true) : ends r.2 = ends S ++ Y := by
 obtain ⟨f, r0, k1, k2, rfl⟩ := hY
 have J := (mI_ (pw_ env s (ends S)) n bigN).1 S (Fr0 env s f e) q e FOUND FOUND (sn_ h ⟨rfl, rfl, rfl, rfl⟩ (by simp)) h0 rfl (lY_ env s _) r r0 hr k1
 rcases J with J | J | ⟨_, J, _⟩
 ·exact absurd J.1 (by rw [hb]; simp)
 ·exact absurd k2 J.2
 ·exact J.l
theorem qH_ {env : Sl DNamed} {s : ByteArray} {a f : Int} {p q : DPattern} {Φ : PhiT} (n : Nat) (hf : 0 < f ∧ f ≤ 20000) :
  (BG_impl_search_match (n + 2)).1 (Fr0 env s f a) ⟨19, 0, ⟨#[]⟩, ⟨false, [p, q]⟩⟩ a Φ = (((BG_impl_search_match n).1 ⟨env, s, f, 1, a, ⟨true, []⟩, ⟨true, []⟩, ⟨true, []⟩, 0, false, T.nilm, 0⟩ p a (aq_ (BG_impl_search_match n).1 (BG_impl_search_match n).2 ⟨19, 0, ⟨#[]⟩, ⟨false, [p, q]⟩⟩ Φ)).bind fun y => some (y.1, NS y.2)).bind (fun y => some (y.1, NS y.2)) := by
 have w1 : w4 (0 + 1) = 1 := rfl
 have d1 : decide ((0 : Int) = f) = false := by simp; omega
 have dl : decide (0 < (([p, q] : List DPattern).length : Int)) = true := rfl
 have e0 : elt (⟨false, [p, q]⟩ : Sl DPattern) 0 = some p := rfl
 show ac_ _ _ _ _ _ _ = _
 unfold ac_
 simp only [d1, w1, Int.reduceEq, decide_true, decide_false, Bool.false_eq_true, Bool.not_true, Bool.not_false, if_true, if_false, Option.bind_some, dl]
 rw [bgI2 n]
 unfold am_
 simp only [e0, Option.bind_some, Int.reduceEq, decide_true, decide_false, Bool.false_eq_true, if_true, if_false]
theorem m7_ {env : Sl DNamed} {s : ByteArray} {p q : DPattern} {ok : Int → Prop} {Y : Int → List Int} (hE : kX_ env) (hq : CalmP q) (hY : ∀ e, ok e → iI_ env s q e (Y e)) (n : Nat) (R2 : MTy) : Adds env s ok Y (aq_ (BG_impl_search_match n).1 R2 ⟨19, 0, ⟨#[]⟩, ⟨false, [p, q]⟩⟩ FOUND) := fun e S h h0 => by
 unfold aq_
 have e1 : elt (⟨false, [p, q]⟩ : Sl DPattern) 1 = some q := rfl
 rw [e1, Option.bind_some]
 have hn : Pl env s (NS S) := ⟨h.e, h.s, h.m, h.r⟩
 refine aR_ (Q := fun r => Fine env s r ∧ (ok e → r.1 = true → ends r.2 = ends S ++ Y e)) (fun r hr => ⟨o6_ hE hq n hn h0 r hr, fun hok hb => oZ_ hE hq n hn h0 (hY e hok) hr hb⟩) fun r hr => aM_ ⟨?_, fun hok hb => hr.2 hok hb⟩
 rcases hr.1 with k | ⟨k1, k2, k3⟩
 ·exact .inl k
 ·exact .inr ⟨k1, k2, ⟨k3.e, k3.s, k3.m, k3.r⟩⟩
theorem oS_ {env : Sl DNamed} {s : ByteArray} {a f1 f3 : Int} {p q : DPattern} {Y : Int → List Int} (hE : kX_ env) (hq : CalmP q) {rz rx : Bool × aa_} (hf : 0 < f3 ∧ f3 ≤ 20000) (hz : Run0 env s f3 a ⟨19, 0, ⟨#[]⟩, ⟨false, [p, q]⟩⟩ = some rz) (hx : Run0 env s f1 a p = some rx)
  (cz : rz.2.code_ = 0) (cx : rx.2.code_ = 0) (hY : ∀ e ∈ ends rx.2, iI_ env s q e (Y e)) : ends rz.2 = (ends rx.2).flatMap Y := by
 have hz' := (qH_ (env := env) (s := s) (a := a) (p := p) (q := q) (Φ := FOUND) 99999999998 hf).symm.trans hz
 obtain ⟨y, hy1, hy2⟩ := Option.bind_eq_some_iff.1 hz'
 injection hy2 with hy2
 obtain ⟨r1, g1, g2⟩ := Option.bind_eq_some_iff.1 hy1
 injection g2 with g2
 have J := (mI_ (r7_ env s (fun e => iI_ env s q e (Y e)) Y []) 99999999998 bigN).1 _ (Fr0 env s f1 a) p a _ FOUND ⟨⟨rfl, rfl, rfl, rfl⟩, ⟨rfl, rfl, rfl, rfl⟩, fun _ => rfl⟩ rfl rfl (pV_ (m7_ hE hq (fun e h => h) _ _)) r1 rx g1 hx
 have c1 : r1.2.code_ = 0 := by rw [← cz, ← hy2, ← g2]
 have m1 : rz.2.matches_ = r1.2.matches_ := by rw [← hy2, ← g2]
 rcases J with J | J | ⟨_, J, _⟩
 ·exact absurd c1 J.2
 ·exact absurd cx J.2
 ·show rz.2.matches_.l.map _ = _
  rw [m1]
  exact (J.l hY).trans (by simp)
end Go.Am
end
