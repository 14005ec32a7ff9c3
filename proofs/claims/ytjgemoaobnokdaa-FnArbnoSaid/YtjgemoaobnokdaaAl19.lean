/- The law. -/
import Derived.Test.YtjgemoaobnokdaaAg1
import Derived.Test.YtjgemoaobnokdaaAg2
import Derived.Test.YtjgemoaobnokdaaAl14
section
set_option maxRecDepth 100000
set_option maxHeartbeats 2000000
set_option linter.unusedVariables false
set_option linter.unusedSimpArgs false
namespace Go.Am
noncomputable abbrev FOUND : PhiT := fun e S => aj_ S e
abbrev ends (S : aa_) : List Int := S.matches_.l.map fun x => x.End
structure Pl (env : Sl DNamed) (s : ByteArray) (S : aa_) : Prop where
 e : S.env_ = env
 s : S.subject_ = s
 m : S.most_ = 0
 r : S.isMere_ = false
theorem sd_ {env : Sl DNamed} {s : ByteArray} {S S' : aa_} {X : List Int} (h : Pl env s S) (h' : Pl env s S') (hl : ends S = X ++ ends S') : Ix env s X S S' := ⟨⟨h.e, h'.e⟩, ⟨h.s, h'.s⟩, ⟨h.m, h'.m⟩, ⟨h.r, h'.r⟩, hl⟩
def Fine (env : Sl DNamed) (s : ByteArray) (r : Bool × aa_) : Prop := Bad r ∨ (r.1 = true ∧ r.2.code_ = 0 ∧ Pl env s r.2)
theorem oc_ {env : Sl DNamed} {s : ByteArray} {q : DPattern} (hE : kE_ env) (hq : CalmP q) (n : Nat) {S : aa_} {e : Int} (h : Pl env s S) (h0 : S.code_ = 0) : Gv ((BG_impl_search_match n).1 S q e FOUND) (Fine env s) := fun r hr => by
 have cu := (of_ hE n).1 S q e FOUND hq h.e h.m (qd_ env) r hr
 have J := (kO_ (o3_ env s []) n n).1 S S q e FOUND FOUND (sd_ h h rfl) h0 h0 (lq_ env s []) r r hr hr
 rcases cu.c with c | c
 ·rcases J with J | J | ⟨_, J, k⟩
  ·exact .inl J
  ·exact .inl J
  ·exact .inr ⟨c, (k c).1, ⟨J.e.1, J.s.1, J.m.1, J.r.1⟩⟩
 ·rcases J with J | J | ⟨_, J, k⟩
  ·exact .inl J
  ·exact .inl J
  ·by_cases hb : r.1 = true
   ·exact absurd (k hb).1 c
   ·exact .inl ⟨by cases h : r.1 <;> simp [h] at hb ⊢, c⟩
theorem fN_ {env : Sl DNamed} {s : ByteArray} {S : aa_} {e : Int} (h : Pl env s S) (h0 : S.code_ = 0) : Gv (FOUND e S) (fun r => Bad r ∨ (r.1 = true ∧ r.2.code_ = 0 ∧ Pl env s r.2 ∧ ends r.2 = ends S ++ [e])) := fun r hr => by
 have hr : aj_ S e = some r := hr
 have key : Gv (aj_ S e) (fun r => Bad r ∨ (r.1 = true ∧ r.2.code_ = 0 ∧ Pl env s r.2 ∧ ends r.2 = ends S ++ [e])) := by
  unfold aj_
  rw [h.r, if_neg (c := false = true) (by simp), h0]
  refine aQ_ (st_q _ _ 0 S.matches_) fun y hy => ?_
  obtain ⟨b, k, cs, m⟩ := y
  rcases hy with ⟨rfl, a2⟩ | ⟨rfl, a2, a3⟩
  ·exact b9_ (fun _ => aK_ (.inl ⟨rfl, by show cs ≠ 0; intro w; simp only at a2; omega⟩)) fun w => absurd rfl w
  simp only at a2 a3
  subst a2 a3
  refine b9_ (fun w => by cases w) fun _ => b9_ (fun _ => aK_ (.inl ⟨rfl, by show (6 : Int) ≠ 0; decide⟩)) fun _ => aQ_ fX_ fun y _ => aQ_ app1 fun q hq => aK_ (.inr ⟨?_, rfl, ⟨h.e, h.s, h.m, rfl⟩, ?_⟩)
  ·have hq : q.l = S.matches_.l ++ [⟨S.start_, e, y⟩] := hq
   have hm := h.m
   show (!decide ((q.l.length : Int) = S.most_)) = true
   rw [hm, hq]
   simp; omega
  ·have hq : q.l = S.matches_.l ++ [⟨S.start_, e, y⟩] := hq
   show q.l.map _ = _
   rw [hq, List.map_append]; rfl
 exact key r hr
def hI_ (env : Sl DNamed) (s : ByteArray) (q : DPattern) (e : Int) (Y : List Int) : Prop := ∃ f r, Run0 env s f e q = some r ∧ r.2.code_ = 0 ∧ ends r.2 = Y
structure Fl (env : Sl DNamed) (s : ByteArray) (ok : Int → Prop) (Y : Int → List Int) (X : List Int) (S S' : aa_) : Prop where
 p : Pl env s S
 p' : Pl env s S'
 l : (∀ e ∈ ends S', ok e) → ends S = X ++ (ends S').flatMap Y
theorem sZ_ (env : Sl DNamed) (s : ByteArray) (ok : Int → Prop) (Y : Int → List Int) (X : List Int) : Clo (Fl env s ok Y X) where
 same h := ⟨h.p'.e.trans h.p.e.symm, h.p'.s.trans h.p.s.symm⟩
 upd _ _ _ _ _ _ _ _ _ _ h := ⟨⟨h.p.e, h.p.s, h.p.m, h.p.r⟩, ⟨h.p'.e, h.p'.s, h.p'.m, h.p'.r⟩, h.l⟩
def Adds (env : Sl DNamed) (s : ByteArray) (ok : Int → Prop) (Y : Int → List Int) (Ψ : PhiT) : Prop := ∀ e S, Pl env s S → S.code_ = 0 → Gv (Ψ e S) (fun r => Fine env s r ∧ (ok e → r.1 = true → ends r.2 = ends S ++ Y e))
theorem pq_ {env : Sl DNamed} {s : ByteArray} {ok : Int → Prop} {Y : Int → List Int} {X : List Int} {Ψ : PhiT} (h : Adds env s ok Y Ψ) : PhiJ (Fl env s ok Y X) Ψ FOUND := fun e S S' hI h1 h2 r r' hr hr' => by
 obtain ⟨f, g⟩ := h e S hI.p h1 r hr
 rcases f with f | ⟨f1, f2, f3⟩
 ·exact .inl f
 rcases fN_ hI.p' h2 r' hr' with k | ⟨k1, k2, k3, k4⟩
 ·exact .inr (.inl k)
 refine .inr (.inr ⟨f1.trans k1.symm, ⟨f3, k3, fun hok => ?_⟩, fun _ => ⟨f2, k2⟩⟩)
 rw [k4] at hok ⊢
 rw [g (hok e (by simp)) f1, hI.l fun x hx => hok x (by simp [hx])]
 simp
theorem oJ_ {env : Sl DNamed} {s : ByteArray} {q : DPattern} (hE : kE_ env) (hq : CalmP q) (n : Nat) {S : aa_} {e : Int} {Y : List Int} (h : Pl env s S) (h0 : S.code_ = 0) (hY : hI_ env s q e Y) {r : Bool × aa_} (hr : (BG_impl_search_match n).1 S q e FOUND = some r) (hb : r.1 = true) : ends r.2 = ends S ++ Y := by
 obtain ⟨f, r0, k1, k2, rfl⟩ := hY
 have J := (kO_ (o3_ env s (ends S)) n bigN).1 S (Fr0 env s f e) q e FOUND FOUND (sd_ h ⟨rfl, rfl, rfl, rfl⟩ (by simp)) h0 rfl (lq_ env s _) r r0 hr k1
 rcases J with J | J | ⟨_, J, _⟩
 ·exact absurd J.1 (by rw [hb]; simp)
 ·exact absurd k2 J.2
 ·exact J.l
end Go.Am
end
