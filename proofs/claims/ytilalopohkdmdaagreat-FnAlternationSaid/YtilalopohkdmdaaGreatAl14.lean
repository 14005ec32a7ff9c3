/- The law. -/
import Derived.Test.YtilalopohkdmdaaGreatAg1
import Derived.Test.YtilalopohkdmdaaGreatAg2
import Derived.Test.YtilalopohkdmdaaGreatAl9
import Derived.Test.YtilalopohkdmdaaGreatAl13
section
set_option maxRecDepth 100000
set_option maxHeartbeats 2000000
set_option linter.unusedVariables false
set_option linter.unusedSimpArgs false
namespace Go.Am
structure Ix (env : Sl DNamed) (s : ByteArray) (X : List Int) (S S' : aa_) : Prop where
 e : S.env_ = env ∧ S'.env_ = env
 s : S.subject_ = s ∧ S'.subject_ = s
 m : S.most_ = 0 ∧ S'.most_ = 0
 r : S.isMere_ = false ∧ S'.isMere_ = false
 l : S.matches_.l.map (fun x => x.End) = X ++ S'.matches_.l.map (fun x => x.End)
theorem pb_ (env : Sl DNamed) (s : ByteArray) (X : List Int) : Clo (Ix env s X) where
 same h := ⟨h.e.2.trans h.e.1.symm, h.s.2.trans h.s.1.symm⟩
 upd _ _ _ _ _ _ _ _ _ _ h := ⟨h.e, h.s, h.m, h.r, h.l⟩
theorem lX_ (env : Sl DNamed) (s : ByteArray) (X : List Int) : PhiJ (Ix env s X) (fun e (S : aa_) => ap_ S e) (fun e (S : aa_) => ap_ S e) := fun e S S' h h1 h2 => by
 show Gt (ap_ S e) (ap_ S' e) _
 unfold ap_
 rw [h.r.1, h.r.2, if_neg (c := false = true) (by simp), if_neg (c := false = true) (by simp), h1, h2]
 refine a2_ (ih_ (st_q _ _ 0 S.matches_) (st_q _ _ 0 S'.matches_)) fun y y' hy => ?_
 obtain ⟨b, k, cs, m⟩ := y
 obtain ⟨b', k', cs', m'⟩ := y'
 rcases hy with ⟨⟨rfl, a2⟩ | ⟨rfl, a2, a3⟩, hq'⟩
 ·exact lR_ rfl (cl_ fun _ => .inl ⟨rfl, by show cs ≠ 0; intro w; simp only at a2; omega⟩)
 rcases hq' with ⟨rfl, a2'⟩ | ⟨rfl, a2', a3'⟩
 ·exact lU_ rfl (bm_ fun _ => .inr (.inl ⟨rfl, by show cs' ≠ 0; intro w; simp only at a2'; omega⟩))
 simp only at a2 a3 a2' a3'
 subst a2 a3 a2' a3'
 refine dT_ (fun w => by cases w) fun _ => ?_
 have bad : ∀ T : aa_, T.code_ = 6 → Bad (false, T) := fun T hT => ⟨rfl, by show T.code_ ≠ 0; rw [hT]; decide⟩
 by_cases q1 : S.matches_.l.length = 60
 ·exact lR_ (by simp [q1]) (cl_ fun _ => .inl (bad _ rfl))
 rw [if_neg (by simp; omega)]
 by_cases q2 : S'.matches_.l.length = 60
 ·exact lU_ (by simp [q2]) (bm_ fun _ => .inr (.inl (bad _ rfl)))
 rw [if_neg (by simp; omega)]
 refine a2_ (Q := fun _ _ => True) (fun _ _ _ _ => trivial) fun y y' _ => a2_ (ih_ app1 app1) fun q q' hq => a5_ ?_
 obtain ⟨f1, f2⟩ := hq
 have f1 : q.l = S.matches_.l ++ [⟨S.start_, e, y⟩] := f1
 have f2 : q'.l = S'.matches_.l ++ [⟨S'.start_, e, y'⟩] := f2
 refine .inr (.inr ⟨?_, ⟨h.e, h.s, h.m, ⟨rfl, rfl⟩, ?_⟩, fun _ => ⟨rfl, rfl⟩⟩)
 ·show (!decide ((q.l.length : Int) = S.most_)) = (!decide ((q'.l.length : Int) = S'.most_))
  rw [h.m.1, h.m.2, f1, f2]
  have d : ∀ n : Nat, decide (((n + 1 : Nat) : Int) = 0) = false := fun n => by simp; omega
  rw [List.length_append, List.length_append]
  simp only [List.length_cons, List.length_nil, Nat.zero_add, d]
 ·show q.l.map _ = X ++ q'.l.map _
  rw [f1, f2, List.map_append, List.map_append, h.l, List.append_assoc]; rfl
abbrev Fr0 (env : Sl DNamed) (s : ByteArray) (f a : Int) : aa_ := ⟨env, s, f, 0, a, ⟨true, []⟩, ⟨true, []⟩, ⟨true, []⟩, 0, false, T.nilm, 0⟩
noncomputable abbrev Run0 (env : Sl DNamed) (s : ByteArray) (f a : Int) (p : DPattern) : Option (Bool × aa_) := bj_ (Fr0 env s f a) p a (fun e S => ap_ S e)
theorem r1_ {env : Sl DNamed} {s : ByteArray} {a f : Int} {p q : DPattern} {Φ : PhiT} (n : Nat) (hf : 0 < f ∧ f ≤ 20000) :
  (BG_impl_search_match (n + 2)).1 (Fr0 env s f a) ⟨18, 0, ⟨#[]⟩, ⟨false, [p, q]⟩⟩ a Φ = (((BG_impl_search_match n).1 ⟨env, s, f, 1, a, ⟨true, []⟩, ⟨true, []⟩, ⟨true, []⟩, 0, false, T.nilm, 0⟩ p a Φ).bind fun y2 => (if y2.1 = true then (((BG_impl_search_match n).1 (NS y2.2) q a Φ).bind fun y4 => (some (y4.1, NS y4.2))) else (some (false, NS y2.2)))).bind (fun y => some (y.1, NS y.2)) := by
 have w1 : w4 (0 + 1) = 1 := rfl
 have d1 : decide ((0 : Int) = f) = false := by simp; omega
 have dl : decide (0 < (([p, q] : List DPattern).length : Int)) = true := rfl
 have e0 : elt (⟨false, [p, q]⟩ : Sl DPattern) 0 = some p := rfl
 have e1 : elt (⟨false, [p, q]⟩ : Sl DPattern) 1 = some q := rfl
 show ac_ _ _ _ _ _ _ = _
 unfold ac_
 simp only [d1, w1, Int.reduceEq, decide_true, decide_false, Bool.false_eq_true, Bool.not_true, Bool.not_false, if_true, if_false, Option.bind_some, dl]
 rw [bgI2 n]
 unfold am_
 simp only [e0, e1, Option.bind_some, Int.reduceEq, decide_true, if_true]
theorem oJ_ {env : Sl DNamed} {s : ByteArray} {a f1 f2 f3 : Int} {p q : DPattern} (hE : oX_ env) (hp : CalmP p) (hq : CalmP q) {rz rx ry : Bool × aa_} (hf : 0 < f3 ∧ f3 ≤ 20000) (hz : Run0 env s f3 a ⟨18, 0, ⟨#[]⟩, ⟨false, [p, q]⟩⟩ = some rz) (hx : Run0 env s f1 a p = some rx) (hy : Run0 env s f2 a q = some ry)
  (cz : rz.2.code_ = 0) (cx : rx.2.code_ = 0) (cy : ry.2.code_ = 0) : rz.2.matches_.l.map (fun x => x.End) = rx.2.matches_.l.map (fun x => x.End) ++ ry.2.matches_.l.map (fun x => x.End) := by
 let S1 : aa_ := ⟨env, s, f3, 1, a, ⟨true, []⟩, ⟨true, []⟩, ⟨true, []⟩, 0, false, T.nilm, 0⟩
 let found : PhiT := fun e S => ap_ S e
 have hz' := (r1_ (env := env) (s := s) (a := a) (p := p) (q := q) (Φ := found) 99999999998 hf).symm.trans hz
 obtain ⟨y, hy1, hy2⟩ := Option.bind_eq_some_iff.1 hz'
 injection hy2 with hy2
 obtain ⟨r1, g1, g2⟩ := Option.bind_eq_some_iff.1 hy1
 have cu := (oM_ hE 99999999998).1 S1 p a found hp rfl rfl (qe_ env) r1 g1
 have J := (nu_ (pb_ env s []) 99999999998 bigN).1 S1 (Fr0 env s f1 a) p a found found ⟨⟨rfl, rfl⟩, ⟨rfl, rfl⟩, ⟨rfl, rfl⟩, ⟨rfl, rfl⟩, rfl⟩ rfl rfl (lX_ env s []) r1 rx g1 hx
 by_cases hb : r1.1 = true
 ·rw [if_pos hb] at g2
  obtain ⟨r2, k1, k2⟩ := Option.bind_eq_some_iff.1 g2
  injection k2 with k2
  have c2 : r2.2.code_ = 0 := by rw [← cz, ← hy2, ← k2]
  have m2 : rz.2.matches_ = r2.2.matches_ := by rw [← hy2, ← k2]
  rcases J with J | J | ⟨j1, j2, j3⟩
  ·exact absurd J.1 (by rw [hb]; simp)
  ·exact absurd cx J.2
  have J2 := (nu_ (pb_ env s (rx.2.matches_.l.map fun x => x.End)) 99999999998 bigN).1 (NS r1.2) (Fr0 env s f2 a) q a found found ⟨⟨j2.e.1, rfl⟩, ⟨j2.s.1, rfl⟩, ⟨j2.m.1, rfl⟩, ⟨j2.r.1, rfl⟩, by have := j2.l; simpa using this⟩ (j3 hb).1 rfl (lX_ env s _) r2 ry k1 hy
  rcases J2 with J2 | J2 | ⟨j4, j5, j6⟩
  ·exact absurd c2 J2.2
  ·exact absurd cy J2.2
  ·rw [m2]; exact j5.l
 ·rw [if_neg hb] at g2
  injection g2 with g2
  have : r1.2.code_ = 0 := by rw [← cz, ← hy2, ← g2]
  exact absurd this (cu.c.resolve_left hb)
end Go.Am
end
