/- The law. -/
import Derived.Test.YtjgemoaobnokdaaAg1
import Derived.Test.YtjgemoaobnokdaaAl19
section
set_option maxRecDepth 100000
set_option maxHeartbeats 2000000
set_option linter.unusedVariables false
set_option linter.unusedSimpArgs false
namespace Go.Am
abbrev arbP (q : DPattern) : DPattern := ⟨20, 0, ⟨#[]⟩, ⟨false, [q]⟩⟩
theorem lm_ {q : DPattern} (h : CalmP q) : CalmP (arbP q) := .mk (by show (20 : Int) ≠ 14 ∧ (20 : Int) ≠ 15 ∧ (20 : Int) ≠ 17; decide) fun x hx => by
 have hx : x = q := by simpa using hx
 rw [hx]; exact h
theorem r2_ {env : Sl DNamed} {s : ByteArray} {a f : Int} {q : DPattern} {Φ : PhiT} (n : Nat) (hf : 0 < f ∧ f ≤ 20000) :
  (BG_impl_search_match (n + 2)).1 (Fr0 env s f a) (arbP q) a Φ = (((Φ a ⟨env, s, f, 1, a, ⟨true, []⟩, ⟨true, []⟩, ⟨true, []⟩, 0, false, T.nilm, 0⟩).bind fun y => if y.1 = true then (((BG_impl_search_match n).1 (NS y.2) q a (ak_ (BG_impl_search_match n).1 (BG_impl_search_match n).2 a (arbP q) Φ)).bind fun y => some (y.1, NS y.2)) else some (false, NS y.2))).bind (fun y => some (y.1, NS y.2)) := by
 have w1 : w4 (0 + 1) = 1 := rfl
 have d1 : decide ((0 : Int) = f) = false := by simp; omega
 have dl : decide (0 < (([q] : List DPattern).length : Int)) = true := rfl
 have e0 : elt (⟨false, [q]⟩ : Sl DPattern) 0 = some q := rfl
 show ac_ _ _ _ _ _ _ = _
 unfold ac_
 simp only [d1, w1, Int.reduceEq, decide_true, decide_false, Bool.false_eq_true, Bool.not_true, Bool.not_false, if_true, if_false, Option.bind_some, dl]
 rw [bgI2 n]
 unfold ai_
 simp only [e0, Option.bind_some, Int.reduceEq, decide_true, decide_false, Bool.false_eq_true, if_true, if_false]
theorem mB_ {env : Sl DNamed} {s : ByteArray} {q : DPattern} {a : Int} {Y : Int → List Int} (hE : kE_ env) (hq : CalmP q) (n : Nat) (R2 : MTy) : Adds env s (fun e => e = a ∨ hI_ env s (arbP q) e (Y e)) (fun e => if e = a then [] else Y e) (ak_ (BG_impl_search_match n).1 R2 a (arbP q) FOUND) := fun e S h h0 => by
 unfold ak_
 have hn : Pl env s (NS S) := ⟨h.e, h.s, h.m, h.r⟩
 refine b9_ (fun w => aK_ ⟨.inr ⟨rfl, h0, hn⟩, fun _ _ => ?_⟩) fun w => ?_
 ·have w : e = a := of_decide_eq_true w
  simp [w]
 ·have w : e ≠ a := fun h => w (by simp [h])
  refine aQ_ (Q := fun r => Fine env s r ∧ ((e = a ∨ hI_ env s (arbP q) e (Y e)) → r.1 = true → ends r.2 = ends S ++ if e = a then [] else Y e)) (fun r hr => ⟨oc_ hE (lm_ hq) n hn h0 r hr, fun hok hb => ?_⟩) fun r hr => aK_ ⟨?_, fun hok hb => hr.2 hok hb⟩
  ·rw [if_neg w]; exact oJ_ hE (lm_ hq) n hn h0 (hok.resolve_left w) hr hb
  ·rcases hr.1 with k | ⟨k1, k2, k3⟩
   ·exact .inl k
   ·exact .inr ⟨k1, k2, ⟨k3.e, k3.s, k3.m, k3.r⟩⟩
theorem oh_ {env : Sl DNamed} {s : ByteArray} {a f1 f3 : Int} {q : DPattern} {Y : Int → List Int} (hE : kE_ env) (hq : CalmP q) {rz rx : Bool × aa_} (hf : 0 < f3 ∧ f3 ≤ 20000) (hz : Run0 env s f3 a (arbP q) = some rz) (hx : Run0 env s f1 a q = some rx)
  (cz : rz.2.code_ = 0) (cx : rx.2.code_ = 0) (hY : ∀ e ∈ ends rx.2, e = a ∨ hI_ env s (arbP q) e (Y e)) : ends rz.2 = a :: (ends rx.2).flatMap fun e => if e = a then [] else Y e := by
 have hz' := (r2_ (env := env) (s := s) (a := a) (q := q) (Φ := FOUND) 99999999998 hf).symm.trans hz
 obtain ⟨y, hy1, hy2⟩ := Option.bind_eq_some_iff.1 hz'
 injection hy2 with hy2
 obtain ⟨r0, g0, g1⟩ := Option.bind_eq_some_iff.1 hy1
 rcases fN_ (env := env) (s := s) ⟨rfl, rfl, rfl, rfl⟩ rfl r0 g0 with k | ⟨k1, k2, k3, k4⟩
 ·rw [if_neg (by rw [k.1]; simp)] at g1
  injection g1 with g1
  exact absurd (show r0.2.code_ = 0 by rw [← cz, ← hy2, ← g1]) k.2
 rw [if_pos k1] at g1
 obtain ⟨r1, g2, g3⟩ := Option.bind_eq_some_iff.1 g1
 injection g3 with g3
 have J := (kO_ (sZ_ env s (fun e => e = a ∨ hI_ env s (arbP q) e (Y e)) (fun e => if e = a then [] else Y e) [a]) 99999999998 bigN).1 _ (Fr0 env s f1 a) q a _ FOUND ⟨⟨k3.e, k3.s, k3.m, k3.r⟩, ⟨rfl, rfl, rfl, rfl⟩, fun _ => k4⟩ k2 rfl (pq_ (mB_ hE hq _ _)) r1 rx g2 hx
 have c1 : r1.2.code_ = 0 := by rw [← cz, ← hy2, ← g3]
 have m1 : rz.2.matches_ = r1.2.matches_ := by rw [← hy2, ← g3]
 rcases J with J | J | ⟨_, J, _⟩
 ·exact absurd c1 J.2
 ·exact absurd cx J.2
 ·show rz.2.matches_.l.map _ = _
  rw [m1]
  exact J.l hY
end Go.Am
end
