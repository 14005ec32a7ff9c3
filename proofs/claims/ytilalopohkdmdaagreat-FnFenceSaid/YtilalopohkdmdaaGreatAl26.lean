/- The law. -/
import Derived.Test.YtilalopohkdmdaaGreatAg0
import Derived.Test.YtilalopohkdmdaaGreatAg1
import Derived.Test.YtilalopohkdmdaaGreatAl20
import Derived.Test.YtilalopohkdmdaaGreatAl22
import Derived.Test.YtilalopohkdmdaaGreatAl23
import Derived.Test.YtilalopohkdmdaaGreatAl25
section
set_option maxRecDepth 100000
set_option maxHeartbeats 1000000
set_option linter.unusedVariables false
set_option linter.unusedSimpArgs false
namespace Go.Am
abbrev feP : DPattern := ⟨14, 0, ⟨#[]⟩, ⟨true, []⟩⟩
theorem oF_ {env : Sl DNamed} {s : ByteArray} {q : DPattern} (hE : iH_ env) (hq : CalmP q) (n : Nat) {S : aa_} {e : Int} (h : Pl env s S) (h0 : S.code_ = 0) : Gv ((BG_impl_search_match (n + 3)).1 S (catP feP q) e FOUND) (fun r => Bad r ∨ (r.1 = false ∧ r.2.code_ = 0 ∧ ∀ Y, gl_ env s q e Y → ends r.2 = ends S ++ Y)) := by
 rw [show (BG_impl_search_match (n + 3)).1 S (catP feP q) e FOUND = ac_ (BG_impl_search_match (n + 2)).1 (BG_impl_search_match (n + 2)).2 S (catP feP q) e FOUND from rfl]
 unfold ac_
 refine as_ (st_q _ _ _ _) fun y hy => ?_
 obtain ⟨b, t, cd, mt⟩ := y
 rcases hy with ⟨rfl, h1⟩ | ⟨rfl, h1, h2⟩
 ·exact aW_ (fun _ => am_ (.inl ⟨rfl, by show cd ≠ 0; intro w; simp only at h1; omega⟩)) fun w => absurd rfl w
 simp only at h1 h2; subst h1 h2
 have dl : decide (0 < (([feP, q] : List DPattern).length : Int)) = true := rfl
 have e0 : elt (⟨false, [feP, q]⟩ : Sl DPattern) 0 = some feP := rfl
 have e1 : elt (⟨false, [feP, q]⟩ : Sl DPattern) 1 = some q := rfl
 simp only [Int.reduceEq, decide_true, decide_false, Bool.false_eq_true, Bool.not_true, Bool.not_false, if_true, if_false, dl]
 rw [bgI2 (n + 1)]
 unfold aj_
 simp only [e0, Option.bind_some, Int.reduceEq, decide_true, decide_false, Bool.false_eq_true, if_true, if_false]
 refine as_ (Q := fun r => Bad r ∨ (r.1 = false ∧ r.2.code_ = 0 ∧ ∀ Y, gl_ env s q e Y → ends r.2 = ends S ++ Y)) (as_ (Q := fun r => Bad r ∨ (r.1 = false ∧ r.2.code_ = 0 ∧ ∀ Y, gl_ env s q e Y → ends r.2 = ends S ++ Y)) ?_ fun r hr => am_ hr) fun r hr => am_ hr
 generalize hS1 : (⟨S.env_, S.subject_, S.fuel_, t, S.start_, S.now_, S.conds_, S.matches_, S.most_, S.isMere_, T.nilm, S.code_⟩ : aa_) = S1
 rw [show (BG_impl_search_match (n + 1)).1 S1 feP e (ag_ (BG_impl_search_match (n + 1)).1 (BG_impl_search_match (n + 1)).2 (catP feP q) FOUND) = ac_ (BG_impl_search_match n).1 (BG_impl_search_match n).2 S1 feP e (ag_ (BG_impl_search_match (n + 1)).1 (BG_impl_search_match (n + 1)).2 (catP feP q) FOUND) from rfl]
 have p1 : Pl env s S1 := by subst hS1; exact ⟨h.e, h.s, h.m, h.r⟩
 have c1 : S1.code_ = 0 := by subst hS1; exact h0
 have m1 : ends S1 = ends S := by subst hS1; rfl
 unfold ac_
 refine as_ (st_q _ _ _ _) fun y hy => ?_
 obtain ⟨b, t, cd, mt⟩ := y
 rcases hy with ⟨rfl, h1⟩ | ⟨rfl, h1, h2⟩
 ·exact aW_ (fun _ => am_ (.inl ⟨rfl, by show cd ≠ 0; intro w; simp only at h1; omega⟩)) fun w => absurd rfl w
 simp only at h1 h2; subst h1 h2
 simp only [Int.reduceEq, decide_true, decide_false, Bool.false_eq_true, Bool.not_true, Bool.not_false, if_true, if_false]
 unfold ag_
 simp only [e1, Option.bind_some]
 have p2 : Pl env s ⟨S1.env_, S1.subject_, S1.fuel_, t, S1.start_, S1.now_, S1.conds_, S1.matches_, S1.most_, S1.isMere_, T.nilm, S1.code_⟩ := ⟨p1.e, p1.s, p1.m, p1.r⟩
 refine as_ (Q := fun r => Fine env s r ∧ ∀ Y, r.1 = true → gl_ env s q e Y → ends r.2 = ends S ++ Y) (as_ (Q := fun r => Fine env s r ∧ ∀ Y, r.1 = true → gl_ env s q e Y → ends r.2 = ends S ++ Y) (fun r hr => ⟨oR_ hE hq (n + 1) p2 c1 r hr, fun Y hb hY => by rw [← m1]; exact oQ_ hE hq (n + 1) p2 c1 hY hr hb⟩) fun r hr => am_ ⟨?_, hr.2⟩) fun r hr => am_ ?_
 ·rcases hr.1 with k | ⟨k1, k2, k3⟩
  ·exact .inl k
  ·exact .inr ⟨k1, k2, ⟨k3.e, k3.s, k3.m, k3.r⟩⟩
 ·rcases hr.1 with k | ⟨k1, k2, k3⟩
  ·exact .inl ⟨rfl, k.2⟩
  ·exact .inr ⟨rfl, k2, fun Y hY => hr.2 Y k1 hY⟩
theorem nk_ {env : Sl DNamed} {s : ByteArray} {p q : DPattern} (hE : iH_ env) (hq : CalmP q) (n : Nat) (R2 : MTy) : PhiK env s (fun e0 L => ∀ Y, gl_ env s q e0 Y → L = Y) FOUND (ag_ (BG_impl_search_match (n + 3)).1 R2 (catP p (catP feP q)) FOUND) := fun e S S' h r r' hr hr' => by
 have key : Gv (ag_ (BG_impl_search_match (n + 3)).1 R2 (catP p (catP feP q)) FOUND e S') (fun r => Bad r ∨ (r.1 = false ∧ r.2.code_ = 0 ∧ ∀ Y, gl_ env s q e Y → ends r.2 = ends S' ++ Y)) := by
  unfold ag_
  have e1 : elt (⟨false, [p, catP feP q]⟩ : Sl DPattern) 1 = some (catP feP q) := rfl
  simp only [e1, Option.bind_some]
  exact as_ (oF_ hE hq n (⟨h.e.2, h.s.2, h.m.2, h.r.2⟩ : Pl env s (NS S')) h.c.2) fun r hr => am_ hr
 rcases mx_ ⟨h.e.1, h.s.1, h.m.1, h.r.1⟩ h.c.1 r hr with k | ⟨k1, k2, k3, k4⟩
 ·exact .inl k
 rcases key r' hr' with j | ⟨j1, j2, j3⟩
 ·exact .inr (.inl j)
 ·exact .inr (.inr (.inr ⟨j1, e, fun Y hY => by rw [j3 Y hY, h.l.2]; simp, fun _ => ⟨[], by rw [k4, h.l.1]; rfl⟩⟩))
theorem mN_ {env : Sl DNamed} {s : ByteArray} {a f1 f3 : Int} {p q : DPattern} (hE : iH_ env) (hp : CalmP p) (hq : CalmP q) {rz rx : Bool × aa_} (hf : 0 < f3 ∧ f3 ≤ 20000) (hz : Run0 env s f3 a (catP p (catP feP q)) = some rz) (hx : Run0 env s f1 a p = some rx)
  (cz : rz.2.code_ = 0) (cx : rx.2.code_ = 0) : (ends rx.2 = [] ∧ ends rz.2 = []) ∨ ∃ e0 y, ends rx.2 = e0 :: y ∧ ∀ Y, gl_ env s q e0 Y → ends rz.2 = Y := by
 have hz' := (qn_ (env := env) (s := s) (a := a) (p := p) (q := catP feP q) (Φ := FOUND) 99999999998 hf).symm.trans hz
 obtain ⟨y, hy1, hy2⟩ := Option.bind_eq_some_iff.1 hz'
 injection hy2 with hy2
 obtain ⟨r1, g1, g2⟩ := Option.bind_eq_some_iff.1 hy1
 injection g2 with g2
 have J := (or_ (Z := fun e0 L => ∀ Y, gl_ env s q e0 Y → L = Y) hE bigN 99999999998).1 (Fr0 env s f1 a) ⟨env, s, f3, 1, a, ⟨true, []⟩, ⟨true, []⟩, ⟨true, []⟩, 0, false, T.nilm, 0⟩ p a FOUND _ hp ⟨⟨rfl, rfl⟩, ⟨rfl, rfl⟩, ⟨rfl, rfl⟩, ⟨rfl, rfl⟩, ⟨rfl, rfl⟩, ⟨rfl, rfl⟩⟩ e_found (nk_ hE hq 99999999995 _) rx r1 hx g1
 have c1 : r1.2.code_ = 0 := by rw [← cz, ← hy2, ← g2]
 have m1 : rz.2.matches_ = r1.2.matches_ := by rw [← hy2, ← g2]
 have e1 : ends rz.2 = ends r1.2 := by unfold ends; rw [m1]
 rcases J with J | J | ⟨_, _, J⟩ | ⟨_, e0, J1, J2⟩
 ·exact absurd cx J.2
 ·exact absurd c1 J.2
 ·exact .inl ⟨J.l.1, by rw [e1]; exact J.l.2⟩
 ·obtain ⟨y, hy⟩ := J2 cx
  exact .inr ⟨e0, y, hy, fun Y hY => by rw [e1]; exact J1 Y hY⟩
theorem fe_vp : VP feP ∧ nd feP = 1 := by
 refine ⟨.mk ⟨by show (1 : Int) ≤ 14 ∧ (14 : Int) ≤ 24; decide, by show (0 : Int) = kidN 14; rfl, ?_⟩ (fun q hq => by simp at hq), by rw [hW_]; show 1 + ndL [] = 1; unfold ndL; omega⟩
 show ArgP 14 0 ⟨#[]⟩
 unfold ArgP
 rw [if_neg (by decide), if_neg (by decide), if_neg (by decide)]; exact ⟨rfl, rfl⟩
theorem mq_ (a : Sl (Iv .u8)) (h : ∀ x ∈ a.l, 0 ≤ x.v ∧ x.v ≤ 255) : gj_ a = some true := by
 refine iJ_ _ _ ?_
 unfold eU_
 by_cases hl : 1048576 < (a.l.length : Int)
 ·rw [if_pos (by simpa using hl)]
 rw [if_neg (by simpa using hl)]
 have hb : Bys a := ⟨h, by omega⟩
 obtain ⟨env, e1, hE, _, hC⟩ := mG_ a hb
 obtain ⟨b1, e2, hb1⟩ := n1_ 1 a h (by omega)
 obtain ⟨p, e3, p1, p2, p3⟩ := j8_ b1 hb1
 obtain ⟨b2, e4, hb2⟩ := n1_ 2 a h (by omega)
 obtain ⟨q, e5, q1, q2, q3⟩ := j8_ b2 hb2
 obtain ⟨b3, e6, hb3⟩ := n1_ 3 a h (by omega)
 obtain ⟨s, e7, hs⟩ := mz_ b3 hb3
 obtain ⟨c, e8, _⟩ := up_ a 4 (w4 ((s.size : Int) + 1)) hb (by omega) (by rw [aY_ (by omega) (by omega)]; omega)
 have hP : VPat p := ⟨p1, by omega⟩
 have hQ : VPat q := ⟨q1, by omega⟩
 have hn : c5_ 14 ⟨#[]⟩ ⟨true, []⟩ = some feP := gI_ _ _ _ _ rfl
 have v1 := pB_ 19 (.inr rfl) fe_vp.1 q1 (by rw [fe_vp.2]; omega)
 have n1 : nd (catP feP q) = 2 + nd q := by rw [hW_]; show (1 + ndL [feP, q] : Nat) = _; simp only [ndL, fe_vp.2]; omega
 have v2 := pB_ 19 (.inr rfl) p1 v1.1 (by rw [n1]; omega)
 obtain ⟨x, x1, x2, x3⟩ := pf_ (s := s) (a := c) (f := 1000) hE hP (by omega) (by omega)
 obtain ⟨z, z1, z2, z3⟩ := pf_ (s := s) (a := c) (f := 3000) hE v2 (by omega) (by omega)
 rw [e1, Option.bind_some, e2, Option.bind_some, e3, Option.bind_some, e4, Option.bind_some, e5, Option.bind_some, e6, Option.bind_some, e7, Option.bind_some, e8, Option.bind_some, x1, Option.bind_some, hn, Option.bind_some, sA_, Option.bind_some, sA_, Option.bind_some, z1, Option.bind_some]
 simp only [Bool.not_true, Bool.false_eq_true, if_false]
 by_cases c1 : x.2 = 0
 rotate_left
 ·rw [if_pos (by simp [c1])]
 by_cases c3 : z.2 = 0
 rotate_left
 ·rw [if_neg (by simp [c1]), if_pos (by simp [c3])]
 rw [if_neg (by simp [c1]), if_neg (by simp [c3])]
 obtain ⟨_, rx, f1, f2, f3⟩ := x3 c1
 obtain ⟨_, rz, h1, h2, h3⟩ := z3 c3
 have lx : x.1.l = (ends rx.2).map fun v => ⟨v⟩ := by rw [f3]; simp [ends, Function.comp_def]
 have lz : z.1.l = (ends rz.2).map fun v => ⟨v⟩ := by rw [h3]; simp [ends, Function.comp_def]
 rcases mN_ hC p2 q2 (by omega) h1 f1 h2 f2 with ⟨k1, k2⟩ | ⟨e0, y, k1, k2⟩
 ·rw [if_pos (by rw [lx, k1]; rfl), lz, k2]; rfl
 ·have hx0 : elt x.1 0 = some ⟨e0⟩ := by
   have := bK_ (s := x.1) (i := 0) (by rw [lx, k1]; simp)
   rw [show ((0 : Nat) : Int) = 0 from rfl] at this
   rw [this]; simp [lx, k1]
  rw [if_neg (by rw [lx, k1]; simp; omega), hx0, Option.bind_some]
  obtain ⟨w, w1, w2, w3⟩ := l3_ (s := s) (a := e0) (f := 1000) hE hQ (by omega) (by omega)
  rw [w1, Option.bind_some]
  by_cases c2 : w.2 = 0
  ·obtain ⟨_, r, r1, r2, r3⟩ := w3 c2
   have := k2 (ends r.2) ⟨1000, r, r1, r2, rfl⟩
   rw [if_neg (by simp [c2]), pl_ z.1 w.1 (by rw [lz, this, r3]; simp [ends, Function.comp_def]) (by omega)]; rfl
  ·rw [if_pos (by simp [c2])]
theorem law_FnFence {fu0 : Nat} {t0 : T} (h0 : Shp Go.Proofs.Tryz.prog fu0 22 [t0]) : ∃ σ', run Go.Proofs.Tryz.prog md ext 5 [t0] St.empty = some (.bool true, σ') := by
 obtain ⟨a, e0, ha⟩ := mT_ h0
 injection e0 with e0; subst e0
 exact ⟨_, fK_ (mq_ a ha.2) St.empty⟩
end Go.Am
end
