/- The law. -/
import Derived.Test.YtilalopohkdmdaaGreatAg0
import Derived.Test.YtilalopohkdmdaaGreatAg2
import Derived.Test.YtilalopohkdmdaaGreatAg1
import Derived.Test.YtilalopohkdmdaaGreatAl13
import Derived.Test.YtilalopohkdmdaaGreatAl19
import Derived.Test.YtilalopohkdmdaaGreatAl22
import Derived.Test.YtilalopohkdmdaaGreatAl25
section
set_option maxRecDepth 100000
set_option maxHeartbeats 1000000
set_option linter.unusedVariables false
set_option linter.unusedSimpArgs false
namespace Go.Am
abbrev upto (n : Nat) : List (Iv .i64) := (List.range n).map fun (i : Nat) => (⟨(i : Int)⟩ : Iv .i64)
theorem m2_ (n : Nat) : upto (n + 1) = upto n ++ [⟨(n : Int)⟩] := by unfold upto; rw [List.range_succ, List.map_append]; rfl
theorem hs_ (s : ByteArray) (hs : s.size ≤ 200) : ∀ (m j : Nat), j + m = s.size + 1 → ∀ st : Sl (Iv .i64), st.l = upto j → ∃ w : Sl (Iv .i64), aD_ (S := (Int × (Sl (Iv .i64)))) (R := (Sl (Iv .i64))) (fun st1 => (if (decide (st1.1 ≤ (s.size : Int))) = true then (if (!false) = true then ((appS 8 st1.2 (⟨false, [⟨st1.1⟩]⟩ : Sl (Iv .i64))).bind fun y2 => (some (.inl ((w4 (st1.1 + 1)), y2)))) else (some (.inr st1.2))) else (some (.inr st1.2)))) ((j : Int), st) = some w ∧ w.l = upto (s.size + 1) := by
 intro m
 induction m with
 | zero =>
  intro j hj st h1
  refine ⟨st, al_ ?_, by rw [h1, show j = s.size + 1 by omega]⟩
  show (if decide ((j : Int) ≤ (s.size : Int)) = true then _ else _) = _
  rw [if_neg (by simp; omega)]
 | succ m ih =>
  intro j hj st h1
  have ec : ((j + 1 : Nat) : Int) = (j : Int) + 1 := by simp
  obtain ⟨z, l⟩ := st
  have h1 : l = upto j := h1
  have hl : l.length = j := by rw [h1]; simp
  obtain ⟨w, w1, w2⟩ := ih (j + 1) (by omega) ⟨false, l ++ [⟨(j : Int)⟩]⟩ (by rw [m2_, h1])
  rw [ec] at w1
  refine ⟨w, aC_ ?_ w1, w2⟩
  show (if decide ((j : Int) ≤ (s.size : Int)) = true then ((appS 8 (⟨z, l⟩ : Sl (Iv .i64)) ⟨false, [⟨(j : Int)⟩]⟩).bind _) else _) = _
  rw [if_pos (by simp; omega), bz_ (by omega), Option.bind_some]
  show some (Sum.inl (w4 ((j : Int) + 1), _)) = _
  rw [aU_ (by omega) (by omega)]
theorem ld_ (s : ByteArray) (hs : s.size ≤ 200) : ∃ w, bT_ s false = some w ∧ w.l = upto (s.size + 1) := by
 obtain ⟨w, h1, h2⟩ := hs_ s hs s.size 1 (by omega) ⟨false, [⟨0⟩]⟩ rfl
 rw [show ((1 : Nat) : Int) = 1 from rfl] at h1
 refine ⟨w, f0_ s false w ?_, h2⟩
 unfold c7_; rw [h1]; rfl
section
variable {env : Sl DNamed} {s : ByteArray} {p : DPattern}
theorem nO_ (hE : EnvP env) (hv : VPat p) (hs : s.size ≤ 200) {a f : Int} (ha : 0 ≤ a ∧ a ≤ s.size) (hf : 0 ≤ f ∧ f ≤ 20000) : ∃ (w : Sl (Iv .i64) × Int) (r : Bool × aa_), cy_ env p s a f = some w ∧ w.1.l.length ≤ 60 ∧ Run0 env s f a p = some r ∧ w.2 = r.2.code_ ∧ (w.2 = 0 → w.1.l = r.2.matches_.l.map (fun x => ⟨x.End⟩)) := by
 suffices H : ∃ (w : Sl (Iv .i64) × Int) (r : Bool × aa_), d9_ env p s a f = some w ∧ w.1.l.length ≤ 60 ∧ Run0 env s f a p = some r ∧ w.2 = r.2.code_ ∧ (w.2 = 0 → w.1.l = r.2.matches_.l.map (fun x => ⟨x.End⟩)) by
  obtain ⟨w, r, h1, h2⟩ := H; exact ⟨w, r, jo_ _ _ _ _ _ _ h1, h2⟩
 have hA : askV env p s f = 0 := by
  unfold askV
  rw [a0_ (show AskP env p s from ⟨hE, hv, by omega⟩), a0_ hf]; rfl
 unfold d9_
 rw [(p9_ env p s f (nj_ hE) (sm_vp _ hv.1)).2, hA, Option.bind_some, in2, Option.bind_some, lj_, Option.bind_some, pc_, Option.bind_some]
 obtain ⟨x, x1, x2, x3⟩ := rQ_ (env := env) (s := s) (p := p) (starts := ⟨false, [⟨a⟩]⟩) hs (fun x hx => (hE.2.1 x hx).2.1) hE.1 hv.1 (fun v hv => by simp at hv; rw [hv]; exact ha) (by simp) f hf
 obtain ⟨r, r1, r2⟩ := rG_ x1
 have em : x.2.2.2.2.2.2.2.2.2.2 = r.2.matches_ := congrArg aa_.matches_ r2
 have ec : x.2.2.2.2.2.2.2.1 = r.2.code_ := congrArg aa_.code_ r2
 rw [a0_ ha, if_pos rfl, if_pos rfl, if_neg (by simp), x2, Option.bind_some]
 by_cases hc : x.2.2.2.2.2.2.2.1 = 0
 ·rw [if_neg (by simp [hc]), n3_ _ x3]
  exact ⟨_, r, rfl, by simpa using x3, r1, by rw [← ec]; exact hc.symm, fun _ => by rw [em]⟩
 ·rw [if_pos (by simp [hc])]
  exact ⟨_, r, rfl, by simp, r1, ec, fun h => absurd h hc⟩
def OneS (env : Sl DNamed) (p : DPattern) (s : ByteArray) (f : Int) (j : Nat) (x : List DMatch) : Prop := ∃ w : Sl (Iv .i64) × Int, cy_ env p s (j : Int) f = some w ∧ w.2 = 0 ∧ w.1.l = x.map (fun m => ⟨m.End⟩) ∧ w.1.l.length ≤ 60 ∧ ∀ m ∈ x, m.Start = (j : Int)
theorem mr_ (hE : EnvP env) (hC : oC_ env) (hv : VPat p) (hcp : CalmP p) (hs : s.size ≤ 200) {f : Int} (hf : 0 ≤ f ∧ f ≤ 20000) {w : Sl (Iv .i64)} (hw : w.l = upto (s.size + 1)) {y : T11} (hy0 : y.2.2.2.2.2.2.2.1 = 0) :
  ∀ (k j : Nat), j + k = s.size + 1 → ∀ (t st : Int) (nw cd : Sl DCapture) (mt : Sl DMatch), 0 ≤ t ∧ t ≤ f → nw.l.length + cd.l.length ≤ 100 → mt.l.length ≤ 60 → IMF p w ((j : Int), env, s, f, t, st, 0, false, 0, nw, cd, mt) = some y →
  ∃ l : List (List DMatch), l.length = k ∧ y.2.2.2.2.2.2.2.2.2.2.l = mt.l ++ l.flatten ∧ ∀ i (hi : i < l.length), OneS env p s f (j + i) l[i] := by
 intro k
 induction k with
 | zero =>
  intro j hj t st nw cd mt ht hcap hmt hy
  unfold IMF at hy
  have hd : ¬ (decide ((j : Int) < (w.l.length : Int)) = true) := by rw [hw]; simp; omega
  rcases gQ_ hy with h | ⟨s', h, _⟩
  ·have := (if_neg hd).symm.trans h
   injection this with this; injection this with this; subst this
   exact ⟨[], rfl, by simp, fun i hi => by simp at hi⟩
  ·have := (if_neg hd).symm.trans h
   injection this with this; cases this
 | succ k ih =>
  intro j hj t st nw cd mt ht hcap hmt hy
  have hlt : j < w.l.length := by rw [hw]; simp; omega
  have hd : decide ((j : Int) < (w.l.length : Int)) = true := by simpa using hlt
  have hel : elt w (j : Int) = some ⟨(j : Int)⟩ := by rw [bK_ hlt]; simp [hw]
  obtain ⟨v, r', v1, v2, v3, v4, v5⟩ := nO_ (a := (j : Int)) hE hv hs (by omega) hf
  let S : aa_ := ⟨env, s, f, t, (j : Int), nw, cd, mt, 0, false, T.nilm, 0⟩
  have key : ∀ r, aR_ S p (j : Int) (fun e S => ak_ S e) = some r → r.2.code_ ≠ 0 ∨ (r.1 = true ∧ r.2.code_ = 0 ∧ ∃ x, r.2.matches_.l = mt.l ++ x ∧ OneS env p s f j x ∧ RelX (mt.l.map fun x => x.End) f f (NS r.2) (NS r'.2)) := fun r hr => by
   have X := (x_all (X := mt.l.map fun x => x.End) (f := f) (f' := f) bigN bigN).1 S (Fr0 env s f j) p (j : Int) _ _ (.mk ⟨ht.1, ht.2, hf.2⟩ ⟨Int.le_refl _, hf.1, hf.2⟩ (by omega) ⟨Nat.zero_le _, Nat.zero_le _, hcap⟩ ⟨by simp, hmt⟩) x_found r r' hr v3
   have cu := (m7_ hC bigN).1 S p (j : Int) _ hcp rfl rfl (nR_ env) r hr
   rcases X with X | ⟨X1, X2⟩
   ·exact .inl X.2
   ·have c0 : r.2.code_ = 0 ∧ r'.2.code_ = 0 := by
     obtain ⟨b1, u1, u2, u3, u4, u5, u6, u7, u8, u9, u10, u11, u12⟩ := r
     obtain ⟨b2, z1, z2, z3, z4, z5, z6, z7, z8, z9, z10, z11, z12⟩ := r'
     have X2 : RelX _ f f (⟨u1, u2, u3, u4, u5, u6, u7, u8, u9, u10, T.nilm, u12⟩ : aa_) (⟨z1, z2, z3, z4, z5, z6, z7, z8, z9, z10, T.nilm, z12⟩ : aa_) := X2
     cases X2; exact ⟨rfl, rfl⟩
    have he : r.2.matches_.l.map (fun x => x.End) = mt.l.map (fun x => x.End) ++ r'.2.matches_.l.map fun x => x.End := by
     obtain ⟨b1, u1, u2, u3, u4, u5, u6, u7, u8, u9, u10, u11, u12⟩ := r
     obtain ⟨b2, z1, z2, z3, z4, z5, z6, z7, z8, z9, z10, z11, z12⟩ := r'
     have X2 : RelX _ f f (⟨u1, u2, u3, u4, u5, u6, u7, u8, u9, u10, T.nilm, u12⟩ : aa_) (⟨z1, z2, z3, z4, z5, z6, z7, z8, z9, z10, T.nilm, z12⟩ : aa_) := X2
     cases X2 with | mk h1 h2 h3 h4 h5 => exact h5.1
    have up := (u_all bigN).1 S p (j : Int) _ ⟨rfl, hcap⟩ u_found r hr
    obtain ⟨x, x1, x2⟩ := up.2.2 c0.1
    have x1 : r.2.matches_.l = mt.l ++ x := x1
    refine .inr ⟨cu.c.resolve_right (fun h => h c0.1), c0.1, x, x1, ⟨v, v1, by rw [v4, c0.2], ?_, v2, fun m hm => (x2 m hm).1⟩, X2⟩
    rw [x1, List.map_append, List.append_cancel_left_eq] at he
    rw [v5 (by rw [v4, c0.2])]
    have := congrArg (List.map fun x : Int => (⟨x⟩ : Iv .i64)) he.symm
    simpa [Function.comp_def] using this
  unfold IMF at hy
  have body : ∀ o, (aR_ S p (j : Int) (fun e S => ak_ S e)).bind (fun y3 => if (!y3.1) = true then (some (.inr (y3.2.env_, y3.2.subject_, y3.2.fuel_, y3.2.steps_, y3.2.start_, y3.2.most_, y3.2.isMere_, y3.2.code_, y3.2.now_, y3.2.conds_, y3.2.matches_)) : Option ((Int × T11) ⊕ T11)) else (some (.inl ((w4 ((j : Int) + 1)), y3.2.env_, y3.2.subject_, y3.2.fuel_, y3.2.steps_, y3.2.start_, y3.2.most_, y3.2.isMere_, y3.2.code_, y3.2.now_, y3.2.conds_, y3.2.matches_)))) = some o → ∃ b S1, aR_ S p (j : Int) (fun e S => ak_ S e) = some (b, S1) ∧ ((b = false ∧ o = .inr (S1.env_, S1.subject_, S1.fuel_, S1.steps_, S1.start_, S1.most_, S1.isMere_, S1.code_, S1.now_, S1.conds_, S1.matches_)) ∨ (b = true ∧ o = .inl ((j : Int) + 1, S1.env_, S1.subject_, S1.fuel_, S1.steps_, S1.start_, S1.most_, S1.isMere_, S1.code_, S1.now_, S1.conds_, S1.matches_))) := fun o ho => by
   rw [aU_ (by omega) (by omega)] at ho
   obtain ⟨⟨b, S1⟩, h1, h2⟩ := Option.bind_eq_some_iff.1 ho
   refine ⟨b, S1, h1, ?_⟩
   cases b
   ·simp only [Bool.not_false, if_true] at h2; injection h2 with h2; exact .inl ⟨rfl, h2.symm⟩
   ·simp only [Bool.not_true, Bool.false_eq_true, if_false] at h2; injection h2 with h2; exact .inr ⟨rfl, h2.symm⟩
  have start : ∀ o, (if decide ((j : Int) < (w.l.length : Int)) = true then (elt w (j : Int)).bind fun y2 => (aR_ ⟨env, s, f, t, y2.v, nw, cd, mt, 0, false, T.nilm, 0⟩ p y2.v (fun e S => ak_ S e)).bind (fun y3 => if (!y3.1) = true then (some (.inr (y3.2.env_, y3.2.subject_, y3.2.fuel_, y3.2.steps_, y3.2.start_, y3.2.most_, y3.2.isMere_, y3.2.code_, y3.2.now_, y3.2.conds_, y3.2.matches_)) : Option ((Int × T11) ⊕ T11)) else (some (.inl ((w4 ((j : Int) + 1)), y3.2.env_, y3.2.subject_, y3.2.fuel_, y3.2.steps_, y3.2.start_, y3.2.most_, y3.2.isMere_, y3.2.code_, y3.2.now_, y3.2.conds_, y3.2.matches_)))) else (some (.inr (env, s, f, t, st, 0, false, 0, nw, cd, mt)))) = some o → _ := fun o ho => by
   rw [if_pos hd, hel, Option.bind_some] at ho
   exact body o ho
  rcases gQ_ hy with h | ⟨s', h, h'⟩
  ·obtain ⟨b, S1, k1, k2⟩ := start _ h
   rcases k2 with ⟨rfl, g⟩ | ⟨_, g⟩
   ·injection g with g; subst g
    rcases key _ k1 with q | ⟨q, _⟩
    ·exact absurd hy0 q
    ·cases q
   ·cases g
  ·obtain ⟨b, S1, k1, k2⟩ := start _ h
   rcases k2 with ⟨_, g⟩ | ⟨rfl, g⟩
   ·cases g
   ·injection g with g; subst g
    obtain ⟨u1, u2, u3, u4, u5, u6, u7, u8, u9, u10, u11, u12⟩ := S1
    rcases key _ k1 with q | ⟨_, q0, x, q1, q2, q3⟩
    ·-- an error goes on to the end
     exact absurd hy0 (by
      have q : u12 ≠ 0 := q
      have := (m7_ hC bigN).1 S p (j : Int) _ hcp rfl rfl (nR_ env) _ k1
      have J := (n4_ (pv_ env s []) bigN bigN).1 S S p (j : Int) _ _ ⟨⟨rfl, rfl⟩, ⟨rfl, rfl⟩, ⟨rfl, rfl⟩, ⟨rfl, rfl⟩, by simp⟩ rfl rfl (lK_ env s []) _ _ k1 k1
      rcases J with J | J | ⟨_, _, J⟩
      ·exact absurd J.1 (by simp)
      ·exact absurd J.1 (by simp)
      ·exact absurd (J rfl).1 q)
    ·have q3 : RelX _ f f (⟨u1, u2, u3, u4, u5, u6, u7, u8, u9, u10, T.nilm, u12⟩ : aa_) (NS r'.2) := q3
     obtain ⟨b2, z1, z2, z3, z4, z5, z6, z7, z8, z9, z10, z11, z12⟩ := r'
     have q3 : RelX _ f f (⟨u1, u2, u3, u4, u5, u6, u7, u8, u9, u10, T.nilm, u12⟩ : aa_) (⟨z1, z2, z3, z4, z5, z6, z7, z8, z9, z10, T.nilm, z12⟩ : aa_) := q3
     have up := (u_all bigN).1 S p (j : Int) _ ⟨rfl, hcap⟩ u_found _ k1
     have eenv : u1 = env := up.1.2
     have J := (n4_ (pv_ env s []) bigN bigN).1 S S p (j : Int) _ _ ⟨⟨rfl, rfl⟩, ⟨rfl, rfl⟩, ⟨rfl, rfl⟩, ⟨rfl, rfl⟩, by simp⟩ rfl rfl (lK_ env s []) _ _ k1 k1
     have J2 : u2 = s ∧ u10 = false := by
      rcases J with J | J | ⟨_, J, _⟩
      ·exact absurd J.1 (by simp)
      ·exact absurd J.1 (by simp)
      ·exact ⟨J.s.1, J.r.1⟩
     obtain ⟨rfl, rfl⟩ := J2
     subst eenv
     have q1 : u8.l = mt.l ++ x := q1
     cases q3 with
     | mk h1 h2 h3 h4 h5 =>
      obtain ⟨l, l1, l2, l3⟩ := ih (j + 1) (by omega) u4 u5 u6 u7 u8 ⟨h1.1, h1.2.1⟩ h4.2.2 h5.2 (by rw [show ((j + 1 : Nat) : Int) = (j : Int) + 1 by simp]; exact h')
      refine ⟨x :: l, by simp [l1], by rw [l2, q1]; simp, fun i hi => ?_⟩
      cases i with
      | zero => exact q2
      | succ i =>
       have := l3 i (by simpa using hi)
       rw [show j + 1 + i = j + (i + 1) by omega] at this
       exact this
end
theorem pL_ {L : Sl DMatch} {P x Q : List DMatch} {y : Sl (Iv .i64)} {j : Nat} (hL : L.l = P ++ (x ++ Q)) (hl : L.l.length ≤ 1000) (hy : y.l = x.map (fun m => ⟨m.End⟩)) (hx : ∀ m ∈ x, m.Start = (j : Int)) : aD_ (S := (Int × Int)) (R := (Int ⊕ Bool)) (fun st2 => (if (decide (st2.2 < (y.l.length : Int))) = true then (if (decide ((L.l.length : Int) ≤ st2.1)) = true then (some (.inr (.inr false))) else ((elt L st2.1).bind fun y10 => (if (!decide (y10.Start = (j : Int))) = true then (some (.inr (.inr false))) else ((elt L st2.1).bind fun y11 => ((elt y st2.2).bind fun y12 => (if (!decide (y11.End = y12.v)) = true then (some (.inr (.inr false))) else (some (.inl ((w4 (st2.1 + 1)), (w4 (st2.2 + 1))))))))))) else (some (.inr (.inl st2.1))))) ((P.length : Int), 0) = some (.inl ((P.length + x.length : Nat) : Int)) := by
 have hyl : y.l.length = x.length := by rw [hy, List.length_map]
 have hLl : L.l.length = P.length + (x.length + Q.length) := by rw [hL]; simp
 suffices H : ∀ m i : Nat, i + m = x.length → aD_ (S := (Int × Int)) (R := (Int ⊕ Bool)) (fun st2 => (if (decide (st2.2 < (y.l.length : Int))) = true then (if (decide ((L.l.length : Int) ≤ st2.1)) = true then (some (.inr (.inr false))) else ((elt L st2.1).bind fun y10 => (if (!decide (y10.Start = (j : Int))) = true then (some (.inr (.inr false))) else ((elt L st2.1).bind fun y11 => ((elt y st2.2).bind fun y12 => (if (!decide (y11.End = y12.v)) = true then (some (.inr (.inr false))) else (some (.inl ((w4 (st2.1 + 1)), (w4 (st2.2 + 1))))))))))) else (some (.inr (.inl st2.1))))) (((P.length + i : Nat) : Int), (i : Int)) = some (.inl ((P.length + x.length : Nat) : Int)) by
  exact H x.length 0 (by omega)
 intro m
 induction m with
 | zero =>
  intro i hi
  refine al_ ?_
  show (if decide ((i : Int) < (y.l.length : Int)) = true then _ else _) = _
  rw [if_neg (by simp; omega), show i = x.length by omega]
 | succ m ih =>
  intro i hi
  have w := ih (i + 1) (by omega)
  have hix : i < x.length := by omega
  have e1 : elt L ((P.length + i : Nat) : Int) = some x[i] := by
   rw [bK_ (by omega)]
   simp only [hL, List.getElem_append_right (Nat.le_add_right P.length i), Nat.add_sub_cancel_left, List.getElem_append_left hix]
  have e2 : elt y (i : Int) = some ⟨x[i].End⟩ := by
   rw [bK_ (by omega)]
   simp [hy]
  refine aC_ ?_ w
  show (if decide ((i : Int) < (y.l.length : Int)) = true then (if decide ((L.l.length : Int) ≤ ((P.length + i : Nat) : Int)) = true then _ else _) else _) = _
  rw [if_pos (by simp; omega), if_neg (by simp; omega), e1, Option.bind_some, if_neg (by simp [hx _ (List.getElem_mem hix)]), Option.bind_some, e2, Option.bind_some, if_neg (by simp), aU_ (by omega) (by omega), aU_ (by omega) (by omega)]
  rfl
theorem lx_ {env : Sl DNamed} {p : DPattern} {s : ByteArray} {L : Sl DMatch} (hl : L.l.length ≤ 1000) (hs : s.size ≤ 200) : ∀ (l : List (List DMatch)) (j : Nat) (P : List DMatch), j + l.length = s.size + 1 → L.l = P ++ l.flatten → (∀ i (hi : i < l.length), OneS env p s 3000 (j + i) l[i]) →
  aD_ (S := (Int × Int)) (R := (Int ⊕ Bool)) (fun st1 => (if (decide (st1.2 ≤ (s.size : Int))) = true then ((cy_ env p s st1.2 3000).bind fun y8 => (if (!decide (y8.2 = 0)) = true then (some (.inr (.inr false))) else ((aD_ (S := (Int × Int)) (R := (Int ⊕ Bool)) (fun st2 => (if (decide (st2.2 < (y8.1.l.length : Int))) = true then (if (decide ((L.l.length : Int) ≤ st2.1)) = true then (some (.inr (.inr false))) else ((elt L st2.1).bind fun y10 => (if (!decide (y10.Start = st1.2)) = true then (some (.inr (.inr false))) else ((elt L st2.1).bind fun y11 => ((elt y8.1 st2.2).bind fun y12 => (if (!decide (y11.End = y12.v)) = true then (some (.inr (.inr false))) else (some (.inl ((w4 (st2.1 + 1)), (w4 (st2.2 + 1))))))))))) else (some (.inr (.inl st2.1))))) (st1.1, 0)).bind fun y9 => (Sum.elim (fun y9 => (some (.inl (y9, (w4 (st1.2 + 1)))))) (fun y9 => (some (.inr (.inr y9)))) y9)))) else (some (.inr (.inl st1.1))))) ((P.length : Int), (j : Int)) = some (.inl (L.l.length : Int))
 | [], j, P, hj, hL, h => by
  refine al_ ?_
  show (if decide ((j : Int) ≤ (s.size : Int)) = true then _ else _) = _
  rw [if_neg (by simp at hj ⊢; omega), hL]; simp
 | x :: l, j, P, hj, hL, h => by
  obtain ⟨w, w1, w2, w3, w4, w5⟩ := h 0 (by simp)
  have w1 : cy_ env p s (j : Int) 3000 = some w := w1
  have w3 : w.1.l = x.map (fun m => ⟨m.End⟩) := w3
  have w5 : ∀ m ∈ x, m.Start = (j : Int) := w5
  have hin := pL_ (L := L) (P := P) (x := x) (Q := l.flatten) (y := w.1) (j := j) (by rw [hL]; simp) hl w3 w5
  have ih := lx_ hl hs l (j + 1) (P ++ x) (by simp at hj; omega) (by rw [hL]; simp) (fun i hi => by
   have := h (i + 1) (by simpa using hi)
   rw [show j + 1 + i = j + (i + 1) by omega]; exact this)
  rw [List.length_append] at ih
  refine aC_ ?_ ih
  show (if decide ((j : Int) ≤ (s.size : Int)) = true then _ else _) = _
  rw [if_pos (by simp at hj ⊢; omega), w1, Option.bind_some, if_neg (by simp [w2]), hin, Option.bind_some, Sum.elim_inl, aU_ (by omega) (by simp at hj; omega)]
  simp
theorem kN_ (a : Sl (Iv .u8)) (h : ∀ x ∈ a.l, 0 ≤ x.v ∧ x.v ≤ 255) : fX_ a = some true := by
 refine ie_ _ _ ?_
 unfold et_
 by_cases hl : 1048576 < (a.l.length : Int)
 ·rw [if_pos (by simpa using hl)]
 rw [if_neg (by simpa using hl)]
 have hb : Bys a := ⟨h, by omega⟩
 obtain ⟨env, e1, hE, hC⟩ := mw_ a hb
 obtain ⟨b1, e2, hb1⟩ := pa_ 1 a h (by omega)
 obtain ⟨p, e3, p1, p2, p3⟩ := n7_ b1 hb1
 obtain ⟨b2, e4, hb2⟩ := pa_ 2 a h (by omega)
 obtain ⟨s, e5, hs⟩ := mb_ b2 hb2
 have hP : VPat p := ⟨p1, by omega⟩
 obtain ⟨w, s1, s2, s3, s4⟩ := oT_ s false (by omega)
 obtain ⟨w', t1, t2⟩ := ld_ s (by omega)
 rw [s2] at t1; injection t1 with t1; subst t1
 obtain ⟨x, x1, x2, x3, x4, x5⟩ := nv_ (f := 3000) hE hP (by omega) false (by omega) s1 s2 s3 s4
 rw [e1, Option.bind_some, e2, Option.bind_some, e3, Option.bind_some, e4, Option.bind_some, e5, Option.bind_some, x3, Option.bind_some]
 by_cases hc : x.2.2.2.2.2.2.2.1 = 0
 rotate_left
 ·rw [if_neg (by simp), if_pos (by simp [hc])]
 rw [if_neg (by simp), if_neg (by simp [hc])]
 obtain ⟨l, l1, l2, l3⟩ := mr_ (f := 3000) hE hC hP p2 (by omega) (by omega) t2 hc (s.size + 1) 0 (by omega) 0 0 ⟨true, []⟩ ⟨true, []⟩ ⟨true, []⟩ (by omega) (by simp) (by simp) x1
 generalize x.2.2.2.2.2.2.2.2.2.2 = L at *
 have ho := lx_ (env := env) (p := p) (s := s) (L := L) (by omega) (by omega) l 0 [] (by omega) (by rw [l2]) l3
 rw [show ((0 : Nat) : Int) = 0 from rfl, show (([] : List DMatch).length : Int) = 0 from rfl] at ho
 rw [ho]
 simp
theorem law_FnStarts {fu0 : Nat} {t0 : T} (h0 : Shp Go.Proofs.Tryz.prog fu0 22 [t0]) : ∃ σ', run Go.Proofs.Tryz.prog md ext 6 [t0] St.empty = some (.bool true, σ') := by
 obtain ⟨a, e0, ha⟩ := mZ_ h0
 injection e0 with e0; subst e0
 exact ⟨_, gV_ (kN_ a ha.2) St.empty⟩
end Go.Am
end
