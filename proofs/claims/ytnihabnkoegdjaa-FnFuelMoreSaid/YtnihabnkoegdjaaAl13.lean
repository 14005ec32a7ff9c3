/- The law. -/
import Derived.Test.YtnihabnkoegdjaaAg1
import Derived.Test.YtnihabnkoegdjaaAg3
import Derived.Test.YtnihabnkoegdjaaAl12
section
set_option maxRecDepth 100000
set_option maxHeartbeats 4000000
set_option linter.unusedVariables false
set_option linter.unusedSimpArgs false
namespace Go.Am
namespace Nt
section
variable {Q : MdQ} {env : Sl DNamed} {s : ByteArray} {F M0 : Nat} {start : Int} {nw cd : Sl DCapture} {mt : Sl DMatch} {cs : Sl ah_} {ou : Sl DMatch} {nw2 cd2 : Sl DCapture} {Φ : PhiT} {c k n m : Nat}
theorem hT_ {C x : List ah_} {y : ah_} {cs' : Sl ah_} (h : cs'.l = (C ++ [y]) ++ x) : elt cs' (C.length : Int) = some y :=
 jY_ (by rw [h, List.append_assoc, List.getElem?_append_right (Nat.le_refl _)]; simp)
theorem uE_ (IH : ∀ M1, M1 ≤ M0 → AtOk Q env s F M1) {p q : DPattern} (hp : p.Kind = 19) (hq : elt p.Kids 1 = some q) (hv : VP q) (hk : k < cs.l.length) (hK : KOk Q env s F M0 k start Φ cs.l c) (h1 : 2 * M0 + 1 ≤ n) :
  KOk Q env s F M0 cs.l.length start (as_ (BG_impl_search_match n).1 (BG_impl_search_match n).2 p Φ) (cs.l ++ [⟨p, (c : Int), (k : Int)⟩]) c := by
 intro M' hM' nw cd mt cs' ou nw2 cd2 e m hi ⟨x, hx⟩ hce hes hn
 obtain ⟨m, rfl⟩ : ∃ j, m = j + 1 := ⟨m - 1, by omega⟩
 have hel := hT_ hx
 have hlen : cs.l.length < cs'.l.length := by have := congrArg List.length hx; simp at this; omega
 obtain ⟨b, S', r', g1, g2, g3⟩ := IH M' hM' start nw cd mt cs' ou nw2 cd2 q e k Φ n m hi hv hes (by omega) (hK.mono hM' ⟨[⟨p, (c : Int), (k : Int)⟩] ++ x, by rw [hx, List.append_assoc]⟩ hce) (by omega) (by omega)
 refine ⟨b, NS S', r', ?_, ?_, g3.ns⟩
 ·unfold as_
  simp only [hq, Option.bind_some, g1]
 ·show aw_ _ _ _ _ _ = _
  unfold aw_
  simp only [hel, Option.bind_some, hp, decide_true, if_true, hq, g2]
theorem qw_ (IH : ∀ M1, M1 ≤ M0 → AtOk Q env s F M1) {p : DPattern} (hp : p.Kind = 20) (hv : VP p) (hk : k < cs.l.length) (hK : KOk Q env s F M0 k start Φ cs.l c) (h1 : 2 * M0 + 1 ≤ n) :
  KOk Q env s F M0 cs.l.length start (aq_ (BG_impl_search_match n).1 (BG_impl_search_match n).2 (c : Int) p Φ) (cs.l ++ [⟨p, (c : Int), (k : Int)⟩]) c := by
 intro M' hM' nw cd mt cs' ou nw2 cd2 e m hi ⟨x, hx⟩ hce hes hn
 obtain ⟨m, rfl⟩ : ∃ j, m = j + 1 := ⟨m - 1, by omega⟩
 have hel := hT_ hx
 have hlen : cs.l.length < cs'.l.length := by have := congrArg List.length hx; simp at this; omega
 by_cases he : e = c
 ·subst he
  refine ⟨true, _, _, ?_, ?_, e1_ hi⟩
  ·unfold aq_
   simp only [decide_true, if_true]
  ·show aw_ _ _ _ _ _ = _
   unfold aw_
   have d0 : decide ((e : Int) < (e : Int)) = false := by simp
   simp only [hel, Option.bind_some, hp, Int.reduceEq, decide_true, decide_false, if_true, Bool.false_eq_true, if_false, d0]
 ·obtain ⟨b, S', r', g1, g2, g3⟩ := IH M' hM' start nw cd mt cs' ou nw2 cd2 p e k Φ n m hi hv hes (by omega) (hK.mono hM' ⟨[⟨p, (c : Int), (k : Int)⟩] ++ x, by rw [hx, List.append_assoc]⟩ hce) (by omega) (by omega)
  have d0 : decide ((c : Int) < (e : Int)) = true := by simp; omega
  have d1 : decide ((e : Int) = (c : Int)) = false := by simp; omega
  refine ⟨b, NS S', r', ?_, ?_, g3.ns⟩
  ·unfold aq_
   simp only [d1, Bool.false_eq_true, if_false, Option.bind_some, g1]
  ·show aw_ _ _ _ _ _ = _
   unfold aw_
   simp only [hel, Option.bind_some, hp, Int.reduceEq, decide_true, decide_false, if_true, Bool.false_eq_true, if_false, d0, g2]
theorem pH_ (hs : c ≤ k) (hk : k ≤ s.size) : subB s (c : Int) (k : Int) = some (s.extract c k) := by
 unfold subB; rw [if_pos (by omega)]; simp
theorem un_ {p : DPattern} (hp : p.Kind = 22) (hk : k < cs.l.length) (hK : KOk Q env s F M0 k start Φ cs.l c) (R1 R2 : aa_ → DPattern → Int → PhiT → Option (Bool × aa_)) :
  KOk Q env s F M0 cs.l.length start (al_ R1 R2 p (c : Int) Φ) (cs.l ++ [⟨p, (c : Int), (k : Int)⟩]) c := by
 intro M' hM' nw cd mt cs' ou nw2 cd2 e m hi ⟨x, hx⟩ hce hes hn
 obtain ⟨m, rfl⟩ : ∃ j, m = j + 1 := ⟨m - 1, by omega⟩
 have hel := hT_ hx
 have hsub := pH_ (s := s) hce hes
 obtain ⟨z1, l1⟩ := nw; obtain ⟨z2, l2⟩ := nw2
 have hnw : l1.length = l2.length := hi.hnw
 have hcap : l1.length + cd.l.length ≤ 100 := hi.hcap
 have hcd := hi.hcd
 have p1 : ∀ x : DCapture, appS 48 (⟨z1, l1⟩ : Sl DCapture) ⟨false, [x]⟩ = some ⟨false, l1 ++ [x]⟩ := fun x => bP_ (by omega)
 have p2 : ∀ x : DCapture, appS 48 (⟨z2, l2⟩ : Sl DCapture) ⟨false, [x]⟩ = some ⟨false, l2 ++ [x]⟩ := fun x => bP_ (by omega)
 have e1 : ∀ x : DCapture, ((((l1 ++ [x]).length : Nat) : Int) + (cd.l.length : Int)) = (l1.length : Int) + 1 + cd.l.length := fun x => by simp
 have e2 : ∀ x : DCapture, ((((l2 ++ [x]).length : Nat) : Int) + (cd2.l.length : Int)) = (l1.length : Int) + 1 + cd.l.length := fun x => by simp; omega
 have w : w4 ((l1.length : Int) + 1 + cd.l.length) = (l1.length : Int) + 1 + cd.l.length := aS_ (by omega) (by omega)
 by_cases hfull : (100 : Int) < (l1.length : Int) + 1 + cd.l.length
 ·have dF : decide ((100 : Int) < (l1.length : Int) + 1 + cd.l.length) = true := by simpa using hfull
  refine ⟨false, ⟨env, s, F, (F : Int) - M', start, ⟨false, l1 ++ [⟨p.Text, s.extract c e, (e : Int), 2⟩]⟩, cd, ⟨true, []⟩, Q.mo, Q.me, T.nilm, 6⟩, ⟨env, s, F, Q.md, (F : Int) - M', cs', ou, ⟨false, l2 ++ [⟨p.Text, s.extract c e, (e : Int), 2⟩]⟩, cd2, false, false, false, 6⟩, ?_, ?_, ?_⟩
  rotate_left
  ·show aw_ _ _ _ _ _ = _
   unfold aw_
   simp only [hel, Option.bind_some, hp, Int.reduceEq, decide_true, decide_false, if_true, Bool.false_eq_true, if_false, hsub, p2, e2, w, dF]
  rotate_left
  ·unfold al_
   simp only [hsub, Option.bind_some, hp, decide_true, if_true, p1, e1, w, dF, Bool.false_eq_true, if_false]
  ·exact ⟨rfl, ⟨[], by simp⟩, Nat.le_refl _, Nat.le_refl _, (fun h => by cases h), fun _ => .inl ⟨show (6 : Int) ≠ 0 by decide, rfl, rfl⟩, by show cd2.l.length ≤ 200; omega, (fun h => by cases h)⟩
 ·have dF : decide ((100 : Int) < (l1.length : Int) + 1 + cd.l.length) = false := by simpa using hfull
  have hi2 : ∀ x1 : DCapture, Inv s F M' ⟨false, l1 ++ [x1]⟩ cd mt cs' ou ⟨false, l2 ++ [x1]⟩ cd2 := fun x1 => ⟨hi.hF, hi.hM, by show l1 ++ [x1] = l2 ++ [x1]; rw [show l1 = l2 from hi.nwE], hi.cdE, by simp; omega, hi.mtE, hi.hml, hi.hcl⟩
  obtain ⟨b, S', r', g1, g2, g3⟩ := hK M' hM' ⟨false, l1 ++ [⟨p.Text, s.extract c e, (e : Int), 2⟩]⟩ cd mt cs' ou ⟨false, l2 ++ [⟨p.Text, s.extract c e, (e : Int), 2⟩]⟩ cd2 e m (hi2 _) ⟨[⟨p, (c : Int), (k : Int)⟩] ++ x, by rw [hx, List.append_assoc]⟩ hce hes (by omega)
  refine ⟨b, NS S', r', ?_, ?_, g3.ns⟩
  ·unfold al_
   simp only [hsub, Option.bind_some, hp, decide_true, if_true, p1, e1, w, dF, Bool.false_eq_true, if_false, g1]
  ·show aw_ _ _ _ _ _ = _
   unfold aw_
   simp only [hel, Option.bind_some, hp, Int.reduceEq, decide_true, decide_false, if_true, Bool.false_eq_true, if_false, hsub, p2, e2, w, dF, g2]
theorem oj_ {α : Type} {a : Sl α} {h : Int} {j : Nat} (hj : h = (j : Int)) (h1 : j ≤ a.l.length) (h2 : a.l.length ≠ 0) : cutS a h = some ⟨false, a.l.take j⟩ := by
 unfold cutS; rw [if_pos ⟨by omega, by omega, h2⟩, hj]; simp
theorem sk_ {p : DPattern} (hp : p.Kind = 21) (hk : k < cs.l.length) (hK : KOk Q env s F M0 k start Φ cs.l c) (R1 R2 : aa_ → DPattern → Int → PhiT → Option (Bool × aa_)) :
  KOk Q env s F M0 cs.l.length start (al_ R1 R2 p (c : Int) Φ) (cs.l ++ [⟨p, (c : Int), (k : Int)⟩]) c := by
 intro M' hM' nw cd mt cs' ou nw2 cd2 e m hi ⟨x, hx⟩ hce hes hn
 obtain ⟨m, rfl⟩ : ∃ j, m = j + 1 := ⟨m - 1, by omega⟩
 have hel := hT_ hx
 have hsub := pH_ (s := s) hce hes
 obtain ⟨z1, l1⟩ := cd; obtain ⟨z2, l2⟩ := cd2
 have hcd : l1.length = l2.length := hi.hcd
 have hcap : nw.l.length + l1.length ≤ 100 := hi.hcap
 have hnw := hi.hnw
 have p1 : ∀ x : DCapture, appS 48 (⟨z1, l1⟩ : Sl DCapture) ⟨false, [x]⟩ = some ⟨false, l1 ++ [x]⟩ := fun x => bP_ (by omega)
 have p2 : ∀ x : DCapture, appS 48 (⟨z2, l2⟩ : Sl DCapture) ⟨false, [x]⟩ = some ⟨false, l2 ++ [x]⟩ := fun x => bP_ (by omega)
 have e1 : ∀ x : DCapture, ((nw.l.length : Int) + (((l1 ++ [x]).length : Nat) : Int)) = (nw.l.length : Int) + (l1.length + 1) := fun x => by simp
 have e2 : ∀ x : DCapture, ((nw2.l.length : Int) + (((l2 ++ [x]).length : Nat) : Int)) = (nw.l.length : Int) + (l1.length + 1) := fun x => by simp; omega
 have w : w4 ((nw.l.length : Int) + (l1.length + 1)) = (nw.l.length : Int) + (l1.length + 1) := aS_ (by omega) (by omega)
 by_cases hfull : (100 : Int) < (nw.l.length : Int) + (l1.length + 1)
 ·have dF : decide ((100 : Int) < (nw.l.length : Int) + (l1.length + 1)) = true := by simpa using hfull
  have hcut := oj_ (a := (⟨false, l1 ++ [(⟨p.Text, s.extract c e, (e : Int), 1⟩ : DCapture)]⟩ : Sl DCapture)) (h := (l1.length : Int)) (j := l1.length) rfl (by simp) (by simp)
  refine ⟨false, ⟨env, s, F, (F : Int) - M', start, nw, ⟨false, (l1 ++ [(⟨p.Text, s.extract c e, (e : Int), 1⟩ : DCapture)]).take l1.length⟩, ⟨true, []⟩, Q.mo, Q.me, T.nilm, 6⟩, ⟨env, s, F, Q.md, (F : Int) - M', cs', ou, nw2, ⟨false, l2 ++ [⟨p.Text, s.extract c e, (e : Int), 1⟩]⟩, false, false, false, 6⟩, ?_, ?_, ?_⟩
  rotate_left
  ·show aw_ _ _ _ _ _ = _
   unfold aw_
   simp only [hel, Option.bind_some, hp, Int.reduceEq, decide_true, decide_false, if_true, Bool.false_eq_true, if_false, hsub, p2, e2, w, dF]
  rotate_left
  ·unfold al_
   simp only [hsub, Option.bind_some, hp, Int.reduceEq, decide_false, decide_true, if_true, p1, e1, w, dF, Bool.false_eq_true, if_false, hcut]
  ·exact ⟨rfl, ⟨[], by simp⟩, by simp, by simp, (fun h => by cases h), fun _ => .inl ⟨show (6 : Int) ≠ 0 by decide, rfl, rfl⟩, by show (l2 ++ [_]).length ≤ 200; rw [List.length_append]; simp; omega, (fun h => by cases h)⟩
 ·have dF : decide ((100 : Int) < (nw.l.length : Int) + (l1.length + 1)) = false := by simpa using hfull
  have hi2 : ∀ x1 : DCapture, Inv s F M' nw ⟨false, l1 ++ [x1]⟩ mt cs' ou nw2 ⟨false, l2 ++ [x1]⟩ := fun x1 => ⟨hi.hF, hi.hM, hi.nwE, by show l1 ++ [x1] = l2 ++ [x1]; rw [show l1 = l2 from hi.cdE], by simp; omega, hi.mtE, hi.hml, hi.hcl⟩
  obtain ⟨b, S', r', g1, g2, g3⟩ := hK M' hM' nw ⟨false, l1 ++ [⟨p.Text, s.extract c e, (e : Int), 1⟩]⟩ mt cs' ou nw2 ⟨false, l2 ++ [⟨p.Text, s.extract c e, (e : Int), 1⟩]⟩ e m (hi2 _) ⟨[⟨p, (c : Int), (k : Int)⟩] ++ x, by rw [hx, List.append_assoc]⟩ hce hes (by omega)
  have hc1 : l1.length + 1 ≤ S'.conds_.l.length := by have := g3.c1; simpa using this
  have hc2 : l2.length + 1 ≤ r'.conds_.l.length := by have := g3.c2; simpa using this
  have hcut := oj_ (a := S'.conds_) (h := (l1.length : Int)) (j := l1.length) rfl (by omega) (by omega)
  obtain ⟨q, hq, hql⟩ : ∃ q : Sl DCapture, cutS r'.conds_ (w4 ((r'.conds_.l.length : Int) - 1)) = some q ∧ q.l = r'.conds_.l.take (r'.conds_.l.length - 1) ∧ l2.length ≤ q.l.length ∧ q.l.length ≤ 200 := by
   have h200 := g3.c3
   have hj : w4 ((r'.conds_.l.length : Int) - 1) = ((r'.conds_.l.length - 1 : Nat) : Int) := by rw [aS_ (by omega) (by omega)]; omega
   refine ⟨_, oj_ (a := r'.conds_) (j := r'.conds_.l.length - 1) hj (by omega) (by omega), rfl, ?_, ?_⟩
   ·show l2.length ≤ (r'.conds_.l.take (r'.conds_.l.length - 1)).length
    rw [List.length_take]; omega
   ·show (r'.conds_.l.take (r'.conds_.l.length - 1)).length ≤ 200
    rw [List.length_take]; omega
  refine ⟨b, ⟨S'.env_, S'.subject_, S'.fuel_, S'.steps_, S'.start_, S'.now_, ⟨false, S'.conds_.l.take l1.length⟩, S'.matches_, S'.most_, S'.isMere_, T.nilm, S'.code_⟩, ⟨r'.env_, r'.s_, r'.fuel_, r'.mode_, r'.steps_, r'.conts_, r'.out_, r'.now_, q, r'.full_, r'.abort_, r'.stop_, r'.code_⟩, ?_, ?_, ?_⟩
  ·unfold al_
   simp only [hsub, Option.bind_some, hp, Int.reduceEq, decide_false, if_true, p1, e1, w, dF, Bool.false_eq_true, if_false, g1, hcut]
  ·show aw_ _ _ _ _ _ = _
   unfold aw_
   simp only [hel, Option.bind_some, hp, Int.reduceEq, decide_true, decide_false, if_true, Bool.false_eq_true, if_false, hsub, p2, e2, w, dF, g2, hq]
  ·refine ⟨g3.hs, g3.hcs, ?_, hql.2.1, fun hb => ?_, fun hb => g3.no hb, hql.2.2, g3.c4⟩
   ·show l1.length ≤ (S'.conds_.l.take l1.length).length
    rw [List.length_take]; omega
   ·obtain ⟨M2, nw', cd', mt', cs2, ou', nw2', cd2', q1, rfl, rfl, q4, q5⟩ := g3.go hb
    have hl : (cd'.l.take l1.length).length = l1.length := by rw [List.length_take]; exact Nat.min_eq_left (by have : l1.length + 1 ≤ cd'.l.length := hc1; omega)
    have hcap2 := q4.hcap
    have hc1 : l1.length + 1 ≤ cd'.l.length := hc1
    exact ⟨M2, nw', ⟨false, cd'.l.take l1.length⟩, mt', cs2, ou', nw2', q, q1, rfl, rfl, ⟨q4.hF, q4.hM, q4.nwE, by
     show cd'.l.take l1.length = q.l
     have q6 : cd'.l.length = l1.length + 1 := by rw [q5]; simp
     rw [hql.1]
     show cd'.l.take l1.length = cd2'.l.take (cd2'.l.length - 1)
     rw [← q4.cdE, q6]; rfl, by show nw'.l.length + (cd'.l.take l1.length).length ≤ 100; rw [hl]; omega, q4.mtE, q4.hml, q4.hcl⟩, hl⟩
end
end Nt
end Go.Am
end
