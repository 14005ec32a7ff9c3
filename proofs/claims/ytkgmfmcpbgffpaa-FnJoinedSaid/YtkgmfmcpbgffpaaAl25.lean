/- The law. -/
import Derived.Test.YtkgmfmcpbgffpaaAg2
import Derived.Test.YtkgmfmcpbgffpaaAl24
section
set_option maxRecDepth 100000
set_option maxHeartbeats 1000000
set_option linter.unusedVariables false
set_option linter.unusedSimpArgs false
namespace Go.Am
noncomputable def KB (K : Sl DPattern) (st1 : Int × Sl DPattern) : Option ((Int × Sl DPattern) ⊕ Sl DPattern) := (if (decide (st1.1 < (K.l.length : Int))) = true then ((elt K st1.1).bind fun y2 => ((ap_ y2).bind fun y3 => ((appS 56 st1.2 (⟨false, [y3]⟩ : Sl DPattern)).bind fun y4 => (some (.inl ((w4 (st1.1 + 1)), y4)))))) else (some (.inr st1.2)))
theorem kb0 {z : Bool} : az_ (KB ⟨z, []⟩) (0, (⟨false, []⟩ : Sl DPattern)) = some ⟨false, []⟩ := aj_ rfl
theorem kb1 {z : Bool} {x a : DPattern} (h : ap_ x = some a) : az_ (KB ⟨z, [x]⟩) (0, (⟨false, []⟩ : Sl DPattern)) = some ⟨false, [a]⟩ := by
 refine au_ (s' := (1, ⟨false, [a]⟩)) ?_ (aj_ rfl)
 unfold KB
 rw [if_pos (by rfl), show elt (⟨z, [x]⟩ : Sl DPattern) ((0 : Int), (⟨false, []⟩ : Sl DPattern)).1 = some x from rfl, Option.bind_some, h, Option.bind_some, dH_ (by simp)]
 rfl
theorem kb2 {z : Bool} {x y a b : DPattern} (h : ap_ x = some a) (h' : ap_ y = some b) : az_ (KB ⟨z, [x, y]⟩) (0, (⟨false, []⟩ : Sl DPattern)) = some ⟨false, [a, b]⟩ := by
 refine au_ (s' := (1, ⟨false, [a]⟩)) ?_ (au_ (s' := (2, ⟨false, [a, b]⟩)) ?_ (aj_ rfl))
 ·unfold KB
  rw [if_pos (by rfl), show elt (⟨z, [x, y]⟩ : Sl DPattern) ((0 : Int), (⟨false, []⟩ : Sl DPattern)).1 = some x from rfl, Option.bind_some, h, Option.bind_some, dH_ (by simp)]
  rfl
 ·unfold KB
  rw [if_pos (by rfl), show elt (⟨z, [x, y]⟩ : Sl DPattern) ((1 : Int), (⟨false, [a]⟩ : Sl DPattern)).1 = some y from rfl, Option.bind_some, h', Option.bind_some, dH_ (by simp)]
  rfl
theorem simp_ok : ∀ p, VP p → ∃ q, SR p q ∧ ap_ p = some q := by
 refine eL_ fun p ih hp => ?_
 have hE : ∀ q, SR p q → am_ p = some q → ∃ q, SR p q ∧ ap_ p = some q := fun q h1 h2 => ⟨q, h1, eT_ _ _ h2⟩
 have lp : ∀ ks, az_ (KB p.Kids) (0, (⟨false, []⟩ : Sl DPattern)) = some ks → az_ (S := (Int × (Sl DPattern))) (R := (Sl DPattern)) (fun st1 => (if (decide (st1.1 < (p.Kids.l.length : Int))) = true then ((elt p.Kids st1.1).bind fun y2 => ((ap_ y2).bind fun y3 => ((appS 56 st1.2 (⟨false, [y3]⟩ : Sl DPattern)).bind fun y4 => (some (.inl ((w4 (st1.1 + 1)), y4)))))) else (some (.inr st1.2)))) (0, (⟨false, []⟩ : Sl DPattern)) = some ks := fun _ h => h
 have e0 : ∀ a b : DPattern, elt (⟨false, [a, b]⟩ : Sl DPattern) 0 = some a := fun _ _ => rfl
 have e1 : ∀ a b : DPattern, elt (⟨false, [a, b]⟩ : Sl DPattern) 1 = some b := fun _ _ => rfl
 have e2 : ∀ a : DPattern, elt (⟨false, [a]⟩ : Sl DPattern) 0 = some a := fun _ => rfl
 obtain ⟨k, n, t, ⟨z, l⟩⟩ := p
 by_cases h19 : k = 19
 ·subst h19
  obtain ⟨x, y, e, vx, vy⟩ := hk_ hp (.inr rfl)
  have e : l = [x, y] := e
  subst e
  obtain ⟨a, a1, a2⟩ := ih x (by simp) vx
  obtain ⟨b, b1, b2⟩ := ih y (by simp) vy
  obtain ⟨q, hq⟩ := catR_ex a (a1.vp vx) b (b1.vp vy)
  refine hE q (.cat rfl rfl a1 b1 hq) ?_
  unfold am_
  rw [lp _ (kb2 a2 b2), Option.bind_some]
  simp only [Int.reduceEq, decide_true, decide_false, if_true, if_false, Bool.false_eq_true, e0, e1, Option.bind_some, hq.F (a1.vp vx) (b1.vp vy)]
 by_cases h18 : k = 18
 ·subst h18
  obtain ⟨x, y, e, vx, vy⟩ := hk_ hp (.inl rfl)
  have e : l = [x, y] := e
  subst e
  obtain ⟨a, a1, a2⟩ := ih x (by simp) vx
  obtain ⟨b, b1, b2⟩ := ih y (by simp) vy
  obtain ⟨q, hq⟩ := altR_ex a (a1.vp vx) b (b1.vp vy)
  refine hE q (.alt rfl rfl a1 b1 hq) ?_
  unfold am_
  rw [lp _ (kb2 a2 b2), Option.bind_some]
  simp only [Int.reduceEq, decide_true, decide_false, if_true, if_false, Bool.false_eq_true, e0, e1, Option.bind_some, hq.F (a1.vp vx) (b1.vp vy)]
 by_cases h1k : 20 ≤ k ∧ k ≤ 22
 ·obtain ⟨x, e, vx⟩ := r7_ hp h1k
  have e : l = [x] := e
  subst e
  obtain ⟨a, a1, a2⟩ := ih x (by simp) vx
  by_cases h20 : k = 20
  ·subst h20
   by_cases h16 : a.Kind = 16
   ·refine hE _ (.arb0 rfl rfl a1 (.inl h16)) ?_
    unfold am_
    rw [lp _ (kb1 a2), Option.bind_some]
    simp only [Int.reduceEq, decide_true, decide_false, if_true, if_false, Bool.false_eq_true, e2, Option.bind_some, h16]
   by_cases hem : Emp a
   ·refine hE _ (.arb0 rfl rfl a1 (.inr hem)) ?_
    unfold am_
    rw [lp _ (kb1 a2), Option.bind_some]
    simp only [Int.reduceEq, decide_true, decide_false, if_true, if_false, Bool.false_eq_true, e2, Option.bind_some, h16, r8_ hem]
   ·refine hE _ (.one h1k rfl a1 (fun _ => by simp [h16, hem]) fun w => absurd rfl w) ?_
    unfold am_
    rw [lp _ (kb1 a2), Option.bind_some]
    simp only [Int.reduceEq, decide_true, decide_false, if_true, if_false, Bool.false_eq_true, e2, Option.bind_some, h16, h3_ hem]
  ·have hk : k = 21 ∨ k = 22 := by omega
   by_cases hc : a.Kind = 16 ∨ a.Kind = 15
   ·refine hE _ (.cap0 hk rfl a1 hc) ?_
    unfold am_
    rw [lp _ (kb1 a2), Option.bind_some]
    rcases hk with rfl | rfl <;> rcases hc with hc | hc <;> simp only [Int.reduceEq, decide_true, decide_false, if_true, if_false, Bool.false_eq_true, e2, Option.bind_some, hc]
   ·refine hE _ (.one h1k rfl a1 (fun w => absurd w h20) fun _ => hc) ?_
    unfold am_
    rw [lp _ (kb1 a2), Option.bind_some]
    have c1 : ¬ a.Kind = 16 := fun w => hc (.inl w)
    have c2 : ¬ a.Kind = 15 := fun w => hc (.inr w)
    rcases hk with rfl | rfl <;> simp only [Int.reduceEq, decide_true, decide_false, if_true, if_false, Bool.false_eq_true, e2, Option.bind_some, c1, c2]
 ·have hlf : k < 18 ∨ 22 < k := by omega
  have e : l = [] := pl_ hp hlf
  subst e
  have c20 : ¬ k = 20 := by omega
  have c21 : ¬ k = 21 := by omega
  have c22 : ¬ k = 22 := by omega
  by_cases h6 : k = 6
  ·subst h6
   by_cases hn : n = 0
   ·subst hn
    refine hE _ (.len rfl rfl) ?_
    unfold am_
    rw [lp _ kb0, Option.bind_some]
    simp only [Int.reduceEq, decide_true, decide_false, if_true, if_false, Bool.false_eq_true]
   ·refine hE _ (.leaf rfl (fun w => hn w.2) hlf) ?_
    unfold am_
    rw [lp _ kb0, Option.bind_some]
    simp only [Int.reduceEq, decide_true, decide_false, if_true, if_false, Bool.false_eq_true, hn]
  ·refine hE _ (.leaf rfl (fun w => h6 w.1) hlf) ?_
   unfold am_
   rw [lp _ kb0, Option.bind_some]
   simp only [Int.reduceEq, decide_true, decide_false, if_true, if_false, Bool.false_eq_true, h6, h19, h18, c20, c21, c22]
mutual
/-- How much text there is in the strings of a pattern. -/
def tl : DPattern → Nat
 | ⟨k, _, t, ⟨_, l⟩⟩ => (if k = 1 then t.size else 0) + tlL l
def tlL : List DPattern → Nat
 | [] => 0
 | p :: l => tl p + tlL l
end
theorem gJ_ (p : DPattern) : tl p = (if p.Kind = 1 then p.Text.size else 0) + tlL p.Kids.l := by obtain ⟨k, n, t, ⟨z, l⟩⟩ := p; rw [tl]
theorem tl2 {p x y : DPattern} (e : p.Kids.l = [x, y]) : tl x + tl y ≤ tl p := by rw [gJ_ p, e]; simp only [tlL]; omega
theorem tl1 {p x : DPattern} (e : p.Kids.l = [x]) : tl x ≤ tl p := by rw [gJ_ p, e]; simp only [tlL]; omega
theorem tls {p : DPattern} (h : p.Kind = 1) : p.Text.size ≤ tl p := by rw [gJ_ p, if_pos h]; omega
theorem jg_ (t : ByteArray) : tl (strP t) = t.size := by rw [gJ_, if_pos rfl]; rfl
theorem nQ_ (p q : DPattern) : tl (catP p q) = tl p + tl q := by rw [gJ_, if_neg (by show ¬ (19 : Int) = 1; decide)]; simp only [tlL]; omega
theorem tO_ (p q : DPattern) : tl (altP p q) = tl p + tl q := by rw [gJ_, if_neg (by show ¬ (18 : Int) = 1; decide)]; simp only [tlL]; omega
theorem CatR.tl {a b q : DPattern} (h : CatR a b q) : tl q ≤ tl a + tl b := by
 induction h with
 | e1 _ => omega
 | e2 _ _ => omega
 | e3 _ _ _ => omega
 | cat hb hk hx h1 h2 i1 i2 => have := tl2 hx; omega
 | ss _ _ h1 h2 _ => rw [jg_, ByteArray.size_append]; have := tls h1; have := tls h2; omega
 | sc _ h1 _ hv hu _ => rw [nQ_, jg_, ByteArray.size_append]; have := tls h1; have := tls hu; have := tl2 hv; omega
 | ot _ _ _ _ _ => rw [nQ_]; omega
theorem AltR.tl {a b q : DPattern} (h : AltR a b q) : tl q ≤ tl a + tl b := by
 induction h with
 | f1 _ => omega
 | f2 _ _ => omega
 | f3 _ _ => omega
 | alt hb hk hx h1 h2 i1 i2 => have := tl2 hx; omega
 | ot _ _ => rw [tO_]; omega
theorem SR.tl {p q : DPattern} (h : SR p q) : tl q ≤ tl p := by
 have he : Am.tl emptyP = 0 := jg_ _
 induction h with
 | len _ _ => omega
 | cat _ hk h1 h2 h3 i1 i2 => have := tl2 hk; have := h3.tl; omega
 | alt _ hk h1 h2 h3 i1 i2 => have := tl2 hk; have := h3.tl; omega
 | arb0 _ _ _ _ => omega
 | cap0 _ hk _ _ i1 => have := tl1 hk; omega
 | @one p x a h hk _ _ _ i1 => have := tl1 hk; rw [gJ_, if_neg (by show ¬ p.Kind = 1; omega)]; simp only [tlL]; omega
 | @leaf p hk _ _ => rw [gJ_, gJ_ p]; show (if p.Kind = 1 then p.Text.size else 0) + 0 ≤ _; omega
theorem dR_ {p : DPattern} (h : p.Kind ≠ 1) : ¬ Emp p := fun w => h w.1
theorem CatR.ne {a b q : DPattern} (h : CatR a b q) : ¬ Emp a ∨ ¬ Emp b → ¬ Emp q := by
 induction h with
 | e1 h => exact fun w => w.resolve_left (fun w => w h)
 | e2 h _ => exact fun _ => h
 | e3 h _ _ => exact fun _ => h
 | cat hb hk hx h1 h2 i1 i2 => exact fun _ => i2 (.inr (i1 (.inr hb)))
 | @ss a b h _ h1 h2 _ => exact fun _ w => h ⟨h1, by
   have h3 : a.Text ++ b.Text = ⟨#[]⟩ := w.2
   have h4 := congrArg ByteArray.size h3
   rw [ByteArray.size_append] at h4
   have h5 : (⟨#[]⟩ : ByteArray).size = 0 := rfl
   exact ByteArray.size_eq_zero_iff.1 (by omega)⟩
 | sc _ _ _ _ _ _ => exact fun _ => dR_ (by show ¬ (19 : Int) = 1; decide)
 | ot _ _ _ _ _ => exact fun _ => dR_ (by show ¬ (19 : Int) = 1; decide)
def CatN (x y : DPattern) : Prop := ¬ Emp x ∧ ¬ Emp y ∧ x.Kind ≠ 16 ∧ x.Kind ≠ 15 ∧ x.Kind ≠ 19 ∧ ¬ (x.Kind = 1 ∧ y.Kind = 1 ∧ x.Text.size + y.Text.size ≤ 200) ∧ (∀ u v, y.Kids.l = [u, v] → ¬ (x.Kind = 1 ∧ y.Kind = 19 ∧ u.Kind = 1 ∧ x.Text.size + u.Text.size ≤ 200))
def AltN (x y : DPattern) : Prop := y.Kind ≠ 16 ∧ x.Kind ≠ 16 ∧ x.Kind ≠ 15 ∧ x.Kind ≠ 18
inductive NF : DPattern → Prop
 | mk {p : DPattern} (h6 : ¬ (p.Kind = 6 ∧ p.Num = 0)) (h19 : ∀ x y, p.Kids.l = [x, y] → p.Kind = 19 → CatN x y) (h18 : ∀ x y, p.Kids.l = [x, y] → p.Kind = 18 → AltN x y) (h20 : ∀ x, p.Kids.l = [x] → (p.Kind = 20 → ¬ (x.Kind = 16 ∨ Emp x)) ∧ (p.Kind ≠ 20 → ¬ (x.Kind = 16 ∨ x.Kind = 15))) (hk : ∀ q ∈ p.Kids.l, NF q) : NF p
theorem NF.cat {p x y : DPattern} (h : NF p) (e : p.Kids.l = [x, y]) (hk : p.Kind = 19) : CatN x y := by cases h with | mk h6 h19 h18 h20 hq => exact h19 x y e hk
theorem NF.alt {p x y : DPattern} (h : NF p) (e : p.Kids.l = [x, y]) (hk : p.Kind = 18) : AltN x y := by cases h with | mk h6 h19 h18 h20 hq => exact h18 x y e hk
theorem NF.kid {p q : DPattern} (h : NF p) (hq : q ∈ p.Kids.l) : NF q := by cases h with | mk h6 h19 h18 h20 hk => exact hk q hq
theorem NF.two {p x y : DPattern} (h : NF p) (e : p.Kids.l = [x, y]) : NF x ∧ NF y := ⟨h.kid (by rw [e]; simp), h.kid (by rw [e]; simp)⟩
theorem oD_ {p : DPattern} (e : p.Kids.l = []) (h : ¬ (p.Kind = 6 ∧ p.Num = 0)) : NF p := .mk h (fun x y w => by rw [e] at w; cases w) (fun x y w => by rw [e] at w; cases w) (fun x w => by rw [e] at w; cases w) fun q hq => by rw [e] at hq; cases hq
theorem mV_ (t : ByteArray) : NF (strP t) := oD_ rfl fun w => absurd w.1 (by show ¬ (1 : Int) = 6; decide)
theorem qQ_ {x y : DPattern} (hx : NF x) (hy : NF y) (h : CatN x y) : NF (catP x y) := .mk (fun w => absurd w.1 (by show ¬ (19 : Int) = 6; decide)) (fun x' y' w _ => by injection w with w1 w2; injection w2 with w2 w3; subst w1; subst w2; exact h) (fun x' y' w w' => absurd w' (by show ¬ (19 : Int) = 18; decide)) (fun x' w => by injection w with w1 w2; cases w2) fun q hq => by
 have hq : q = x ∨ q = y := by simpa using hq
 rcases hq with rfl | rfl
 ·exact hx
 ·exact hy
theorem tb_ {x y : DPattern} (hx : NF x) (hy : NF y) (h : AltN x y) : NF (altP x y) := .mk (fun w => absurd w.1 (by show ¬ (18 : Int) = 6; decide)) (fun x' y' w w' => absurd w' (by show ¬ (18 : Int) = 19; decide)) (fun x' y' w _ => by injection w with w1 w2; injection w2 with w2 w3; subst w1; subst w2; exact h) (fun x' w => by injection w with w1 w2; cases w2) fun q hq => by
 have hq : q = x ∨ q = y := by simpa using hq
 rcases hq with rfl | rfl
 ·exact hx
 ·exact hy
theorem fJ_ {w v : ByteArray} (h : w ≠ ⟨#[]⟩) : ¬ Emp (strP (w ++ v)) := fun e => h (by
 have h3 : w ++ v = ⟨#[]⟩ := e.2
 have h4 := congrArg ByteArray.size h3
 rw [ByteArray.size_append] at h4
 have h5 : (⟨#[]⟩ : ByteArray).size = 0 := rfl
 exact ByteArray.size_eq_zero_iff.1 (by omega))
theorem CatR.nf {a b q : DPattern} (h : CatR a b q) : NF a → NF b → NF q := by
 induction h with
 | e1 _ => exact fun _ h => h
 | e2 _ _ => exact fun h _ => h
 | e3 _ _ _ => exact fun h _ => h
 | cat hb hk hx h1 h2 i1 i2 => exact fun ha hb => i2 (ha.two hx).1 (i1 (ha.two hx).2 hb)
 | ss _ _ _ _ _ => exact fun _ _ => mV_ _
 | @sc a b u v h h1 h2 hv hu hs => exact fun _ hb => qQ_ (mV_ _) (hb.two hv).2 (by
   obtain ⟨c1, c2, c3, c4, c5, c6, c7⟩ := hb.cat hv h2
   refine ⟨fJ_ fun w => h ⟨h1, w⟩, c2, by show ¬ (1 : Int) = 16; decide, by show ¬ (1 : Int) = 15; decide, by show ¬ (1 : Int) = 19; decide, fun w => c6 ⟨hu, w.2.1, ?_⟩, fun u' v' e w => c7 u' v' e ⟨hu, w.2.1, w.2.2.1, ?_⟩⟩
   ·have := w.2.2; show u.Text.size + v.Text.size ≤ 200; have w : (a.Text ++ u.Text).size + v.Text.size ≤ 200 := w.2.2; rw [ByteArray.size_append] at w; omega
   ·have w : (a.Text ++ u.Text).size + u'.Text.size ≤ 200 := w.2.2.2; rw [ByteArray.size_append] at w; omega)
 | ot h hb hk hn hn2 => exact fun ha hb' => qQ_ ha hb' ⟨h, hb, hk.1, hk.2.1, hk.2.2, hn, hn2⟩
theorem AltR.nf {a b q : DPattern} (h : AltR a b q) : NF a → NF b → NF q := by
 induction h with
 | f1 _ => exact fun _ h => h
 | f2 _ _ => exact fun h _ => h
 | f3 _ _ => exact fun h _ => h
 | alt hb hk hx h1 h2 i1 i2 => exact fun ha hb => i2 (ha.two hx).1 (i1 (ha.two hx).2 hb)
 | ot hb hk => exact fun ha hb' => tb_ ha hb' ⟨hb, hk.1, hk.2.1, hk.2.2⟩
theorem SR.nf {p q : DPattern} (h : SR p q) : NF q := by
 induction h with
 | len _ _ => exact mV_ _
 | cat _ _ _ _ h3 i1 i2 => exact h3.nf i1 i2
 | alt _ _ _ _ h3 i1 i2 => exact h3.nf i1 i2
 | arb0 _ _ _ _ => exact mV_ _
 | cap0 _ _ _ _ i1 => exact i1
 | @one p x a h hk h1 h2 h3 i1 => exact .mk (fun w => by have : p.Kind = 6 := w.1; omega) (fun x y w => by injection w with w1 w2; cases w2) (fun x y w => by injection w with w1 w2; cases w2) (fun x w => by injection w with w1 w2; subst w1; exact ⟨h2, h3⟩) fun q hq => (List.mem_singleton.1 hq) ▸ i1
 | leaf hk h h2 => exact oD_ rfl h
end Go.Am
end
