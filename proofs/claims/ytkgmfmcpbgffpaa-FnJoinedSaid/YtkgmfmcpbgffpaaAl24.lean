/- The law. -/
import Derived.Test.YtkgmfmcpbgffpaaAg0
import Derived.Test.YtkgmfmcpbgffpaaAg2
import Derived.Test.YtkgmfmcpbgffpaaAl16
import Derived.Test.YtkgmfmcpbgffpaaAl20
import Derived.Test.YtkgmfmcpbgffpaaAl23
section
set_option maxRecDepth 100000
set_option maxHeartbeats 1000000
set_option linter.unusedVariables false
set_option linter.unusedSimpArgs false
namespace Go.Am
abbrev emptyP : DPattern := ⟨1, 0, ⟨#[]⟩, ⟨true, []⟩⟩
abbrev strP (t : ByteArray) : DPattern := ⟨1, 0, t, ⟨true, []⟩⟩
def Emp (p : DPattern) : Prop := p.Kind = 1 ∧ p.Text = ⟨#[]⟩
inductive CatR : DPattern → DPattern → DPattern → Prop
 | e1 {a b : DPattern} (h : Emp a) : CatR a b b
 | e2 {a b : DPattern} (h : ¬ Emp a) (hb : Emp b) : CatR a b a
 | e3 {a b : DPattern} (h : ¬ Emp a) (hb : ¬ Emp b) (hk : a.Kind = 16 ∨ a.Kind = 15) : CatR a b a
 | cat {a b x y u v : DPattern} (hb : ¬ Emp b) (hk : a.Kind = 19) (hx : a.Kids.l = [x, y]) (h1 : CatR y b u) (h2 : CatR x u v) : CatR a b v
 | ss {a b : DPattern} (h : ¬ Emp a) (hb : ¬ Emp b) (ha1 : a.Kind = 1) (hb1 : b.Kind = 1) (hs : a.Text.size + b.Text.size ≤ 200) : CatR a b (strP (a.Text ++ b.Text))
 | sc {a b u v : DPattern} (h : ¬ Emp a) (ha1 : a.Kind = 1) (hb1 : b.Kind = 19) (hv : b.Kids.l = [u, v]) (hu : u.Kind = 1) (hs : a.Text.size + u.Text.size ≤ 200) : CatR a b (catP (strP (a.Text ++ u.Text)) v)
 | ot {a b : DPattern} (h : ¬ Emp a) (hb : ¬ Emp b) (hk : a.Kind ≠ 16 ∧ a.Kind ≠ 15 ∧ a.Kind ≠ 19) (hn : ¬ (a.Kind = 1 ∧ b.Kind = 1 ∧ a.Text.size + b.Text.size ≤ 200)) (hn2 : ∀ u v, b.Kids.l = [u, v] → ¬ (a.Kind = 1 ∧ b.Kind = 19 ∧ u.Kind = 1 ∧ a.Text.size + u.Text.size ≤ 200)) : CatR a b (catP a b)
inductive AltR : DPattern → DPattern → DPattern → Prop
 | f1 {a b : DPattern} (h : a.Kind = 16) : AltR a b b
 | f2 {a b : DPattern} (h : a.Kind ≠ 16) (hb : b.Kind = 16) : AltR a b a
 | f3 {a b : DPattern} (hb : b.Kind ≠ 16) (hk : a.Kind = 15) : AltR a b a
 | alt {a b x y u v : DPattern} (hb : b.Kind ≠ 16) (hk : a.Kind = 18) (hx : a.Kids.l = [x, y]) (h1 : AltR y b u) (h2 : AltR x u v) : AltR a b v
 | ot {a b : DPattern} (hb : b.Kind ≠ 16) (hk : a.Kind ≠ 16 ∧ a.Kind ≠ 15 ∧ a.Kind ≠ 18) : AltR a b (altP a b)
inductive SR : DPattern → DPattern → Prop
 | len {p : DPattern} (h : p.Kind = 6) (hn : p.Num = 0) : SR p emptyP
 | cat {p x y a b q : DPattern} (h : p.Kind = 19) (hk : p.Kids.l = [x, y]) (h1 : SR x a) (h2 : SR y b) (h3 : CatR a b q) : SR p q
 | alt {p x y a b q : DPattern} (h : p.Kind = 18) (hk : p.Kids.l = [x, y]) (h1 : SR x a) (h2 : SR y b) (h3 : AltR a b q) : SR p q
 | arb0 {p x a : DPattern} (h : p.Kind = 20) (hk : p.Kids.l = [x]) (h1 : SR x a) (h2 : a.Kind = 16 ∨ Emp a) : SR p emptyP
 | cap0 {p x a : DPattern} (h : p.Kind = 21 ∨ p.Kind = 22) (hk : p.Kids.l = [x]) (h1 : SR x a) (h2 : a.Kind = 16 ∨ a.Kind = 15) : SR p a
 | one {p x a : DPattern} (h : 20 ≤ p.Kind ∧ p.Kind ≤ 22) (hk : p.Kids.l = [x]) (h1 : SR x a) (h2 : p.Kind = 20 → ¬ (a.Kind = 16 ∨ Emp a)) (h3 : p.Kind ≠ 20 → ¬ (a.Kind = 16 ∨ a.Kind = 15)) : SR p ⟨p.Kind, p.Num, p.Text, ⟨false, [a]⟩⟩
 | leaf {p : DPattern} (hk : p.Kids.l = []) (h : ¬ (p.Kind = 6 ∧ p.Num = 0)) (h2 : p.Kind < 18 ∨ 22 < p.Kind) : SR p ⟨p.Kind, p.Num, p.Text, ⟨false, []⟩⟩
theorem hk_ {p : DPattern} (h : VP p) (hk : p.Kind = 18 ∨ p.Kind = 19) : ∃ x y, p.Kids.l = [x, y] ∧ VP x ∧ VP y := by
 have n := h.node.2.1
 unfold kidN at n
 rw [if_pos hk] at n
 have hv := fun q hq => h.kid (q := q) hq
 match e : p.Kids.l, n with
 | [x, y], _ => exact ⟨x, y, rfl, hv x (by rw [e]; simp), hv y (by rw [e]; simp)⟩
 | [], n => simp at n
 | [_], n => simp at n
 | _ :: _ :: _ :: _, n => simp at n; omega
theorem r7_ {p : DPattern} (h : VP p) (hk : 20 ≤ p.Kind ∧ p.Kind ≤ 22) : ∃ x, p.Kids.l = [x] ∧ VP x := by
 have n := h.node.2.1
 unfold kidN at n
 rw [if_neg (by omega), if_pos (by omega)] at n
 have hv := fun q hq => h.kid (q := q) hq
 match e : p.Kids.l, n with
 | [x], _ => exact ⟨x, rfl, hv x (by rw [e]; simp)⟩
 | [], n => simp at n
 | _ :: _ :: _, n => simp at n; omega
theorem pl_ {p : DPattern} (h : VP p) (hk : p.Kind < 18 ∨ 22 < p.Kind) : p.Kids.l = [] := by
 have n := h.node.2.1
 unfold kidN at n
 rw [if_neg (by omega), if_neg (by omega)] at n
 exact List.length_eq_zero_iff.1 (by omega)
theorem l7_ {p : DPattern} (h : VP p) : p.Text.size ≤ 200 := by
 have n := h.node.2.2
 unfold ArgP at n
 split at n
 ·omega
 ·split at n
  ·rw [n.1]; decide
  ·split at n
   ·have := n.2; unfold hn_ at this; omega
   ·rw [n.2]; decide
theorem hT_ {t : ByteArray} (h : t.size ≤ 200) : VP (strP t) := .mk ⟨by show 1 ≤ (1 : Int) ∧ (1 : Int) ≤ 24; decide, by show (0 : Int) = kidN 1; decide, by show ArgP 1 0 t; unfold ArgP; rw [if_pos (by decide)]; exact ⟨rfl, by omega, .inl rfl⟩⟩ fun q hq => by cases hq
theorem fw_ {p q : DPattern} (hp : VP p) (hq : VP q) : VP (catP p q) := .mk ⟨by show 1 ≤ (19 : Int) ∧ (19 : Int) ≤ 24; decide, by show (2 : Int) = kidN 19; decide, by show ArgP 19 0 _; unfold ArgP; rw [if_neg (by decide), if_neg (by decide), if_neg (by decide)]; exact ⟨rfl, rfl⟩⟩ fun x hx => by
 have hx : x = p ∨ x = q := by simpa using hx
 rcases hx with rfl | rfl
 ·exact hp
 ·exact hq
theorem l6_ {p q : DPattern} (hp : VP p) (hq : VP q) : VP (altP p q) := .mk ⟨by show 1 ≤ (18 : Int) ∧ (18 : Int) ≤ 24; decide, by show (2 : Int) = kidN 18; decide, by show ArgP 18 0 _; unfold ArgP; rw [if_neg (by decide), if_neg (by decide), if_neg (by decide)]; exact ⟨rfl, rfl⟩⟩ fun x hx => by
 have hx : x = p ∨ x = q := by simpa using hx
 rcases hx with rfl | rfl
 ·exact hp
 ·exact hq
theorem b1_ {p x y : DPattern} (h : VP p) (e : p.Kids.l = [x, y]) : VP x ∧ VP y := ⟨h.kid (by rw [e]; simp), h.kid (by rw [e]; simp)⟩
theorem eP_ {p x : DPattern} (h : VP p) (e : p.Kids.l = [x]) : VP x := h.kid (by rw [e]; simp)
theorem CatR.vp {a b q : DPattern} (h : CatR a b q) : VP a → VP b → VP q := by
 induction h with
 | e1 _ => exact fun _ h => h
 | e2 _ _ => exact fun h _ => h
 | e3 _ _ _ => exact fun h _ => h
 | cat hb hk hx h1 h2 i1 i2 => exact fun ha hb => i2 (b1_ ha hx).1 (i1 (b1_ ha hx).2 hb)
 | ss _ _ _ _ hs => exact fun _ _ => hT_ (by rw [ByteArray.size_append]; exact hs)
 | sc _ _ _ hv _ hs => exact fun _ hb => fw_ (hT_ (by rw [ByteArray.size_append]; exact hs)) (b1_ hb hv).2
 | ot _ _ _ _ _ => exact fun ha hb => fw_ ha hb
theorem AltR.vp {a b q : DPattern} (h : AltR a b q) : VP a → VP b → VP q := by
 induction h with
 | f1 _ => exact fun _ h => h
 | f2 _ _ => exact fun h _ => h
 | f3 _ _ => exact fun h _ => h
 | alt hb hk hx h1 h2 i1 i2 => exact fun ha hb => i2 (b1_ ha hx).1 (i1 (b1_ ha hx).2 hb)
 | ot _ _ => exact fun ha hb => l6_ ha hb
theorem emptyP_vp : VP emptyP := hT_ (by decide)
theorem SR.vp {p q : DPattern} (h : SR p q) : VP p → VP q := by
 induction h with
 | len _ _ => exact fun _ => emptyP_vp
 | cat _ hk h1 h2 h3 i1 i2 => exact fun hp => h3.vp (i1 (b1_ hp hk).1) (i2 (b1_ hp hk).2)
 | alt _ hk h1 h2 h3 i1 i2 => exact fun hp => h3.vp (i1 (b1_ hp hk).1) (i2 (b1_ hp hk).2)
 | arb0 _ _ _ _ => exact fun _ => emptyP_vp
 | cap0 _ hk _ _ i1 => exact fun hp => i1 (eP_ hp hk)
 | one h hk _ _ _ i1 => exact fun hp => .mk ⟨hp.node.1, by have := hp.node.2.1; rw [hk] at this; exact this, hp.node.2.2⟩ fun x hx => (List.mem_singleton.1 hx) ▸ i1 (eP_ hp hk)
 | leaf hk _ _ => exact fun hp => .mk ⟨hp.node.1, by have := hp.node.2.1; rw [hk] at this; exact this, hp.node.2.2⟩ fun x hx => by cases hx
theorem nd2 {p x y : DPattern} (e : p.Kids.l = [x, y]) : nd p = 1 + nd x + nd y := by rw [go_, e]; simp only [ndL]; omega
theorem nd1 {p x : DPattern} (e : p.Kids.l = [x]) : nd p = 1 + nd x := by rw [go_, e]; simp only [ndL]; omega
theorem CatR.nd {a b q : DPattern} (h : CatR a b q) : nd q ≤ 1 + nd a + nd b := by
 induction h with
 | e1 _ => omega
 | e2 _ _ => omega
 | e3 _ _ _ => omega
 | cat hb hk hx h1 h2 i1 i2 => have := nd2 hx; omega
 | @ss a b _ _ _ _ hs => have : Am.nd (strP (a.Text ++ b.Text)) = 1 := go_ _; omega
 | @sc a b u v _ _ _ hv _ hs =>
  have h1 := nd2 hv
  have h2 : Am.nd (catP (strP (a.Text ++ u.Text)) v) = 1 + Am.nd (strP (a.Text ++ u.Text)) + Am.nd v := nd2 rfl
  have h3 : Am.nd (strP (a.Text ++ u.Text)) = 1 := go_ _
  have := g0_ u
  omega
 | @ot a b _ _ _ _ _ => have : Am.nd (catP a b) = 1 + Am.nd a + Am.nd b := nd2 rfl; omega
theorem AltR.nd {a b q : DPattern} (h : AltR a b q) : nd q ≤ 1 + nd a + nd b := by
 induction h with
 | f1 _ => omega
 | f2 _ _ => omega
 | f3 _ _ => omega
 | alt hb hk hx h1 h2 i1 i2 => have := nd2 hx; omega
 | @ot a b _ _ => have : Am.nd (altP a b) = 1 + Am.nd a + Am.nd b := nd2 rfl; omega
theorem SR.nd {p q : DPattern} (h : SR p q) : nd q ≤ nd p := by
 have he : Am.nd emptyP = 1 := go_ _
 induction h with
 | @len p _ _ => have := g0_ p; omega
 | cat _ hk h1 h2 h3 i1 i2 => have := nd2 hk; have := h3.nd; omega
 | alt _ hk h1 h2 h3 i1 i2 => have := nd2 hk; have := h3.nd; omega
 | @arb0 p _ _ _ _ _ _ => have := g0_ p; omega
 | cap0 _ hk _ _ i1 => have := nd1 hk; omega
 | @one p x a h hk _ _ _ i1 => have := nd1 hk; have : Am.nd ⟨p.Kind, p.Num, p.Text, ⟨false, [a]⟩⟩ = 1 + Am.nd a := nd1 rfl; omega
 | @leaf p hk _ _ => have := g0_ p; have : Am.nd ⟨p.Kind, p.Num, p.Text, ⟨false, []⟩⟩ = 1 := go_ _; omega
open Classical in
theorem catR_ex : ∀ a, VP a → ∀ b, VP b → ∃ q, CatR a b q := by
 refine eL_ fun a ih ha b hb => ?_
 by_cases ea : Emp a
 ·exact ⟨_, .e1 ea⟩
 by_cases eb : Emp b
 ·exact ⟨_, .e2 ea eb⟩
 by_cases hk : a.Kind = 16 ∨ a.Kind = 15
 ·exact ⟨_, .e3 ea eb hk⟩
 by_cases hc : a.Kind = 19
 ·obtain ⟨x, y, e, hx, hy⟩ := hk_ ha (.inr hc)
  obtain ⟨u, hu⟩ := ih y (by rw [e]; simp) hy b hb
  obtain ⟨v, hv⟩ := ih x (by rw [e]; simp) hx u (hu.vp hy hb)
  exact ⟨_, .cat eb hc e hu hv⟩
 by_cases hs : a.Kind = 1 ∧ b.Kind = 1 ∧ a.Text.size + b.Text.size ≤ 200
 ·exact ⟨_, .ss ea eb hs.1 hs.2.1 hs.2.2⟩
 by_cases hs2 : ∃ u v, b.Kids.l = [u, v] ∧ a.Kind = 1 ∧ b.Kind = 19 ∧ u.Kind = 1 ∧ a.Text.size + u.Text.size ≤ 200
 ·obtain ⟨u, v, e, h1, h2, h3, h4⟩ := hs2
  exact ⟨_, .sc ea h1 h2 e h3 h4⟩
 ·exact ⟨_, .ot ea eb ⟨fun h => hk (.inl h), fun h => hk (.inr h), hc⟩ hs fun u v e h => hs2 ⟨u, v, e, h⟩⟩
theorem altR_ex : ∀ a, VP a → ∀ b, VP b → ∃ q, AltR a b q := by
 refine eL_ fun a ih ha b hb => ?_
 by_cases h16 : a.Kind = 16
 ·exact ⟨_, .f1 h16⟩
 by_cases hb16 : b.Kind = 16
 ·exact ⟨_, .f2 h16 hb16⟩
 by_cases h15 : a.Kind = 15
 ·exact ⟨_, .f3 hb16 h15⟩
 by_cases h18 : a.Kind = 18
 ·obtain ⟨x, y, e, hx, hy⟩ := hk_ ha (.inl h18)
  obtain ⟨u, hu⟩ := ih y (by rw [e]; simp) hy b hb
  obtain ⟨v, hv⟩ := ih x (by rw [e]; simp) hx u (hu.vp hy hb)
  exact ⟨_, .alt hb16 h18 e hu hv⟩
 ·exact ⟨_, .ot hb16 ⟨h16, h15, h18⟩⟩
theorem un_ (p : DPattern) : ∃ b, aw_ p = some b ∧ (b = true ↔ Emp p) := by
 by_cases h : p.Kind = 1
 ·exact ⟨decide (p.Text = ⟨#[]⟩), cv_ p _ (by unfold a8_; rw [if_pos (by simpa using h)]), by simp [Emp, h]⟩
 ·exact ⟨false, cv_ p _ (by unfold a8_; rw [if_neg (by simpa using h)]), by simp [Emp, h]⟩
theorem r8_ {p : DPattern} (h : Emp p) : aw_ p = some true := by
 obtain ⟨b, h1, h2⟩ := un_ p
 rw [h1, h2.2 h]
theorem h3_ {p : DPattern} (h : ¬ Emp p) : aw_ p = some false := by
 obtain ⟨b, h1, h2⟩ := un_ p
 rw [h1]; cases b
 ·rfl
 ·exact absurd (h2.1 rfl) h
theorem l9_ (a b : ByteArray) : a9_ (a ++ b) = some (decide (a.size + b.size ≤ 200)) := by
 refine gu_ _ _ ?_
 unfold dI_
 congr 1
 rw [ByteArray.size_append]
 by_cases h : a.size + b.size ≤ 200
 ·simp [h]; omega
 ·simp [h]; omega
theorem mN_ {a b : DPattern} (ha : VP a) (hb : VP b) : catB a.Text b.Text = some (a.Text ++ b.Text) := by
 have := l7_ ha; have := l7_ hb
 unfold catB; rw [if_pos (by omega)]
theorem iC_ {a b : DPattern} (ha : VP a) (hb : VP b) : ((if (decide (a.Kind = 1)) = true then (if (decide (b.Kind = 1)) = true then ((catB a.Text b.Text).bind fun y17 => ((a9_ y17).bind fun y18 => (some y18))) else (some false)) else (some false)) : Option Bool) = some (decide (a.Kind = 1 ∧ b.Kind = 1 ∧ a.Text.size + b.Text.size ≤ 200)) := by
 by_cases h1 : a.Kind = 1
 ·by_cases h2 : b.Kind = 1
  ·rw [if_pos (by simpa using h1), if_pos (by simpa using h2), mN_ ha hb, Option.bind_some, l9_, Option.bind_some]; simp [h1, h2]
  ·rw [if_pos (by simpa using h1), if_neg (by simpa using h2)]; simp [h2]
 ·rw [if_neg (by simpa using h1)]; simp [h1]
theorem elt0 {p x y : DPattern} (e : p.Kids.l = [x, y]) : elt p.Kids 0 = some x := by
 obtain ⟨k, n, t, ⟨z, l⟩⟩ := p; have e : l = [x, y] := e; subst e; rfl
theorem elt1 {p x y : DPattern} (e : p.Kids.l = [x, y]) : elt p.Kids 1 = some y := by
 obtain ⟨k, n, t, ⟨z, l⟩⟩ := p; have e : l = [x, y] := e; subst e; rfl
theorem CatR.F {a b q : DPattern} (h : CatR a b q) : VP a → VP b → bG_ a b = some q := by
 induction h with
 | e1 h => exact fun ha hb => bF_ _ _ _ (by unfold a5_; rw [iC_ ha hb, Option.bind_some, r8_ h]; rfl)
 | e2 h hb => exact fun va vb => bF_ _ _ _ (by unfold a5_; rw [iC_ va vb, Option.bind_some, h3_ h, Option.bind_some, if_neg (by simp), r8_ hb]; rfl)
 | e3 h hb hk => exact fun va vb => bF_ _ _ _ (by
   unfold a5_; rw [iC_ va vb, Option.bind_some, h3_ h, Option.bind_some, if_neg (by simp), h3_ hb, Option.bind_some, if_neg (by simp)]
   rcases hk with hk | hk
   ·rw [if_pos (by simpa using hk)]
   ·rw [if_neg (by simp [hk]), if_pos (by simpa using hk)])
 | cat hb hk hx h1 h2 i1 i2 => exact fun va vb => bF_ _ _ _ (by
   obtain ⟨vx, vy⟩ := b1_ va hx
   have h : ¬ Emp _ := fun h => by have := h.1; rw [hk] at this; exact absurd this (by decide)
   unfold a5_; rw [iC_ va vb, Option.bind_some, h3_ h, Option.bind_some, if_neg (by simp), h3_ hb, Option.bind_some, if_neg (by simp), if_neg (by simp [hk]), if_neg (by simp [hk]), if_pos (by simpa using hk), elt0 hx, Option.bind_some, elt1 hx, Option.bind_some, i1 vy vb, Option.bind_some, i2 vx (h1.vp vy vb)]; rfl)
 | ss h hb ha1 hb1 hs => exact fun va vb => bF_ _ _ _ (by
   unfold a5_; rw [iC_ va vb, Option.bind_some, h3_ h, Option.bind_some, if_neg (by simp), h3_ hb, Option.bind_some, if_neg (by simp), if_neg (by simp [ha1]), if_neg (by simp [ha1]), if_neg (by simp [ha1]), if_pos (by simp [ha1, hb1, hs]), mN_ va vb]; rfl)
 | sc h ha1 hb1 hv hu hs => exact fun va vb => bF_ _ _ _ (by
   obtain ⟨vu, vv⟩ := b1_ vb hv
   have hb : ¬ Emp _ := fun h => by have := h.1; rw [hb1] at this; exact absurd this (by decide)
   unfold a5_; rw [iC_ va vb, Option.bind_some, h3_ h, Option.bind_some, if_neg (by simp), h3_ hb, Option.bind_some, if_neg (by simp), if_neg (by simp [ha1]), if_neg (by simp [ha1]), if_neg (by simp [ha1]), if_neg (by simp [hb1]), if_pos (by simpa using ha1), if_pos (by simpa using hb1), elt0 hv]
   simp only [Option.bind_some, mN_ va vu, l9_, hu, hs, decide_true, if_true, elt1 hv])
 | @ot a b h hb hk hn hn2 => exact fun va vb => bF_ _ _ _ (by
   unfold a5_; rw [iC_ va vb, Option.bind_some, h3_ h, Option.bind_some, if_neg (by simp), h3_ hb, Option.bind_some, if_neg (by simp), if_neg (by simp [hk]), if_neg (by simp [hk]), if_neg (by simp [hk]), if_neg (by simpa using hn)]
   have : (((if (decide (a.Kind = 1)) = true then (if (decide (b.Kind = 19)) = true then ((elt b.Kids 0).bind fun y13 => (if (decide (y13.Kind = 1)) = true then ((elt b.Kids 0).bind fun y14 => ((catB a.Text y14.Text).bind fun y15 => ((a9_ y15).bind fun y16 => (some y16)))) else (some false))) else (some false)) else (some false)) : Option Bool)) = some false := by
    by_cases h1 : a.Kind = 1
    ·by_cases h2 : b.Kind = 19
     ·obtain ⟨u, v, e, vu, vv⟩ := hk_ vb (.inr h2)
      have hn2 := hn2 u v e
      rw [if_pos (by simpa using h1), if_pos (by simpa using h2), elt0 e, Option.bind_some]
      by_cases h3 : u.Kind = 1
      ·rw [if_pos (by simpa using h3), Option.bind_some, mN_ va vu, Option.bind_some, l9_, Option.bind_some, decide_eq_false fun w => hn2 ⟨h1, h2, h3, w⟩]
      ·rw [if_neg (by simpa using h3)]
     ·rw [if_pos (by simpa using h1), if_neg (by simpa using h2)]
    ·rw [if_neg (by simpa using h1)]
   rw [this]; rfl)
theorem AltR.F {a b q : DPattern} (h : AltR a b q) : VP a → VP b → bZ_ a b = some q := by
 induction h with
 | f1 h => exact fun _ _ => cl_ _ _ _ (by unfold bC_; rw [if_pos (by simpa using h)])
 | f2 h hb => exact fun _ _ => cl_ _ _ _ (by unfold bC_; rw [if_neg (by simpa using h), if_pos (by simpa using hb)])
 | f3 hb hk => exact fun _ _ => cl_ _ _ _ (by unfold bC_; rw [if_neg (by simp [hk]), if_neg (by simpa using hb), if_pos (by simpa using hk)])
 | alt hb hk hx h1 h2 i1 i2 => exact fun va vb => cl_ _ _ _ (by
   obtain ⟨vx, vy⟩ := b1_ va hx
   unfold bC_; rw [if_neg (by simp [hk]), if_neg (by simpa using hb), if_neg (by simp [hk]), if_pos (by simpa using hk), elt0 hx, Option.bind_some, elt1 hx, Option.bind_some, i1 vy vb, Option.bind_some, i2 vx (h1.vp vy vb)]; rfl)
 | ot hb hk => exact fun _ _ => cl_ _ _ _ (by unfold bC_; rw [if_neg (by simpa using hk.1), if_neg (by simpa using hb), if_neg (by simpa using hk.2.1), if_neg (by simpa using hk.2.2)])
theorem CatR.det {a b q q' : DPattern} (ha : VP a) (hb : VP b) (h : CatR a b q) (h' : CatR a b q') : q = q' := by
 have h1 := h.F ha hb
 rw [h'.F ha hb] at h1
 injection h1 with h1; exact h1.symm
theorem AltR.det {a b q q' : DPattern} (ha : VP a) (hb : VP b) (h : AltR a b q) (h' : AltR a b q') : q = q' := by
 have h1 := h.F ha hb
 rw [h'.F ha hb] at h1
 injection h1 with h1; exact h1.symm
end Go.Am
end
