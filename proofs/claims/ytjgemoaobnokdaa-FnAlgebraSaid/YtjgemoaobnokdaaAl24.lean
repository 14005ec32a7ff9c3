/- The law. -/
import Derived.Test.YtjgemoaobnokdaaAg0
import Derived.Test.YtjgemoaobnokdaaAl18
import Derived.Test.YtjgemoaobnokdaaAl20
import Derived.Test.YtjgemoaobnokdaaAl23
section
set_option maxRecDepth 100000
set_option maxHeartbeats 1000000
set_option linter.unusedVariables false
set_option linter.unusedSimpArgs false
namespace Go.Am
theorem qK_ {env : Sl DNamed} {s : ByteArray} {p q : DPattern} {f : Int} (hE : EnvP env) (hs : s.size ≤ 200) (b : Bool) (hp : VPat p) (hq : VPat q) (h : SamZ s p q) (hf : 0 ≤ f ∧ f ≤ 20000) : ∃ x y, aZ_ env p s b f = some x ∧ aZ_ env q s b f = some y ∧ (x.2 = 0 → y.2 = 0 → bm_ x.1 y.1 = some true) := by
 have hv : ∀ x ∈ env.l, VP x.Pattern := fun x hx => (hE.2.1 x hx).2.1
 obtain ⟨w, _, s2, s3, s4⟩ := pd_ s b hs
 obtain ⟨x, x1, x2, x3⟩ := rQ_ (env := env) (s := s) (p := p) (starts := w) hs hv hE.1 hp.1 s4 s3 f hf
 obtain ⟨y, y1, y2, y3⟩ := rQ_ (env := env) (s := s) (p := q) (starts := w) hs hv hE.1 hq.1 s4 s3 f hf
 refine ⟨_, _, iV_ hE hp hs hf s2 x2, iV_ hE hq hs hf s2 y2, fun c1 c2 => ?_⟩
 rcases ur_ hv s4 h x y x1 y1 with k | k | ⟨k1, k2⟩
 ·exact absurd c1 k
 ·exact absurd c2 k
 ·exact kC_ _ _ (by rw [k1]) x3 k2
theorem nA_ (k : Int) (hk : k = 1 ∨ k = 16) : VP ⟨k, 0, ⟨#[]⟩, ⟨true, []⟩⟩ ∧ nd ⟨k, 0, ⟨#[]⟩, ⟨true, []⟩⟩ = 1 := by
 refine ⟨.mk ⟨by show 1 ≤ k ∧ k ≤ 24; omega, by show (0 : Int) = kidN k; unfold kidN; rw [if_neg (by omega), if_neg (by omega)], ?_⟩ (fun q hq => by simp at hq), by rw [iv_]; show 1 + ndL [] = 1; unfold ndL; omega⟩
 show ArgP k 0 ⟨#[]⟩
 unfold ArgP
 rcases hk with rfl | rfl
 ·rw [if_pos (by decide)]; exact ⟨rfl, by decide, .inl rfl⟩
 ·rw [if_neg (by decide), if_neg (by decide), if_neg (by decide)]; exact ⟨rfl, rfl⟩
theorem pw_ {p q : DPattern} (k : Int) (hk : k = 18 ∨ k = 19) (hp : VP p) (hq : VP q) : VP ⟨k, 0, ⟨#[]⟩, ⟨false, [p, q]⟩⟩ ∧ nd ⟨k, 0, ⟨#[]⟩, ⟨false, [p, q]⟩⟩ = 1 + nd p + nd q := by
 refine ⟨.mk ⟨by show 1 ≤ k ∧ k ≤ 24; omega, by show (2 : Int) = kidN k; unfold kidN; rw [if_pos (by omega)], ?_⟩ fun x hx => ?_, ?_⟩
 ·show ArgP k 0 ⟨#[]⟩
  unfold ArgP
  rw [if_neg (by omega), if_neg (by omega), if_neg (by omega)]; exact ⟨rfl, rfl⟩
 ·have hx : x = p ∨ x = q := by simpa using hx
  rcases hx with rfl | rfl
  ·exact hp
  ·exact hq
 ·rw [iv_]; show (1 + ndL [p, q] : Nat) = _; simp only [ndL]; omega
theorem oH_ {env : Sl DNamed} {s : ByteArray} {c : Int} (hE : EnvP env) (hs : s.size ≤ 200) (L : Sl DPattern) (hn : L.l.length = 12) (hk : ∀ i : Int, i = 0 ∨ i = 2 ∨ i = 4 ∨ i = 6 ∨ i = 8 ∨ i = 10 → ∃ x y, elt L i = some x ∧ elt L (i + 1) = some y ∧ (VP x ∧ nd x ≤ 60) ∧ (VP y ∧ nd y ≤ 60) ∧ SamZ s x y) :
  az_ (S := Int) (R := (Unit ⊕ Bool)) (fun st1 => (if (decide (st1 < (L.l.length : Int))) = true then ((elt L st1).bind fun y28 => ((aZ_ env y28 s (decide (c = 0)) 2000).bind fun y29 => ((elt L (w4 (st1 + 1))).bind fun y30 => ((aZ_ env y30 s (decide (c = 0)) 2000).bind fun y31 => (if (decide (y29.2 = 0)) = true then (if (decide (y31.2 = 0)) = true then ((bm_ y29.1 y31.1).bind fun y32 => (if (!y32) = true then (some (.inr (.inr false))) else (some (.inl (w4 (st1 + 2)))))) else (some (.inl (w4 (st1 + 2))))) else (some (.inl (w4 (st1 + 2))))))))) else (some (.inr (.inl ()))))) 0 = some (.inl ()) := by
 have B : ∀ i j : Int, j = i + 2 → i = 0 ∨ i = 2 ∨ i = 4 ∨ i = 6 ∨ i = 8 ∨ i = 10 → (if (decide (i < (L.l.length : Int))) = true then ((elt L i).bind fun y28 => ((aZ_ env y28 s (decide (c = 0)) 2000).bind fun y29 => ((elt L (w4 (i + 1))).bind fun y30 => ((aZ_ env y30 s (decide (c = 0)) 2000).bind fun y31 => (if (decide (y29.2 = 0)) = true then (if (decide (y31.2 = 0)) = true then ((bm_ y29.1 y31.1).bind fun y32 => (if (!y32) = true then (some (.inr (.inr false)) : Option (Int ⊕ (Unit ⊕ Bool))) else (some (.inl (w4 (i + 2)))))) else (some (.inl (w4 (i + 2))))) else (some (.inl (w4 (i + 2))))))))) else (some (.inr (.inl ())))) = some (.inl j) := by
  intro i j hj hi
  subst hj
  obtain ⟨x, y, k1, k2, ⟨v1, n1⟩, ⟨v2, n2⟩, hz⟩ := hk i hi
  obtain ⟨u, v, g1, g2, g3⟩ := qK_ (f := 2000) hE hs (decide (c = 0)) ⟨v1, by omega⟩ ⟨v2, by omega⟩ hz (by omega)
  rw [if_pos (by rw [hn]; simp; omega), k1, Option.bind_some, g1, Option.bind_some, aR_ (n := i + 1) (by omega) (by omega), k2, Option.bind_some, g2, Option.bind_some, aR_ (n := i + 2) (by omega) (by omega)]
  by_cases c1 : u.2 = 0
  ·by_cases c2 : v.2 = 0
   ·rw [if_pos (by simp [c1]), if_pos (by simp [c2]), g3 c1 c2]; rfl
   ·rw [if_pos (by simp [c1]), if_neg (by simp [c2])]
  ·rw [if_neg (by simp [c1])]
 refine as_ (B 0 2 rfl (by omega)) ?_
 refine as_ (B 2 4 rfl (by omega)) ?_
 refine as_ (B 4 6 rfl (by omega)) ?_
 refine as_ (B 6 8 rfl (by omega)) ?_
 refine as_ (B 8 10 rfl (by omega)) ?_
 refine as_ (B 10 12 rfl (by omega)) ?_
 exact ak_ (if_neg (by rw [hn]; decide))
theorem ke_ (a : Sl (Iv .u8)) (h : ∀ x ∈ a.l, 0 ≤ x.v ∧ x.v ≤ 255) : fv_ a = some true := by
 refine hy_ _ _ ?_
 unfold dP_
 by_cases hl : 1048576 < (a.l.length : Int)
 ·rw [if_pos (by simpa using hl)]
 rw [if_neg (by simpa using hl)]
 have hb : Bys a := ⟨h, by omega⟩
 obtain ⟨env, e1, hE, _⟩ := rh_ a hb
 obtain ⟨b1, e2, hb1⟩ := lx_ 1 a h (by omega)
 obtain ⟨p, e3, p1, _, p3⟩ := hW_ b1 hb1
 obtain ⟨b2, e4, hb2⟩ := lx_ 2 a h (by omega)
 obtain ⟨q, e5, q1, _, q3⟩ := hW_ b2 hb2
 obtain ⟨b3, e6, hb3⟩ := lx_ 3 a h (by omega)
 obtain ⟨d, e7, d1, _, d3⟩ := hW_ b3 hb3
 obtain ⟨b4, e8, hb4⟩ := lx_ 4 a h (by omega)
 obtain ⟨s, e9, hs⟩ := mA_ b4 hb4
 obtain ⟨c, e10, _⟩ := tJ_ a 5 2 hb (by omega) (by omega)
 have hs : s.size ≤ 200 := by omega
 have et : dZ_ ⟨#[]⟩ = some ⟨1, 0, ⟨#[]⟩, ⟨true, []⟩⟩ := ji_ _ _ rfl
 have en : b0_ 16 ⟨#[]⟩ ⟨true, []⟩ = some ⟨16, 0, ⟨#[]⟩, ⟨true, []⟩⟩ := gK_ _ _ _ _ rfl
 simp only [e1, e2, e3, e4, e5, e6, e7, e8, e9, e10, et, en, tL_, ui_, Option.bind_some]
 obtain ⟨t1, t2⟩ := nA_ 1 (.inl rfl)
 obtain ⟨f1, f2⟩ := nA_ 16 (.inr rfl)
 have V : ∀ {x : DPattern}, VP x → nd x ≤ 60 → VPat x := fun h1 h2 => ⟨h1, by omega⟩
 have C : ∀ {x y : DPattern}, VP x → VP y → VP (catP x y) ∧ nd (catP x y) = 1 + nd x + nd y := fun h1 h2 => pw_ 19 (.inr rfl) h1 h2
 have A : ∀ {x y : DPattern}, VP x → VP y → VP (altP x y) ∧ nd (altP x y) = 1 + nd x + nd y := fun h1 h2 => pw_ 18 (.inl rfl) h1 h2
 have hk := ql_ hs
 have cpq := C p1 q1
 have cqd := C q1 d1
 have apq := A p1 q1
 have aqd := A q1 d1
 have LL := oH_ (c := c) hE hs ⟨false, [catP (catP p q) d, catP p (catP q d), altP (altP p q) d, altP p (altP q d), p, catP p ⟨1, 0, ⟨#[]⟩, ⟨true, []⟩⟩, p, catP ⟨1, 0, ⟨#[]⟩, ⟨true, []⟩⟩ p, p, altP p ⟨16, 0, ⟨#[]⟩, ⟨true, []⟩⟩, p, altP ⟨16, 0, ⟨#[]⟩, ⟨true, []⟩⟩ p]⟩ rfl (fun i hi => by
  rcases hi with rfl | rfl | rfl | rfl | rfl | rfl
  ·exact ⟨_, _, rfl, rfl, ⟨(C cpq.1 d1).1, by rw [(C cpq.1 d1).2, cpq.2]; omega⟩, ⟨(C p1 cqd.1).1, by rw [(C p1 cqd.1).2, cqd.2]; omega⟩, n7_ hs p1 q1 d1⟩
  ·exact ⟨_, _, rfl, rfl, ⟨(A apq.1 d1).1, by rw [(A apq.1 d1).2, apq.2]; omega⟩, ⟨(A p1 aqd.1).1, by rw [(A p1 aqd.1).2, aqd.2]; omega⟩, nF_ hs p1 q1 d1⟩
  ·exact ⟨_, _, rfl, rfl, ⟨p1, by omega⟩, ⟨(C p1 t1).1, by rw [(C p1 t1).2, t2]; omega⟩, nt_ hs p1 hk⟩
  ·exact ⟨_, _, rfl, rfl, ⟨p1, by omega⟩, ⟨(C t1 p1).1, by rw [(C t1 p1).2, t2]; omega⟩, o5_ hs p1 hk⟩
  ·exact ⟨_, _, rfl, rfl, ⟨p1, by omega⟩, ⟨(A p1 f1).1, by rw [(A p1 f1).2, f2]; omega⟩, oh_ hs p1⟩
  ·exact ⟨_, _, rfl, rfl, ⟨p1, by omega⟩, ⟨(A f1 p1).1, by rw [(A f1 p1).2, f2]; omega⟩, o2_ hs p1⟩)
 exact (congrArg (fun o => Option.bind o fun y27 => Sum.elim (fun y27 => some true) (fun y27 => some y27) y27) LL).trans rfl
theorem law_FnAlgebra {fu0 : Nat} {t0 : T} (h0 : Shp Go.Proofs.Try.prog fu0 22 [t0]) : ∃ σ', run Go.Proofs.Try.prog md ext 3 [t0] St.empty = some (.bool true, σ') := by
 obtain ⟨a, e0, ha⟩ := nz_ h0
 injection e0 with e0; subst e0
 exact ⟨_, fA_ (ke_ a ha.2) St.empty⟩
end Go.Am
end
