/- The law. -/
import Derived.Test.YtilalopohkdmdaaGreatAg0
import Derived.Test.YtilalopohkdmdaaGreatAl33
section
set_option maxRecDepth 100000
set_option maxHeartbeats 2000000
set_option linter.unusedVariables false
set_option linter.unusedSimpArgs false
namespace Go.Am
theorem of_ (x : UInt8) : VP (txP x) ∧ nd (txP x) = 1 := by
 refine ⟨.mk ⟨by show (1 : Int) ≤ 1 ∧ (1 : Int) ≤ 24; decide, by show (0 : Int) = kidN 1; rfl, ?_⟩ (fun q hq => by simp at hq), by rw [l3_]; show 1 + ndL [] = 1; unfold ndL; omega⟩
 show ArgP 1 0 ⟨#[x]⟩
 unfold ArgP
 rw [if_pos (by decide)]; exact ⟨rfl, by show ((1 : Nat) : Int) ≤ 200; decide, .inl rfl⟩
theorem balP_vp : VP balP ∧ nd balP = 1 := by
 refine ⟨.mk ⟨by show (1 : Int) ≤ 13 ∧ (13 : Int) ≤ 24; decide, by show (0 : Int) = kidN 13; rfl, ?_⟩ (fun q hq => by simp at hq), by rw [l3_]; show 1 + ndL [] = 1; unfold ndL; omega⟩
 show ArgP 13 0 ⟨#[]⟩
 unfold ArgP
 rw [if_neg (by decide), if_neg (by decide), if_neg (by decide)]; exact ⟨rfl, rfl⟩
theorem kB_ {p q : DPattern} (hp : VP p) (hq : VP q) : VP (catP p q) ∧ nd (catP p q) = 1 + nd p + nd q := by
 refine ⟨.mk ⟨by show (1 : Int) ≤ 19 ∧ (19 : Int) ≤ 24; decide, by show (2 : Int) = kidN 19; rfl, ?_⟩ fun x hx => ?_, ?_⟩
 ·show ArgP 19 0 ⟨#[]⟩
  unfold ArgP
  rw [if_neg (by omega), if_neg (by omega), if_neg (by omega)]; exact ⟨rfl, rfl⟩
 ·have hx : x = p ∨ x = q := by simpa using hx
  rcases hx with rfl | rfl
  ·exact hp
  ·exact hq
 ·rw [l3_]; show (1 + ndL [p, q] : Nat) = _; simp only [ndL]; omega
theorem env0_ok : EnvP ⟨true, []⟩ := ⟨by decide, fun x hx => by simp at hx, fun i _ hi => by simp at hi⟩
theorem qd_ {s : ByteArray} {a b : Nat} (hs : s.size ≤ 15) (h : Bd s a b) : bx_ ⟨true, []⟩ inP (⟨#[40]⟩ ++ s.extract a b ++ ⟨#[41]⟩) 2000 = some true := by
 obtain ⟨h1, h2, h3, h4⟩ := h
 have z1 : (⟨#[40]⟩ : ByteArray).size = 1 := rfl
 have z2 : (⟨#[41]⟩ : ByteArray).size = 1 := rfl
 have zt : (s.extract a b).size = b - a := by rw [ByteArray.size_extract]; omega
 have zu : (⟨#[40]⟩ ++ s.extract a b ++ ⟨#[41]⟩ : ByteArray).size = b - a + 2 := by rw [ByteArray.size_append, ByteArray.size_append, z1, z2, zt]; omega
 have ub : ∀ i, i < b - a → bAt (⟨#[40]⟩ ++ s.extract a b ++ ⟨#[41]⟩) ((1 + i : Nat) : Int) = bAt s ((a + i : Nat) : Int) := fun i hi => by
  rw [oj_ (by rw [ByteArray.size_append, z1, zt]; omega)]
  have := mO_ (x := ⟨#[40]⟩) (y := s.extract a b) (i := i) (by omega)
  rw [z1] at this
  rw [this, oV_ h2 (by omega)]
 have ud : ∀ i, i ≤ b - a → dp (⟨#[40]⟩ ++ s.extract a b ++ ⟨#[41]⟩) 1 i = dp s a i := by
  intro i
  induction i with
  | zero => intro _; rfl
  | succ i ih =>
   intro hi
   show dp _ 1 i + pv _ = dp s a i + pv _
   rw [ih (by omega), ub i (by omega)]
 have x0 : (⟨#[40]⟩ ++ s.extract a b ++ ⟨#[41]⟩ : ByteArray).extract 0 1 = ⟨#[40]⟩ := by
  rw [ByteArray.append_assoc]; exact ByteArray.extract_append_eq_left rfl
 have x1 : (⟨#[40]⟩ ++ s.extract a b ++ ⟨#[41]⟩ : ByteArray).extract (b - a + 1) (b - a + 1 + 1) = ⟨#[41]⟩ := ByteArray.extract_append_eq_right (by rw [ByteArray.size_append, z1, zt]; omega) (by rw [ByteArray.size_append, z1, zt, z2]; omega)
 generalize (⟨#[40]⟩ ++ s.extract a b ++ ⟨#[41]⟩ : ByteArray) = u at *
 have hBd : Bd u 1 (b - a + 1) := ⟨by omega, by omega, fun i hi => by rw [ud i (by omega)]; exact h3 i (by omega), by rw [show b - a + 1 - 1 = b - a by omega, ud _ (Nat.le_refl _), h4]⟩
 have hv : VPat inP := by
  have v1 := kB_ balP_vp.1 (of_ 41).1
  have v2 := kB_ (of_ 40).1 v1.1
  exact ⟨v2.1, by rw [v2.2, v1.2, (of_ 40).2, (of_ 41).2, balP_vp.2]; decide⟩
 obtain ⟨w, r, w1, w2, w3, w4, w5⟩ := nf_ (s := u) (a := 0) (f := 2000) env0_ok hv (by omega) ⟨Int.le_refl _, by omega⟩ (by omega)
 obtain ⟨g1, g2⟩ := tA_ (u := u) (E := b - a + 1) (by omega) hBd x0 x1 (by omega) r w3
 refine gj_ _ _ _ _ _ ?_
 unfold cW_
 rw [w1, Option.bind_some, if_pos (by rw [w4, g1]; rfl), kX_ w.1 (u.size : Int) w2 ?_]
 ·rfl
 ·rw [w5 (by rw [w4, g1])]
  obtain ⟨m, m1, m2⟩ := List.mem_map.1 g2
  refine List.mem_map.2 ⟨m, m1, ?_⟩
  rw [show ((u.size : Nat) : Int) = m.End by rw [m2, zu]; omega]
theorem it_ {s : ByteArray} (hs : s.size ≤ 15) (L : Sl DMatch) (hl : L.l.length ≤ 60) (k : Nat) (hL : ∀ m ∈ L.l, PB2 s k m) : az_ (S := Int) (R := (Unit ⊕ Bool)) (fun st2 => (if (decide (st2 < (L.l.length : Int))) = true then ((elt L st2).bind fun y8 => ((bw_ s y8).bind fun y9 => ((az_ (S := (Int × Int)) (R := (Int ⊕ Bool)) (fun st3 => (if (decide (st3.2 < (y9.size : Int))) = true then ((aC_ y9 st3.2).bind fun y11 => (((if (decide (y11 = 40)) = true then (some (w4 (st3.1 + 1))) else (some st3.1)) : Option Int).bind fun y12 => ((aC_ y9 st3.2).bind fun y13 => (((if (decide (y13 = 41)) = true then (some (w4 (y12 - 1))) else (some y12)) : Option Int).bind fun y14 => (if (decide (y14 < 0)) = true then (some (.inr (.inr false))) else (some (.inl (y14, (w4 (st3.2 + 1)))))))))) else (some (.inr (.inl st3.1))))) (0, 0)).bind fun y10 => (Sum.elim (fun y10 => (if (!decide (y10 = 0)) = true then (some (.inr (.inr false))) else (if (decide ((y9.size : Int) ≤ (k : Int))) = true then (some (.inr (.inr false))) else ((bk_ ⟨#[40]⟩).bind fun y15 => ((bk_ ⟨#[41]⟩).bind fun y16 => ((bz_ balP y16).bind fun y17 => ((bz_ y15 y17).bind fun y18 => (if (decide ((k : Int) = 0)) = true then ((catB ⟨#[40]⟩ y9).bind fun y19 => ((catB y19 ⟨#[41]⟩).bind fun y20 => ((bx_ ⟨true, []⟩ y18 y20 2000).bind fun y21 => (if (!y21) = true then (some (.inr (.inr false))) else (some (.inl (w4 (st2 + 1)))))))) else (some (.inl (w4 (st2 + 1)))))))))))) (fun y10 => (some (.inr (.inr y10)))) y10)))) else (some (.inr (.inl ()))))) 0 = some (.inl ()) := by
 refine gV_ (n := L.l.length) (fun i hi => ?_) (if_neg (by simp))
 obtain ⟨a, b, m1, m2, m3, m4⟩ := hL _ (List.getElem_mem hi)
 have m3' := m3
 obtain ⟨h1, h2, _, _⟩ := m3'
 have ht : bw_ s L.l[i] = some (s.extract a b) := by
  have := p5_ (s := s) (m := L.l[i]) ⟨by omega, by omega, by omega⟩
  rw [this]
  show some (s.extract L.l[i].Start.toNat L.l[i].End.toNat) = _
  rw [m1, m2]; rfl
 have zt : (s.extract a b).size = b - a := by rw [ByteArray.size_extract]; omega
 have z1 : (⟨#[40]⟩ : ByteArray).size = 1 := rfl
 have z2 : (⟨#[41]⟩ : ByteArray).size = 1 := rfl
 have t1 : bk_ ⟨#[40]⟩ = some (txP 40) := gr_ _ _ rfl
 have t2 : bk_ ⟨#[41]⟩ = some (txP 41) := gr_ _ _ rfl
 rw [if_pos (by simpa using hi), bC_ hi, Option.bind_some, ht, Option.bind_some, lV_ m3 (by omega), Option.bind_some, Sum.elim_inl, if_neg (by simp), if_neg (by rw [zt]; simp; omega), t1, Option.bind_some, t2, Option.bind_some, pv_, Option.bind_some, pv_, Option.bind_some, aP_ (by omega) (by omega)]
 by_cases hk : (k : Int) = 0
 ·have c1 : catB ⟨#[40]⟩ (s.extract a b) = some (⟨#[40]⟩ ++ s.extract a b) := by unfold catB; rw [if_pos (by rw [z1, zt]; omega)]
  have c2 : catB (⟨#[40]⟩ ++ s.extract a b) ⟨#[41]⟩ = some (⟨#[40]⟩ ++ s.extract a b ++ ⟨#[41]⟩) := by unfold catB; rw [if_pos (by rw [ByteArray.size_append, z1, z2, zt]; omega)]
  rw [if_pos (by simpa using hk), c1, Option.bind_some, c2, Option.bind_some, qd_ hs m3, Option.bind_some, if_neg (by simp)]
 ·rw [if_neg (by simpa using hk)]
theorem jk_ (a : Sl (Iv .u8)) (h : ∀ x ∈ a.l, 0 ≤ x.v ∧ x.v ≤ 255) : eS_ a = some true := by
 refine gP_ _ _ ?_
 unfold dk_
 by_cases hl : 1048576 < (a.l.length : Int)
 ·rw [if_pos (by simpa using hl)]
 rw [if_neg (by simpa using hl)]
 have hb : Bys a := ⟨h, by omega⟩
 obtain ⟨s, e1, hs⟩ := l9_ a hb
 have e2 : cU_ 13 ⟨#[]⟩ ⟨true, []⟩ = some balP := gH_ _ _ _ _ rfl
 rw [e1, Option.bind_some, e2, Option.bind_some, pv_, Option.bind_some]
 obtain ⟨w, s1, s2, s3, s4⟩ := oy_ s false (by omega)
 have v2 := kB_ balP_vp.1 balP_vp.1
 obtain ⟨x, x1, x2, x3, x4, x5⟩ := jD_ (env := ⟨true, []⟩) (p := balP) (f := 2000) env0_ok ⟨balP_vp.1, by rw [balP_vp.2]; decide⟩ (by omega) false (by omega) s1 s2 s3 s4
 obtain ⟨y, y1, y2, y3, y4, y5⟩ := jD_ (env := ⟨true, []⟩) (p := catP balP balP) (f := 2000) env0_ok ⟨v2.1, by rw [v2.2, balP_vp.2]; decide⟩ (by omega) false (by omega) s1 s2 s3 s4
 obtain ⟨gx1, gx2⟩ := mA_ (by omega) s4 0 balP (.inl ⟨rfl, rfl⟩) x x1
 obtain ⟨gy1, gy2⟩ := mA_ (by omega) s4 1 (catP balP balP) (.inr ⟨rfl, rfl⟩) y y1
 have lx := it_ hs _ x4 0 gx2
 have ly := it_ hs _ y4 1 gy2
 rw [show ((0 : Nat) : Int) = 0 from rfl] at lx
 rw [show ((1 : Nat) : Int) = 1 from rfl] at ly
 have el0 : elt (⟨false, [balP, catP balP balP]⟩ : Sl DPattern) 0 = some balP := rfl
 have el1 : elt (⟨false, [balP, catP balP balP]⟩ : Sl DPattern) 1 = some (catP balP balP) := rfl
 have last : ∀ R : Option (Unit ⊕ Bool), R = some (.inl ()) ∨ R = some (.inr true) → (R.bind fun y4 => (Sum.elim (fun y4 => (some true)) (fun y4 => (some y4)) y4)) = some true := fun R hR => by rcases hR with rfl | rfl <;> rfl
 refine last _ ?_
 by_cases cx : x.2.2.2.2.2.2.2.1 = 7
 ·right
  refine ah_ ?_
  rw [if_pos (by decide), el0, Option.bind_some, x3, Option.bind_some, if_neg (by simp), if_pos (by simp [cx]), if_pos (by simp [cx]), cx]; rfl
 by_cases cy : y.2.2.2.2.2.2.2.1 = 7
 ·right
  refine au_ (s' := 1) ?_ (ah_ ?_)
  ·rw [if_pos (by decide), el0, Option.bind_some, x3, Option.bind_some, if_neg (by simp)]
   by_cases c0 : x.2.2.2.2.2.2.2.1 = 0
   ·rw [if_neg (by simp [c0]), lx]; rfl
   ·have c6 : x.2.2.2.2.2.2.2.1 = 6 := by omega
    rw [if_pos (by simp [c0]), if_neg (by simp [c6]), lx]; rfl
  rw [if_pos (by decide), el1, Option.bind_some, y3, Option.bind_some, if_neg (by simp), if_pos (by simp [cy]), if_pos (by simp [cy]), cy]; rfl
 ·left
  refine au_ (s' := 1) ?_ (au_ (s' := 2) ?_ (ah_ (if_neg (by decide))))
  ·rw [if_pos (by decide), el0, Option.bind_some, x3, Option.bind_some, if_neg (by simp)]
   by_cases c0 : x.2.2.2.2.2.2.2.1 = 0
   ·rw [if_neg (by simp [c0]), lx]; rfl
   ·have c6 : x.2.2.2.2.2.2.2.1 = 6 := by omega
    rw [if_pos (by simp [c0]), if_neg (by simp [c6]), lx]; rfl
  rw [if_pos (by decide), el1, Option.bind_some, y3, Option.bind_some, if_neg (by simp)]
  by_cases c0 : y.2.2.2.2.2.2.2.1 = 0
  ·rw [if_neg (by simp [c0]), ly]; rfl
  ·have c6 : y.2.2.2.2.2.2.2.1 = 6 := by omega
   rw [if_pos (by simp [c0]), if_neg (by simp [c6]), ly]; rfl
theorem law_FnBalanced {fu0 : Nat} {t0 : T} (h0 : Shp Go.Proofs.Tryz.prog fu0 22 [t0]) : ∃ σ', run Go.Proofs.Tryz.prog md ext 7 [t0] St.empty = some (.bool true, σ') := by
 obtain ⟨a, e0, ha⟩ := nt_ h0
 injection e0 with e0; subst e0
 exact ⟨_, fK_ (jk_ a ha.2) St.empty⟩
end Go.Am
end
