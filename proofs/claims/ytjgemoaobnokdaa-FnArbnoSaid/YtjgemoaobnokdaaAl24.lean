/- The law. -/
import Derived.Test.YtjgemoaobnokdaaAg0
import Derived.Test.YtjgemoaobnokdaaAl20
import Derived.Test.YtjgemoaobnokdaaAl22
import Derived.Test.YtjgemoaobnokdaaAl23
section
set_option maxRecDepth 100000
set_option maxHeartbeats 1000000
set_option linter.unusedVariables false
set_option linter.unusedSimpArgs false
namespace Go.Am
theorem sA_ {q : DPattern} (hq : VP q) (hn : nd q + 1 ≤ 60) : VPat (arbP q) := by
 refine ⟨.mk ⟨by show (1 : Int) ≤ 20 ∧ (20 : Int) ≤ 24; decide, by show (1 : Int) = kidN 20; rfl, ?_⟩ fun x hx => ?_, ?_⟩
 ·show ArgP 20 0 ⟨#[]⟩
  unfold ArgP
  rw [if_neg (by omega), if_neg (by omega), if_neg (by omega)]; exact ⟨rfl, rfl⟩
 ·have hx : x = q := by simpa using hx
  rw [hx]; exact hq
 ·rw [jz_]; show ((1 + ndL [q] : Nat) : Int) ≤ 60; simp only [ndL]; omega
theorem iv_ {α β : Type} {f g : α → List β} : ∀ {l : List α}, (∀ x ∈ l, f x = g x) → l.flatMap f = l.flatMap g
 | [], _ => rfl
 | x :: l, h => by rw [List.flatMap_cons, List.flatMap_cons, h x (by simp), iv_ fun y hy => h y (by simp [hy])]
theorem ia_ {env : Sl DNamed} {s : ByteArray} {q : DPattern} {c : Int} (hE : EnvP env) (hv : VPat q) (hs : s.size ≤ 200) (x : Sl (Iv .i64)) (hx : x.l.length ≤ 60) : ∀ (m i : Nat), i + m = x.l.length → ∀ acc : Sl (Iv .i64), acc.l.length ≤ 60 * i + 1 →
  ∃ y : Sl (Iv .i64) ⊕ Bool, aC_ (S := (Int × (Sl (Iv .i64)))) (R := ((Sl (Iv .i64)) ⊕ Bool)) (fun st1 => (if (decide (st1.1 < (x.l.length : Int))) = true then ((elt x st1.1).bind fun y11 => (if (decide (y11.v ≤ c)) = true then (some (.inl ((w4 (st1.1 + 1)), st1.2))) else ((elt x st1.1).bind fun y12 => ((bO_ env q s y12.v 2000).bind fun y13 => (if (!decide (y13.2 = 0)) = true then (some (.inr (.inr true))) else ((appS 8 st1.2 y13.1).bind fun y14 => (some (.inl ((w4 (st1.1 + 1)), y14))))))))) else (some (.inr (.inl st1.2))))) ((i : Int), acc) = some y ∧
   (y = .inr true ∨ ∃ w, y = .inl w ∧ w.l.length ≤ 3601 ∧ (∀ e ∈ x.l.drop i, e.v ≤ c ∨ hI_ env s q e.v (jn_ env q s 2000 e.v)) ∧ w.l = acc.l ++ ((x.l.drop i).flatMap fun e => if e.v ≤ c then [] else jn_ env q s 2000 e.v).map fun v => ⟨v⟩)
 | 0, i, hi, acc, ha => ⟨_, an_ (if_neg (by simp; omega)), .inr ⟨acc, rfl, by omega, by rw [List.drop_eq_nil_of_le (by omega)]; simp, by rw [List.drop_eq_nil_of_le (by omega)]; simp⟩⟩
 | m + 1, i, hi, acc, ha => by
  have hlt : i < x.l.length := by omega
  have ed : x.l.drop i = x.l[i] :: x.l.drop (i + 1) := List.drop_eq_getElem_cons hlt
  by_cases hle : x.l[i].v ≤ c
  ·obtain ⟨y, y1, y2⟩ := ia_ hE hv hs x hx m (i + 1) (by omega) acc (by omega)
   refine ⟨y, ay_ ?_ y1, ?_⟩
   ·rw [if_pos (by simpa using hlt)]
    simp only [bC_ hlt, Option.bind_some, hle, decide_true, if_true]
    rw [aS_ (by omega) (by omega)]; rfl
   ·rcases y2 with rfl | ⟨z, rfl, z1, z2, z3⟩
    ·exact .inl rfl
    ·refine .inr ⟨z, rfl, z1, ?_, ?_⟩
     ·rw [ed]; intro e he
      rcases List.mem_cons.1 he with rfl | he
      ·exact .inl hle
      ·exact z2 e he
     ·rw [z3, ed, List.flatMap_cons, if_pos hle]; rfl
  obtain ⟨w, w1, w2, w3⟩ := i5_ (a := x.l[i].v) (f := 2000) hE hv hs (by omega)
  by_cases hc : w.2 = 0
  ·obtain ⟨hin, r, r1, r2, r3⟩ := w3 hc
   have eo := mJ_ w1 r1 r2 r3
   obtain ⟨a2, k1, k2⟩ := qm_ 8 acc w.1 (by omega) (by omega)
   obtain ⟨y, y1, y2⟩ := ia_ hE hv hs x hx m (i + 1) (by omega) a2 (by rw [k2]; simp; omega)
   refine ⟨y, ay_ ?_ y1, ?_⟩
   ·rw [if_pos (by simpa using hlt)]
    simp only [bC_ hlt, Option.bind_some, hle, w1, hc, decide_true, decide_false, Bool.not_true, Bool.false_eq_true, if_false, k1]
    rw [aS_ (by omega) (by omega)]; rfl
   ·rcases y2 with rfl | ⟨z, rfl, z1, z2, z3⟩
    ·exact .inl rfl
    ·refine .inr ⟨z, rfl, z1, ?_, ?_⟩
     ·rw [ed]; intro e he
      rcases List.mem_cons.1 he with rfl | he
      ·exact .inr eo
      ·exact z2 e he
     ·rw [z3, k2, ed, List.flatMap_cons, if_neg hle, List.map_append, List.append_assoc]
      have : (jn_ env q s 2000 x.l[i].v).map (fun v => (⟨v⟩ : Iv .i64)) = w.1.l := by
       unfold jn_; rw [w1]; simp only [List.map_map]; exact r1_ _
      rw [this]
  ·refine ⟨.inr true, an_ ?_, .inl rfl⟩
   rw [if_pos (by simpa using hlt)]
   simp only [bC_ hlt, Option.bind_some, hle, w1, hc, decide_false, Bool.not_false, Bool.false_eq_true, if_false, if_true]
theorem me_ (a : Sl (Iv .u8)) (h : ∀ x ∈ a.l, 0 ≤ x.v ∧ x.v ≤ 255) : f5_ a = some true := by
 refine ie_ _ _ ?_
 unfold eA_
 by_cases hl : 1048576 < (a.l.length : Int)
 ·rw [if_pos (by simpa using hl)]
 rw [if_neg (by simpa using hl)]
 have hb : Bys a := ⟨h, by omega⟩
 obtain ⟨env, e1, hE, _, hC⟩ := mm_ a hb
 obtain ⟨b1, e2, hb1⟩ := o2_ 1 a h (by omega)
 obtain ⟨q, e3, q1, q2, q3⟩ := my_ b1 hb1
 obtain ⟨b2, e4, hb2⟩ := o2_ 2 a h (by omega)
 obtain ⟨s, e5, hs⟩ := lX_ b2 hb2
 obtain ⟨c, e6, _⟩ := t1_ a 3 (w4 ((s.size : Int) + 1)) hb (by omega) (by rw [aS_ (by omega) (by omega)]; omega)
 have hQ : VPat q := ⟨q1, by omega⟩
 have e7 : e1_ 20 ⟨#[]⟩ ⟨false, [q]⟩ = some (arbP q) := jy_ _ _ _ _ rfl
 have hP := sA_ q1 (by omega)
 obtain ⟨z, z1, z2, z3⟩ := i5_ (s := s) (a := c) (f := 2000) hE hP (by omega) (by omega)
 obtain ⟨x, x1, x2, x3⟩ := i5_ (s := s) (a := c) (f := 1000) hE hQ (by omega) (by omega)
 rw [e1, Option.bind_some, e2, Option.bind_some, e3, Option.bind_some, e4, Option.bind_some, e5, Option.bind_some, e6, Option.bind_some, e7, Option.bind_some, z1, Option.bind_some, x1, Option.bind_some]
 by_cases c1 : x.2 = 0
 ·by_cases c3 : z.2 = 0
  ·rw [if_neg (by simp [c1]), if_neg (by simp [c3])]
   obtain ⟨y, y1, y2⟩ := ia_ (s := s) (c := c) hE hP (by omega) x.1 x2 x.1.l.length 0 (by omega) ⟨false, [⟨c⟩]⟩ (by simp)
   rw [show ((0 : Nat) : Int) = 0 from rfl] at y1
   rw [y1, Option.bind_some]
   rcases y2 with rfl | ⟨w, rfl, w1, w2, w3⟩
   ·rfl
   ·obtain ⟨hcc, rx, f1, f2, f3⟩ := x3 c1
    obtain ⟨_, rz, h1, h2, h3⟩ := z3 c3
    simp only [List.drop_zero] at w2 w3
    have ge := p3_ hE hQ (by omega) (by omega) hcc f1 f2
    have ev : ∀ e ∈ x.1.l, e.v ∈ ends rx.2 := fun e he => by
     rw [f3] at he
     obtain ⟨m, hm, rfl⟩ := List.mem_map.1 he
     exact List.mem_map.2 ⟨m, hm, rfl⟩
    have := oh_ (Y := jn_ env (arbP q) s 2000) hC q2 (by omega) h1 f1 h2 f2 fun e he => by
     obtain ⟨m, hm, rfl⟩ := List.mem_map.1 he
     rcases w2 ⟨m.End⟩ (by rw [f3]; exact List.mem_map.2 ⟨m, hm, rfl⟩) with k | k
     ·left; have := (ge _ he).1; simp only at k; omega
     ·exact .inr k
    have e : z.1.l = w.l := by
     rw [w3, h3]
     have e1 := congrArg (List.map fun x : Int => (⟨x⟩ : Iv .i64)) this
     have e2 : (x.1.l.flatMap fun e => if e.v ≤ c then [] else jn_ env (arbP q) s 2000 e.v) = (ends rx.2).flatMap fun e => if e = c then [] else jn_ env (arbP q) s 2000 e := by
      rw [f3]
      simp only [List.flatMap_map]
      refine iv_ fun m hm => ?_
      have := (ge m.End (List.mem_map.2 ⟨m, hm, rfl⟩)).1
      by_cases q : m.End = c
      ·rw [if_pos (by omega), if_pos q]
      ·rw [if_neg (by omega), if_neg q]
     rw [e2]
     simpa [Function.comp_def] using e1
    simp only [Sum.elim_inl]
    rw [rc_ z.1 w e (by omega)]; rfl
  ·rw [if_neg (by simp [c1]), if_pos (by simp [c3])]
 ·rw [if_pos (by simp [c1])]
theorem law_FnArbno {fu0 : Nat} {t0 : T} (h0 : Shp Go.Proofs.Try.prog fu0 22 [t0]) : ∃ σ', run Go.Proofs.Try.prog md ext 4 [t0] St.empty = some (.bool true, σ') := by
 obtain ⟨a, e0, ha⟩ := m3_ h0
 injection e0 with e0; subst e0
 exact ⟨_, fM_ (me_ a ha.2) St.empty⟩
end Go.Am
end
