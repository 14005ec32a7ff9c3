/- The law. -/
import Derived.Test.YtilalopohkdmdaaGreatAg0
import Derived.Test.YtilalopohkdmdaaGreatAl18
import Derived.Test.YtilalopohkdmdaaGreatAl20
import Derived.Test.YtilalopohkdmdaaGreatAl21
section
set_option maxRecDepth 100000
set_option maxHeartbeats 1000000
set_option linter.unusedVariables false
set_option linter.unusedSimpArgs false
namespace Go.Am
noncomputable def la_ (env : Sl DNamed) (q : DPattern) (s : ByteArray) (f e : Int) : List Int := match bP_ env q s e f with
 | some w => w.1.l.map (·.v)
 | none => []
theorem nI_ {env : Sl DNamed} {s : ByteArray} {q : DPattern} {e f : Int} {w : Sl (Iv .i64) × Int} (hw : bP_ env q s e f = some w) {r : Bool × aa_} (h1 : Run0 env s f e q = some r) (h2 : r.2.code_ = 0) (h3 : w.1.l = r.2.matches_.l.map (fun x => ⟨x.End⟩)) : iI_ env s q e (la_ env q s f e) := by
 refine ⟨f, r, h1, h2, ?_⟩
 unfold la_
 rw [hw]
 simp only [h3, List.map_map]
 rfl
theorem rs_ (l : List (Iv .i64)) : l.map (fun x => (⟨x.v⟩ : Iv .i64)) = l := by
 induction l with
 | nil => rfl
 | cons x l ih => simp [ih]
theorem lH_ {env : Sl DNamed} {s : ByteArray} {q : DPattern} (hE : EnvP env) (hv : VPat q) (hs : s.size ≤ 200) (x : Sl (Iv .i64)) (hx : x.l.length ≤ 60) : ∀ (m i : Nat), i + m = x.l.length → ∀ acc : Sl (Iv .i64), acc.l.length ≤ 60 * i →
  ∃ y : Sl (Iv .i64) ⊕ Bool, aA_ (S := (Int × (Sl (Iv .i64)))) (R := ((Sl (Iv .i64)) ⊕ Bool)) (fun st1 => (if (decide (st1.1 < (x.l.length : Int))) = true then ((elt x st1.1).bind fun y13 => ((bP_ env q s y13.v 1000).bind fun y14 => (if (!decide (y14.2 = 0)) = true then (some (.inr (.inr true))) else ((appS 8 st1.2 y14.1).bind fun y15 => (some (.inl ((w4 (st1.1 + 1)), y15))))))) else (some (.inr (.inl st1.2))))) ((i : Int), acc) = some y ∧
   (y = .inr true ∨ ∃ w, y = .inl w ∧ w.l.length ≤ 3600 ∧ (∀ e ∈ x.l.drop i, iI_ env s q e.v (la_ env q s 1000 e.v)) ∧ w.l = acc.l ++ ((x.l.drop i).flatMap fun e => la_ env q s 1000 e.v).map fun v => ⟨v⟩)
 | 0, i, hi, acc, ha => ⟨_, aj_ (if_neg (by simp; omega)), .inr ⟨acc, rfl, by omega, by rw [List.drop_eq_nil_of_le (by omega)]; simp, by rw [List.drop_eq_nil_of_le (by omega)]; simp⟩⟩
 | m + 1, i, hi, acc, ha => by
  have hlt : i < x.l.length := by omega
  have ed : x.l.drop i = x.l[i] :: x.l.drop (i + 1) := List.drop_eq_getElem_cons hlt
  obtain ⟨w, w1, w2, w3⟩ := lJ_ (a := x.l[i].v) (f := 1000) hE hv hs (by omega)
  by_cases hc : w.2 = 0
  ·obtain ⟨hin, r, r1, r2, r3⟩ := w3 hc
   have eo := nI_ w1 r1 r2 r3
   obtain ⟨a2, k1, k2⟩ := pA_ 8 acc w.1 (by omega) (by omega)
   obtain ⟨y, y1, y2⟩ := lH_ hE hv hs x hx m (i + 1) (by omega) a2 (by rw [k2]; simp; omega)
   refine ⟨y, ay_ ?_ y1, ?_⟩
   ·rw [if_pos (by simpa using hlt)]
    simp only [bD_ hlt, Option.bind_some, w1, hc, decide_true, Bool.not_true, Bool.false_eq_true, if_false, k1]
    rw [aV_ (by omega) (by omega)]; rfl
   ·rcases y2 with rfl | ⟨z, rfl, z1, z2, z3⟩
    ·exact .inl rfl
    ·refine .inr ⟨z, rfl, z1, ?_, ?_⟩
     ·rw [ed]; intro e he
      rcases List.mem_cons.1 he with rfl | he
      ·exact eo
      ·exact z2 e he
     ·rw [z3, k2, ed, List.flatMap_cons, List.map_append, List.append_assoc]
      have : (la_ env q s 1000 x.l[i].v).map (fun v => (⟨v⟩ : Iv .i64)) = w.1.l := by
       unfold la_; rw [w1]; simp only [List.map_map]; exact rs_ _
      rw [this]
  ·refine ⟨.inr true, aj_ ?_, .inl rfl⟩
   rw [if_pos (by simpa using hlt)]
   simp only [bD_ hlt, Option.bind_some, w1, hc, decide_false, Bool.not_false, if_true]
theorem gN_ (a : Sl (Iv .u8)) (h : ∀ x ∈ a.l, 0 ≤ x.v ∧ x.v ≤ 255) : c7_ a = some true := by
 refine fA_ _ _ ?_
 unfold cn_
 by_cases hl : 1048576 < (a.l.length : Int)
 ·rw [if_pos (by simpa using hl)]
 rw [if_neg (by simpa using hl)]
 have hb : Bys a := ⟨h, by omega⟩
 obtain ⟨env, e1, hE, _, hC⟩ := l9_ a hb
 obtain ⟨b1, e2, hb1⟩ := nH_ 1 a h (by omega)
 obtain ⟨p, e3, p1, p2, p3⟩ := jY_ b1 hb1
 obtain ⟨b2, e4, hb2⟩ := nH_ 2 a h (by omega)
 obtain ⟨q, e5, q1, q2, q3⟩ := jY_ b2 hb2
 obtain ⟨b3, e6, hb3⟩ := nH_ 3 a h (by omega)
 obtain ⟨s, e7, hs⟩ := mn_ b3 hb3
 obtain ⟨c, e8, _⟩ := t0_ a 4 (w4 ((s.size : Int) + 1)) hb (by omega) (by rw [aV_ (by omega) (by omega)]; omega)
 have hP : VPat p := ⟨p1, by omega⟩
 have hQ : VPat q := ⟨q1, by omega⟩
 obtain ⟨z, z1, z2, z3⟩ := py_ (s := s) (a := c) (f := 3000) hE (rZ_ 19 (.inr rfl) p1 q1 (by omega)) (by omega) (by omega)
 obtain ⟨x, x1, x2, x3⟩ := py_ (s := s) (a := c) (f := 1000) hE hP (by omega) (by omega)
 rw [e1, Option.bind_some, e2, Option.bind_some, e3, Option.bind_some, e4, Option.bind_some, e5, Option.bind_some, e6, Option.bind_some, e7, Option.bind_some, e8, Option.bind_some, ug_, Option.bind_some, z1, Option.bind_some, x1, Option.bind_some]
 simp only [Bool.not_true, Bool.false_eq_true, if_false]
 by_cases c1 : x.2 = 0
 ·by_cases c3 : z.2 = 0
  ·rw [if_neg (by simp [c1]), if_neg (by simp [c3])]
   obtain ⟨y, y1, y2⟩ := lH_ (s := s) hE hQ (by omega) x.1 x2 x.1.l.length 0 (by omega) ⟨false, []⟩ (by simp)
   rw [show ((0 : Nat) : Int) = 0 from rfl] at y1
   rw [y1, Option.bind_some]
   rcases y2 with rfl | ⟨w, rfl, w1, w2, w3⟩
   ·rfl
   ·obtain ⟨_, rx, f1, f2, f3⟩ := x3 c1
    obtain ⟨_, rz, h1, h2, h3⟩ := z3 c3
    simp only [List.drop_zero] at w2 w3
    have := oS_ (Y := la_ env q s 1000) hC q2 (by omega) h1 f1 h2 f2 fun e he => by
     obtain ⟨m, hm, rfl⟩ := List.mem_map.1 he
     exact w2 ⟨m.End⟩ (by rw [f3]; exact List.mem_map.2 ⟨m, hm, rfl⟩)
    have e : z.1.l = w.l := by
     rw [w3, h3, f3]
     have := congrArg (List.map fun x : Int => (⟨x⟩ : Iv .i64)) this
     simpa [Function.comp_def, List.flatMap_map] using this
    simp only [Sum.elim_inl]
    rw [pb_ z.1 w e (by omega)]; rfl
  ·rw [if_neg (by simp [c1]), if_pos (by simp [c3])]
 ·rw [if_pos (by simp [c1])]
theorem law_FnConcatenation {fu0 : Nat} {t0 : T} (h0 : Shp Go.Proofs.Tryz.prog fu0 22 [t0]) : ∃ σ', run Go.Proofs.Tryz.prog md ext 4 [t0] St.empty = some (.bool true, σ') := by
 obtain ⟨a, e0, ha⟩ := n3_ h0
 injection e0 with e0; subst e0
 exact ⟨_, fD_ (gN_ a ha.2) St.empty⟩
end Go.Am
end
