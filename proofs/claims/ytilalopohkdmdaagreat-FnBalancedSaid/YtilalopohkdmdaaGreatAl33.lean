/- The law. -/
import Derived.Test.YtilalopohkdmdaaGreatAg2
import Derived.Test.YtilalopohkdmdaaGreatAg3
import Derived.Test.YtilalopohkdmdaaGreatAg1
import Derived.Test.YtilalopohkdmdaaGreatAg4
import Derived.Test.YtilalopohkdmdaaGreatAl28
import Derived.Test.YtilalopohkdmdaaGreatAl32
section
set_option maxRecDepth 100000
set_option maxHeartbeats 2000000
set_option linter.unusedVariables false
set_option linter.unusedSimpArgs false
namespace Go.Am
theorem ir_ {s : ByteArray} {i : Nat} (h : i < s.size) : bAt s (i : Int) = ((s[i]'h).toNat : Int) := by
 unfold bAt
 rw [dif_pos (by simpa using h)]; simp
theorem oV_ {s : ByteArray} {a b i : Nat} (hb : b ≤ s.size) (hi : a + i < b) : bAt (s.extract a b) (i : Int) = bAt s ((a + i : Nat) : Int) := by
 have h1 : i < (s.extract a b).size := by rw [ByteArray.size_extract]; omega
 rw [ir_ h1, ir_ (by omega), ByteArray.getElem_extract]
theorem oj_ {x y : ByteArray} {i : Nat} (hi : i < x.size) : bAt (x ++ y) (i : Int) = bAt x (i : Int) := by
 rw [ir_ (by rw [ByteArray.size_append]; omega), ir_ hi, ByteArray.getElem_append_left hi]
theorem mO_ {x y : ByteArray} {i : Nat} (hi : i < y.size) : bAt (x ++ y) ((x.size + i : Nat) : Int) = bAt y (i : Int) := by
 rw [ir_ (by rw [ByteArray.size_append]; omega), ir_ hi, ByteArray.getElem_append_right (by omega)]
 simp
theorem lV_ {s : ByteArray} {a b : Nat} (h : Bd s a b) (hs : s.size ≤ 200) : az_ (S := (Int × Int)) (R := (Int ⊕ Bool)) (fun st3 => (if (decide (st3.2 < ((s.extract a b).size : Int))) = true then ((aC_ (s.extract a b) st3.2).bind fun y11 => (((if (decide (y11 = 40)) = true then (some (w4 (st3.1 + 1))) else (some st3.1)) : Option Int).bind fun y12 => ((aC_ (s.extract a b) st3.2).bind fun y13 => (((if (decide (y13 = 41)) = true then (some (w4 (y12 - 1))) else (some y12)) : Option Int).bind fun y14 => (if (decide (y14 < 0)) = true then (some (.inr (.inr false))) else (some (.inl (y14, (w4 (st3.2 + 1)))))))))) else (some (.inr (.inl st3.1))))) (0, 0) = some (.inl 0) := by
 obtain ⟨h1, h2, h3, h4⟩ := h
 have hz : (s.extract a b).size = b - a := by rw [ByteArray.size_extract]; omega
 suffices H : ∀ m i : Nat, i + m = b - a → az_ (S := (Int × Int)) (R := (Int ⊕ Bool)) (fun st3 => (if (decide (st3.2 < ((s.extract a b).size : Int))) = true then ((aC_ (s.extract a b) st3.2).bind fun y11 => (((if (decide (y11 = 40)) = true then (some (w4 (st3.1 + 1))) else (some st3.1)) : Option Int).bind fun y12 => ((aC_ (s.extract a b) st3.2).bind fun y13 => (((if (decide (y13 = 41)) = true then (some (w4 (y12 - 1))) else (some y12)) : Option Int).bind fun y14 => (if (decide (y14 < 0)) = true then (some (.inr (.inr false))) else (some (.inl (y14, (w4 (st3.2 + 1)))))))))) else (some (.inr (.inl st3.1))))) (dp s a i, (i : Int)) = some (.inl 0) by
  exact H (b - a) 0 (by omega)
 intro m
 induction m with
 | zero =>
  intro i hi
  refine ah_ ?_
  show (if decide ((i : Int) < ((s.extract a b).size : Int)) = true then _ else _) = _
  rw [if_neg (by rw [hz]; simp; omega)]
  show some (Sum.inr (Sum.inl (dp s a i))) = _
  rw [show i = b - a by omega, h4]
 | succ m ih =>
  intro i hi
  refine au_ ?_ (ih (i + 1) (by omega))
  have hd := pW_ s a i
  have hd0 := h3 i (by omega)
  have hd1 := h3 (i + 1) (by omega)
  have hb : aC_ (s.extract a b) (i : Int) = some (bAt s ((a + i : Nat) : Int)) := by
   unfold aC_; rw [if_pos (by rw [hz]; omega), oV_ h2 (by omega)]
  show (if decide ((i : Int) < ((s.extract a b).size : Int)) = true then _ else _) = _
  rw [if_pos (by rw [hz]; simp; omega)]
  simp only [hb, Option.bind_some]
  have e : dp s a (i + 1) = dp s a i + pv (bAt s ((a + i : Nat) : Int)) := rfl
  unfold pv at e
  by_cases q1 : bAt s ((a + i : Nat) : Int) = 40
  ·have q2 : ¬ bAt s ((a + i : Nat) : Int) = 41 := by omega
   rw [if_pos q1] at e
   rw [if_pos (by simpa using q1), Option.bind_some, if_neg (by simpa using q2), Option.bind_some, aP_ (by omega) (by omega), ← e, if_neg (by simp; omega), aP_ (by omega) (by omega)]; rfl
  ·by_cases q2 : bAt s ((a + i : Nat) : Int) = 41
   ·rw [if_neg q1, if_pos q2] at e
    rw [if_neg (by simpa using q1), Option.bind_some, if_pos (by simpa using q2), Option.bind_some, c1_ (by omega) (by omega), show dp s a i - 1 = dp s a (i + 1) by omega, if_neg (by simp; omega), aP_ (by omega) (by omega)]; rfl
   ·rw [if_neg q1, if_neg q2] at e
    rw [if_neg (by simpa using q1), Option.bind_some, if_neg (by simpa using q2), Option.bind_some, show dp s a i = dp s a (i + 1) by omega, if_neg (by simp; omega), aP_ (by omega) (by omega)]; rfl
structure Sxb (u : ByteArray) (t : Int) (k : Nat) (S : aa_) : Prop where
 sub : S.subject_ = u
 fu : S.fuel_ = 2000
 st : 0 ≤ S.steps_ ∧ S.steps_ ≤ t
 co : S.code_ = 0
 mo : S.most_ = 0
 me : S.isMere_ = false
 ml : S.matches_.l.length ≤ k
section
variable {u : ByteArray} {t : Int} {k n : Nat} {S : aa_} {Φ : PhiT} {Q : Bool × aa_ → Prop} {c e : Int}
theorem Sxb.mono {t' : Int} {k' : Nat} (h : Sxb u t k S) (h1 : t ≤ t') (h2 : k ≤ k') : Sxb u t' k' S := ⟨h.sub, h.fu, by have := h.st; omega, h.co, h.mo, h.me, by have := h.ml; omega⟩
theorem Sxb.ns (h : Sxb u t k S) : Sxb u t k (NS S) := ⟨h.sub, h.fu, h.st, h.co, h.mo, h.me, h.ml⟩
theorem si_ {tx : ByteArray} (he : bR_ 1 0 tx u c = some e) (hS : Sxb u t k S) (ht : t < 2000) (h1 : e < 0 → ∀ S', Sxb u (t + 1) k S' → S'.matches_ = S.matches_ → Q (true, S')) (h2 : 0 ≤ e → ∀ S', Sxb u (t + 1) k S' → S'.matches_ = S.matches_ → Gv (Φ e S') (fun r => Q (r.1, NS r.2))) : Gv ((BG_impl_search_match (n + 1)).1 S ⟨1, 0, tx, ⟨true, []⟩⟩ c Φ) Q := by
 rw [show (BG_impl_search_match (n + 1)).1 S ⟨1, 0, tx, ⟨true, []⟩⟩ c Φ = ac_ (BG_impl_search_match n).1 (BG_impl_search_match n).2 S ⟨1, 0, tx, ⟨true, []⟩⟩ c Φ from rfl]
 unfold ac_
 have d1 : decide (S.steps_ = S.fuel_) = false := by have := hS.st; rw [hS.fu]; simp; omega
 have w1 : w4 (S.steps_ + 1) = S.steps_ + 1 := by have := hS.st; rw [aP_ (by omega) (by omega)]
 have dl : decide (0 < (([] : List DPattern).length : Int)) = false := rfl
 have he' : bR_ 1 0 tx S.subject_ c = some e := by rw [hS.sub]; exact he
 simp only [d1, w1, Int.reduceEq, decide_true, decide_false, Bool.false_eq_true, Bool.not_true, Bool.not_false, if_true, if_false, Option.bind_some, dl, he']
 have hS' : Sxb u (t + 1) k ⟨S.env_, S.subject_, S.fuel_, S.steps_ + 1, S.start_, S.now_, S.conds_, S.matches_, S.most_, S.isMere_, T.nilm, S.code_⟩ := ⟨hS.sub, hS.fu, by have := hS.st; show 0 ≤ S.steps_ + 1 ∧ S.steps_ + 1 ≤ t + 1; omega, hS.co, hS.mo, hS.me, hS.ml⟩
 exact gt_ (fun w => a2_ (h1 (of_decide_eq_true w) _ hS' rfl)) fun w => bb_ (h2 (by simpa using w) _ hS' rfl) fun r hr => a2_ hr
theorem rZ_ {p q : DPattern} (hS : Sxb u t k S) (ht : t < 2000) (h : ∀ S', Sxb u (t + 1) k S' → S'.matches_ = S.matches_ → Gv ((BG_impl_search_match n).1 S' p c (am_ (BG_impl_search_match n).1 (BG_impl_search_match n).2 (catP p q) Φ)) (fun r => Q (r.1, NS (NS r.2)))) : Gv ((BG_impl_search_match (n + 2)).1 S (catP p q) c Φ) Q := by
 rw [show (BG_impl_search_match (n + 2)).1 S (catP p q) c Φ = ac_ (BG_impl_search_match (n + 1)).1 (BG_impl_search_match (n + 1)).2 S (catP p q) c Φ from rfl]
 unfold ac_
 have d1 : decide (S.steps_ = S.fuel_) = false := by have := hS.st; rw [hS.fu]; simp; omega
 have w1 : w4 (S.steps_ + 1) = S.steps_ + 1 := by have := hS.st; rw [aP_ (by omega) (by omega)]
 have dl : decide (0 < (([p, q] : List DPattern).length : Int)) = true := rfl
 have e0 : elt (⟨false, [p, q]⟩ : Sl DPattern) 0 = some p := rfl
 simp only [d1, w1, Int.reduceEq, decide_true, decide_false, Bool.false_eq_true, Bool.not_true, Bool.not_false, if_true, if_false, Option.bind_some, dl]
 rw [bgI2 n]
 unfold ap_
 simp only [e0, Option.bind_some, Int.reduceEq, decide_true, decide_false, Bool.false_eq_true, if_true, if_false]
 have hS' : Sxb u (t + 1) k ⟨S.env_, S.subject_, S.fuel_, S.steps_ + 1, S.start_, S.now_, S.conds_, S.matches_, S.most_, S.isMere_, T.nilm, S.code_⟩ := ⟨hS.sub, hS.fu, by have := hS.st; show 0 ≤ S.steps_ + 1 ∧ S.steps_ + 1 ≤ t + 1; omega, hS.co, hS.mo, hS.me, hS.ml⟩
 exact bb_ (Q := fun r => Q (r.1, NS r.2)) (bb_ (h _ hS' rfl) fun r hr => a2_ hr) fun r hr => a2_ hr
theorem tt_ (hS : Sxb u t k S) (ht : t < 2000) (hk : k < 60) : Gv (al_ S e) (fun r => r.1 = true ∧ Sxb u (t + 1) (k + 1) r.2 ∧ ends r.2 = ends S ++ [e]) := by
 unfold al_
 have d1 : decide (S.steps_ = S.fuel_) = false := by have := hS.st; rw [hS.fu]; simp; omega
 have w1 : w4 (S.steps_ + 1) = S.steps_ + 1 := by have := hS.st; rw [aP_ (by omega) (by omega)]
 have hml := hS.ml
 have d2 : decide ((S.matches_.l.length : Int) = 60) = false := by simp; omega
 simp only [hS.me, Bool.false_eq_true, if_false, d1, w1, Option.bind_some, Bool.not_true, d2]
 refine bb_ o0_ fun y _ => bb_ app1 fun q hq => a2_ ?_
 have hq : q.l = S.matches_.l ++ [⟨S.start_, e, y⟩] := hq
 refine ⟨?_, ⟨hS.sub, hS.fu, by have := hS.st; show 0 ≤ S.steps_ + 1 ∧ S.steps_ + 1 ≤ t + 1; omega, hS.co, hS.mo, rfl, ?_⟩, ?_⟩
 ·show (!decide ((q.l.length : Int) = S.most_)) = true
  rw [hS.mo, hq]; simp; omega
 ·show q.l.length ≤ k + 1
  rw [hq]; simp; omega
 ·show q.l.map _ = _
  rw [hq, List.map_append]; rfl
end
abbrev txP (x : UInt8) : DPattern := ⟨1, 0, ⟨#[x]⟩, ⟨true, []⟩⟩
theorem oF_ {u : ByteArray} (hu : u.size ≤ 200) (x : UInt8) (c : Nat) (hc : c ≤ u.size) : ∃ e : Int, bR_ 1 0 ⟨#[x]⟩ u c = some e ∧ (e < 0 ∨ e = c + 1) ∧ (u.extract c (c + 1) = ⟨#[x]⟩ → c < u.size → e = c + 1) := by
 have e1 : subB u (c : Int) (u.size : Int) = some (u.extract c u.size) := by unfold subB; rw [if_pos (by omega)]; simp
 have z : (⟨#[x]⟩ : ByteArray).size = 1 := rfl
 have w : w4 ((c : Int) + ((⟨#[x]⟩ : ByteArray).size : Int)) = c + 1 := by rw [z, aP_ (by omega) (by omega)]; simp
 by_cases hp : (⟨#[x]⟩ : ByteArray).size ≤ (u.extract c u.size).size ∧ (u.extract c u.size).extract 0 (⟨#[x]⟩ : ByteArray).size = ⟨#[x]⟩
 ·refine ⟨c + 1, fo_ _ _ _ _ _ _ ?_, .inr rfl, fun _ _ => rfl⟩
  unfold ck_
  simp only [decide_true, if_true, e1, Option.bind_some, kF_, w]
  rw [aR_ hp]; rfl
 ·refine ⟨-1, fo_ _ _ _ _ _ _ ?_, .inl (by omega), fun h hlt => absurd ⟨?_, ?_⟩ hp⟩
  ·unfold ck_
   simp only [decide_true, if_true, e1, Option.bind_some, kF_, w]
   rw [aM_ hp]; rfl
  ·rw [z, ByteArray.size_extract]; omega
  ·rw [z, ByteArray.extract_extract, show min (c + 1) u.size = c + 1 by omega, Nat.add_zero]; exact h
abbrev inP : DPattern := catP (txP 40) (catP balP (txP 41))
theorem tA_ {u : ByteArray} {E : Nat} (hu : u.size ≤ 20) (hE : Bd u 1 E) (h0 : u.extract 0 1 = ⟨#[40]⟩) (h1 : u.extract E (E + 1) = ⟨#[41]⟩) (hlt : E < u.size) : Gv (Run0 ⟨true, []⟩ u 2000 0 inP) (fun r => r.2.code_ = 0 ∧ ((E : Int) + 1) ∈ ends r.2) := by
 have hS0 : Sxb u 0 0 (Fr0 ⟨true, []⟩ u 2000 0) := ⟨rfl, rfl, ⟨Int.le_refl _, Int.le_refl _⟩, rfl, rfl, rfl, Nat.le_refl _⟩
 refine rZ_ (n := 99999999998) hS0 (by omega) fun S1 hS1 m1 => ?_
 obtain ⟨e, e1, e2, e3⟩ := oF_ (u := u) (by omega) 40 0 (by omega)
 have e4 : e = 1 := by have := e3 h0 (by omega); simpa using this
 subst e4
 refine si_ (n := 99999999997) (e := 1) e1 hS1 (by omega) (fun w => by omega) fun _ S2 hS2 m2 => ?_
 unfold am_
 have el1 : elt (⟨false, [txP 40, catP balP (txP 41)]⟩ : Sl DPattern) 1 = some (catP balP (txP 41)) := rfl
 simp only [el1, Option.bind_some]
 refine bb_ (Q := fun r => r.2.code_ = 0 ∧ ((E : Int) + 1) ∈ ends r.2) ?_ fun r hr => a2_ hr
 refine rZ_ (n := 99999999996) hS2.ns (by omega) fun S3 hS3 m3 => ?_
 -- the balanced texts from the first place on
 have hΦ : ∀ (v : Nat) (t : Int) (k : Nat) (S : aa_), v ≤ u.size → Sxb u t k S → t < 1990 → k < 60 → Gv (am_ (BG_impl_search_match 99999999996).1 (BG_impl_search_match 99999999996).2 (catP balP (txP 41)) (fun e S => al_ S e) (v : Int) S) (fun r => r.1 = true ∧ Sxb u (t + 2) (k + 1) r.2 ∧ (∀ x ∈ ends S, x ∈ ends r.2) ∧ (v = E → ((E : Int) + 1) ∈ ends r.2)) := fun v t k S hv hS ht hk => by
  unfold am_
  have el2 : elt (⟨false, [balP, txP 41]⟩ : Sl DPattern) 1 = some (txP 41) := rfl
  simp only [el2, Option.bind_some]
  obtain ⟨e, e1, e2, e3⟩ := oF_ (u := u) (by omega) 41 v hv
  refine bb_ (Q := fun r => r.1 = true ∧ Sxb u (t + 2) (k + 1) r.2 ∧ (∀ x ∈ ends S, x ∈ ends r.2) ∧ (v = E → ((E : Int) + 1) ∈ ends r.2)) ?_ fun r hr => a2_ ⟨hr.1, hr.2.1.ns, hr.2.2.1, hr.2.2.2⟩
  refine si_ (n := 99999999995) e1 hS.ns (by omega) (fun w S' hS' m' => ⟨rfl, hS'.mono (by omega) (by omega), fun x hx => by show x ∈ ends S'; unfold ends; rw [m']; exact hx, fun hvE => ?_⟩) fun w S' hS' m' => fun r hr => ?_
  ·subst hvE
   have := e3 h1 hlt
   omega
  ·obtain ⟨f1, f2, f3⟩ := tt_ hS' (by omega) hk r hr
   refine ⟨f1, (f2.mono (by omega) (by omega)).ns, fun x hx => ?_, fun hvE => ?_⟩
   ·show x ∈ ends r.2
    rw [f3]
    have : ends S' = ends S := by unfold ends; rw [m']
    rw [this]; exact List.mem_append_left _ hx
   ·subst hvE
    have := e3 h1 hlt
    show _ ∈ ends r.2
    rw [f3, this]; simp
 rw [show (BG_impl_search_match 99999999996).1 S3 balP 1 (am_ (BG_impl_search_match 99999999996).1 (BG_impl_search_match 99999999996).2 (catP balP (txP 41)) (fun e S => al_ S e)) = ac_ (BG_impl_search_match 99999999995).1 (BG_impl_search_match 99999999995).2 S3 balP 1 (am_ (BG_impl_search_match 99999999996).1 (BG_impl_search_match 99999999996).2 (catP balP (txP 41)) (fun e S => al_ S e)) from rfl]
 generalize am_ (BG_impl_search_match 99999999996).1 (BG_impl_search_match 99999999996).2 (catP balP (txP 41)) (fun e S => al_ S e) = Ψ at hΦ ⊢
 unfold ac_
 have d1 : decide (S3.steps_ = S3.fuel_) = false := by have := hS3.st; rw [hS3.fu]; simp; omega
 have w1 : w4 (S3.steps_ + 1) = S3.steps_ + 1 := by have := hS3.st; rw [aP_ (by omega) (by omega)]
 simp only [d1, w1, Int.reduceEq, decide_true, decide_false, Bool.false_eq_true, Bool.not_true, Bool.not_false, if_true, if_false, Option.bind_some]
 have hE1 := hE.1
 have hE2 := hE.2.1
 have nx : ∀ (S : aa_) (j : Nat), S.subject_ = u → Gv (aX_ S.subject_ 1 (j : Int)) (fun v => (v < 0 ∧ E ≤ j) ∨ ∃ e : Nat, v = e ∧ Bd u 1 e ∧ j < e ∧ (j < E → e ≤ E)) := fun S j hsub v hv => by
  rw [hsub] at hv
  obtain ⟨v', v1, v2⟩ := nJ_ (s := u) (c := 1) (j : Int) (by omega) (by omega)
  rw [show ((1 : Nat) : Int) = 1 from rfl] at v1
  rw [v1] at hv; injection hv with hv; subst hv
  rcases v2 with ⟨g1, g2⟩ | ⟨e, g1, g2, g3, g4⟩
  ·refine .inl ⟨g1, Nat.le_of_not_lt fun h => g2 E (by omega) hE⟩
  ·exact .inr ⟨e, g1, g2, by omega, fun h => g4 E hE (by omega)⟩
 let J : Int × T11 → Prop := fun st => (st.1 < 0 ∧ Sxb u 100 50 (D11 st.2) ∧ ((E : Int) + 1) ∈ ends (D11 st.2)) ∨ ∃ e : Nat, st.1 = e ∧ Bd u 1 e ∧ Sxb u (4 + 2 * (e - 1)) (e - 1) (D11 st.2) ∧ (e ≤ E ∨ ((E : Int) + 1) ∈ ends (D11 st.2))
 refine bb_ (nx S3 1 hS3.sub) fun v hv => bb_ (Q := fun x => ∃ D : T11, x = .inl D ∧ Sxb u 100 50 (D11 D) ∧ ((E : Int) + 1) ∈ ends (D11 D)) (kR_ J ?_ fun st hst => gt_ (fun hj => ?_) fun hj => ?_) fun x hx => ?_
 ·rcases hv with ⟨g1, g2⟩ | ⟨e, g1, g2, g3, g4⟩
  ·omega
  ·have h3 : Sxb u (3 + 1) 0 ⟨S3.env_, S3.subject_, S3.fuel_, S3.steps_ + 1, S3.start_, S3.now_, S3.conds_, S3.matches_, S3.most_, S3.isMere_, T.nilm, S3.code_⟩ := ⟨hS3.sub, hS3.fu, by have := hS3.st; show 0 ≤ S3.steps_ + 1 ∧ S3.steps_ + 1 ≤ 3 + 1; omega, hS3.co, hS3.mo, hS3.me, hS3.ml⟩
   exact .inr ⟨e, g1, g2, h3.mono (by omega) (by omega), .inl (g4 (by omega))⟩
 ·have hj : 0 ≤ st.1 := by simpa using hj
  rcases hst with ⟨q, _⟩ | ⟨e, q1, q2, q3, q4⟩
  ·omega
  have he1 := q2.1
  have he2 := q2.2.1
  rw [q1]
  refine bb_ (hΦ e _ _ _ he2 q3 (by omega) (by omega)) fun r hr => ?_
  obtain ⟨r1, r2, r3, r4⟩ := hr
  refine gt_ (fun w => by rw [r1] at w; cases w) fun _ => bb_ (nx r.2 e r2.sub) fun v hv => a2_ ?_
  have hdone : E ≤ e → ((E : Int) + 1) ∈ ends r.2 := fun h => by
   rcases q4 with q4 | q4
   ·exact r4 (by omega)
   ·exact r3 _ q4
  rcases hv with ⟨g1, g2⟩ | ⟨e2, g1, g2, g3, g4⟩
  ·exact .inl ⟨g1, r2.ns.mono (by omega) (by omega), hdone g2⟩
  ·refine .inr ⟨e2, g1, g2, r2.ns.mono (by omega) (by omega), ?_⟩
   by_cases hle : e < E
   ·exact .inl (g4 hle)
   ·exact .inr (hdone (by omega))
 ·have hj : ¬ 0 ≤ st.1 := by simpa using hj
  rcases hst with ⟨q1, q2, q3⟩ | ⟨e, q1, _⟩
  ·exact a2_ ⟨_, rfl, q2, q3⟩
  ·omega
 ·obtain ⟨D, rfl, d1, d2⟩ := hx
  exact a2_ ⟨d1.co, d2⟩
theorem kX_ (y : Sl (Iv .i64)) (v : Int) (hl : y.l.length ≤ 60) (hv : (⟨v⟩ : Iv .i64) ∈ y.l) : bQ_ y v = some true := by
 suffices H : ∃ n : Nat, bD_ y v = some (n : Int) by
  obtain ⟨n, h⟩ := H
  refine e5_ _ _ _ ?_
  unfold bW_
  rw [fX_ _ _ _ h, Option.bind_some]; simp
 obtain ⟨i0, hi0, e0⟩ := List.getElem_of_mem hv
 suffices H : ∀ m i : Nat, i + m = i0 → ∃ n : Nat, az_ (S := Int) (R := (Unit ⊕ Int)) (fun st1 => (if (decide (st1 < (y.l.length : Int))) = true then ((elt y st1).bind fun y2 => (if (decide (v = y2.v)) = true then (some (.inr (.inr st1))) else (some (.inl (w4 (st1 + 1)))))) else (some (.inr (.inl ()))))) (i : Int) = some (.inr (n : Int)) by
  obtain ⟨n, h⟩ := H i0 0 (by omega)
  refine ⟨n, ?_⟩
  unfold bD_
  rw [show ((0 : Nat) : Int) = 0 from rfl] at h
  rw [h]; rfl
 intro m
 induction m with
 | zero =>
  intro i hi
  refine ⟨i, ah_ ?_⟩
  rw [if_pos (by simp; omega), bC_ (by omega), Option.bind_some, if_pos (by simp [show i = i0 by omega, e0])]
 | succ m ih =>
  intro i hi
  by_cases q : v = (y.l[i]'(by omega)).v
  ·refine ⟨i, ah_ ?_⟩
   rw [if_pos (by simp; omega), bC_ (by omega), Option.bind_some, if_pos (by simpa using q)]
  ·obtain ⟨n, h⟩ := ih (i + 1) (by omega)
   refine ⟨n, au_ ?_ h⟩
   rw [if_pos (by simp; omega), bC_ (by omega), Option.bind_some, if_neg (by simpa using q), aP_ (by omega) (by omega)]; rfl
end Go.Am
end
