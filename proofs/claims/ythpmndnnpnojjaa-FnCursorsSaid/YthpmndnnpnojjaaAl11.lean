/- The law. -/
import Derived.Test.YthpmndnnpnojjaaAl9
import Derived.Test.YthpmndnnpnojjaaAl10
import Derived.Test.YthpmndnnpnojjaaAg1
section
set_option maxRecDepth 100000
set_option maxHeartbeats 2000000
set_option linter.unusedVariables false
set_option linter.unusedSimpArgs false
namespace Go.Am
section
variable {env : Sl al_} {s : ByteArray} {F n : Nat} {t start c e : Int} {nw cd : Sl ad_} {mt : Sl aq_} {Φ : PhiT} {b : Bool} {S' : aa_}
theorem gN_ {K num : Int} {tx : ByteArray} {kids : Sl DPattern} (hp : 1 ≤ K ∧ K ≤ 11) (hl : kids.l = []) (ht : 0 ≤ t ∧ t < (F : Int)) (hF : F ≤ 20000) (he : a6_ K num tx s c = some e)
  (h1 : 0 ≤ e → Φ e (sI env s F (t + 1) start nw cd mt) = some (b, S')) (h2 : e < 0 → b = true ∧ S' = sI env s F (t + 1) start nw cd mt) :
  (BG_impl_search_match (n + 1)).1 (sI env s F t start nw cd mt) ⟨K, num, tx, kids⟩ c Φ = some (b, NS S') := by
 have w1 : w4 (t + 1) = t + 1 := b1_ (by omega) (by omega)
 have d1 : decide (t = (F : Int)) = false := by simp; omega
 have dl : decide (0 < (kids.l.length : Int)) = false := by rw [hl]; rfl
 have hcase : K = 1 ∨ K = 2 ∨ K = 3 ∨ K = 4 ∨ K = 5 ∨ K = 6 ∨ K = 7 ∨ K = 8 ∨ K = 9 ∨ K = 10 ∨ K = 11 := by omega
 show aP_ _ _ _ _ _ _ = _
 unfold aP_
 by_cases hneg : e < 0
 ·have dn : decide (e < 0) = true := by simpa using hneg
  obtain ⟨rfl, rfl⟩ := h2 hneg
  rcases hcase with rfl | rfl | rfl | rfl | rfl | rfl | rfl | rfl | rfl | rfl | rfl <;> simp only [d1, w1, Int.reduceEq, decide_true, decide_false, Bool.false_eq_true, Bool.not_true, Bool.not_false, if_true, if_false, Option.bind_some, dl, he, dn]
 ·have dn : decide (e < 0) = false := by simpa using hneg
  have g1 := h1 (by omega)
  rcases hcase with rfl | rfl | rfl | rfl | rfl | rfl | rfl | rfl | rfl | rfl | rfl <;> simp only [d1, w1, Int.reduceEq, decide_true, decide_false, Bool.false_eq_true, Bool.not_true, Bool.not_false, if_true, if_false, Option.bind_some, dl, he, dn, g1]
theorem la_ {p q : DPattern} (ht : 0 ≤ t ∧ t < (F : Int)) (hF : F ≤ 20000)
  (h : (BG_impl_search_match (n + 1)).1 (sI env s F (t + 1) start nw cd mt) p c (fun e S => ((BG_impl_search_match (n + 1)).1 (NS S) q e Φ).bind fun y => some (y.1, NS y.2)) = some (b, S')) :
  (BG_impl_search_match (n + 3)).1 (sI env s F t start nw cd mt) ⟨19, 0, ⟨#[]⟩, ⟨false, [p, q]⟩⟩ c Φ = some (b, NS S') := by
 have w1 : w4 (t + 1) = t + 1 := b1_ (by omega) (by omega)
 have d1 : decide (t = (F : Int)) = false := by simp; omega
 have e0 : elt (⟨false, [p, q]⟩ : Sl DPattern) 0 = some p := rfl
 have hk : (BG_impl_search_match (n + 2)).2 (sI env s F (t + 1) start nw cd mt) ⟨19, 0, ⟨#[]⟩, ⟨false, [p, q]⟩⟩ c Φ = some (b, NS S') := by
  rw [bgI2 (n + 1)]
  unfold aR_
  have h' : (BG_impl_search_match (n + 1)).1 (sI env s F (t + 1) start nw cd mt) p c (aW_ (BG_impl_search_match (n + 1)).1 (BG_impl_search_match (n + 1)).2 ⟨19, 0, ⟨#[]⟩, ⟨false, [p, q]⟩⟩ Φ) = some (b, S') := h
  simp only [e0, Option.bind_some, Int.reduceEq, decide_true, decide_false, Bool.false_eq_true, if_true, if_false, h']
 show aP_ _ _ _ _ _ _ = _
 unfold aP_
 have dl : decide (0 < (([p, q] : List DPattern).length : Int)) = true := rfl
 simp only [d1, w1, Int.reduceEq, decide_true, decide_false, Bool.false_eq_true, Bool.not_true, Bool.not_false, if_true, if_false, Option.bind_some, dl, hk]
theorem m1_ (ht : 0 ≤ t ∧ t < (F : Int)) (hF : F ≤ 20000) : ∃ y, aE_ (sI env s F t start ⟨true, []⟩ ⟨true, []⟩ ⟨true, []⟩) e = some (true, sI env s F (t + 1) start ⟨true, []⟩ ⟨true, []⟩ ⟨false, [⟨start, e, y⟩]⟩) := by
 have w1 : w4 (t + 1) = t + 1 := b1_ (by omega) (by omega)
 have d1 : decide (t = (F : Int)) = false := by simp; omega
 obtain ⟨y, hy⟩ := lm_ ⟨true, []⟩ ⟨true, []⟩ (by decide)
 refine ⟨y, ?_⟩
 unfold aE_
 have p1 : appS 40 (⟨true, []⟩ : Sl aq_) ⟨false, [⟨start, e, y⟩]⟩ = some ⟨false, [⟨start, e, y⟩]⟩ := rfl
 have d3 : decide (((0 : Nat) : Int) = 60) = false := rfl
 simp only [d1, w1, Bool.false_eq_true, Bool.not_false, Bool.not_true, if_true, if_false, Option.bind_some, List.length_nil, d3, hy, p1]
 rfl
theorem jd_ {p : DPattern} {f : Int} (hf : 4 ≤ f ∧ f ≤ 20000) (hs : s.size ≤ 200) (hv : VPat p) (hp : SmPt p) (hc : 0 ≤ c ∧ c ≤ (s.size : Int)) {l : List aq_} (hl : l.length ≤ 60) {z : Bool}
  (h : ∀ F : Nat, f = F → bF_ (sI ⟨true, []⟩ s F 0 c ⟨true, []⟩ ⟨true, []⟩ ⟨true, []⟩) p c (fun e S => aE_ S e) = some (true, sI ⟨true, []⟩ s F t c ⟨true, []⟩ ⟨true, []⟩ ⟨z, l⟩)) :
  aU_ ⟨true, []⟩ p s c f = some (⟨false, l.map fun x => ⟨x.End⟩⟩, 0) := by
 refine h7_ _ _ _ _ _ _ ?_
 unfold ei_
 obtain ⟨F, rfl⟩ : ∃ F : Nat, f = F := ⟨f.toNat, by omega⟩
 have hE : EnvP ⟨true, []⟩ := ⟨by decide, fun x hx => by simp at hx, fun i _ hi => by simp at hi⟩
 have ha : askV ⟨true, []⟩ p s F = 0 := by
  unfold askV
  rw [a5_ (show AskP ⟨true, []⟩ p s from ⟨hE, hv, by omega⟩), a5_ (show 0 ≤ (F : Int) ∧ (F : Int) ≤ 20000 by omega)]; rfl
 rw [(rf_ ⟨true, []⟩ p s F ⟨by decide, fun x hx => by simp at hx⟩ hp).2, Option.bind_some, in2, Option.bind_some, jq_, Option.bind_some, nq_, Option.bind_some, ha, a5_ hc, if_pos rfl, if_pos rfl, if_neg (by decide)]
 have m : cq_ ⟨true, []⟩ p s ⟨false, [⟨c⟩]⟩ F = some (⟨z, l⟩, 0) := by
  refine fw_ _ _ _ _ _ _ ?_
  unfold cr_
  rw [aL_ (s' := (1, ⟨true, []⟩, s, (F : Int), t, c, 0, false, 0, ⟨true, []⟩, ⟨true, []⟩, ⟨z, l⟩)) ?_ (aA_ rfl)]
  ·rfl
  ·have := h F rfl
   show ((bF_ (⟨⟨true, []⟩, s, (F : Int), 0, c, ⟨true, []⟩, ⟨true, []⟩, ⟨true, []⟩, 0, false, T.nilm, 0⟩ : aa_) p c (fun e (S : aa_) => aE_ S e)).bind _) = _
   rw [this]; rfl
 rw [m, Option.bind_some, if_neg (by simp), lE_ _ hl]; rfl
end
theorem gy_ {s : ByteArray} {c e e2 f : Int} {K num K2 num2 : Int} {tx tx2 : ByteArray} (hf : 4 ≤ f ∧ f ≤ 20000) (hs : s.size ≤ 200) (hv : VPat ⟨19, 0, ⟨#[]⟩, ⟨false, [⟨K, num, tx, ⟨true, []⟩⟩, ⟨K2, num2, tx2, ⟨true, []⟩⟩]⟩⟩)
  (hp : SmPt ⟨19, 0, ⟨#[]⟩, ⟨false, [⟨K, num, tx, ⟨true, []⟩⟩, ⟨K2, num2, tx2, ⟨true, []⟩⟩]⟩⟩) (hc : 0 ≤ c ∧ c ≤ (s.size : Int)) (hk : 1 ≤ K ∧ K ≤ 11) (hk2 : 1 ≤ K2 ∧ K2 ≤ 11)
  (he : a6_ K num tx s c = some e) (he2 : 0 ≤ e → a6_ K2 num2 tx2 s e = some e2) : aU_ ⟨true, []⟩ ⟨19, 0, ⟨#[]⟩, ⟨false, [⟨K, num, tx, ⟨true, []⟩⟩, ⟨K2, num2, tx2, ⟨true, []⟩⟩]⟩⟩ s c f = some (⟨false, if e < 0 ∨ e2 < 0 then [] else [⟨e2⟩]⟩, 0) := by
 obtain ⟨F, rfl⟩ : ∃ F : Nat, f = F := ⟨f.toNat, by omega⟩
 by_cases h : e < 0
 ·rw [if_pos (.inl h)]
  refine jd_ (l := []) (z := true) (t := 0 + 1 + 1) hf hs hv hp hc (by decide) fun F' hF => ?_
  have : F = F' := by omega
  subst this
  exact la_ (F := F) (n := 99999999997) (t := 0) (S' := sI ⟨true, []⟩ s F (0 + 1 + 1) c ⟨true, []⟩ ⟨true, []⟩ ⟨true, []⟩) (by omega) (by omega) (gN_ (F := F) (t := 0 + 1) (S' := sI ⟨true, []⟩ s F (0 + 1 + 1) c ⟨true, []⟩ ⟨true, []⟩ ⟨true, []⟩) hk rfl (by omega) (by omega) he (fun w => absurd w (by omega)) fun _ => ⟨rfl, rfl⟩)
 have h0 : 0 ≤ e := by omega
 by_cases h2 : e2 < 0
 ·rw [if_pos (.inr h2)]
  refine jd_ (l := []) (z := true) (t := 0 + 1 + 1 + 1) hf hs hv hp hc (by decide) fun F' hF => ?_
  have : F = F' := by omega
  subst this
  refine la_ (F := F) (n := 99999999997) (t := 0) (S' := sI ⟨true, []⟩ s F (0 + 1 + 1 + 1) c ⟨true, []⟩ ⟨true, []⟩ ⟨true, []⟩) (by omega) (by omega) (gN_ (F := F) (t := 0 + 1) (S' := sI ⟨true, []⟩ s F (0 + 1 + 1 + 1) c ⟨true, []⟩ ⟨true, []⟩ ⟨true, []⟩) hk rfl (by omega) (by omega) he (fun _ => ?_) fun w => absurd w h)
  have g := gN_ (n := 99999999997) (Φ := fun e S => aE_ S e) (env := ⟨true, []⟩) (s := s) (start := c) (nw := ⟨true, []⟩) (cd := ⟨true, []⟩) (mt := ⟨true, []⟩) (F := F) (t := 0 + 1 + 1) (S' := sI ⟨true, []⟩ s F (0 + 1 + 1 + 1) c ⟨true, []⟩ ⟨true, []⟩ ⟨true, []⟩) (kids := ⟨true, []⟩) hk2 rfl (by omega) (by omega) (he2 h0) (fun w => absurd w (by omega)) fun _ => ⟨rfl, rfl⟩
  show Option.bind ((BG_impl_search_match (99999999997 + 1)).1 (sI ⟨true, []⟩ s F (0 + 1 + 1) c ⟨true, []⟩ ⟨true, []⟩ ⟨true, []⟩) ⟨K2, num2, tx2, ⟨true, []⟩⟩ e _) _ = _
  rw [g]; rfl
 ·rw [if_neg (by omega)]
  obtain ⟨y, hy⟩ := m1_ (s := s) (F := F) (env := ⟨true, []⟩) (start := c) (e := e2) (t := 0 + 1 + 1 + 1) (by omega) (by omega)
  refine jd_ (l := [⟨c, e2, y⟩]) (z := false) (t := 0 + 1 + 1 + 1 + 1) hf hs hv hp hc (by simp) fun F' hF => ?_
  have : F = F' := by omega
  subst this
  refine la_ (F := F) (n := 99999999997) (t := 0) (S' := sI ⟨true, []⟩ s F (0 + 1 + 1 + 1 + 1) c ⟨true, []⟩ ⟨true, []⟩ ⟨false, [⟨c, e2, y⟩]⟩) (by omega) (by omega) (gN_ (F := F) (t := 0 + 1) (S' := sI ⟨true, []⟩ s F (0 + 1 + 1 + 1 + 1) c ⟨true, []⟩ ⟨true, []⟩ ⟨false, [⟨c, e2, y⟩]⟩) hk rfl (by omega) (by omega) he (fun _ => ?_) fun w => absurd w h)
  have g := gN_ (n := 99999999997) (Φ := fun e S => aE_ S e) (env := ⟨true, []⟩) (s := s) (start := c) (nw := ⟨true, []⟩) (cd := ⟨true, []⟩) (mt := ⟨true, []⟩) (F := F) (t := 0 + 1 + 1) (S' := sI ⟨true, []⟩ s F (0 + 1 + 1 + 1 + 1) c ⟨true, []⟩ ⟨true, []⟩ ⟨false, [⟨c, e2, y⟩]⟩) (kids := ⟨true, []⟩) hk2 rfl (by omega) (by omega) (he2 h0) (fun _ => hy) fun w => absurd w h2
  show Option.bind ((BG_impl_search_match (99999999997 + 1)).1 (sI ⟨true, []⟩ s F (0 + 1 + 1) c ⟨true, []⟩ ⟨true, []⟩ ⟨true, []⟩) ⟨K2, num2, tx2, ⟨true, []⟩⟩ e _) _ = _
  rw [g]; rfl
theorem ow_ (a b : Sl (Iv .i64)) (h : a.l = b.l) (hl : a.l.length ≤ 1000) : af_ a b = some true := by
 refine id_ _ _ _ ?_
 unfold ev_
 rw [if_neg (by rw [h]; simp)]
 suffices H : ∀ m i : Nat, i + m = a.l.length → aI_ (S := Int) (R := (Unit ⊕ Bool)) (fun st1 => (if (decide (st1 < (a.l.length : Int))) = true then ((elt a st1).bind fun y2 => ((elt b st1).bind fun y3 => (if (!decide (y2.v = y3.v)) = true then (some (.inr (.inr false))) else (some (.inl (w4 (st1 + 1))))))) else (some (.inr (.inl ()))))) (i : Int) = some (.inl ()) by
  have := H a.l.length 0 (by omega)
  rw [show ((0 : Nat) : Int) = 0 from rfl] at this
  rw [this]; rfl
 intro m
 induction m with
 | zero => intro i hi; exact aA_ (if_neg (by simp; omega))
 | succ m ih =>
  intro i hi
  have := ih (i + 1) (by omega)
  refine aL_ ?_ this
  have e1 := cc_ (s := a) (show i < a.l.length by omega)
  have e2 := cc_ (s := b) (show i < b.l.length by rw [← h]; omega)
  rw [if_pos (by simp; omega), e1, Option.bind_some, e2, Option.bind_some, if_neg (by simp [h]), b1_ (by omega) (by omega)]
  rfl
end Go.Am
end
