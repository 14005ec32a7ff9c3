/- The law. -/
import Derived.Test.YthpmndnnpnojjaaAl9
import Derived.Test.YthpmndnnpnojjaaAl10
import Derived.Test.YthpmndnnpnojjaaAg1
section
set_option maxRecDepth 100000
set_option maxHeartbeats 2000000
set_option linter.unusedVariables false
set_option linter.unusedSimpArgs false
namespace Go.Am
section
variable {env : Sl an_} {s : ByteArray} {F n : Nat} {t start c e : Int} {nw cd : Sl ad_} {mt : Sl as_} {Φ : PhiT} {b : Bool} {S' : ab_}
theorem li_ {K num : Int} {tx : ByteArray} {kids : Sl DPattern} (hp : 1 ≤ K ∧ K ≤ 11) (hl : kids.l = []) (ht : 0 ≤ t ∧ t < (F : Int)) (hF : F ≤ 20000) (he : bX_ K num tx s c = some e)
  (h1 : 0 ≤ e → Φ e (sI env s F (t + 1) start nw cd mt) = some (b, S')) (h2 : e < 0 → b = true ∧ S' = sI env s F (t + 1) start nw cd mt) :
  (BG_impl_search_match (n + 1)).1 (sI env s F t start nw cd mt) ⟨K, num, tx, kids⟩ c Φ = some (b, NS S') := by
 have w1 : w4 (t + 1) = t + 1 := cR_ (by omega) (by omega)
 have d1 : decide (t = (F : Int)) = false := by simp; omega
 have dl : decide (0 < (kids.l.length : Int)) = false := by rw [hl]; rfl
 have hcase : K = 1 ∨ K = 2 ∨ K = 3 ∨ K = 4 ∨ K = 5 ∨ K = 6 ∨ K = 7 ∨ K = 8 ∨ K = 9 ∨ K = 10 ∨ K = 11 := by omega
 show a6_ _ _ _ _ _ _ = _
 unfold a6_
 by_cases hneg : e < 0
 ·have dn : decide (e < 0) = true := by simpa using hneg
  obtain ⟨rfl, rfl⟩ := h2 hneg
  rcases hcase with rfl | rfl | rfl | rfl | rfl | rfl | rfl | rfl | rfl | rfl | rfl <;> simp only [d1, w1, Int.reduceEq, decide_true, decide_false, Bool.false_eq_true, Bool.not_true, Bool.not_false, if_true, if_false, Option.bind_some, dl, he, dn]
 ·have dn : decide (e < 0) = false := by simpa using hneg
  have g1 := h1 (by omega)
  rcases hcase with rfl | rfl | rfl | rfl | rfl | rfl | rfl | rfl | rfl | rfl | rfl <;> simp only [d1, w1, Int.reduceEq, decide_true, decide_false, Bool.false_eq_true, Bool.not_true, Bool.not_false, if_true, if_false, Option.bind_some, dl, he, dn, g1]
theorem mB_ (ht : 0 ≤ t ∧ t < (F : Int)) (hF : F ≤ 20000) : ∃ y, aO_ (sI env s F t start ⟨true, []⟩ ⟨true, []⟩ ⟨true, []⟩) e = some (true, sI env s F (t + 1) start ⟨true, []⟩ ⟨true, []⟩ ⟨false, [⟨start, e, y⟩]⟩) := by
 have w1 : w4 (t + 1) = t + 1 := cR_ (by omega) (by omega)
 have d1 : decide (t = (F : Int)) = false := by simp; omega
 obtain ⟨y, hy, _⟩ := lf_ ⟨true, []⟩ ⟨true, []⟩ (by decide)
 refine ⟨y, ?_⟩
 unfold aO_
 have p1 : appS 40 (⟨true, []⟩ : Sl as_) ⟨false, [⟨start, e, y⟩]⟩ = some ⟨false, [⟨start, e, y⟩]⟩ := rfl
 have d3 : decide (((0 : Nat) : Int) = 60) = false := rfl
 simp only [d1, w1, Bool.false_eq_true, Bool.not_false, Bool.not_true, if_true, if_false, Option.bind_some, List.length_nil, d3, hy, p1]
 rfl
theorem lH_ {p : DPattern} {f : Int} (hf : 4 ≤ f ∧ f ≤ 20000) (hs : s.size ≤ 200) (hv : VPat p) (hp : SmPt p) (hc : 0 ≤ c ∧ c ≤ (s.size : Int)) {l : List as_} (hl : l.length ≤ 60) {z : Bool}
  (h : ∀ F : Nat, f = F → bE_ (sI ⟨true, []⟩ s F 0 c ⟨true, []⟩ ⟨true, []⟩ ⟨true, []⟩) p c (fun e S => aO_ S e) = some (true, sI ⟨true, []⟩ s F t c ⟨true, []⟩ ⟨true, []⟩ ⟨z, l⟩)) :
  ct_ ⟨true, []⟩ p s c f = some (⟨false, l.map fun x => ⟨x.End⟩⟩, 0) := by
 refine h4_ _ _ _ _ _ _ ?_
 unfold ef_
 obtain ⟨F, rfl⟩ : ∃ F : Nat, f = F := ⟨f.toNat, by omega⟩
 have hE : EnvP ⟨true, []⟩ := ⟨by decide, fun x hx => by simp at hx, fun i _ hi => by simp at hi⟩
 have ha : askV ⟨true, []⟩ p s F = 0 := by
  unfold askV
  rw [aV_ (show AskP ⟨true, []⟩ p s from ⟨hE, hv, by omega⟩), aV_ (show 0 ≤ (F : Int) ∧ (F : Int) ≤ 20000 by omega)]; rfl
 rw [(rv_ ⟨true, []⟩ p s F ⟨by decide, fun x hx => by simp at hx⟩ hp).2, Option.bind_some, in2, Option.bind_some, jG_, Option.bind_some, nu_, Option.bind_some, ha, aV_ hc, if_pos rfl, if_pos rfl, if_neg (by decide)]
 have m : cg_ ⟨true, []⟩ p s ⟨false, [⟨c⟩]⟩ F = some (⟨z, l⟩, 0) := by
  refine fF_ _ _ _ _ _ _ ?_
  unfold cp_
  rw [aK_ (s' := (1, ⟨true, []⟩, s, (F : Int), t, c, 0, false, 0, ⟨true, []⟩, ⟨true, []⟩, ⟨z, l⟩)) ?_ (aw_ rfl)]
  ·rfl
  ·have := h F rfl
   show ((bE_ (⟨⟨true, []⟩, s, (F : Int), 0, c, ⟨true, []⟩, ⟨true, []⟩, ⟨true, []⟩, 0, false, T.nilm, 0⟩ : ab_) p c (fun e (S : ab_) => aO_ S e)).bind _) = _
   rw [this]; rfl
 rw [m, Option.bind_some, if_neg (by simp), lw_ _ hl]; rfl
end
theorem jW_ {s : ByteArray} {c e f : Int} {K num : Int} {tx : ByteArray} (hf : 4 ≤ f ∧ f ≤ 20000) (hs : s.size ≤ 200) (hv : VPat ⟨K, num, tx, ⟨true, []⟩⟩) (hp : SmPt ⟨K, num, tx, ⟨true, []⟩⟩) (hc : 0 ≤ c ∧ c ≤ (s.size : Int)) (hk : 1 ≤ K ∧ K ≤ 11)
  (he : bX_ K num tx s c = some e) : ct_ ⟨true, []⟩ ⟨K, num, tx, ⟨true, []⟩⟩ s c f = some (⟨false, if e < 0 then [] else [⟨e⟩]⟩, 0) := by
 obtain ⟨F, rfl⟩ : ∃ F : Nat, f = F := ⟨f.toNat, by omega⟩
 by_cases h : e < 0
 ·rw [if_pos h]
  refine lH_ (l := []) (z := true) (t := 0 + 1) hf hs hv hp hc (by decide) fun F' hF => ?_
  have : F = F' := by omega
  subst this
  exact li_ (F := F) (n := 99999999999) (t := 0) (S' := sI ⟨true, []⟩ s F (0 + 1) c ⟨true, []⟩ ⟨true, []⟩ ⟨true, []⟩) hk rfl (by omega) (by omega) he (fun w => absurd w (by omega)) fun _ => ⟨rfl, rfl⟩
 ·rw [if_neg h]
  obtain ⟨y, hy⟩ := mB_ (s := s) (F := F) (env := ⟨true, []⟩) (start := c) (e := e) (t := 0 + 1) (by omega) (by omega)
  refine lH_ (l := [⟨c, e, y⟩]) (z := false) (t := 0 + 1 + 1) hf hs hv hp hc (by simp) fun F' hF => ?_
  have : F = F' := by omega
  subst this
  exact li_ (F := F) (n := 99999999999) (t := 0) (S' := sI ⟨true, []⟩ s F (0 + 1 + 1) c ⟨true, []⟩ ⟨true, []⟩ ⟨false, [⟨c, e, y⟩]⟩) hk rfl (by omega) (by omega) he (fun _ => hy) fun w => absurd w h
end Go.Am
end
