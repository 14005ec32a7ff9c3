/- The law. -/
import Derived.Test.YtkgmfmcpbgffpaaAg0
import Derived.Test.YtkgmfmcpbgffpaaAg2
import Derived.Test.YtkgmfmcpbgffpaaAl8
import Derived.Test.YtkgmfmcpbgffpaaAl18
section
set_option maxRecDepth 100000
set_option maxHeartbeats 1000000
set_option linter.unusedVariables false
set_option linter.unusedSimpArgs false
namespace Go.Am
theorem lG_ {α β : Type} (f : α → β) {a : Sl α} {z0 : Bool} {body : Int × Sl β → Option ((Int × Sl β) ⊕ Sl β)} (hn : a.l.length < 9223372036854775807)
  (h1 : ∀ (i : Nat) x (s : Sl β), x ∈ a.l → i < a.l.length → s.l.length = i → elt a (i : Int) = some x → body (i, s) = some (.inl ((i : Int) + 1, ⟨false, s.l ++ [f x]⟩)))
  (h2 : ∀ s, body ((a.l.length : Int), s) = some (.inr s)) : az_ body (0, ⟨z0, []⟩) = some ⟨z0 && a.l.isEmpty, a.l.map f⟩ := by
 suffices H : ∀ (k i : Nat), i + k = a.l.length → ∀ s : Sl β, s.l = (a.l.take i).map f → s.z = (z0 && (a.l.take i).isEmpty) → az_ body ((i : Int), s) = some ⟨z0 && a.l.isEmpty, a.l.map f⟩ by
  exact H a.l.length 0 (by simp) ⟨z0, []⟩ rfl (by simp)
 intro k
 induction k with
 | zero =>
  intro i hi s hs hz
  have : i = a.l.length := by omega
  subst this
  refine aj_ ((h2 s).trans ?_)
  obtain ⟨z, l⟩ := s
  simp only [List.take_length] at hs hz
  rw [hs, hz]
 | succ k ih =>
  intro i hi s hs hz
  have hlt : i < a.l.length := by omega
  have ec : ((i + 1 : Nat) : Int) = (i : Int) + 1 := by simp
  have e := h1 i a.l[i] s (List.getElem_mem hlt) hlt (by rw [hs]; simp; omega) (bm_ hlt)
  have w := ih (i + 1) (by omega) ⟨false, s.l ++ [f a.l[i]]⟩ (by rw [List.take_succ_eq_append_getElem hlt, List.map_append, hs]; rfl) (by rw [List.take_succ_eq_append_getElem hlt]; simp; intro _ hh; rw [hh] at hlt; simp at hlt)
  rw [ec] at w
  exact au_ e w
theorem copy1 : ∀ p, SmPt p → ∃ q, aR_ p = some q ∧ EqPt (cpPt p) q := by
 refine eL_ fun p ih hs => ?_
 have hkl : p.Kids.l.length ≤ 1048576 := by cases hs with | mk h1 h2 h3 => exact h2
 have hf : ∀ q ∈ p.Kids.l, aR_ q = some ((aR_ q).getD q) := fun q hq => by
  obtain ⟨r, h, _⟩ := ih q hq (hs.kid hq); rw [h]; rfl
 refine ⟨⟨p.Kind, p.Num, p.Text, ⟨true && p.Kids.l.isEmpty, p.Kids.l.map fun q => (aR_ q).getD q⟩⟩, gx_ p _ ?_, ?_⟩
 ·unfold dK_
  rw [lG_ (fun q => (aR_ q).getD q) (a := p.Kids) (z0 := true) (by omega) (fun i x s hx hi hl he => ?_) (fun s => by rw [if_neg (by simp)])]
  ·rfl
  ·show (if decide ((i : Int) < (p.Kids.l.length : Int)) = true then _ else _) = _
   rw [if_pos (by simpa using hi), he, Option.bind_some, hf x hx, Option.bind_some]
   obtain ⟨z, l⟩ := s
   rw [dH_ (by simp at hl; omega), Option.bind_some, a4_ (by omega) (by omega)]
   rfl
 ·rw [jY_]
  refine .mk rfl rfl rfl (by simp) fun i x y hx hy => ?_
  simp only [List.getElem?_map, Option.map_eq_some_iff] at hx hy
  obtain ⟨a, ha, rfl⟩ := hx
  obtain ⟨b, hb, rfl⟩ := hy
  rw [ha] at hb; injection hb with hb; subst hb
  have hm := List.mem_of_getElem? ha
  obtain ⟨r, h, hr⟩ := ih a hm (hs.kid hm)
  rw [h]; exact hr
theorem ndL_mono : ∀ l1 l2 : List DPattern, l1.length = l2.length → (∀ j (h1 : j < l1.length) (h2 : j < l2.length), nd l1[j] ≤ nd l2[j]) → ndL l1 ≤ ndL l2
 | [], _, _, _ => by unfold ndL; omega
 | x :: l1, [], h, _ => by simp at h
 | x :: l1, y :: l2, h, k => by
  have := ndL_mono l1 l2 (by simpa using h) fun j h1 h2 => by
   have := k (j + 1) (by simp; omega) (by simp; omega)
   simpa using this
  have k0 := k 0 (by simp) (by simp)
  simp only [List.getElem_cons_zero] at k0
  unfold ndL; omega
def lR_ (x k : DPattern) : Prop := VP x ∧ CalmP x ∧ nd x ≤ nd k
theorem k0_ {p : DPattern} (hk : p.Kids.l.length ≤ 1000) (ih : ∀ q ∈ p.Kids.l, ∃ x, br_ q = some x ∧ lR_ x q) : ∀ (m i : Nat), i + m = p.Kids.l.length → ∀ ks : Sl DPattern, ks.l.length = p.Kids.l.length → (∀ j (h1 : j < ks.l.length) (h2 : j < p.Kids.l.length), j < i → lR_ ks.l[j] p.Kids.l[j]) →
  ∃ ks', az_ (S := (Int × (Sl DPattern))) (R := (Sl DPattern)) (fun st1 => (if (decide (st1.1 < (p.Kids.l.length : Int))) = true then ((elt p.Kids st1.1).bind fun y4 => ((br_ y4).bind fun y5 => ((elt st1.2 st1.1).bind fun y6 => (some (.inl ((w4 (st1.1 + 1)), (setS st1.2 st1.1 (y5 : DPattern)))))))) else (some (.inr st1.2)))) ((i : Int), ks) = some ks' ∧ ks'.l.length = p.Kids.l.length ∧ ∀ j (h1 : j < ks'.l.length) (h2 : j < p.Kids.l.length), lR_ ks'.l[j] p.Kids.l[j]
 | 0, i, hi, ks, hl, hg => ⟨ks, aj_ (if_neg (by simp; omega)), hl, fun j h1 h2 => hg j h1 h2 (by omega)⟩
 | m + 1, i, hi, ks, hl, hg => by
  have hlt : i < p.Kids.l.length := by omega
  obtain ⟨x, x1, x2⟩ := ih _ (List.getElem_mem hlt)
  obtain ⟨z, l⟩ := ks
  have hl : l.length = p.Kids.l.length := hl
  obtain ⟨ks', r1, r2, r3⟩ := k0_ hk ih m (i + 1) (by omega) ⟨z, l.set i x⟩ (by simpa using hl) fun j h1 h2 hj => by
   show lR_ (l.set i x)[j] _
   by_cases e : j = i
   ·subst e; rw [List.getElem_set_self]; exact x2
   ·rw [List.getElem_set_ne (by omega)]
    exact hg j (by simpa using h1) h2 (by omega)
  refine ⟨ks', au_ ?_ r1, r2, r3⟩
  have e2 := bm_ (s := (⟨z, l⟩ : Sl DPattern)) (i := i) (by show i < l.length; omega)
  rw [if_pos (by simpa using hlt)]
  simp only [bm_ hlt, x1, e2, Option.bind_some]
  rw [a4_ (by omega) (by omega)]
  rfl
theorem calm_ok : ∀ p, VP p → ∃ q, br_ p = some q ∧ lR_ q p := by
 refine eL_ fun p ih hv => ?_
 suffices H : ∃ q, cq_ p = some q ∧ lR_ q p by
  obtain ⟨q, h1, h2⟩ := H; exact ⟨q, gD_ _ _ h1, h2⟩
 obtain ⟨y, c1, c2⟩ := copy1 p (sm_vp p hv)
 have hnp := g0_ p
 have leaf : ∀ k : Int, k = 1 ∨ k = 16 → lR_ ⟨k, 0, ⟨#[]⟩, ⟨true, []⟩⟩ p := fun k hk => ⟨.mk ⟨by show 1 ≤ k ∧ k ≤ 24; omega, by show (0 : Int) = kidN k; unfold kidN; rw [if_neg (by omega), if_neg (by omega)], by
   show ArgP k 0 ⟨#[]⟩
   unfold ArgP
   rcases hk with rfl | rfl
   ·rw [if_pos (by decide)]; exact ⟨rfl, by decide, .inl rfl⟩
   ·rw [if_neg (by decide), if_neg (by decide), if_neg (by decide)]; exact ⟨rfl, rfl⟩⟩ (fun q hq => by simp at hq), .mk (by show k ≠ 14 ∧ k ≠ 15 ∧ k ≠ 17; omega) (fun q hq => by simp at hq), by rw [go_]; show 1 + ndL [] ≤ _; unfold ndL; omega⟩
 unfold cq_
 rw [c1, Option.bind_some]
 by_cases h14 : p.Kind = 14
 ·simp only [h14, decide_true, if_true, Option.bind_some]
  exact ⟨_, rfl, leaf 1 (.inl rfl)⟩
 by_cases h17 : p.Kind = 17
 ·simp only [h17, Int.reduceEq, decide_true, decide_false, Bool.false_eq_true, if_false, if_true, Option.bind_some]
  exact ⟨_, rfl, leaf 1 (.inl rfl)⟩
 by_cases h15 : p.Kind = 15
 ·simp only [h15, Int.reduceEq, decide_true, decide_false, Bool.false_eq_true, if_false, if_true, Option.bind_some]
  exact ⟨_, rfl, leaf 16 (.inr rfl)⟩
 have d1 : decide (p.Kind = 14) = false := by simpa using h14
 have d2 : decide (p.Kind = 17) = false := by simpa using h17
 have d3 : decide (p.Kind = 15) = false := by simpa using h15
 have hk : p.Kids.l.length ≤ 1000 := by
  have n2 := hv.node.2.1
  unfold kidN at n2
  split at n2
  ·omega
  ·split at n2 <;> omega
 simp only [d1, d2, d3, Bool.false_eq_true, if_false, Option.bind_some]
 cases c2 with
 | mk g1 g2 g3 g4 g5 =>
  rw [jY_] at g1 g2 g3 g4
  simp only [List.length_map] at g1 g2 g3 g4
  obtain ⟨ks', r1, r2, r3⟩ := k0_ hk (fun q hq => ih q hq (hv.kid hq)) p.Kids.l.length 0 (by omega) y.Kids g4.symm (fun j _ _ h => by omega)
  rw [show ((0 : Nat) : Int) = 0 from rfl] at r1
  rw [r1, Option.bind_some]
  refine ⟨_, rfl, .mk ⟨by rw [← g1]; exact hv.node.1, by show (ks'.l.length : Int) = kidN y.Kind; rw [r2, ← g1]; exact hv.node.2.1, by show ArgP y.Kind y.Num y.Text; rw [← g1, ← g2, ← g3]; exact hv.node.2.2⟩ fun q hq => ?_, .mk (by show y.Kind ≠ 14 ∧ y.Kind ≠ 15 ∧ y.Kind ≠ 17; rw [← g1]; exact ⟨h14, h15, h17⟩) fun q hq => ?_, ?_⟩
  ·obtain ⟨j, hj, rfl⟩ := List.getElem_of_mem hq
   exact (r3 j hj (by rw [← r2]; exact hj)).1
  ·obtain ⟨j, hj, rfl⟩ := List.getElem_of_mem hq
   exact (r3 j hj (by rw [← r2]; exact hj)).2.1
  ·rw [go_, go_ p]
   have := ndL_mono ks'.l p.Kids.l r2 fun j h1 h2 => (r3 j h1 h2).2.2
   show 1 + ndL ks'.l ≤ _; omega
end Go.Am
end
