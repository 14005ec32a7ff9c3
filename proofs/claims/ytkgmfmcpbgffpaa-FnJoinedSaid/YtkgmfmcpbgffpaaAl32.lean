/- The law. -/
import Derived.Test.YtkgmfmcpbgffpaaAg0
import Derived.Test.YtkgmfmcpbgffpaaAl25
import Derived.Test.YtkgmfmcpbgffpaaAl20
section
set_option maxRecDepth 100000
set_option maxHeartbeats 1000000
set_option linter.unusedVariables false
set_option linter.unusedSimpArgs false
namespace Go.Am
theorem qf_ {α : Type} {a : Sl α} {j : Int} {x : α} (h : elt a j = some x) : x ∈ a.l := nU_ x h
theorem mL_ (s : ae_) (l : Sl ByteArray) (n : Nat) (hl : ∀ x ∈ l.l, x.size ≤ n) : Gv (aO_ s l) (fun r => r.1.size ≤ n) := by
 unfold aO_
 exact b5_ gz_ fun y _ => b5_ (Q := fun x => x.size ≤ n) (fun r hr => hl r (qf_ hr)) fun x hx => cc_ hx
theorem nV_ (s : ae_) : Gv (bd_ s) (fun r => r.1.size ≤ 3) := by
 unfold bd_
 exact b5_ (mL_ s _ 3 (fun x hx => (j8_ (a := 0) (b := 3) x hx (by decide)).2)) fun y hy => cc_ hy
theorem mX_ (s : ae_) : Gv (bL_ s) (fun r => r.1.size ≤ 3) := by
 unfold bL_
 exact b5_ (mL_ s _ 3 (fun x hx => (j8_ (a := 0) (b := 3) x hx (by decide)).2)) fun y hy => cc_ hy
def Tq (r : DPattern × ae_) : Prop := tl r.1 ≤ 3 * nd r.1
theorem iI_ {k n : Int} {t : ByteArray} {z : Bool} {s : ae_} (h : t.size ≤ 3) : Tq (⟨k, n, t, ⟨z, []⟩⟩, s) := by
 show tl _ ≤ 3 * nd _
 rw [gJ_, go_]
 show (if k = 1 then t.size else 0) + 0 ≤ 3 * (1 + 0)
 split <;> omega
theorem pj_ {k n : Int} {t : ByteArray} {ks : Sl DPattern} {s : ae_} (h : t.size ≤ 3) (hk : tlL ks.l ≤ 3 * ndL ks.l) : Tq (⟨k, n, t, ks⟩, s) := by
 show tl _ ≤ 3 * nd _
 rw [gJ_, go_]
 show (if k = 1 then t.size else 0) + tlL ks.l ≤ 3 * (1 + ndL ks.l)
 split <;> omega
theorem mD_ (s : ae_) : Gv (bO_ s) Tq := by
 have z : (⟨#[]⟩ : ByteArray).size ≤ 3 := by decide
 unfold bO_
 exact b5_ gz_ fun y _ => b5_ gz_ fun y2 _ => kl_ (fun _ => b5_ (nV_ _) fun x hx => b5_ gz_ fun w _ => kl_ (fun _ => cc_ (iI_ z)) fun _ => cc_ (iI_ hx)) fun _ => kl_ (fun _ => b5_ gz_ fun w _ => cc_ (iI_ z)) fun _ => kl_ (fun _ => b5_ (mX_ _) fun x hx => cc_ (iI_ hx)) fun _ => cc_ (iI_ z)
theorem tlL_app : ∀ l l' : List DPattern, tlL (l ++ l') = tlL l + tlL l'
 | [], l' => by simp [tlL]
 | p :: l, l' => by have := tlL_app l l'; simp only [List.cons_append, tlL, this]; omega
theorem ndL_app' : ∀ l l' : List DPattern, ndL (l ++ l') = ndL l + ndL l'
 | [], l' => by simp [ndL]
 | p :: l, l' => by have := ndL_app' l l'; simp only [List.cons_append, ndL, this]; omega
theorem tlL_mono : ∀ l l' : List DPattern, l.length = l'.length → (∀ j (h1 : j < l.length) (h2 : j < l'.length), tl l[j] ≤ tl l'[j]) → tlL l ≤ tlL l'
 | [], [], _, _ => Nat.le_refl _
 | [], _ :: _, h, _ => by simp at h
 | _ :: _, [], h, _ => by simp at h
 | p :: l, q :: l', h, k => by
  have := tlL_mono l l' (by simpa using h) fun j h1 h2 => by
   have := k (j + 1) (by simp; omega) (by simp; omega)
   simpa using this
  have k0 := k 0 (by simp) (by simp)
  simp only [List.getElem_cons_zero] at k0
  unfold tlL; omega
theorem pD_ {R : ae_ → Int → Option (DPattern × ae_)} (hR : ∀ s d, Gv (R s d) Tq) (K d : Int) (c : Sl (Iv .u8)) (a sd : Int) : Gv (az_ (S := (Int × (Sl (Iv .u8)) × Int × Int × (Sl DPattern))) (R := ((Sl (Iv .u8)) × Int × Int × (Sl DPattern))) (fun st1 => (if (decide (st1.1 < K)) = true then ((R (⟨st1.2.1, st1.2.2.1, st1.2.2.2.1⟩ : ae_) d).bind fun y8 => ((appS 56 st1.2.2.2.2 (⟨false, [y8.1]⟩ : Sl DPattern)).bind fun y9 => (some (.inl ((w4 (st1.1 + 1)), y8.2.code_, y8.2.at_, y8.2.seed_, y9))))) else (some (.inr (st1.2.1, st1.2.2.1, st1.2.2.2.1, st1.2.2.2.2))))) (0, c, a, sd, (⟨true, []⟩ : Sl DPattern))) (fun r => tlL r.2.2.2.l ≤ 3 * ndL r.2.2.2.l) := by
 refine rn_ (fun st : Int × (Sl (Iv .u8)) × Int × Int × (Sl DPattern) => tlL st.2.2.2.2.l ≤ 3 * ndL st.2.2.2.2.l) (by show tlL [] ≤ _; simp [tlL]) fun st h => kl_ (fun _ => b5_ (hR _ _) fun y hy => b5_ (app1) fun q hq => cc_ ?_) fun _ => cc_ h
 show tlL q.l ≤ 3 * ndL q.l
 have hq : q.l = st.2.2.2.2.l ++ [y.1] := hq
 have hy : tl y.1 ≤ 3 * nd y.1 := hy
 rw [hq, tlL_app, ndL_app']
 simp only [tlL, ndL]
 have h : tlL st.2.2.2.2.l ≤ 3 * ndL st.2.2.2.2.l := h
 omega
theorem gvx_draw : ∀ n s d, Gv (BG_spec_l11Draw n s d) Tq
 | 0, _, _ => oc_
 | n + 1, s, d => by
  have z : (⟨#[]⟩ : ByteArray).size ≤ 3 := by decide
  have IH := gvx_draw n
  show Gv (bc_ _ _ _) _
  unfold bc_
  exact kl_ (fun _ => b5_ (mD_ _) fun y hy => cc_ hy) fun _ => b5_ gz_ fun y2 _ => kl_ (fun _ => b5_ (mD_ _) fun y hy => cc_ hy) fun _ => b5_ gz_ fun y4 _ => b5_ gz_ fun y5 _ => b5_ (pD_ IH _ _ _ _ _) fun y6 h6 => kl_ (fun _ => b5_ (mX_ _) fun x hx => cc_ (pj_ hx h6)) fun _ => cc_ (pj_ z h6)
def lB_ (x k : DPattern) : Prop := tl x ≤ tl k
theorem jm_ {p : DPattern} (hk : p.Kids.l.length ≤ 1000) (ih : ∀ q ∈ p.Kids.l, ∃ x, br_ q = some x ∧ lB_ x q) : ∀ (m i : Nat), i + m = p.Kids.l.length → ∀ ks : Sl DPattern, ks.l.length = p.Kids.l.length → (∀ j (h1 : j < ks.l.length) (h2 : j < p.Kids.l.length), j < i → lB_ ks.l[j] p.Kids.l[j]) →
  ∃ ks', az_ (S := (Int × (Sl DPattern))) (R := (Sl DPattern)) (fun st1 => (if (decide (st1.1 < (p.Kids.l.length : Int))) = true then ((elt p.Kids st1.1).bind fun y4 => ((br_ y4).bind fun y5 => ((elt st1.2 st1.1).bind fun y6 => (some (.inl ((w4 (st1.1 + 1)), (setS st1.2 st1.1 (y5 : DPattern)))))))) else (some (.inr st1.2)))) ((i : Int), ks) = some ks' ∧ ks'.l.length = p.Kids.l.length ∧ ∀ j (h1 : j < ks'.l.length) (h2 : j < p.Kids.l.length), lB_ ks'.l[j] p.Kids.l[j]
 | 0, i, hi, ks, hl, hg => ⟨ks, aj_ (if_neg (by simp; omega)), hl, fun j h1 h2 => hg j h1 h2 (by omega)⟩
 | m + 1, i, hi, ks, hl, hg => by
  have hlt : i < p.Kids.l.length := by omega
  obtain ⟨x, x1, x2⟩ := ih _ (List.getElem_mem hlt)
  obtain ⟨z, l⟩ := ks
  have hl : l.length = p.Kids.l.length := hl
  obtain ⟨ks', r1, r2, r3⟩ := jm_ hk ih m (i + 1) (by omega) ⟨z, l.set i x⟩ (by simpa using hl) fun j h1 h2 hj => by
   show lB_ (l.set i x)[j] _
   by_cases e : j = i
   ·subst e; rw [List.getElem_set_self]; exact x2
   ·rw [List.getElem_set_ne (by omega)]
    exact hg j (by simpa using h1) h2 (by omega)
  refine ⟨ks', au_ ?_ r1, r2, r3⟩
  have e2 := bm_ (s := (⟨z, l⟩ : Sl DPattern)) (i := i) (by show i < l.length; omega)
  rw [if_pos (by simpa using hlt)]
  simp only [bm_ hlt, x1, e2, Option.bind_some]
  rw [a4_ (by omega) (by omega)]
  rfl
theorem calmX_ok : ∀ p, VP p → ∃ q, br_ p = some q ∧ lB_ q p := by
 refine eL_ fun p ih hv => ?_
 suffices H : ∃ q, cq_ p = some q ∧ lB_ q p by
  obtain ⟨q, h1, h2⟩ := H; exact ⟨q, gD_ _ _ h1, h2⟩
 obtain ⟨y, c1, c2⟩ := copy1 p (sm_vp p hv)
 have hnp := g0_ p
 have leaf : ∀ k : Int, k = 1 ∨ k = 16 → lB_ ⟨k, 0, ⟨#[]⟩, ⟨true, []⟩⟩ p := fun k hk => by
  show tl _ ≤ tl p
  rw [gJ_]
  show (if k = 1 then 0 else 0) + 0 ≤ _
  split <;> omega
 unfold cq_
 rw [c1, Option.bind_some]
 by_cases h14 : p.Kind = 14
 ·simp only [h14, decide_true, if_true, Option.bind_some]
  exact ⟨_, rfl, leaf 1 (.inl rfl)⟩
 by_cases h17 : p.Kind = 17
 ·simp only [h17, Int.reduceEq, decide_true, decide_false, Bool.false_eq_true, if_false, if_true, Option.bind_some]
  exact ⟨_, rfl, leaf 1 (.inl rfl)⟩
 by_cases h15 : p.Kind = 15
 ·simp only [h15, Int.reduceEq, decide_true, decide_false, Bool.false_eq_true, if_false, if_true, Option.bind_some]
  exact ⟨_, rfl, leaf 16 (.inr rfl)⟩
 have d1 : decide (p.Kind = 14) = false := by simpa using h14
 have d2 : decide (p.Kind = 17) = false := by simpa using h17
 have d3 : decide (p.Kind = 15) = false := by simpa using h15
 have hk : p.Kids.l.length ≤ 1000 := by
  have n2 := hv.node.2.1
  unfold kidN at n2
  split at n2
  ·omega
  ·split at n2 <;> omega
 simp only [d1, d2, d3, Bool.false_eq_true, if_false, Option.bind_some]
 cases c2 with
 | mk g1 g2 g3 g4 g5 =>
  rw [jY_] at g1 g2 g3 g4
  simp only [List.length_map] at g1 g2 g3 g4
  obtain ⟨ks', r1, r2, r3⟩ := jm_ hk (fun q hq => ih q hq (hv.kid hq)) p.Kids.l.length 0 (by omega) y.Kids g4.symm (fun j _ _ h => by omega)
  rw [show ((0 : Nat) : Int) = 0 from rfl] at r1
  rw [r1, Option.bind_some]
  refine ⟨_, rfl, ?_⟩
  show tl _ ≤ tl p
  rw [gJ_, gJ_ p]
  have := tlL_mono ks'.l p.Kids.l r2 fun j h1 h2 => r3 j h1 h2
  show (if y.Kind = 1 then y.Text.size else 0) + tlL ks'.l ≤ _
  rw [← g1, ← g3]; omega
theorem hy_ (c : Sl (Iv .u8)) (h : Bys c) : ∃ p, dg_ c = some p ∧ VP p ∧ nd p ≤ 7 ∧ tl p ≤ 21 := by
 have h0 : cP_ ⟨c, 0, 0⟩ 0 := ⟨h, Int.le_refl _, Int.le_refl _, by decide⟩
 obtain ⟨m, s1, q1, q2, q3, q4⟩ := gF_ 3 h0 (by decide) (by decide) (by decide)
 obtain ⟨p, s', r1, r2, r3, r4, _⟩ := uw_ q4 ⟨q2, by omega⟩ (by decide)
 have hq : Tq (p, s') := gvx_draw bigN s1 m _ r1
 have hq : tl p ≤ 3 * nd p := hq
 obtain ⟨q, k1, k2, k3, k4⟩ := calm_ok p r2
 obtain ⟨q', k1', k2'⟩ := calmX_ok p r2
 rw [k1'] at k1
 injection k1 with k1
 subst k1
 have k2' : tl q' ≤ tl p := k2'
 have := r4 (by omega)
 refine ⟨q', j4_ _ _ ?_, k2, by omega, by omega⟩
 unfold fm_
 rw [q1, Option.bind_some, r1, Option.bind_some, k1']; rfl
end Go.Am
end
