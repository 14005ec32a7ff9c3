/- The law. -/
import Derived.Test.YthpmndnnpnojjaaAl2
import Derived.Test.YthpmndnnpnojjaaAg1
import Derived.Test.YthpmndnnpnojjaaAg2
import Derived.Test.YthpmndnnpnojjaaAg0
section
set_option maxRecDepth 100000
set_option maxHeartbeats 1000000
set_option linter.unusedVariables false
set_option linter.unusedSimpArgs false
namespace Go.Am

theorem ko_ {α β : Type} (f : α → β) {a : Sl α} {z0 : Bool} {body : Int × Sl β → Option ((Int × Sl β) ⊕ Sl β)} (hn : a.l.length < 9223372036854775807)
  (h1 : ∀ (i : Nat) x (s : Sl β), x ∈ a.l → i < a.l.length → s.l.length = i → elt a (i : Int) = some x → body (i, s) = some (.inl ((i : Int) + 1, ⟨false, s.l ++ [f x]⟩)))
  (h2 : ∀ s, body ((a.l.length : Int), s) = some (.inr s)) : aI_ body (0, ⟨z0, []⟩) = some ⟨z0 && a.l.isEmpty, a.l.map f⟩ := by
 suffices H : ∀ (k i : Nat), i + k = a.l.length → ∀ s : Sl β, s.l = (a.l.take i).map f → s.z = (z0 && (a.l.take i).isEmpty) → aI_ body ((i : Int), s) = some ⟨z0 && a.l.isEmpty, a.l.map f⟩ by
  exact H a.l.length 0 (by simp) ⟨z0, []⟩ rfl (by simp)
 intro k
 induction k with
 | zero =>
  intro i hi s hs hz
  have : i = a.l.length := by omega
  subst this
  refine aA_ ((h2 s).trans ?_)
  obtain ⟨z, l⟩ := s
  simp only [List.take_length] at hs hz
  rw [hs, hz]
 | succ k ih =>
  intro i hi s hs hz
  have hlt : i < a.l.length := by omega
  have ec : ((i + 1 : Nat) : Int) = (i : Int) + 1 := by simp
  have e := h1 i a.l[i] s (List.getElem_mem hlt) hlt (by rw [hs]; simp; omega) (bk_ hlt)
  have w := ih (i + 1) (by omega) ⟨false, s.l ++ [f a.l[i]]⟩ (by rw [List.take_succ_eq_append_getElem hlt, List.map_append, hs]; rfl) (by rw [List.take_succ_eq_append_getElem hlt]; simp; intro _ hh; rw [hh] at hlt; simp at hlt)
  rw [ec] at w
  exact aJ_ e w
theorem copy1 : ∀ p, SmPt p → ∃ q, aW_ p = some q ∧ EqPt (cpPt p) q := by
 refine d8_ fun p ih hs => ?_
 have hkl : p.Kids.l.length ≤ 1048576 := by cases hs with | mk h1 h2 h3 => exact h2
 have hf : ∀ q ∈ p.Kids.l, aW_ q = some ((aW_ q).getD q) := fun q hq => by
  obtain ⟨r, h, _⟩ := ih q hq (hs.kid hq); rw [h]; rfl
 refine ⟨⟨p.Kind, p.Num, p.Text, ⟨true && p.Kids.l.isEmpty, p.Kids.l.map fun q => (aW_ q).getD q⟩⟩, gj_ p _ ?_, ?_⟩
 ·unfold ds_
  rw [ko_ (fun q => (aW_ q).getD q) (a := p.Kids) (z0 := true) (by omega) (fun i x s hx hi hl he => ?_) (fun s => by rw [if_neg (by simp)])]
  ·rfl
  ·show (if decide ((i : Int) < (p.Kids.l.length : Int)) = true then _ else _) = _
   rw [if_pos (by simpa using hi), he, Option.bind_some, hf x hx, Option.bind_some]
   obtain ⟨z, l⟩ := s
   rw [iR_ (by simp at hl; omega), Option.bind_some, cT_ (by omega) (by omega)]
   rfl
 ·rw [fT_]
  refine .mk rfl rfl rfl (by simp) fun i x y hx hy => ?_
  simp only [List.getElem?_map, Option.map_eq_some_iff] at hx hy
  obtain ⟨a, ha, rfl⟩ := hx
  obtain ⟨b, hb, rfl⟩ := hy
  rw [ha] at hb; injection hb with hb; subst hb
  have hm := List.mem_of_getElem? ha
  obtain ⟨r, h, hr⟩ := ih a hm (hs.kid hm)
  rw [h]; exact hr
theorem copy2 : ∀ p, SmPt p → a5_ p = some (cpPt p) := by
 refine d8_ fun p ih hs => ?_
 have hkl : p.Kids.l.length ≤ 1048576 := by cases hs with | mk h1 h2 h3 => exact h2
 refine d3_ p _ ?_
 unfold bx_
 rw [ko_ cpPt (a := p.Kids) (z0 := false) (by omega) (fun i x s hx hi hl he => ?_) (fun s => by rw [if_neg (by simp)])]
 ·rw [fT_]; rfl
 ·show (if decide ((i : Int) < (p.Kids.l.length : Int)) = true then _ else _) = _
  rw [if_pos (by simpa using hi), he, Option.bind_some, ih x hx (hs.kid hx), Option.bind_some]
  obtain ⟨z, l⟩ := s
  rw [iR_ (by simp at hl; omega), Option.bind_some, cT_ (by omega) (by omega)]
def zeroPt : DPattern := ⟨0, 0, ⟨#[]⟩, ⟨true, []⟩⟩
theorem Sm_zero : SmPt zeroPt := .mk (by decide) (by decide) fun q hq => by cases hq
theorem ip_ (c : Sl ad_) (s : ByteArray) (h : gR_ c) : ∃ w1 w2 : DPattern × Bool, b7_ c s = some w1 ∧ bs_ c s = some w2 ∧ w2.2 = w1.2 ∧ EqPt w2.1 w1.1 ∧ SmPt w2.1 ∧ (nd w2.1 : Int) ≤ 60 := by
 suffices key : ∃ w1 w2 : DPattern × Bool, bt_ c s = some w1 ∧ bp_ c s = some w2 ∧ w2.2 = w1.2 ∧ EqPt w2.1 w1.1 ∧ SmPt w2.1 ∧ (nd w2.1 : Int) ≤ 60 by
  obtain ⟨w1, w2, h1, h2, h3⟩ := key
  exact ⟨w1, w2, eT_ c s w1 h1, eM_ c s w2 h2, h3⟩
 have hz : (nd zeroPt : Int) ≤ 60 := by rw [fd_]; decide
 have hlen := h.1
 unfold bt_ bp_
 rcases js_ c s (by omega) with ⟨i, hi, he, q1, q2⟩ | ⟨he, q1, q2⟩
 ·simp only [q1, q2, Option.bind_some, env1 c h, env2 c h]
  rw [if_neg (by simp)]
  by_cases hv : EnvP c
  ·have hm := List.getElem_mem hi
   have hs := (h.2 _ hm).2
   obtain ⟨r, r1, r2⟩ := copy1 _ hs
   refine ⟨(r, true), (cpPt c.l[i].Pattern, true), ?_, ?_, rfl, r2, Sm_cpPt _ hs, ?_⟩
   ·rw [ba_ hv, if_neg (by simp), bk_ hi, Option.bind_some, r1]; rfl
   ·rw [ba_ hv]; simp [copy2 _ hs]
   ·rw [nd_cp]; exact (hv.2.1 _ hm).2.2
  ·refine ⟨(zeroPt, false), (zeroPt, false), ?_, ?_, rfl, EqPt.rfl' _, Sm_zero, hz⟩
   ·rw [aQ_ hv, if_pos (by simp)]; rfl
   ·rw [aQ_ hv]; rfl
 ·simp only [q1, q2, Option.bind_some]
  exact ⟨(zeroPt, false), (zeroPt, false), rfl, rfl, rfl, EqPt.rfl' _, Sm_zero, hz⟩
theorem h6_ (a : Sl ad_) (s : ByteArray) (h : FitS maxLen j1_ a) : bE_ a s = some true := by
 refine dk_ a s _ ?_
 unfold a8_
 by_cases hss : 1048576 < (s.size : Int)
 ·rw [if_pos (by simpa using hss)]
 rw [if_neg (by simpa using hss)]
 rcases nS_ a h 1048576 (by omega) (by omega) with e | ⟨l', e, h0, hl', hs⟩
 ·rw [e]; rfl
 have hc := la_ hs
 obtain ⟨w1, w2, e1, e2, e3, e4, e5, e6⟩ := ip_ (if_ a) s hc
 have e7 := eq_Pt _ _ e5 e4
 have e8 := m4_ (if_ a) hc
 obtain ⟨k, t, m1, m2, m3⟩ := nF_ (if_ a) (by show ndN (a.l.map cpNm) < _; rw [ndN_cp]; omega) (by have := hc.1; omega) 1 (by omega) (by omega)
 have hnd := fd_ w2.1
 have hlen := ndL_len w2.1.Kids.l
 obtain ⟨k2, t2, n1, n2, n3, n4, n5⟩ := mh_PtS bigN w2.1.Kids (by unfold bigN; omega) (by omega) 1 (by omega) (by omega)
 have n1 : aM_ w2.1.Kids 1 = some (k2, t2) := n1
 have hk0 : decide (l' < 0) = false := by simp; omega
 have hk1 : decide (k < 0) = false := by simp; omega
 have hk2 : decide (k2 < 0) = false := by simp; omega
 have mk : a6_ w2.1 1 = some (k2, ⟨w2.1.Kind, w2.1.Num, w2.1.Text, t2⟩) := by
  unfold a6_; rw [n1]; rfl
 have hd : bq_ (⟨w2.1.Kind, w2.1.Num, w2.1.Text, t2⟩ : DPattern) 1 = some k2 := by
  refine eX_ _ _ _ ?_
  unfold b8_
  show ((aN_ t2 1).bind _) = _
  rw [n3, Option.bind_some, hk2]; rfl
 simp only [e, m9_ a hs, e1, e2, e7, e8, m1, mk, hd, Option.bind_some, hk0, hk1, hk2, e3]
 simp
theorem law_FnExactLookupNamed {fu0 fu1 : Nat} {t0 : T} {t1 : T} (h0 : Shp Go.Proofs.Try.prog fu0 35 [t0]) (h1 : Shp Go.Proofs.Try.prog fu1 9 [t1]) : ∃ σ', run Go.Proofs.Try.prog md ext 5 [t0, t1] St.empty = some (.bool true, σ') := by
 obtain ⟨a, e0, ha⟩ := lH_ h0
 injection e0 with e0; subst e0
 obtain ⟨s, e, hs⟩ := iq_ h1
 injection e with e; subst e
 exact ⟨_, eU_ (h6_ a s ha) St.empty⟩
end Go.Am
end
