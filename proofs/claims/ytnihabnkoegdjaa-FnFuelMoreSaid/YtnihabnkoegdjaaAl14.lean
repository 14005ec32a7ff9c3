/- The law. -/
import Derived.Test.YtnihabnkoegdjaaAg1
import Derived.Test.YtnihabnkoegdjaaAg3
import Derived.Test.YtnihabnkoegdjaaAg4
import Derived.Test.YtnihabnkoegdjaaAl13
section
set_option maxRecDepth 100000
set_option maxHeartbeats 4000000
set_option linter.unusedVariables false
set_option linter.unusedSimpArgs false
namespace Go.Am
namespace Nt
section
variable {Q : MdQ} {env : Sl DNamed} {s : ByteArray} {F M0 : Nat} {start : Int} {nw cd : Sl DCapture} {mt : Sl DMatch} {cs : Sl ah_} {ou : Sl DMatch} {nw2 cd2 : Sl DCapture} {Φ : PhiT} {c k n m : Nat} {num : Int} {t : ByteArray} {kids : Sl DPattern}
theorem Post.up {b : Bool} {S' : aa_} {r' : an_} (h : Post Q env s F b M0 start cd cs cd2 S' r') : Post Q env s F b (M0 + 1) start cd cs cd2 S' r' := h.trans (by omega) ⟨[], by simp⟩ rfl (Nat.le_refl _) (by omega)
theorem bgI2 (n : Nat) : (BG_impl_search_match (n + 1)).2 = aj_ (BG_impl_search_match n).1 (BG_impl_search_match n).2 := rfl
theorem Post.abort {b : Bool} {M : Nat} {S' : aa_} {r' : an_} (h : Post Q env s F b M start cd cs cd2 S' r') : Post Q env s F false M start cd cs cd2 (NS S') ⟨r'.env_, r'.s_, r'.fuel_, r'.mode_, r'.steps_, r'.conts_, r'.out_, r'.now_, r'.conds_, r'.full_, true, r'.stop_, r'.code_⟩ := by
 refine ⟨h.hs, h.hcs, h.c1, h.c2, (fun hb => by cases hb), fun _ => ?_, h.c3, (fun hb => by cases hb)⟩
 cases b with
 | false =>
  rcases h.no rfl with w | w | w
  ·exact .inl w
  ·exact .inr (.inl w)
  ·exact .inr (.inr ⟨w.1, w.2.1, rfl, w.2.2.2⟩)
 | true =>
  obtain ⟨M', nw', cd', mt', cs', ou', nw2', cd2', g1, rfl, rfl, g4, g5⟩ := h.go rfl
  exact .inr (.inr ⟨rfl, rfl, rfl, rfl, g4.mtE, g4.hml, rfl⟩)
theorem karb (hs : s.size ≤ 200) (hi : Inv s F (M0 + 1) nw cd mt cs ou nw2 cd2) (hc : c ≤ s.size) (hk : k < cs.l.length) (hK : KOk Q env s F (M0 + 1) k start Φ cs.l c) (h1 : 2 * M0 + 2 ≤ n) (h2 : M0 * EE + EE ≤ m)  : ∃ b S' r', (BG_impl_search_match (n + 1)).1 (sI Q env s F ((F : Int) - ((M0 + 1 : Nat) : Int)) start nw cd mt) ⟨12, num, t, kids⟩ (c : Int) Φ = some (b, S') ∧ (BG_spec_l12Run_at (m + 1)).1 (sR Q env s F ((F : Int) - ((M0 + 1 : Nat) : Int)) cs ou nw2 cd2) ⟨12, num, t, kids⟩ (c : Int) (k : Int) = some ((), r') ∧ Post Q env s F b (M0 + 1) start cd cs cd2 S' r' := by
 have hMF := hi.hM
 have hF := hi.hF
 have hcl := hi.hcl
 have w1 : w4 ((F : Int) - ((M0 + 1 : Nat) : Int) + 1) = (F : Int) - M0 := by
  rw [aS_ (by omega) (by omega)]; omega
 have d1 : decide ((F : Int) - ((M0 + 1 : Nat) : Int) = (F : Int)) = false := by simp; omega
 have d2 : decide ((F : Int) ≤ (F : Int) - ((M0 + 1 : Nat) : Int)) = false := by simp; omega
 have hi1 : Inv s F M0 nw cd mt cs ou nw2 cd2 := ⟨hi.hF, by omega, hi.nwE, hi.cdE, hi.hcap, hi.mtE, hi.hml, by omega⟩
 have hK1 : KOk Q env s F M0 k start Φ cs.l c := hK.mono (by omega) ⟨[], by simp⟩ (Nat.le_refl _)
 have hEE : EE = 30002 := rfl
 have hlev : M0 * EE + k + 2 ≤ m := by omega
 obtain ⟨b, S', r', g1, g2, g3⟩ := oR_ hs hK1 hlev (s.size + 1 - c) c (by omega) (Nat.le_refl _) M0 nw cd mt cs ou nw2 cd2 (Nat.le_refl _) hi1 ⟨[], by simp⟩
 have hR : (BG_spec_l12Run_at (m + 1)).1 (sR Q env s F ((F : Int) - ((M0 + 1 : Nat) : Int)) cs ou nw2 cd2) ⟨12, num, t, kids⟩ (c : Int) (k : Int) = some ((), r') := by
  show af_ _ _ _ _ _ _ = _
  unfold af_
  simp only [d1, d2, w1, Int.reduceEq, decide_true, decide_false, Bool.false_eq_true, Bool.not_true, Bool.not_false, if_true, if_false, Option.bind_some, Sum.elim_inl, Sum.elim_inr, g2]
 cases b with
 | false =>
  rw [if_neg (by simp)] at g1
  refine ⟨false, S', r', ?_, hR, g3.up⟩
  show ac_ _ _ _ _ _ _ = _
  unfold ac_
  simp only [d1, d2, w1, Int.reduceEq, decide_true, decide_false, Bool.false_eq_true, Bool.not_true, Bool.not_false, if_true, if_false, Option.bind_some, Sum.elim_inl, Sum.elim_inr, g1]
 | true =>
  rw [if_pos rfl] at g1
  refine ⟨true, NS S', r', ?_, hR, g3.ns.up⟩
  show ac_ _ _ _ _ _ _ = _
  unfold ac_
  simp only [d1, d2, w1, Int.reduceEq, decide_true, decide_false, Bool.false_eq_true, Bool.not_true, Bool.not_false, if_true, if_false, Option.bind_some, Sum.elim_inl, Sum.elim_inr, g1]
theorem kbal (hs : s.size ≤ 200) (hi : Inv s F (M0 + 1) nw cd mt cs ou nw2 cd2) (hc : c ≤ s.size) (hk : k < cs.l.length) (hK : KOk Q env s F (M0 + 1) k start Φ cs.l c) (h1 : 2 * M0 + 2 ≤ n) (h2 : M0 * EE + EE ≤ m)  : ∃ b S' r', (BG_impl_search_match (n + 1)).1 (sI Q env s F ((F : Int) - ((M0 + 1 : Nat) : Int)) start nw cd mt) ⟨13, num, t, kids⟩ (c : Int) Φ = some (b, S') ∧ (BG_spec_l12Run_at (m + 1)).1 (sR Q env s F ((F : Int) - ((M0 + 1 : Nat) : Int)) cs ou nw2 cd2) ⟨13, num, t, kids⟩ (c : Int) (k : Int) = some ((), r') ∧ Post Q env s F b (M0 + 1) start cd cs cd2 S' r' := by
 have hMF := hi.hM
 have hF := hi.hF
 have hcl := hi.hcl
 have w1 : w4 ((F : Int) - ((M0 + 1 : Nat) : Int) + 1) = (F : Int) - M0 := by
  rw [aS_ (by omega) (by omega)]; omega
 have d1 : decide ((F : Int) - ((M0 + 1 : Nat) : Int) = (F : Int)) = false := by simp; omega
 have d2 : decide ((F : Int) ≤ (F : Int) - ((M0 + 1 : Nat) : Int)) = false := by simp; omega
 have hi1 : Inv s F M0 nw cd mt cs ou nw2 cd2 := ⟨hi.hF, by omega, hi.nwE, hi.cdE, hi.hcap, hi.mtE, hi.hml, by omega⟩
 have hK1 : KOk Q env s F M0 k start Φ cs.l c := hK.mono (by omega) ⟨[], by simp⟩ (Nat.le_refl _)
 have hEE : EE = 30002 := rfl
 have hlev : M0 * EE + k + 2 ≤ m := by omega
 obtain ⟨v, v1, v2, v3⟩ := su_ (s := s) c (c : Int) hs hc
 obtain ⟨j, hj⟩ : ∃ j : Nat, (v < 0 ∨ ((c : Int) ≤ v ∧ v ≤ s.size ∧ v + j = s.size + 1)) := by
  rcases v3 with h | h
  ·exact ⟨0, .inl h⟩
  ·exact ⟨((s.size : Int) + 1 - v).toNat, .inr ⟨h.2.1, h.2.2, by omega⟩⟩
 obtain ⟨b, S', r', g1, g2, g3⟩ := o5_ hs hc hK1 hlev j v hj M0 nw cd mt cs ou nw2 cd2 (Nat.le_refl _) hi1 ⟨[], by simp⟩
 have hR : (BG_spec_l12Run_at (m + 1)).1 (sR Q env s F ((F : Int) - ((M0 + 1 : Nat) : Int)) cs ou nw2 cd2) ⟨13, num, t, kids⟩ (c : Int) (k : Int) = some ((), r') := by
  show af_ _ _ _ _ _ _ = _
  unfold af_
  simp only [d1, d2, w1, Int.reduceEq, decide_true, decide_false, Bool.false_eq_true, Bool.not_true, Bool.not_false, if_true, if_false, Option.bind_some, Sum.elim_inl, Sum.elim_inr, v1, g2]
 cases b with
 | false =>
  rw [if_neg (by simp)] at g1
  refine ⟨false, S', r', ?_, hR, g3.up⟩
  show ac_ _ _ _ _ _ _ = _
  unfold ac_
  simp only [d1, d2, w1, Int.reduceEq, decide_true, decide_false, Bool.false_eq_true, Bool.not_true, Bool.not_false, if_true, if_false, Option.bind_some, Sum.elim_inl, Sum.elim_inr, v2, g1]
 | true =>
  rw [if_pos rfl] at g1
  refine ⟨true, NS S', r', ?_, hR, g3.ns.up⟩
  show ac_ _ _ _ _ _ _ = _
  unfold ac_
  simp only [d1, d2, w1, Int.reduceEq, decide_true, decide_false, Bool.false_eq_true, Bool.not_true, Bool.not_false, if_true, if_false, Option.bind_some, Sum.elim_inl, Sum.elim_inr, v2, g1]
theorem rW_ (hs : s.size ≤ 200) (hi : Inv s F (M0 + 1) nw cd mt cs ou nw2 cd2) (hc : c ≤ s.size) (hk : k < cs.l.length) (hK : KOk Q env s F (M0 + 1) k start Φ cs.l c) (h1 : 2 * M0 + 2 ≤ n) (h2 : M0 * EE + EE ≤ m)  : ∃ b S' r', (BG_impl_search_match (n + 1)).1 (sI Q env s F ((F : Int) - ((M0 + 1 : Nat) : Int)) start nw cd mt) ⟨14, num, t, kids⟩ (c : Int) Φ = some (b, S') ∧ (BG_spec_l12Run_at (m + 1)).1 (sR Q env s F ((F : Int) - ((M0 + 1 : Nat) : Int)) cs ou nw2 cd2) ⟨14, num, t, kids⟩ (c : Int) (k : Int) = some ((), r') ∧ Post Q env s F b (M0 + 1) start cd cs cd2 S' r' := by
 have hMF := hi.hM
 have hF := hi.hF
 have hcl := hi.hcl
 have w1 : w4 ((F : Int) - ((M0 + 1 : Nat) : Int) + 1) = (F : Int) - M0 := by
  rw [aS_ (by omega) (by omega)]; omega
 have d1 : decide ((F : Int) - ((M0 + 1 : Nat) : Int) = (F : Int)) = false := by simp; omega
 have d2 : decide ((F : Int) ≤ (F : Int) - ((M0 + 1 : Nat) : Int)) = false := by simp; omega
 have hi1 : Inv s F M0 nw cd mt cs ou nw2 cd2 := ⟨hi.hF, by omega, hi.nwE, hi.cdE, hi.hcap, hi.mtE, hi.hml, by omega⟩
 have hK1 : KOk Q env s F M0 k start Φ cs.l c := hK.mono (by omega) ⟨[], by simp⟩ (Nat.le_refl _)
 have hEE : EE = 30002 := rfl
 have hlev : M0 * EE + k + 2 ≤ m := by omega
 obtain ⟨b, S', r', g1, g2, g3⟩ := hK1 M0 (Nat.le_refl _) nw cd mt cs ou nw2 cd2 c m hi1 ⟨[], by simp⟩ (Nat.le_refl _) hc hlev
 refine ⟨false, NS S', _, ?_, ?_, g3.abort.up⟩
 ·show ac_ _ _ _ _ _ _ = _
  unfold ac_
  simp only [d1, d2, w1, Int.reduceEq, decide_true, decide_false, Bool.false_eq_true, Bool.not_true, Bool.not_false, if_true, if_false, Option.bind_some, Sum.elim_inl, Sum.elim_inr, g1]
 ·show af_ _ _ _ _ _ _ = _
  unfold af_
  simp only [d1, d2, w1, Int.reduceEq, decide_true, decide_false, Bool.false_eq_true, Bool.not_true, Bool.not_false, if_true, if_false, Option.bind_some, Sum.elim_inl, Sum.elim_inr, g2]
theorem tc_ (hs : s.size ≤ 200) (hi : Inv s F (M0 + 1) nw cd mt cs ou nw2 cd2) (hc : c ≤ s.size) (hk : k < cs.l.length) (hK : KOk Q env s F (M0 + 1) k start Φ cs.l c) (h1 : 2 * M0 + 2 ≤ n) (h2 : M0 * EE + EE ≤ m)  : ∃ b S' r', (BG_impl_search_match (n + 1)).1 (sI Q env s F ((F : Int) - ((M0 + 1 : Nat) : Int)) start nw cd mt) ⟨15, num, t, kids⟩ (c : Int) Φ = some (b, S') ∧ (BG_spec_l12Run_at (m + 1)).1 (sR Q env s F ((F : Int) - ((M0 + 1 : Nat) : Int)) cs ou nw2 cd2) ⟨15, num, t, kids⟩ (c : Int) (k : Int) = some ((), r') ∧ Post Q env s F b (M0 + 1) start cd cs cd2 S' r' := by
 have hMF := hi.hM
 have hF := hi.hF
 have hcl := hi.hcl
 have w1 : w4 ((F : Int) - ((M0 + 1 : Nat) : Int) + 1) = (F : Int) - M0 := by
  rw [aS_ (by omega) (by omega)]; omega
 have d1 : decide ((F : Int) - ((M0 + 1 : Nat) : Int) = (F : Int)) = false := by simp; omega
 have d2 : decide ((F : Int) ≤ (F : Int) - ((M0 + 1 : Nat) : Int)) = false := by simp; omega
 have hi1 : Inv s F M0 nw cd mt cs ou nw2 cd2 := ⟨hi.hF, by omega, hi.nwE, hi.cdE, hi.hcap, hi.mtE, hi.hml, by omega⟩
 have hK1 : KOk Q env s F M0 k start Φ cs.l c := hK.mono (by omega) ⟨[], by simp⟩ (Nat.le_refl _)
 have hEE : EE = 30002 := rfl
 have hlev : M0 * EE + k + 2 ≤ m := by omega
 refine ⟨false, _, _, ?_, ?_, (e1_ hi1).abort.up⟩
 ·show ac_ _ _ _ _ _ _ = _
  unfold ac_
  simp only [d1, d2, w1, Int.reduceEq, decide_true, decide_false, Bool.false_eq_true, Bool.not_true, Bool.not_false, if_true, if_false, Option.bind_some, Sum.elim_inl, Sum.elim_inr]
 ·show af_ _ _ _ _ _ _ = _
  unfold af_
  simp only [d1, d2, w1, Int.reduceEq, decide_true, decide_false, Bool.false_eq_true, Bool.not_true, Bool.not_false, if_true, if_false, Option.bind_some, Sum.elim_inl, Sum.elim_inr]
theorem uo_ (hs : s.size ≤ 200) (hi : Inv s F (M0 + 1) nw cd mt cs ou nw2 cd2) (hc : c ≤ s.size) (hk : k < cs.l.length) (hK : KOk Q env s F (M0 + 1) k start Φ cs.l c) (h1 : 2 * M0 + 2 ≤ n) (h2 : M0 * EE + EE ≤ m)  : ∃ b S' r', (BG_impl_search_match (n + 1)).1 (sI Q env s F ((F : Int) - ((M0 + 1 : Nat) : Int)) start nw cd mt) ⟨16, num, t, kids⟩ (c : Int) Φ = some (b, S') ∧ (BG_spec_l12Run_at (m + 1)).1 (sR Q env s F ((F : Int) - ((M0 + 1 : Nat) : Int)) cs ou nw2 cd2) ⟨16, num, t, kids⟩ (c : Int) (k : Int) = some ((), r') ∧ Post Q env s F b (M0 + 1) start cd cs cd2 S' r' := by
 have hMF := hi.hM
 have hF := hi.hF
 have hcl := hi.hcl
 have w1 : w4 ((F : Int) - ((M0 + 1 : Nat) : Int) + 1) = (F : Int) - M0 := by
  rw [aS_ (by omega) (by omega)]; omega
 have d1 : decide ((F : Int) - ((M0 + 1 : Nat) : Int) = (F : Int)) = false := by simp; omega
 have d2 : decide ((F : Int) ≤ (F : Int) - ((M0 + 1 : Nat) : Int)) = false := by simp; omega
 have hi1 : Inv s F M0 nw cd mt cs ou nw2 cd2 := ⟨hi.hF, by omega, hi.nwE, hi.cdE, hi.hcap, hi.mtE, hi.hml, by omega⟩
 have hK1 : KOk Q env s F M0 k start Φ cs.l c := hK.mono (by omega) ⟨[], by simp⟩ (Nat.le_refl _)
 have hEE : EE = 30002 := rfl
 have hlev : M0 * EE + k + 2 ≤ m := by omega
 refine ⟨true, _, _, ?_, ?_, (e1_ hi1).up⟩
 ·show ac_ _ _ _ _ _ _ = _
  unfold ac_
  simp only [d1, d2, w1, Int.reduceEq, decide_true, decide_false, Bool.false_eq_true, Bool.not_true, Bool.not_false, if_true, if_false, Option.bind_some, Sum.elim_inl, Sum.elim_inr]
 ·show af_ _ _ _ _ _ _ = _
  unfold af_
  simp only [d1, d2, w1, Int.reduceEq, decide_true, decide_false, Bool.false_eq_true, Bool.not_true, Bool.not_false, if_true, if_false, Option.bind_some, Sum.elim_inl, Sum.elim_inr]
theorem ksuc (hs : s.size ≤ 200) (hi : Inv s F (M0 + 1) nw cd mt cs ou nw2 cd2) (hc : c ≤ s.size) (hk : k < cs.l.length) (hK : KOk Q env s F (M0 + 1) k start Φ cs.l c) (h1 : 2 * M0 + 2 ≤ n) (h2 : M0 * EE + EE ≤ m)  : ∃ b S' r', (BG_impl_search_match (n + 1)).1 (sI Q env s F ((F : Int) - ((M0 + 1 : Nat) : Int)) start nw cd mt) ⟨17, num, t, kids⟩ (c : Int) Φ = some (b, S') ∧ (BG_spec_l12Run_at (m + 1)).1 (sR Q env s F ((F : Int) - ((M0 + 1 : Nat) : Int)) cs ou nw2 cd2) ⟨17, num, t, kids⟩ (c : Int) (k : Int) = some ((), r') ∧ Post Q env s F b (M0 + 1) start cd cs cd2 S' r' := by
 have hMF := hi.hM
 have hF := hi.hF
 have hcl := hi.hcl
 have w1 : w4 ((F : Int) - ((M0 + 1 : Nat) : Int) + 1) = (F : Int) - M0 := by
  rw [aS_ (by omega) (by omega)]; omega
 have d1 : decide ((F : Int) - ((M0 + 1 : Nat) : Int) = (F : Int)) = false := by simp; omega
 have d2 : decide ((F : Int) ≤ (F : Int) - ((M0 + 1 : Nat) : Int)) = false := by simp; omega
 have hi1 : Inv s F M0 nw cd mt cs ou nw2 cd2 := ⟨hi.hF, by omega, hi.nwE, hi.cdE, hi.hcap, hi.mtE, hi.hml, by omega⟩
 have hK1 : KOk Q env s F M0 k start Φ cs.l c := hK.mono (by omega) ⟨[], by simp⟩ (Nat.le_refl _)
 have hEE : EE = 30002 := rfl
 have hlev : M0 * EE + k + 2 ≤ m := by omega
 obtain ⟨S', r', r1, g1, g2, g3, g4⟩ := o3_ hc hK1 hlev M0 nw cd mt cs ou nw2 cd2 (Nat.le_refl _) hi1 ⟨[], by simp⟩
 have hR : (BG_spec_l12Run_at (m + 1)).1 (sR Q env s F ((F : Int) - ((M0 + 1 : Nat) : Int)) cs ou nw2 cd2) ⟨17, num, t, kids⟩ (c : Int) (k : Int) = some ((), r') := by
  show af_ _ _ _ _ _ _ = _
  unfold af_
  simp only [d1, d2, w1, Int.reduceEq, decide_true, decide_false, Bool.false_eq_true, Bool.not_true, Bool.not_false, if_true, if_false, Option.bind_some, Sum.elim_inl, Sum.elim_inr, g2, g3]
 rcases g1 with g1 | g1
 ·refine ⟨false, NS S', r', ?_, hR, g4.ns.up⟩
  show ac_ _ _ _ _ _ _ = _
  unfold ac_
  simp only [d1, d2, w1, Int.reduceEq, decide_true, decide_false, Bool.false_eq_true, Bool.not_true, Bool.not_false, if_true, if_false, Option.bind_some, Sum.elim_inl, Sum.elim_inr, g1]
 ·refine ⟨false, S', r', ?_, hR, g4.up⟩
  show ac_ _ _ _ _ _ _ = _
  unfold ac_
  simp only [d1, d2, w1, Int.reduceEq, decide_true, decide_false, Bool.false_eq_true, Bool.not_true, Bool.not_false, if_true, if_false, Option.bind_some, Sum.elim_inl, Sum.elim_inr, g1]
theorem kalt (hs : s.size ≤ 200) (hi : Inv s F (M0 + 1) nw cd mt cs ou nw2 cd2) (hc : c ≤ s.size) (hk : k < cs.l.length) (hK : KOk Q env s F (M0 + 1) k start Φ cs.l c) (h1 : 2 * M0 + 2 ≤ n) (h2 : M0 * EE + EE ≤ m) (IH : ∀ M1, M1 ≤ M0 → AtOk Q env s F M1) (hv : VP ⟨18, num, t, kids⟩) : ∃ b S' r', (BG_impl_search_match (n + 1)).1 (sI Q env s F ((F : Int) - ((M0 + 1 : Nat) : Int)) start nw cd mt) ⟨18, num, t, kids⟩ (c : Int) Φ = some (b, S') ∧ (BG_spec_l12Run_at (m + 1)).1 (sR Q env s F ((F : Int) - ((M0 + 1 : Nat) : Int)) cs ou nw2 cd2) ⟨18, num, t, kids⟩ (c : Int) (k : Int) = some ((), r') ∧ Post Q env s F b (M0 + 1) start cd cs cd2 S' r' := by
 have hMF := hi.hM
 have hF := hi.hF
 have hcl := hi.hcl
 have w1 : w4 ((F : Int) - ((M0 + 1 : Nat) : Int) + 1) = (F : Int) - M0 := by
  rw [aS_ (by omega) (by omega)]; omega
 have d1 : decide ((F : Int) - ((M0 + 1 : Nat) : Int) = (F : Int)) = false := by simp; omega
 have d2 : decide ((F : Int) ≤ (F : Int) - ((M0 + 1 : Nat) : Int)) = false := by simp; omega
 have hi1 : Inv s F M0 nw cd mt cs ou nw2 cd2 := ⟨hi.hF, by omega, hi.nwE, hi.cdE, hi.hcap, hi.mtE, hi.hml, by omega⟩
 have hK1 : KOk Q env s F M0 k start Φ cs.l c := hK.mono (by omega) ⟨[], by simp⟩ (Nat.le_refl _)
 have hEE : EE = 30002 := rfl
 have hlev : M0 * EE + k + 2 ≤ m := by omega
 have hl : kids.l.length = 2 := by have := hv.node.2.1; exact Int.ofNat.inj this
 obtain ⟨z, l⟩ := kids
 have hl : l.length = 2 := hl
 obtain ⟨q0, q1, rfl⟩ : ∃ q0 q1, l = [q0, q1] := by
  match l, hl with
  | [q0, q1], _ => exact ⟨q0, q1, rfl⟩
 have v0 : VP q0 := hv.kid (by simp)
 have v1 : VP q1 := hv.kid (by simp)
 obtain ⟨n, rfl⟩ : ∃ j, n = j + 1 := ⟨n - 1, by omega⟩
 have el0 : elt (⟨z, [q0, q1]⟩ : Sl DPattern) 0 = some q0 := rfl
 have el1 : elt (⟨z, [q0, q1]⟩ : Sl DPattern) 1 = some q1 := rfl
 have dl : decide (0 < ((([q0, q1] : List DPattern).length : Nat) : Int)) = true := by simp
 obtain ⟨b, S', r', g1, g2, g3⟩ := IH M0 (Nat.le_refl _) start nw cd mt cs ou nw2 cd2 q0 c k Φ n m hi1 v0 hc hk hK1 (by omega) (by omega)
 cases b with
 | false =>
  refine ⟨false, NS S', r', ?_, ?_, g3.ns.up⟩
  ·show ac_ _ _ _ _ _ _ = _
   unfold ac_
   simp only [d1, d2, w1, Int.reduceEq, decide_true, decide_false, Bool.false_eq_true, Bool.not_true, Bool.not_false, if_true, if_false, Option.bind_some, Sum.elim_inl, Sum.elim_inr, dl]
   rw [bgI2]
   unfold aj_
   simp only [d1, d2, w1, Int.reduceEq, decide_true, decide_false, Bool.false_eq_true, Bool.not_true, Bool.not_false, if_true, if_false, Option.bind_some, Sum.elim_inl, Sum.elim_inr, el0, g1]
  ·have ho := (g3.no rfl).over
   obtain ⟨e_, s_, f_, md_, st_, cs_, ou_, nw_, cd_, fl_, ab_, sp_, co_⟩ := r'
   have ho : ab_ = true ∨ sp_ = true ∨ co_ ≠ 0 := ho
   show af_ _ _ _ _ _ _ = _
   unfold af_
   cases ab_ with
   | true => simp only [d1, d2, w1, Int.reduceEq, decide_true, decide_false, Bool.false_eq_true, Bool.not_true, Bool.not_false, if_true, if_false, Option.bind_some, Sum.elim_inl, Sum.elim_inr, el0, g2]
   | false =>
    cases sp_ with
    | true => simp only [d1, d2, w1, Int.reduceEq, decide_true, decide_false, Bool.false_eq_true, Bool.not_true, Bool.not_false, if_true, if_false, Option.bind_some, Sum.elim_inl, Sum.elim_inr, el0, g2]
    | false =>
     have h3 : decide (co_ = 0) = false := by
      rcases ho with h | h | h
      ·cases h
      ·cases h
      ·simpa using h
     simp only [d1, d2, w1, Int.reduceEq, decide_true, decide_false, Bool.false_eq_true, Bool.not_true, Bool.not_false, if_true, if_false, Option.bind_some, Sum.elim_inl, Sum.elim_inr, el0, g2, h3]
 | true =>
  obtain ⟨M2, nw', cd', mt', cs', ou', nw2', cd2', q1', rfl, rfl, q4, q5⟩ := g3.go rfl
  obtain ⟨x, hx⟩ := g3.hcs
  have hx : cs'.l = cs.l ++ x := hx
  have hM2 : M2 * EE ≤ M0 * EE := Nat.mul_le_mul_right _ q1'
  obtain ⟨b, S', r', u1, u2, u3⟩ := IH M2 q1' start nw' cd' mt' cs' ou' nw2' cd2' q1 c k Φ n m q4 v1 hc (by rw [hx, List.length_append]; omega) (hK1.mono q1' ⟨x, hx⟩ (Nat.le_refl _)) (by omega) (by omega)
  refine ⟨b, NS S', r', ?_, ?_, ((u3.trans q1' g3.hcs q5 g3.c2 (by have h4 : (cs'.l.length : Int) + ((F : Int) - ((F : Int) - M2)) ≤ cs.l.length + M0 := g3.c4 rfl; omega)).ns).up⟩
  ·show ac_ _ _ _ _ _ _ = _
   unfold ac_
   simp only [d1, d2, w1, Int.reduceEq, decide_true, decide_false, Bool.false_eq_true, Bool.not_true, Bool.not_false, if_true, if_false, Option.bind_some, Sum.elim_inl, Sum.elim_inr, dl]
   rw [bgI2]
   unfold aj_
   simp only [d1, d2, w1, Int.reduceEq, decide_true, decide_false, Bool.false_eq_true, Bool.not_true, Bool.not_false, if_true, if_false, Option.bind_some, Sum.elim_inl, Sum.elim_inr, el0, el1, g1, u1]
  ·show af_ _ _ _ _ _ _ = _
   unfold af_
   simp only [d1, d2, w1, Int.reduceEq, decide_true, decide_false, Bool.false_eq_true, Bool.not_true, Bool.not_false, if_true, if_false, Option.bind_some, Sum.elim_inl, Sum.elim_inr, el0, el1, g2, u2]
theorem kcat (hs : s.size ≤ 200) (hi : Inv s F (M0 + 1) nw cd mt cs ou nw2 cd2) (hc : c ≤ s.size) (hk : k < cs.l.length) (hK : KOk Q env s F (M0 + 1) k start Φ cs.l c) (h1 : 2 * M0 + 2 ≤ n) (h2 : M0 * EE + EE ≤ m) (IH : ∀ M1, M1 ≤ M0 → AtOk Q env s F M1) (hv : VP ⟨19, num, t, kids⟩) : ∃ b S' r', (BG_impl_search_match (n + 1)).1 (sI Q env s F ((F : Int) - ((M0 + 1 : Nat) : Int)) start nw cd mt) ⟨19, num, t, kids⟩ (c : Int) Φ = some (b, S') ∧ (BG_spec_l12Run_at (m + 1)).1 (sR Q env s F ((F : Int) - ((M0 + 1 : Nat) : Int)) cs ou nw2 cd2) ⟨19, num, t, kids⟩ (c : Int) (k : Int) = some ((), r') ∧ Post Q env s F b (M0 + 1) start cd cs cd2 S' r' := by
 have hMF := hi.hM
 have hF := hi.hF
 have hcl := hi.hcl
 have w1 : w4 ((F : Int) - ((M0 + 1 : Nat) : Int) + 1) = (F : Int) - M0 := by
  rw [aS_ (by omega) (by omega)]; omega
 have d1 : decide ((F : Int) - ((M0 + 1 : Nat) : Int) = (F : Int)) = false := by simp; omega
 have d2 : decide ((F : Int) ≤ (F : Int) - ((M0 + 1 : Nat) : Int)) = false := by simp; omega
 have hi1 : Inv s F M0 nw cd mt cs ou nw2 cd2 := ⟨hi.hF, by omega, hi.nwE, hi.cdE, hi.hcap, hi.mtE, hi.hml, by omega⟩
 have hK1 : KOk Q env s F M0 k start Φ cs.l c := hK.mono (by omega) ⟨[], by simp⟩ (Nat.le_refl _)
 have hEE : EE = 30002 := rfl
 have hlev : M0 * EE + k + 2 ≤ m := by omega
 have hl : kids.l.length = 2 := by have := hv.node.2.1; exact Int.ofNat.inj this
 obtain ⟨z, l⟩ := kids
 obtain ⟨n, rfl⟩ : ∃ j, n = j + 1 := ⟨n - 1, by omega⟩
 obtain ⟨zc, lc⟩ := cs
 have hlc : lc.length + (M0 + 1) ≤ F + 1 := hcl
 have app : ∀ x : ah_, appS 72 (⟨zc, lc⟩ : Sl ah_) ⟨false, [x]⟩ = some ⟨false, lc ++ [x]⟩ := fun x => bP_ (by omega)
 have wl : ∀ x : ah_, w4 ((((lc ++ [x]).length : Nat) : Int) - 1) = (lc.length : Int) := fun x => by
  rw [List.length_append]; simp only [List.length_cons, List.length_nil]; rw [aS_ (by omega) (by omega)]; omega
 have hi2 : ∀ x : ah_, Inv s F M0 nw cd mt ⟨false, lc ++ [x]⟩ ou nw2 cd2 := fun x => ⟨hi1.hF, hi1.hM, hi1.nwE, hi1.cdE, hi1.hcap, hi1.mtE, hi1.hml, by show (lc ++ [x]).length + M0 ≤ F + 1; rw [List.length_append]; simp; omega⟩
 have hkl : ∀ x : ah_, lc.length < (⟨false, lc ++ [x]⟩ : Sl ah_).l.length := fun x => by simp
 have hl : l.length = 2 := hl
 obtain ⟨q0, q1, rfl⟩ : ∃ q0 q1, l = [q0, q1] := by
  match l, hl with
  | [q0, q1], _ => exact ⟨q0, q1, rfl⟩
 have v0 : VP q0 := hv.kid (by simp)
 have el0 : elt (⟨z, [q0, q1]⟩ : Sl DPattern) 0 = some q0 := rfl
 have dl : decide (0 < ((([q0, q1] : List DPattern).length : Nat) : Int)) = true := by simp
 have v1 : VP q1 := hv.kid (by simp)
 obtain ⟨b, S', r', g1, g2, g3⟩ := IH M0 (Nat.le_refl _) start nw cd mt ⟨false, lc ++ [⟨⟨19, num, t, ⟨z, [q0, q1]⟩⟩, (c : Int), (k : Int)⟩]⟩ ou nw2 cd2 q0 c lc.length _ n m (hi2 _) v0 hc (hkl _) (uE_ (n := n) (cs := ⟨zc, lc⟩) (p := ⟨19, num, t, ⟨z, [q0, q1]⟩⟩) IH rfl rfl v1 hk hK1 (by omega)) (by omega) (by omega)
 refine ⟨b, NS S', r', ?_, ?_, (g3.trans (M := M0 + 1) (cs := ⟨zc, lc⟩) (by omega) ⟨_, rfl⟩ rfl (Nat.le_refl _) (by show (lc ++ [_]).length + M0 ≤ lc.length + (M0 + 1); rw [List.length_append]; simp; omega)).ns⟩
 ·show ac_ _ _ _ _ _ _ = _
  unfold ac_
  simp only [d1, d2, w1, Int.reduceEq, decide_true, decide_false, Bool.false_eq_true, Bool.not_true, Bool.not_false, if_true, if_false, Option.bind_some, Sum.elim_inl, Sum.elim_inr, dl]
  rw [bgI2]
  unfold aj_
  simp only [d1, d2, w1, Int.reduceEq, decide_true, decide_false, Bool.false_eq_true, Bool.not_true, Bool.not_false, if_true, if_false, Option.bind_some, Sum.elim_inl, Sum.elim_inr, el0, g1]
 ·show af_ _ _ _ _ _ _ = _
  unfold af_
  simp only [d1, d2, w1, Int.reduceEq, decide_true, decide_false, Bool.false_eq_true, Bool.not_true, Bool.not_false, if_true, if_false, Option.bind_some, Sum.elim_inl, Sum.elim_inr, el0, app, wl, g2]
theorem us_ (hs : s.size ≤ 200) (hi : Inv s F (M0 + 1) nw cd mt cs ou nw2 cd2) (hc : c ≤ s.size) (hk : k < cs.l.length) (hK : KOk Q env s F (M0 + 1) k start Φ cs.l c) (h1 : 2 * M0 + 2 ≤ n) (h2 : M0 * EE + EE ≤ m) (IH : ∀ M1, M1 ≤ M0 → AtOk Q env s F M1) (hv : VP ⟨21, num, t, kids⟩) : ∃ b S' r', (BG_impl_search_match (n + 1)).1 (sI Q env s F ((F : Int) - ((M0 + 1 : Nat) : Int)) start nw cd mt) ⟨21, num, t, kids⟩ (c : Int) Φ = some (b, S') ∧ (BG_spec_l12Run_at (m + 1)).1 (sR Q env s F ((F : Int) - ((M0 + 1 : Nat) : Int)) cs ou nw2 cd2) ⟨21, num, t, kids⟩ (c : Int) (k : Int) = some ((), r') ∧ Post Q env s F b (M0 + 1) start cd cs cd2 S' r' := by
 have hMF := hi.hM
 have hF := hi.hF
 have hcl := hi.hcl
 have w1 : w4 ((F : Int) - ((M0 + 1 : Nat) : Int) + 1) = (F : Int) - M0 := by
  rw [aS_ (by omega) (by omega)]; omega
 have d1 : decide ((F : Int) - ((M0 + 1 : Nat) : Int) = (F : Int)) = false := by simp; omega
 have d2 : decide ((F : Int) ≤ (F : Int) - ((M0 + 1 : Nat) : Int)) = false := by simp; omega
 have hi1 : Inv s F M0 nw cd mt cs ou nw2 cd2 := ⟨hi.hF, by omega, hi.nwE, hi.cdE, hi.hcap, hi.mtE, hi.hml, by omega⟩
 have hK1 : KOk Q env s F M0 k start Φ cs.l c := hK.mono (by omega) ⟨[], by simp⟩ (Nat.le_refl _)
 have hEE : EE = 30002 := rfl
 have hlev : M0 * EE + k + 2 ≤ m := by omega
 have hl : kids.l.length = 1 := by have := hv.node.2.1; exact Int.ofNat.inj this
 obtain ⟨z, l⟩ := kids
 obtain ⟨n, rfl⟩ : ∃ j, n = j + 1 := ⟨n - 1, by omega⟩
 obtain ⟨zc, lc⟩ := cs
 have hlc : lc.length + (M0 + 1) ≤ F + 1 := hcl
 have app : ∀ x : ah_, appS 72 (⟨zc, lc⟩ : Sl ah_) ⟨false, [x]⟩ = some ⟨false, lc ++ [x]⟩ := fun x => bP_ (by omega)
 have wl : ∀ x : ah_, w4 ((((lc ++ [x]).length : Nat) : Int) - 1) = (lc.length : Int) := fun x => by
  rw [List.length_append]; simp only [List.length_cons, List.length_nil]; rw [aS_ (by omega) (by omega)]; omega
 have hi2 : ∀ x : ah_, Inv s F M0 nw cd mt ⟨false, lc ++ [x]⟩ ou nw2 cd2 := fun x => ⟨hi1.hF, hi1.hM, hi1.nwE, hi1.cdE, hi1.hcap, hi1.mtE, hi1.hml, by show (lc ++ [x]).length + M0 ≤ F + 1; rw [List.length_append]; simp; omega⟩
 have hkl : ∀ x : ah_, lc.length < (⟨false, lc ++ [x]⟩ : Sl ah_).l.length := fun x => by simp
 have hl : l.length = 1 := hl
 obtain ⟨q0, rfl⟩ : ∃ q0, l = [q0] := by
  match l, hl with
  | [q0], _ => exact ⟨q0, rfl⟩
 have v0 : VP q0 := hv.kid (by simp)
 have el0 : elt (⟨z, [q0]⟩ : Sl DPattern) 0 = some q0 := rfl
 have dl : decide (0 < ((([q0] : List DPattern).length : Nat) : Int)) = true := by simp
 obtain ⟨b, S', r', g1, g2, g3⟩ := IH M0 (Nat.le_refl _) start nw cd mt ⟨false, lc ++ [⟨⟨21, num, t, ⟨z, [q0]⟩⟩, (c : Int), (k : Int)⟩]⟩ ou nw2 cd2 q0 c lc.length _ n m (hi2 _) v0 hc (hkl _) (sk_ (cs := ⟨zc, lc⟩) (p := ⟨21, num, t, ⟨z, [q0]⟩⟩) rfl hk hK1 (BG_impl_search_match n).1 (BG_impl_search_match n).2) (by omega) (by omega)
 refine ⟨b, NS S', r', ?_, ?_, (g3.trans (M := M0 + 1) (cs := ⟨zc, lc⟩) (by omega) ⟨_, rfl⟩ rfl (Nat.le_refl _) (by show (lc ++ [_]).length + M0 ≤ lc.length + (M0 + 1); rw [List.length_append]; simp; omega)).ns⟩
 ·show ac_ _ _ _ _ _ _ = _
  unfold ac_
  simp only [d1, d2, w1, Int.reduceEq, decide_true, decide_false, Bool.false_eq_true, Bool.not_true, Bool.not_false, if_true, if_false, Option.bind_some, Sum.elim_inl, Sum.elim_inr, dl]
  rw [bgI2]
  unfold aj_
  simp only [d1, d2, w1, Int.reduceEq, decide_true, decide_false, Bool.false_eq_true, Bool.not_true, Bool.not_false, if_true, if_false, Option.bind_some, Sum.elim_inl, Sum.elim_inr, el0, g1]
 ·show af_ _ _ _ _ _ _ = _
  unfold af_
  simp only [d1, d2, w1, Int.reduceEq, decide_true, decide_false, Bool.false_eq_true, Bool.not_true, Bool.not_false, if_true, if_false, Option.bind_some, Sum.elim_inl, Sum.elim_inr, el0, app, wl, g2]
theorem know (hs : s.size ≤ 200) (hi : Inv s F (M0 + 1) nw cd mt cs ou nw2 cd2) (hc : c ≤ s.size) (hk : k < cs.l.length) (hK : KOk Q env s F (M0 + 1) k start Φ cs.l c) (h1 : 2 * M0 + 2 ≤ n) (h2 : M0 * EE + EE ≤ m) (IH : ∀ M1, M1 ≤ M0 → AtOk Q env s F M1) (hv : VP ⟨22, num, t, kids⟩) : ∃ b S' r', (BG_impl_search_match (n + 1)).1 (sI Q env s F ((F : Int) - ((M0 + 1 : Nat) : Int)) start nw cd mt) ⟨22, num, t, kids⟩ (c : Int) Φ = some (b, S') ∧ (BG_spec_l12Run_at (m + 1)).1 (sR Q env s F ((F : Int) - ((M0 + 1 : Nat) : Int)) cs ou nw2 cd2) ⟨22, num, t, kids⟩ (c : Int) (k : Int) = some ((), r') ∧ Post Q env s F b (M0 + 1) start cd cs cd2 S' r' := by
 have hMF := hi.hM
 have hF := hi.hF
 have hcl := hi.hcl
 have w1 : w4 ((F : Int) - ((M0 + 1 : Nat) : Int) + 1) = (F : Int) - M0 := by
  rw [aS_ (by omega) (by omega)]; omega
 have d1 : decide ((F : Int) - ((M0 + 1 : Nat) : Int) = (F : Int)) = false := by simp; omega
 have d2 : decide ((F : Int) ≤ (F : Int) - ((M0 + 1 : Nat) : Int)) = false := by simp; omega
 have hi1 : Inv s F M0 nw cd mt cs ou nw2 cd2 := ⟨hi.hF, by omega, hi.nwE, hi.cdE, hi.hcap, hi.mtE, hi.hml, by omega⟩
 have hK1 : KOk Q env s F M0 k start Φ cs.l c := hK.mono (by omega) ⟨[], by simp⟩ (Nat.le_refl _)
 have hEE : EE = 30002 := rfl
 have hlev : M0 * EE + k + 2 ≤ m := by omega
 have hl : kids.l.length = 1 := by have := hv.node.2.1; exact Int.ofNat.inj this
 obtain ⟨z, l⟩ := kids
 obtain ⟨n, rfl⟩ : ∃ j, n = j + 1 := ⟨n - 1, by omega⟩
 obtain ⟨zc, lc⟩ := cs
 have hlc : lc.length + (M0 + 1) ≤ F + 1 := hcl
 have app : ∀ x : ah_, appS 72 (⟨zc, lc⟩ : Sl ah_) ⟨false, [x]⟩ = some ⟨false, lc ++ [x]⟩ := fun x => bP_ (by omega)
 have wl : ∀ x : ah_, w4 ((((lc ++ [x]).length : Nat) : Int) - 1) = (lc.length : Int) := fun x => by
  rw [List.length_append]; simp only [List.length_cons, List.length_nil]; rw [aS_ (by omega) (by omega)]; omega
 have hi2 : ∀ x : ah_, Inv s F M0 nw cd mt ⟨false, lc ++ [x]⟩ ou nw2 cd2 := fun x => ⟨hi1.hF, hi1.hM, hi1.nwE, hi1.cdE, hi1.hcap, hi1.mtE, hi1.hml, by show (lc ++ [x]).length + M0 ≤ F + 1; rw [List.length_append]; simp; omega⟩
 have hkl : ∀ x : ah_, lc.length < (⟨false, lc ++ [x]⟩ : Sl ah_).l.length := fun x => by simp
 have hl : l.length = 1 := hl
 obtain ⟨q0, rfl⟩ : ∃ q0, l = [q0] := by
  match l, hl with
  | [q0], _ => exact ⟨q0, rfl⟩
 have v0 : VP q0 := hv.kid (by simp)
 have el0 : elt (⟨z, [q0]⟩ : Sl DPattern) 0 = some q0 := rfl
 have dl : decide (0 < ((([q0] : List DPattern).length : Nat) : Int)) = true := by simp
 obtain ⟨b, S', r', g1, g2, g3⟩ := IH M0 (Nat.le_refl _) start nw cd mt ⟨false, lc ++ [⟨⟨22, num, t, ⟨z, [q0]⟩⟩, (c : Int), (k : Int)⟩]⟩ ou nw2 cd2 q0 c lc.length _ n m (hi2 _) v0 hc (hkl _) (un_ (cs := ⟨zc, lc⟩) (p := ⟨22, num, t, ⟨z, [q0]⟩⟩) rfl hk hK1 (BG_impl_search_match n).1 (BG_impl_search_match n).2) (by omega) (by omega)
 refine ⟨b, NS S', r', ?_, ?_, (g3.trans (M := M0 + 1) (cs := ⟨zc, lc⟩) (by omega) ⟨_, rfl⟩ rfl (Nat.le_refl _) (by show (lc ++ [_]).length + M0 ≤ lc.length + (M0 + 1); rw [List.length_append]; simp; omega)).ns⟩
 ·show ac_ _ _ _ _ _ _ = _
  unfold ac_
  simp only [d1, d2, w1, Int.reduceEq, decide_true, decide_false, Bool.false_eq_true, Bool.not_true, Bool.not_false, if_true, if_false, Option.bind_some, Sum.elim_inl, Sum.elim_inr, dl]
  rw [bgI2]
  unfold aj_
  simp only [d1, d2, w1, Int.reduceEq, decide_true, decide_false, Bool.false_eq_true, Bool.not_true, Bool.not_false, if_true, if_false, Option.bind_some, Sum.elim_inl, Sum.elim_inr, el0, g1]
 ·show af_ _ _ _ _ _ _ = _
  unfold af_
  simp only [d1, d2, w1, Int.reduceEq, decide_true, decide_false, Bool.false_eq_true, Bool.not_true, Bool.not_false, if_true, if_false, Option.bind_some, Sum.elim_inl, Sum.elim_inr, el0, app, wl, g2]
theorem sv_ (hs : s.size ≤ 200) (hi : Inv s F (M0 + 1) nw cd mt cs ou nw2 cd2) (hc : c ≤ s.size) (hk : k < cs.l.length) (hK : KOk Q env s F (M0 + 1) k start Φ cs.l c) (h1 : 2 * M0 + 2 ≤ n) (h2 : M0 * EE + EE ≤ m) (IH : ∀ M1, M1 ≤ M0 → AtOk Q env s F M1) (hv : VP ⟨20, num, t, kids⟩) : ∃ b S' r', (BG_impl_search_match (n + 1)).1 (sI Q env s F ((F : Int) - ((M0 + 1 : Nat) : Int)) start nw cd mt) ⟨20, num, t, kids⟩ (c : Int) Φ = some (b, S') ∧ (BG_spec_l12Run_at (m + 1)).1 (sR Q env s F ((F : Int) - ((M0 + 1 : Nat) : Int)) cs ou nw2 cd2) ⟨20, num, t, kids⟩ (c : Int) (k : Int) = some ((), r') ∧ Post Q env s F b (M0 + 1) start cd cs cd2 S' r' := by
 have hMF := hi.hM
 have hF := hi.hF
 have hcl := hi.hcl
 have w1 : w4 ((F : Int) - ((M0 + 1 : Nat) : Int) + 1) = (F : Int) - M0 := by
  rw [aS_ (by omega) (by omega)]; omega
 have d1 : decide ((F : Int) - ((M0 + 1 : Nat) : Int) = (F : Int)) = false := by simp; omega
 have d2 : decide ((F : Int) ≤ (F : Int) - ((M0 + 1 : Nat) : Int)) = false := by simp; omega
 have hi1 : Inv s F M0 nw cd mt cs ou nw2 cd2 := ⟨hi.hF, by omega, hi.nwE, hi.cdE, hi.hcap, hi.mtE, hi.hml, by omega⟩
 have hK1 : KOk Q env s F M0 k start Φ cs.l c := hK.mono (by omega) ⟨[], by simp⟩ (Nat.le_refl _)
 have hEE : EE = 30002 := rfl
 have hlev : M0 * EE + k + 2 ≤ m := by omega
 have hl : kids.l.length = 1 := by have := hv.node.2.1; exact Int.ofNat.inj this
 obtain ⟨z, l⟩ := kids
 obtain ⟨n, rfl⟩ : ∃ j, n = j + 1 := ⟨n - 1, by omega⟩
 obtain ⟨zc, lc⟩ := cs
 have hlc : lc.length + (M0 + 1) ≤ F + 1 := hcl
 have app : ∀ x : ah_, appS 72 (⟨zc, lc⟩ : Sl ah_) ⟨false, [x]⟩ = some ⟨false, lc ++ [x]⟩ := fun x => bP_ (by omega)
 have wl : ∀ x : ah_, w4 ((((lc ++ [x]).length : Nat) : Int) - 1) = (lc.length : Int) := fun x => by
  rw [List.length_append]; simp only [List.length_cons, List.length_nil]; rw [aS_ (by omega) (by omega)]; omega
 have hi2 : ∀ x : ah_, Inv s F M0 nw cd mt ⟨false, lc ++ [x]⟩ ou nw2 cd2 := fun x => ⟨hi1.hF, hi1.hM, hi1.nwE, hi1.cdE, hi1.hcap, hi1.mtE, hi1.hml, by show (lc ++ [x]).length + M0 ≤ F + 1; rw [List.length_append]; simp; omega⟩
 have hkl : ∀ x : ah_, lc.length < (⟨false, lc ++ [x]⟩ : Sl ah_).l.length := fun x => by simp
 have hl : l.length = 1 := hl
 obtain ⟨q0, rfl⟩ : ∃ q0, l = [q0] := by
  match l, hl with
  | [q0], _ => exact ⟨q0, rfl⟩
 have v0 : VP q0 := hv.kid (by simp)
 have el0 : elt (⟨z, [q0]⟩ : Sl DPattern) 0 = some q0 := rfl
 have dl : decide (0 < ((([q0] : List DPattern).length : Nat) : Int)) = true := by simp
 obtain ⟨b, S', r', g1, g2, g3⟩ := hK1 M0 (Nat.le_refl _) nw cd mt ⟨zc, lc⟩ ou nw2 cd2 c m hi1 ⟨[], by simp⟩ (Nat.le_refl _) hc hlev
 cases b with
 | false =>
  refine ⟨false, NS S', r', ?_, ?_, g3.ns.up⟩
  ·show ac_ _ _ _ _ _ _ = _
   unfold ac_
   simp only [d1, d2, w1, Int.reduceEq, decide_true, decide_false, Bool.false_eq_true, Bool.not_true, Bool.not_false, if_true, if_false, Option.bind_some, Sum.elim_inl, Sum.elim_inr, dl]
   rw [bgI2]
   unfold aj_
   simp only [d1, d2, w1, Int.reduceEq, decide_true, decide_false, Bool.false_eq_true, Bool.not_true, Bool.not_false, if_true, if_false, Option.bind_some, Sum.elim_inl, Sum.elim_inr, el0, g1]
  ·have ho := (g3.no rfl).over
   obtain ⟨e_, s_, f_, md_, st_, cs_, ou_, nw_, cd_, fl_, ab_, sp_, co_⟩ := r'
   have ho : ab_ = true ∨ sp_ = true ∨ co_ ≠ 0 := ho
   show af_ _ _ _ _ _ _ = _
   unfold af_
   cases ab_ with
   | true => simp only [d1, d2, w1, Int.reduceEq, decide_true, decide_false, Bool.false_eq_true, Bool.not_true, Bool.not_false, if_true, if_false, Option.bind_some, Sum.elim_inl, Sum.elim_inr, el0, g2]
   | false =>
    cases sp_ with
    | true => simp only [d1, d2, w1, Int.reduceEq, decide_true, decide_false, Bool.false_eq_true, Bool.not_true, Bool.not_false, if_true, if_false, Option.bind_some, Sum.elim_inl, Sum.elim_inr, el0, g2]
    | false =>
     have h3 : decide (co_ = 0) = false := by
      rcases ho with h | h | h
      ·cases h
      ·cases h
      ·simpa using h
     simp only [d1, d2, w1, Int.reduceEq, decide_true, decide_false, Bool.false_eq_true, Bool.not_true, Bool.not_false, if_true, if_false, Option.bind_some, Sum.elim_inl, Sum.elim_inr, el0, g2, h3]
 | true =>
  obtain ⟨M2, nw', cd', mt', cs', ou', nw2', cd2', q1', rfl, rfl, q4, q5⟩ := g3.go rfl
  obtain ⟨x, hx⟩ := g3.hcs
  have hx : cs'.l = lc ++ x := hx
  have hM2 : M2 * EE ≤ M0 * EE := Nat.mul_le_mul_right _ q1'
  have h4 : (cs'.l.length : Int) + ((F : Int) - ((F : Int) - M2)) ≤ lc.length + M0 := g3.c4 rfl
  obtain ⟨z', lc'⟩ := cs'
  have hx : lc' = lc ++ x := hx
  have h4 : (lc'.length : Int) + ((F : Int) - ((F : Int) - M2)) ≤ lc.length + M0 := h4
  have app' : ∀ x : ah_, appS 72 (⟨z', lc'⟩ : Sl ah_) ⟨false, [x]⟩ = some ⟨false, lc' ++ [x]⟩ := fun x => bP_ (by omega)
  have wl' : ∀ x : ah_, w4 ((((lc' ++ [x]).length : Nat) : Int) - 1) = (lc'.length : Int) := fun x => by
   rw [List.length_append]; simp only [List.length_cons, List.length_nil]; rw [aS_ (by omega) (by omega)]; omega
  have hi3 : ∀ x : ah_, Inv s F M2 nw' cd' mt' ⟨false, lc' ++ [x]⟩ ou' nw2' cd2' := fun x => ⟨q4.hF, q4.hM, q4.nwE, q4.cdE, q4.hcap, q4.mtE, q4.hml, by show (lc' ++ [x]).length + M2 ≤ F + 1; rw [List.length_append]; simp; omega⟩
  have hlc' : lc'.length = lc.length + x.length := by rw [hx, List.length_append]
  have hk : k < lc.length := hk
  obtain ⟨b, S', r', u1, u2, u3⟩ := IH M2 q1' start nw' cd' mt' ⟨false, lc' ++ [⟨⟨20, num, t, ⟨z, [q0]⟩⟩, (c : Int), (k : Int)⟩]⟩ ou' nw2' cd2' q0 c lc'.length _ n m (hi3 _) v0 hc (by simp) (qw_ (n := n) (M0 := M2) (cs := ⟨z', lc'⟩) (p := ⟨20, num, t, ⟨z, [q0]⟩⟩) (fun M1 h => IH M1 (by omega)) rfl hv (by show k < lc'.length; omega) (hK1.mono q1' ⟨x, hx⟩ (Nat.le_refl _)) (by omega)) (by omega) (by omega)
  refine ⟨b, NS S', r', ?_, ?_, (u3.trans (M := M0 + 1) (cs := ⟨zc, lc⟩) (cd := cd) (cd2 := cd2) (by omega) ⟨x ++ [⟨⟨20, num, t, ⟨z, [q0]⟩⟩, (c : Int), (k : Int)⟩], by show lc' ++ _ = lc ++ _; rw [hx, List.append_assoc]⟩ q5 g3.c2 (by show (lc' ++ [_]).length + M2 ≤ lc.length + (M0 + 1); rw [List.length_append]; simp; omega)).ns⟩
  ·show ac_ _ _ _ _ _ _ = _
   unfold ac_
   simp only [d1, d2, w1, Int.reduceEq, decide_true, decide_false, Bool.false_eq_true, Bool.not_true, Bool.not_false, if_true, if_false, Option.bind_some, Sum.elim_inl, Sum.elim_inr, dl]
   rw [bgI2]
   unfold aj_
   simp only [d1, d2, w1, Int.reduceEq, decide_true, decide_false, Bool.false_eq_true, Bool.not_true, Bool.not_false, if_true, if_false, Option.bind_some, Sum.elim_inl, Sum.elim_inr, el0, g1, u1]
  ·show af_ _ _ _ _ _ _ = _
   unfold af_
   simp only [d1, d2, w1, Int.reduceEq, decide_true, decide_false, Bool.false_eq_true, Bool.not_true, Bool.not_false, if_true, if_false, Option.bind_some, Sum.elim_inl, Sum.elim_inr, el0, g2, app', wl', u2]
theorem qF_ (hs : s.size ≤ 200) (hi : Inv s F (M0 + 1) nw cd mt cs ou nw2 cd2) (hc : c ≤ s.size) (hk : k < cs.l.length) (hK : KOk Q env s F (M0 + 1) k start Φ cs.l c) (h1 : 2 * M0 + 2 ≤ n) (h2 : M0 * EE + EE ≤ m)  : ∃ b S' r', (BG_impl_search_match (n + 1)).1 (sI Q env s F ((F : Int) - ((M0 + 1 : Nat) : Int)) start nw cd mt) ⟨23, num, t, kids⟩ (c : Int) Φ = some (b, S') ∧ (BG_spec_l12Run_at (m + 1)).1 (sR Q env s F ((F : Int) - ((M0 + 1 : Nat) : Int)) cs ou nw2 cd2) ⟨23, num, t, kids⟩ (c : Int) (k : Int) = some ((), r') ∧ Post Q env s F b (M0 + 1) start cd cs cd2 S' r' := by
 have hMF := hi.hM
 have hF := hi.hF
 have hcl := hi.hcl
 have w1 : w4 ((F : Int) - ((M0 + 1 : Nat) : Int) + 1) = (F : Int) - M0 := by
  rw [aS_ (by omega) (by omega)]; omega
 have d1 : decide ((F : Int) - ((M0 + 1 : Nat) : Int) = (F : Int)) = false := by simp; omega
 have d2 : decide ((F : Int) ≤ (F : Int) - ((M0 + 1 : Nat) : Int)) = false := by simp; omega
 have hi1 : Inv s F M0 nw cd mt cs ou nw2 cd2 := ⟨hi.hF, by omega, hi.nwE, hi.cdE, hi.hcap, hi.mtE, hi.hml, by omega⟩
 have hK1 : KOk Q env s F M0 k start Φ cs.l c := hK.mono (by omega) ⟨[], by simp⟩ (Nat.le_refl _)
 have hEE : EE = 30002 := rfl
 have hlev : M0 * EE + k + 2 ≤ m := by omega
 obtain ⟨z1, l1⟩ := nw; obtain ⟨z2, l2⟩ := nw2
 have hnw : l1.length = l2.length := hi.hnw
 have hcap : l1.length + cd.l.length ≤ 100 := hi.hcap
 have hcd := hi.hcd
 have p1 : ∀ x : DCapture, appS 48 (⟨z1, l1⟩ : Sl DCapture) ⟨false, [x]⟩ = some ⟨false, l1 ++ [x]⟩ := fun x => bP_ (by omega)
 have p2 : ∀ x : DCapture, appS 48 (⟨z2, l2⟩ : Sl DCapture) ⟨false, [x]⟩ = some ⟨false, l2 ++ [x]⟩ := fun x => bP_ (by omega)
 have e1 : ∀ x : DCapture, ((((l1 ++ [x]).length : Nat) : Int) + (cd.l.length : Int)) = (l1.length : Int) + 1 + cd.l.length := fun x => by simp
 have e2 : ∀ x : DCapture, ((((l2 ++ [x]).length : Nat) : Int) + (cd2.l.length : Int)) = (l1.length : Int) + 1 + cd.l.length := fun x => by simp; omega
 have w : w4 ((l1.length : Int) + 1 + cd.l.length) = (l1.length : Int) + 1 + cd.l.length := aS_ (by omega) (by omega)
 by_cases hfull : (100 : Int) < (l1.length : Int) + 1 + cd.l.length
 ·have dF : decide ((100 : Int) < (l1.length : Int) + 1 + cd.l.length) = true := by simpa using hfull
  refine ⟨false, ⟨env, s, F, (F : Int) - M0, start, ⟨false, l1 ++ [⟨t, ⟨#[]⟩, (c : Int), 3⟩]⟩, cd, ⟨true, []⟩, Q.mo, Q.me, T.nilm, 6⟩, ⟨env, s, F, Q.md, (F : Int) - M0, cs, ou, ⟨false, l2 ++ [⟨t, ⟨#[]⟩, (c : Int), 3⟩]⟩, cd2, false, false, false, 6⟩, ?_, ?_, ?_⟩
  ·show ac_ _ _ _ _ _ _ = _
   unfold ac_
   simp only [d1, d2, w1, Int.reduceEq, decide_true, decide_false, Bool.false_eq_true, Bool.not_true, Bool.not_false, if_true, if_false, Option.bind_some, Sum.elim_inl, Sum.elim_inr, p1, e1, w, dF]
  ·show af_ _ _ _ _ _ _ = _
   unfold af_
   simp only [d1, d2, w1, Int.reduceEq, decide_true, decide_false, Bool.false_eq_true, Bool.not_true, Bool.not_false, if_true, if_false, Option.bind_some, Sum.elim_inl, Sum.elim_inr, p2, e2, w, dF]
  ·exact ⟨rfl, ⟨[], by simp⟩, Nat.le_refl _, Nat.le_refl _, (fun h => by cases h), fun _ => .inl ⟨show (6 : Int) ≠ 0 by decide, rfl, rfl⟩, by show cd2.l.length ≤ 200; omega, (fun h => by cases h)⟩
 ·have dF : decide ((100 : Int) < (l1.length : Int) + 1 + cd.l.length) = false := by simpa using hfull
  have hi2 : ∀ x1 : DCapture, Inv s F M0 ⟨false, l1 ++ [x1]⟩ cd mt cs ou ⟨false, l2 ++ [x1]⟩ cd2 := fun x1 => ⟨hi1.hF, hi1.hM, by show l1 ++ [x1] = l2 ++ [x1]; rw [show l1 = l2 from hi1.nwE], hi1.cdE, by simp; omega, hi1.mtE, hi1.hml, hi1.hcl⟩
  obtain ⟨b, S', r', g1, g2, g3⟩ := hK1 M0 (Nat.le_refl _) ⟨false, l1 ++ [⟨t, ⟨#[]⟩, (c : Int), 3⟩]⟩ cd mt cs ou ⟨false, l2 ++ [⟨t, ⟨#[]⟩, (c : Int), 3⟩]⟩ cd2 c m (hi2 _) ⟨[], by simp⟩ (Nat.le_refl _) hc hlev
  refine ⟨b, NS S', r', ?_, ?_, g3.ns.up⟩
  ·show ac_ _ _ _ _ _ _ = _
   unfold ac_
   simp only [d1, d2, w1, Int.reduceEq, decide_true, decide_false, Bool.false_eq_true, Bool.not_true, Bool.not_false, if_true, if_false, Option.bind_some, Sum.elim_inl, Sum.elim_inr, p1, e1, w, dF, g1]
  ·show af_ _ _ _ _ _ _ = _
   unfold af_
   simp only [d1, d2, w1, Int.reduceEq, decide_true, decide_false, Bool.false_eq_true, Bool.not_true, Bool.not_false, if_true, if_false, Option.bind_some, Sum.elim_inl, Sum.elim_inr, p2, e2, w, dF, g2]
theorem rC_ (hs : s.size ≤ 200) (hi : Inv s F (M0 + 1) nw cd mt cs ou nw2 cd2) (hc : c ≤ s.size) (hk : k < cs.l.length) (hK : KOk Q env s F (M0 + 1) k start Φ cs.l c) (h1 : 2 * M0 + 2 ≤ n) (h2 : M0 * EE + EE ≤ m) (IH : ∀ M1, M1 ≤ M0 → AtOk Q env s F M1) (hE : ∀ x ∈ env.l, VP x.Pattern) (hEl : env.l.length ≤ 40) : ∃ b S' r', (BG_impl_search_match (n + 1)).1 (sI Q env s F ((F : Int) - ((M0 + 1 : Nat) : Int)) start nw cd mt) ⟨24, num, t, kids⟩ (c : Int) Φ = some (b, S') ∧ (BG_spec_l12Run_at (m + 1)).1 (sR Q env s F ((F : Int) - ((M0 + 1 : Nat) : Int)) cs ou nw2 cd2) ⟨24, num, t, kids⟩ (c : Int) (k : Int) = some ((), r') ∧ Post Q env s F b (M0 + 1) start cd cs cd2 S' r' := by
 have hMF := hi.hM
 have hF := hi.hF
 have hcl := hi.hcl
 have w1 : w4 ((F : Int) - ((M0 + 1 : Nat) : Int) + 1) = (F : Int) - M0 := by
  rw [aS_ (by omega) (by omega)]; omega
 have d1 : decide ((F : Int) - ((M0 + 1 : Nat) : Int) = (F : Int)) = false := by simp; omega
 have d2 : decide ((F : Int) ≤ (F : Int) - ((M0 + 1 : Nat) : Int)) = false := by simp; omega
 have hi1 : Inv s F M0 nw cd mt cs ou nw2 cd2 := ⟨hi.hF, by omega, hi.nwE, hi.cdE, hi.hcap, hi.mtE, hi.hml, by omega⟩
 have hK1 : KOk Q env s F M0 k start Φ cs.l c := hK.mono (by omega) ⟨[], by simp⟩ (Nat.le_refl _)
 have hEE : EE = 30002 := rfl
 have hlev : M0 * EE + k + 2 ≤ m := by omega
 rcases sh_ env t (by omega) with ⟨i, hlt, he, hl⟩ | ⟨he, hl⟩
 ·have q1 : ce_ env t = some (i : Int) := by
   refine dw_ env t _ ?_
   unfold ci_; rw [hl]; rfl
  have d0 : decide ((i : Int) < 0) = false := by simp
  obtain ⟨b, S', r', g1, g2, g3⟩ := IH M0 (Nat.le_refl _) start nw cd mt cs ou nw2 cd2 env.l[i].Pattern c k Φ n m hi1 (hE _ (List.getElem_mem hlt)) hc hk hK1 (by omega) (by omega)
  refine ⟨b, NS S', r', ?_, ?_, g3.ns.up⟩
  ·show ac_ _ _ _ _ _ _ = _
   unfold ac_
   simp only [d1, d2, w1, Int.reduceEq, decide_true, decide_false, Bool.false_eq_true, Bool.not_true, Bool.not_false, if_true, if_false, Option.bind_some, Sum.elim_inl, Sum.elim_inr, hl, d0, bI_ hlt, g1]
  ·show af_ _ _ _ _ _ _ = _
   unfold af_
   simp only [d1, d2, w1, Int.reduceEq, decide_true, decide_false, Bool.false_eq_true, Bool.not_true, Bool.not_false, if_true, if_false, Option.bind_some, Sum.elim_inl, Sum.elim_inr, q1, d0, bI_ hlt, g2]
 ·have q1 : ce_ env t = some (-1) := by
   refine dw_ env t _ ?_
   unfold ci_; rw [hl]; rfl
  have d0 : decide ((-1 : Int) < 0) = true := by decide
  refine ⟨false, ⟨env, s, F, (F : Int) - M0, start, nw, cd, ⟨true, []⟩, Q.mo, Q.me, T.nilm, 5⟩, ⟨env, s, F, Q.md, (F : Int) - M0, cs, ou, nw2, cd2, false, false, false, 5⟩, ?_, ?_, ?_⟩
  ·show ac_ _ _ _ _ _ _ = _
   unfold ac_
   simp only [d1, d2, w1, Int.reduceEq, decide_true, decide_false, Bool.false_eq_true, Bool.not_true, Bool.not_false, if_true, if_false, Option.bind_some, Sum.elim_inl, Sum.elim_inr, hl, d0]
  ·show af_ _ _ _ _ _ _ = _
   unfold af_
   simp only [d1, d2, w1, Int.reduceEq, decide_true, decide_false, Bool.false_eq_true, Bool.not_true, Bool.not_false, if_true, if_false, Option.bind_some, Sum.elim_inl, Sum.elim_inr, q1, d0]
  ·exact ⟨rfl, ⟨[], by simp⟩, Nat.le_refl _, Nat.le_refl _, (fun h => by cases h), fun _ => .inl ⟨show (5 : Int) ≠ 0 by decide, rfl, rfl⟩, by have := hi.hcap; have := hi.hcd; show cd2.l.length ≤ 200; omega, (fun h => by cases h)⟩
theorem uA_ (hs : s.size ≤ 200) (hi : Inv s F (M0 + 1) nw cd mt cs ou nw2 cd2) (hc : c ≤ s.size) (hk : k < cs.l.length) (hK : KOk Q env s F (M0 + 1) k start Φ cs.l c) (h1 : 2 * M0 + 2 ≤ n) (h2 : M0 * EE + EE ≤ m) {K : Int} (hK11 : 1 ≤ K ∧ K ≤ 11) (hv : VP ⟨K, num, t, kids⟩) : ∃ b S' r', (BG_impl_search_match (n + 1)).1 (sI Q env s F ((F : Int) - ((M0 + 1 : Nat) : Int)) start nw cd mt) ⟨K, num, t, kids⟩ (c : Int) Φ = some (b, S') ∧ (BG_spec_l12Run_at (m + 1)).1 (sR Q env s F ((F : Int) - ((M0 + 1 : Nat) : Int)) cs ou nw2 cd2) ⟨K, num, t, kids⟩ (c : Int) (k : Int) = some ((), r') ∧ Post Q env s F b (M0 + 1) start cd cs cd2 S' r' := by
 have hMF := hi.hM
 have hF := hi.hF
 have hcl := hi.hcl
 have w1 : w4 ((F : Int) - ((M0 + 1 : Nat) : Int) + 1) = (F : Int) - M0 := by
  rw [aS_ (by omega) (by omega)]; omega
 have d1 : decide ((F : Int) - ((M0 + 1 : Nat) : Int) = (F : Int)) = false := by simp; omega
 have d2 : decide ((F : Int) ≤ (F : Int) - ((M0 + 1 : Nat) : Int)) = false := by simp; omega
 have hi1 : Inv s F M0 nw cd mt cs ou nw2 cd2 := ⟨hi.hF, by omega, hi.nwE, hi.cdE, hi.hcap, hi.mtE, hi.hml, by omega⟩
 have hK1 : KOk Q env s F M0 k start Φ cs.l c := hK.mono (by omega) ⟨[], by simp⟩ (Nat.le_refl _)
 have hEE : EE = 30002 := rfl
 have hlev : M0 * EE + k + 2 ≤ m := by omega
 obtain ⟨e, e1, e2, e3⟩ := uP_ ⟨K, num, t, kids⟩ s c hs hc hK11 hv.node.2.2
 have hl : kids.l.length = 0 := by
  have h0 : (kids.l.length : Int) = kidN K := hv.node.2.1
  unfold kidN at h0; rw [if_neg (by omega), if_neg (by omega)] at h0; omega
 have dl : decide (0 < (kids.l.length : Int)) = false := by rw [decide_eq_false_iff_not]; omega
 have e2 : d8_ K num t s (c : Int) = some e := e2
 have hcase : K = 1 ∨ K = 2 ∨ K = 3 ∨ K = 4 ∨ K = 5 ∨ K = 6 ∨ K = 7 ∨ K = 8 ∨ K = 9 ∨ K = 10 ∨ K = 11 := by omega
 by_cases hneg : e < 0
 ·have dn : decide (e < 0) = true := by simpa using hneg
  have dn2 : decide (0 ≤ e) = false := by simp; omega
  refine ⟨true, _, _, ?_, ?_, (e1_ hi1).up⟩
  ·show ac_ _ _ _ _ _ _ = _
   unfold ac_
   rcases hcase with rfl | rfl | rfl | rfl | rfl | rfl | rfl | rfl | rfl | rfl | rfl <;> simp only [d1, d2, w1, Int.reduceEq, decide_true, decide_false, Bool.false_eq_true, Bool.not_true, Bool.not_false, if_true, if_false, Option.bind_some, Sum.elim_inl, Sum.elim_inr, dl, e2, dn]
  ·show af_ _ _ _ _ _ _ = _
   unfold af_
   rcases hcase with rfl | rfl | rfl | rfl | rfl | rfl | rfl | rfl | rfl | rfl | rfl <;> simp only [d1, d2, w1, Int.reduceEq, decide_true, decide_false, Bool.false_eq_true, Bool.not_true, Bool.not_false, if_true, if_false, Option.bind_some, Sum.elim_inl, Sum.elim_inr, e1, dn2]
 ·have dn : decide (e < 0) = false := by simpa using hneg
  have dn2 : decide (0 ≤ e) = true := by simp; omega
  obtain ⟨j, rfl⟩ : ∃ j : Nat, e = j := ⟨e.toNat, by omega⟩
  have e3 := e3.resolve_left hneg
  obtain ⟨b, S', r', g1, g2, g3⟩ := hK1 M0 (Nat.le_refl _) nw cd mt cs ou nw2 cd2 j m hi1 ⟨[], by simp⟩ (by omega) (by omega) hlev
  refine ⟨b, NS S', r', ?_, ?_, g3.ns.up⟩
  ·show ac_ _ _ _ _ _ _ = _
   unfold ac_
   rcases hcase with rfl | rfl | rfl | rfl | rfl | rfl | rfl | rfl | rfl | rfl | rfl <;> simp only [d1, d2, w1, Int.reduceEq, decide_true, decide_false, Bool.false_eq_true, Bool.not_true, Bool.not_false, if_true, if_false, Option.bind_some, Sum.elim_inl, Sum.elim_inr, dl, e2, dn, g1]
  ·show af_ _ _ _ _ _ _ = _
   unfold af_
   rcases hcase with rfl | rfl | rfl | rfl | rfl | rfl | rfl | rfl | rfl | rfl | rfl <;> simp only [d1, d2, w1, Int.reduceEq, decide_true, decide_false, Bool.false_eq_true, Bool.not_true, Bool.not_false, if_true, if_false, Option.bind_some, Sum.elim_inl, Sum.elim_inr, e1, dn2, g2]
theorem ra_ (hs : s.size ≤ 200) (hE : ∀ x ∈ env.l, VP x.Pattern) (hEl : env.l.length ≤ 40) (IH : ∀ M1, M1 ≤ M0 → AtOk Q env s F M1) : AtOk Q env s F (M0 + 1) := by
 intro start nw cd mt cs ou nw2 cd2 p c k Φ n1 n2 hi hv hc hk hK h1 h2
 obtain ⟨n, rfl⟩ : ∃ j, n1 = j + 1 := ⟨n1 - 1, by omega⟩
 obtain ⟨m, rfl⟩ : ∃ j, n2 = j + 1 := ⟨n2 - 1, by omega⟩
 have h1 : 2 * M0 + 2 ≤ n := by omega
 have h2 : M0 * EE + EE ≤ m := by rw [Nat.succ_mul] at h2; omega
 obtain ⟨K, num, t, kids⟩ := p
 have hKr : 1 ≤ K ∧ K ≤ 24 := hv.node.1
 by_cases hK11 : K ≤ 11
 ·exact uA_ hs hi hc hk hK h1 h2 ⟨hKr.1, hK11⟩ hv
 have : K = 12 ∨ K = 13 ∨ K = 14 ∨ K = 15 ∨ K = 16 ∨ K = 17 ∨ K = 18 ∨ K = 19 ∨ K = 20 ∨ K = 21 ∨ K = 22 ∨ K = 23 ∨ K = 24 := by omega
 rcases this with rfl | rfl | rfl | rfl | rfl | rfl | rfl | rfl | rfl | rfl | rfl | rfl | rfl
 ·exact karb hs hi hc hk hK h1 h2
 ·exact kbal hs hi hc hk hK h1 h2
 ·exact rW_ hs hi hc hk hK h1 h2
 ·exact tc_ hs hi hc hk hK h1 h2
 ·exact uo_ hs hi hc hk hK h1 h2
 ·exact ksuc hs hi hc hk hK h1 h2
 ·exact kalt hs hi hc hk hK h1 h2 IH hv
 ·exact kcat hs hi hc hk hK h1 h2 IH hv
 ·exact sv_ hs hi hc hk hK h1 h2 IH hv
 ·exact us_ hs hi hc hk hK h1 h2 IH hv
 ·exact know hs hi hc hk hK h1 h2 IH hv
 ·exact qF_ hs hi hc hk hK h1 h2
 ·exact rC_ hs hi hc hk hK h1 h2 IH hE hEl
theorem rZ_ (hs : s.size ≤ 200) (hE : ∀ x ∈ env.l, VP x.Pattern) (hEl : env.l.length ≤ 40) : ∀ M, AtOk Q env s F M := by
 intro M
 induction M using Nat.strongRecOn with
 | ind M ih =>
  cases M with
  | zero => exact at_zero
  | succ M0 => exact ra_ hs hE hEl fun M1 h => ih M1 (by omega)
end
end Nt
end Go.Am
end
