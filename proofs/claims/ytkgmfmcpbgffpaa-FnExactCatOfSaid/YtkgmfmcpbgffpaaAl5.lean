/- The law. -/
import Derived.Test.YtkgmfmcpbgffpaaAg0
import Derived.Test.YtkgmfmcpbgffpaaAl4
section
set_option maxRecDepth 100000
set_option maxHeartbeats 2000000
set_option linter.unusedVariables false
set_option linter.unusedSimpArgs false
namespace Go.Am
theorem ndL_app : ∀ a b : List DPattern, ndL (a ++ b) = ndL a + ndL b
 | [], b => by simp [ndL]
 | p :: a, b => by rw [List.cons_append, ndL, ndL, ndL_app a b]; omega
theorem max1 (a b : Int) : c4_ a b = some (if b < a then a else b) := by
 refine gM_ a b _ ?_
 unfold dh_
 by_cases h : b < a
 ·rw [if_pos (by simpa using h), if_pos h]
 ·rw [if_neg (by simpa using h), if_neg h]
theorem k5_ (c : Sl DPattern) (hs : ∀ p ∈ c.l, SmPt p) (hl : c.l.length ≤ 1048576) : ∃ w1 w2 : DPattern × Bool, dy_ c = some w1 ∧ cF_ c = some w2 ∧ w2.2 = w1.2 ∧ EqPt w2.1 w1.1 ∧ SmPt w2.1 ∧ (nd w2.1 : Int) ≤ 60 := by
 suffices key : ∃ w1 w2 : DPattern × Bool, cA_ c = some w1 ∧ cE_ c = some w2 ∧ w2.2 = w1.2 ∧ EqPt w2.1 w1.1 ∧ SmPt w2.1 ∧ (nd w2.1 : Int) ≤ 60 by
  obtain ⟨w1, w2, h1, h2, h3⟩ := key
  exact ⟨w1, w2, hn_ c w1 h1, ht_ c w2 h2, h3⟩
 have hz : (nd zeroPt : Int) ≤ 60 := by rw [eA_]; decide
 have no : ∃ w1 w2 : DPattern × Bool, some (zeroPt, false) = some w1 ∧ some (zeroPt, false) = some w2 ∧ w2.2 = w1.2 ∧ EqPt w2.1 w1.1 ∧ SmPt w2.1 ∧ (nd w2.1 : Int) ≤ 60 := ⟨_, _, rfl, rfl, rfl, EqPt.rfl' _, Sm_zero, hz⟩
 have ha := jz_ c hs hl
 unfold cA_ cE_
 have nt : (!true) = false := rfl
 have nf : (!false) = true := rfl
 by_cases h60 : c.l.length ≤ 60
 rotate_left
 ·have k60 : decide (60 < (c.l.length : Int)) = true := by simp; omega
  have k0 : decide ((c.l.length : Int) = 0) = false := by simp; intro h; rw [h] at h60; simp at h60
  simp only [k60, k0, ha, Option.bind_some, if_true, Bool.false_eq_true, if_false]
  by_cases hv : ∀ p ∈ c.l, VPat p
  ·simp only [bl_ hv, nt, Bool.false_eq_true, if_false, Option.bind_some]; exact no
  ·simp only [aK_ hv, nf, if_true, Option.bind_some]; exact no
 have k60 : decide (60 < (c.l.length : Int)) = false := by simp; omega
 simp only [k60, Bool.false_eq_true, if_false, max1, Option.bind_some, w64 (x := (c.l.length : Int) - 1) (by omega) (by omega)]
 generalize hn0 : (if (0 : Int) < (c.l.length : Int) - 1 then (c.l.length : Int) - 1 else 0) = n0
 have hb0 : 0 ≤ n0 ∧ n0 ≤ 60 ∧ n0 = ((c.l.length - 1 : Nat) : Int) := by
  subst hn0; split <;> omega
 obtain ⟨q1, q2⟩ := k1_ hs h60 (b := fun st1 => (if (decide (st1.2 < (c.l.length : Int))) = true then ((elt c st1.2).bind fun y4 => ((an_ y4 60).bind fun y5 => (if (decide (y5 < 0)) = true then (some (.inr (.inr ()))) else (some (.inl ((w4 (st1.1 + y5)), (w4 (st1.2 + 1)))))))) else (some (.inr (.inl st1.1))))) (fun _ _ => rfl) n0 hb0.1 hb0.2.1
 by_cases hv : ∀ p ∈ c.l, VPat p
 rotate_left
 ·have k0 : decide ((c.l.length : Int) = 0) = false := by
   simp; intro h0; apply hv; intro p hp; rw [h0] at hp; cases hp
  rw [q2 hv]
  simp only [Option.bind_some, Sum.elim_inr, ha, aK_ hv, nf, k0, Bool.false_eq_true, if_true, if_false]; exact no
 rw [q1 hv, ha, bl_ hv]
 simp only [Sum.elim_inl, Option.bind_some, nt, Bool.false_eq_true, if_false]
 by_cases h0 : c.l.length = 0
 ·have hnil : c.l = [] := List.length_eq_zero_iff.1 h0
  have hnd : ndL c.l = 0 := by rw [hnil]; rfl
  have k0 : decide ((c.l.length : Int) = 0) = true := by simp [h0]
  have kn : decide (60 < n0 + (ndL c.l : Int)) = false := by simp; omega
  simp only [k0, kn, if_true, Bool.false_eq_true, if_false, Option.bind_some]
  exact ⟨_, _, rfl, rfl, rfl, EqPt.rfl' _, .mk (by show (0 : Nat) ≤ _; omega) (by show (0 : Nat) ≤ _; omega) fun q hq => (by cases hq), by rw [eA_]; decide⟩
 have k0 : decide ((c.l.length : Int) = 0) = false := by simp; intro h; rw [h] at h0; exact h0 rfl
 obtain ⟨m, hm⟩ : ∃ m, c.l.length = m + 1 := ⟨c.l.length - 1, by omega⟩
 have hlast : m < c.l.length := by omega
 have em : (c.l.length : Int) - 1 = (m : Int) := by omega
 have hsl := hs _ (List.getElem_mem hlast)
 have hvl := hv _ (List.getElem_mem hlast)
 have hsp : c.l = c.l.take m ++ [c.l[m]] := by rw [← List.take_succ_eq_append_getElem hlast, List.take_of_length_le (by omega)]
 have hndl : ndL c.l = ndL (c.l.take m) + nd c.l[m] := by
  conv => lhs; rw [hsp]
  rw [ndL_app, ndL, ndL]; omega
 have hmem : ∀ p ∈ c.l.take m, p ∈ c.l := fun p hp => List.mem_of_mem_take hp
 have hlen : (c.l.take m).length = m := by rw [List.length_take]; omega
 -- the program
 obtain ⟨o2, ho2⟩ : ∃ o2, o2 = jn 19 cpPt (c.l.take m) (cpPt c.l[m]) := ⟨_, rfl⟩
 have hV : VP o2 := by rw [ho2]; exact ol_ (by omega) (VP_cp _ hvl.1) _ fun p hp => VP_cp _ (hv p (hmem p hp)).1
 have hS : SmPt o2 := by rw [ho2]; exact on_ (Sm_cpPt _ hsl) _ fun p hp => Sm_cpPt _ (hs p (hmem p hp))
 have hN : nd o2 = m + ndL c.l := by rw [ho2, nF_ nd_cp, hlen, nd_cp, hndl]; omega
 have sub : subS c 0 (m : Int) = some ⟨c.z, c.l.take m⟩ := by unfold subS; rw [if_pos (by omega)]; simp
 have hb2 : ka_ (S := (Int × Int × ByteArray × (Sl DPattern))) (⟨c.z, c.l.take m⟩ : Sl DPattern) (fun i1 y7 st1 => ((ar_ y7).bind fun y8 => (some (19, 0, ⟨#[]⟩, (⟨false, [y8, (⟨st1.1, st1.2.1, st1.2.2.1, st1.2.2.2⟩ : DPattern)]⟩ : Sl DPattern))))) ((cpPt c.l[m]).Kind, (cpPt c.l[m]).Num, (cpPt c.l[m]).Text, (cpPt c.l[m]).Kids) = some (tupP o2) := by
  unfold ka_
  rw [if_pos (by show (c.l.take m).length < _; omega)]
  have := l8_ (c := ⟨c.z, c.l.take m⟩) (k := 19) (fun p hp => hs p (hmem p hp)) m (by show m ≤ (c.l.take m).length; omega) (cpPt c.l[m])
  have h2 : (c.l.take m).take m = c.l.take m := by rw [List.take_take, Nat.min_self]
  show he_ _ (c.l.take m) (c.l.take m).length _ = _
  have this : he_ _ (c.l.take m) m (tupP (cpPt c.l[m])) = some (tupP (jn 19 cpPt ((c.l.take m).take m) (cpPt c.l[m]))) := this
  rw [h2] at this
  rw [hlen, ho2]; exact this
 simp only [em, k0, Bool.false_eq_true, if_false, ct_ hlast, sub, Option.bind_some, copy2 _ hsl, hb2]
 rw [show (⟨(tupP o2).1, (tupP o2).2.1, (tupP o2).2.2.1, (tupP o2).2.2.2⟩ : DPattern) = o2 by cases o2; rfl, n6_ o2 hS]
 by_cases hc : m + ndL c.l ≤ 60
 rotate_left
 ·have kn : decide (60 < n0 + (ndL c.l : Int)) = true := by simp; omega
  have hnv : ¬ VPat o2 := fun h => hc (by have := h.2; rw [hN] at this; omega)
  rw [aK_ hnv]
  simp only [kn, if_true, Option.bind_some, nf]; exact no
 have kn : decide (60 < n0 + (ndL c.l : Int)) = false := by simp; omega
 have hyv : VPat o2 := ⟨hV, by rw [hN]; omega⟩
 rw [bl_ hyv]
 have e2 : w4 ((c.l.length : Int) - 2) = (m : Int) - 1 := by rw [w64 (by omega) (by omega)]; omega
 have hsx := ml_ (c := c) (k := 19) hs h60 (b := fun st2 => (if (decide (0 ≤ st2.1)) = true then ((elt c st2.1).bind fun y9 => ((aq_ y9).bind fun y10 => (some (.inl ((w4 (st2.1 - 1)), 19, 0, ⟨#[]⟩, (⟨false, [y10, (⟨st2.2.1, st2.2.2.1, st2.2.2.2.1, st2.2.2.2.2⟩ : DPattern)]⟩ : Sl DPattern)))))) else (some (.inr (st2.2.1, st2.2.2.1, st2.2.2.2.1, st2.2.2.2.2))))) (fun _ _ _ _ _ => rfl) m (by omega) (csPt c.l[m])
 have hsx : au_ _ ((m : Int) - 1, (csPt c.l[m]).Kind, (csPt c.l[m]).Num, (csPt c.l[m]).Text, (csPt c.l[m]).Kids) = _ := hsx
 simp only [kn, Bool.false_eq_true, if_false, Option.bind_some, (kR_ hsl).1, e2, hsx, nt]
 refine ⟨(jn 19 csPt (c.l.take m) (csPt c.l[m]), true), (o2, true), by cases h : jn 19 csPt (c.l.take m) (csPt c.l[m]); rfl, by cases o2; rfl, rfl, ?_, hS, by rw [hN]; omega⟩
 show EqPt o2 _
 rw [ho2]
 exact oC_ (kR_ hsl).2 _ fun p hp => (kR_ (hs p (hmem p hp))).2
theorem k7_ (a : Sl DPattern) (h : FitS maxLen FitPt a) : cf_ a = some true := by
 refine d0_ a _ ?_
 unfold bu_
 rcases lT_ a h.1 (fun q hq => sz_Pt q (h.2 q hq)) 1048576 (by omega) (by omega) with e | ⟨l', e, h0, hl', hs⟩
 ·rw [e]; rfl
 obtain ⟨c, hc⟩ : ∃ c : Sl DPattern, c = ⟨false, a.l.map cpPt⟩ := ⟨_, rfl⟩
 have hcl : c.l.length = a.l.length := by rw [hc]; simp
 have hcs : ∀ p ∈ c.l, SmPt p := fun p hp => by
  rw [hc] at hp
  obtain ⟨q, hq, rfl⟩ := List.mem_map.1 hp
  exact Sm_cpPt _ (hs.2 q hq)
 have hcn : ndL c.l = ndL a.l := by
  rw [hc]
  show ndL (a.l.map cpPt) = _
  generalize a.l = l
  induction l with
  | nil => rfl
  | cons p l ih => rw [List.map_cons, ndL, ndL, ih, nd_cp]
 have eto : ay_ a = some c := by rw [lE_ a hs.1 (fun q hq => to_Pt q (hs.2 q hq)), hc]
 obtain ⟨w1, w2, e1, e2, e3, e4, e5, e6⟩ := k5_ c hcs (by omega)
 have e7 := eq_Pt _ _ e5 e4
 have e8 : aW_ c c = some true := lQ_ c c rfl (by omega) fun i x y hx hy => by
  rw [hx] at hy; injection hy with hy; subst hy
  exact eq_Pt x x (hcs x (List.mem_of_getElem? hx)) (EqPt.rfl' x)
 obtain ⟨k, t, m1, m2, m3, m4, m5⟩ := mh_PtS bigN c (by unfold bigN; omega) (by omega) 1 (by omega) (by omega)
 have m1 : aM_ c 1 = some (k, t) := m1
 have hnd := eA_ w2.1
 have hlen := ndL_len w2.1.Kids.l
 obtain ⟨k2, t2, n1, n2, n3, n4, n5⟩ := mh_PtS bigN w2.1.Kids (by unfold bigN; omega) (by omega) 1 (by omega) (by omega)
 have n1 : aM_ w2.1.Kids 1 = some (k2, t2) := n1
 have hk0 : decide (l' < 0) = false := by simp; omega
 have hk1 : decide (k < 0) = false := by simp; omega
 have hk2 : decide (k2 < 0) = false := by simp; omega
 have mk : aP_ w2.1 1 = some (k2, ⟨w2.1.Kind, w2.1.Num, w2.1.Text, t2⟩) := by
  unfold aP_; rw [n1]; rfl
 have hd : a9_ (⟨w2.1.Kind, w2.1.Num, w2.1.Text, t2⟩ : DPattern) 1 = some k2 := by
  refine ee_ _ _ _ ?_
  unfold bJ_
  show ((ax_ t2 1).bind _) = _
  rw [n3, Option.bind_some, hk2]; rfl
 simp only [e, eto, e1, e2, e7, e8, m1, mk, hd, Option.bind_some, hk0, hk1, hk2, e3]
 simp
theorem lZ_ {d : Nat} {ts : List T} (h : Shp Go.Proofs.Try.prog d 35 ts) : ∃ x : Sl DPattern, ts = [Sl.t x] ∧ FitS maxLen FitPt x := by
 cases d with
 | zero => exact h.elim
 | succ d => exact jl_ (kt := by kernel_rfl) (he := by kernel_rfl) (fun ts h => dec_Pt h) h
theorem law_FnExactCatOf {fu0 : Nat} {t0 : T} (h0 : Shp Go.Proofs.Try.prog fu0 35 [t0]) : ∃ σ', run Go.Proofs.Try.prog md ext 5 [t0] St.empty = some (.bool true, σ') := by
 obtain ⟨a, e0, ha⟩ := lZ_ h0
 injection e0 with e0; subst e0
 exact ⟨_, dG_ (k7_ a ha) St.empty⟩
end Go.Am
end
