/- The law. -/
import Derived.Test.YthpmndnnpnojjaaAl0
import Derived.Test.YthpmndnnpnojjaaAg0
section
set_option maxRecDepth 100000
set_option maxHeartbeats 1000000
set_option linter.unusedVariables false
set_option linter.unusedSimpArgs false
namespace Go.Am
def mm_ (x : ac_) : Prop := x.Name.size ≤ maxLen ∧ FitPt x.Pattern
def SmNm (x : ac_) : Prop := x.Name.size ≤ 1048576 ∧ SmPt x.Pattern
def iy_ (s : Sl ac_) : Prop := s.l.length ≤ 1048576 ∧ ∀ x ∈ s.l, SmNm x
def ndN : List ac_ → Nat
 | [] => 0
 | x :: l => nd x.Pattern + ndN l
theorem ndN_len : ∀ l : List ac_, l.length ≤ ndN l
 | [] => by simp
 | x :: l => by have := ndN_len l; have := hi_ x.Pattern; simp only [List.length_cons, ndN]; omega
theorem sG_ (x : ac_) (h : mm_ x) (l : Int) (h0 : 0 ≤ l) (h1 : l ≤ 1048576) : SzN (b4_ x l) l (nd x.Pattern - 1) (SmNm x) := by
 have hm := maxLen_eq; have hb := h.1
 have key : SzN (dm_ x l) l (nd x.Pattern - 1) (SmNm x) := by
  unfold dm_
  rw [cv_ (n := l - (x.Name.size : Int)) (by omega) (by omega)]
  by_cases hc : l - (x.Name.size : Int) < 0
  ·rw [if_pos (by simpa using hc)]; exact .inl rfl
  ·rw [if_neg (by simpa using hc)]
   rcases sz_Pt x.Pattern h.2 (l - (x.Name.size : Int)) (by omega) (by omega) with w | ⟨l', w1, w2, w3, w4⟩
   ·left; rw [w]; rfl
   ·right; rw [w1, Option.bind_some, if_neg (by simp; omega)]
    exact ⟨l', rfl, w2, by omega, by omega, w4⟩
 rcases key with w | ⟨l', w1, w2⟩
 ·exact .inl (f5_ x l _ w)
 ·exact .inr ⟨l', f5_ x l _ w1, w2⟩
theorem qs_ (s : Sl ac_) (h : FitS maxLen mm_ s) (l : Int) (h0 : 0 ≤ l) (h1 : l ≤ 1048576) : SzN (d0_ s l) l (ndN s.l) (iy_ s) := by
 have hm := maxLen_eq; have hn := h.1
 have key : SzN (cQ_ s l) l (ndN s.l) (iy_ s) := by
  unfold cQ_
  rw [cv_ (n := l - (s.l.length : Int)) (by omega) (by omega)]
  by_cases hc : l - (s.l.length : Int) < 0
  ·rw [if_pos (by simpa using hc)]; exact .inl rfl
  ·rw [if_neg (by simpa using hc)]
   suffices H : ∀ (m i : Nat), i + m = s.l.length → ∀ l, 0 ≤ l → l ≤ 1048576 → ax_ (S := (Int × Int)) (R := (Int ⊕ Int)) (fun st1 => (if (decide (st1.2 < (s.l.length : Int))) = true then ((elt s st1.2).bind fun y2 => ((b4_ y2 st1.1).bind fun y3 => (if (decide (y3 < 0)) = true then (some (.inr (.inr (-1)))) else (some (.inl (y3, (w4 (st1.2 + 1)))))))) else (some (.inr (.inl st1.1))))) (l, (i : Int)) = some (.inr (-1)) ∨ ∃ l', ax_ (S := (Int × Int)) (R := (Int ⊕ Int)) (fun st1 => (if (decide (st1.2 < (s.l.length : Int))) = true then ((elt s st1.2).bind fun y2 => ((b4_ y2 st1.1).bind fun y3 => (if (decide (y3 < 0)) = true then (some (.inr (.inr (-1)))) else (some (.inl (y3, (w4 (st1.2 + 1)))))))) else (some (.inr (.inl st1.1))))) (l, (i : Int)) = some (.inl l') ∧ 0 ≤ l' ∧ l' + ((ndN (s.l.drop i) - m : Nat) : Int) ≤ l ∧ ∀ x ∈ s.l.drop i, SmNm x by
    rcases H s.l.length 0 (by simp) (l - (s.l.length : Int)) (by omega) (by omega) with w | ⟨l', w1, w2, w3, w4⟩
    ·left; rw [show ((0 : Nat) : Int) = 0 from rfl] at w; rw [w]; rfl
    ·right; rw [show ((0 : Nat) : Int) = 0 from rfl] at w1; rw [w1]
     have := ndN_len s.l
     exact ⟨l', rfl, w2, by simp only [List.drop_zero] at w3; omega, by omega, by simpa using w4⟩
   intro m
   induction m with
   | zero =>
    intro i hi l h0 h3
    have e : i = s.l.length := by omega
    subst e
    refine .inr ⟨l, ak_ ?_, h0, by simp [ndN], by simp⟩
    show (if (decide ((s.l.length : Int) < (s.l.length : Int))) = true then _ else _) = _
    rw [if_neg (by simp)]
   | succ m ih =>
    intro i hi l h0 h3
    have hlt : i < s.l.length := by omega
    have ec : ((i + 1 : Nat) : Int) = (i : Int) + 1 := by simp
    have hd : s.l.drop i = s.l[i] :: s.l.drop (i + 1) := List.drop_eq_getElem_cons hlt
    have hlen := ndN_len (s.l.drop (i + 1))
    have hp := hi_ s.l[i].Pattern
    simp only [List.length_drop] at hlen
    rcases sG_ s.l[i] (h.2 _ (List.getElem_mem hlt)) l h0 h3 with w | ⟨l1, w1, q1, q2, q3⟩
    ·left; refine ak_ ?_
     show (if (decide ((i : Int) < (s.l.length : Int))) = true then _ else _) = _
     rw [if_pos (by simpa using hlt), bI_ hlt, Option.bind_some, w]; rfl
    ·have hstep : ((fun st1 => (if (decide (st1.2 < (s.l.length : Int))) = true then ((elt s st1.2).bind fun y2 => ((b4_ y2 st1.1).bind fun y3 => (if (decide (y3 < 0)) = true then (some (.inr (.inr (-1)))) else (some (.inl (y3, (w4 (st1.2 + 1)))))))) else (some (.inr (.inl st1.1))))) : Int × Int → Option ((Int × Int) ⊕ (Int ⊕ Int))) (l, (i : Int)) = some (.inl (l1, (i : Int) + 1)) := by
      show (if (decide ((i : Int) < (s.l.length : Int))) = true then _ else _) = _
      rw [if_pos (by simpa using hlt), bI_ hlt, Option.bind_some, w1, Option.bind_some, if_neg (by simp; omega), aT_ (by omega) (by omega)]
     rcases ih (i + 1) (by omega) l1 q1 (by omega) with w | ⟨l2, v1, v2, v3, v4⟩
     ·rw [ec] at w; exact .inl (au_ hstep w)
     ·rw [ec] at v1
      refine .inr ⟨l2, au_ hstep v1, v2, by rw [hd, ndN]; omega, fun x hx => ?_⟩
      rw [hd] at hx
      rcases List.mem_cons.1 hx with e | e
      ·rw [e]; exact q3
      ·exact v4 x e
 rcases key with w | ⟨l', w1, w2⟩
 ·exact .inl (fC_ s l _ w)
 ·exact .inr ⟨l', fC_ s l _ w1, w2⟩
def cpNm (x : ac_) : ac_ := ⟨x.Name, cpPt x.Pattern⟩
def j0_ (s : Sl ac_) : Sl ac_ := ⟨false, s.l.map cpNm⟩
theorem td_ (x : ac_) (h : SmNm x) : eS_ x = some (cpNm x) := by
 refine ip_ x _ ?_
 unfold eT_
 rw [to_Pt _ h.2]; rfl
theorem rP_ (s : Sl ac_) (h : iy_ s) : bN_ s = some (j0_ s) := by
 refine im_ s _ ?_
 unfold eo_
 have hl := h.1
 refine lg_ cpNm hl (by omega) (fun i x t hx hi hit he => ?_) (fun t => by rw [if_neg (by simp)])
 show (if decide ((i : Int) < (s.l.length : Int)) = true then _ else _) = _
 rw [if_pos (by simpa using hi), he]
 simp only [Option.bind_some]
 rw [td_ x (h.2 x hx)]
 simp only [Option.bind_some]
 rw [bI_ hit, aT_ (by omega) (by omega)]; rfl
theorem nV_ {s : Sl ac_} (h : iy_ s) : iy_ (j0_ s) := ⟨by simpa [j0_] using h.1, fun x hx => by
 simp only [j0_, List.mem_map] at hx
 obtain ⟨y, hy, rfl⟩ := hx
 exact ⟨(h.2 y hy).1, Sm_cpPt _ (h.2 y hy).2⟩⟩
theorem ndN_cp : ∀ l : List ac_, ndN (l.map cpNm) = ndN l
 | [] => rfl
 | x :: l => by simp only [List.map_cons, ndN, ndN_cp l]; rw [show (cpNm x).Pattern = cpPt x.Pattern from rfl, nd_cp]
theorem s2_ (x : ac_) (h : SmNm x) : eR_ x x = some true := by
 refine iq_ x x _ ?_
 unfold eL_
 rw [if_neg (by simp), eq_Pt _ _ h.2 (EqPt.rfl' _), Option.bind_some, if_neg (by simp)]
theorem rb_ (s : Sl ac_) (h : iy_ s) : em_ s s = some true := by
 refine hT_ s s _ ?_
 unfold d3_
 have hl := h.1
 exact jW_ (by omega) fun i x hx he => by
  show (elt s (i : Int)).bind _ = _
  simp only [he, Option.bind_some]
  rw [s2_ x (h.2 x hx), Option.bind_some, if_neg (by simp)]
theorem qD_ (s : Sl ac_) (hd : ndN s.l < 1000000000) (hl : (s.l.length : Int) < 1000000000) (k : Int) (h0 : 0 ≤ k) (h1 : k ≤ 4000000000) : ∃ k' t', bK_ s k = some (k', t') ∧ k ≤ k' ∧ k' ≤ k + 4 * (ndN s.l : Int) := by
 suffices H : ∀ (m i : Nat), i + m = s.l.length → ∀ (k : Int) (t : Sl ac_), 0 ≤ k → k + 4 * (ndN (s.l.drop i) : Int) ≤ 8000000000 → t.l.length = s.l.length → t.l.drop i = s.l.drop i →
   ∃ k' t', ax_ (S := (Int × Int × (Sl ac_))) (R := (Int × (Sl ac_))) (fun st1 => (if (decide (st1.2.1 < (st1.2.2.l.length : Int))) = true then ((aJ_ st1.1).bind fun y2 => ((elt st1.2.2 st1.2.1).bind fun y3 => ((elt (setS st1.2.2 st1.2.1 ((⟨y2, y3.Pattern⟩ : ac_) : ac_)) st1.2.1).bind fun y4 => ((elt ((setS (setS st1.2.2 st1.2.1 ((⟨y2, y3.Pattern⟩ : ac_) : ac_)) st1.2.1 ((⟨y4.Name, (⟨(w4 (st1.1 + 1)), y4.Pattern.Num, y4.Pattern.Text, y4.Pattern.Kids⟩ : DPattern)⟩ : ac_) : ac_))) st1.2.1).bind fun y5 => ((aJ_ (w4 ((w4 ((w4 (st1.1 + 1)) + 1)) + 1))).bind fun y6 => ((elt ((setS ((setS (setS st1.2.2 st1.2.1 ((⟨y2, y3.Pattern⟩ : ac_) : ac_)) st1.2.1 ((⟨y4.Name, (⟨(w4 (st1.1 + 1)), y4.Pattern.Num, y4.Pattern.Text, y4.Pattern.Kids⟩ : DPattern)⟩ : ac_) : ac_))) st1.2.1 ((⟨y5.Name, (⟨y5.Pattern.Kind, (w4 ((w4 (st1.1 + 1)) + 1)), y5.Pattern.Text, y5.Pattern.Kids⟩ : DPattern)⟩ : ac_) : ac_))) st1.2.1).bind fun y7 => ((elt ((setS ((setS ((setS (setS st1.2.2 st1.2.1 ((⟨y2, y3.Pattern⟩ : ac_) : ac_)) st1.2.1 ((⟨y4.Name, (⟨(w4 (st1.1 + 1)), y4.Pattern.Num, y4.Pattern.Text, y4.Pattern.Kids⟩ : DPattern)⟩ : ac_) : ac_))) st1.2.1 ((⟨y5.Name, (⟨y5.Pattern.Kind, (w4 ((w4 (st1.1 + 1)) + 1)), y5.Pattern.Text, y5.Pattern.Kids⟩ : DPattern)⟩ : ac_) : ac_))) st1.2.1 ((⟨y7.Name, (⟨y7.Pattern.Kind, y7.Pattern.Num, y6, y7.Pattern.Kids⟩ : DPattern)⟩ : ac_) : ac_))) st1.2.1).bind fun y8 => ((a1_ y8.Pattern.Kids (w4 ((w4 ((w4 ((w4 (st1.1 + 1)) + 1)) + 1)) + 1))).bind fun y9 => (some (.inl (y9.1, (w4 (st1.2.1 + 1)), (setS ((setS ((setS ((setS (setS st1.2.2 st1.2.1 ((⟨y2, y3.Pattern⟩ : ac_) : ac_)) st1.2.1 ((⟨y4.Name, (⟨(w4 (st1.1 + 1)), y4.Pattern.Num, y4.Pattern.Text, y4.Pattern.Kids⟩ : DPattern)⟩ : ac_) : ac_))) st1.2.1 ((⟨y5.Name, (⟨y5.Pattern.Kind, (w4 ((w4 (st1.1 + 1)) + 1)), y5.Pattern.Text, y5.Pattern.Kids⟩ : DPattern)⟩ : ac_) : ac_))) st1.2.1 ((⟨y7.Name, (⟨y7.Pattern.Kind, y7.Pattern.Num, y6, y7.Pattern.Kids⟩ : DPattern)⟩ : ac_) : ac_))) st1.2.1 ((⟨y8.Name, (⟨y8.Pattern.Kind, y8.Pattern.Num, y8.Pattern.Text, y9.2⟩ : DPattern)⟩ : ac_) : ac_))))))))))))) else (some (.inr (st1.1, st1.2.2))))) (k, (i : Int), t) = some (k', t') ∧ k ≤ k' ∧ k' ≤ k + 4 * (ndN (s.l.drop i) : Int) by
  obtain ⟨k', t', q1, q2, q3⟩ := H s.l.length 0 (by simp) k s h0 (by simp only [List.drop_zero]; omega) rfl rfl
  have q1 : ax_ (S := (Int × Int × (Sl ac_))) (R := (Int × (Sl ac_))) (fun st1 => (if (decide (st1.2.1 < (st1.2.2.l.length : Int))) = true then ((aJ_ st1.1).bind fun y2 => ((elt st1.2.2 st1.2.1).bind fun y3 => ((elt (setS st1.2.2 st1.2.1 ((⟨y2, y3.Pattern⟩ : ac_) : ac_)) st1.2.1).bind fun y4 => ((elt ((setS (setS st1.2.2 st1.2.1 ((⟨y2, y3.Pattern⟩ : ac_) : ac_)) st1.2.1 ((⟨y4.Name, (⟨(w4 (st1.1 + 1)), y4.Pattern.Num, y4.Pattern.Text, y4.Pattern.Kids⟩ : DPattern)⟩ : ac_) : ac_))) st1.2.1).bind fun y5 => ((aJ_ (w4 ((w4 ((w4 (st1.1 + 1)) + 1)) + 1))).bind fun y6 => ((elt ((setS ((setS (setS st1.2.2 st1.2.1 ((⟨y2, y3.Pattern⟩ : ac_) : ac_)) st1.2.1 ((⟨y4.Name, (⟨(w4 (st1.1 + 1)), y4.Pattern.Num, y4.Pattern.Text, y4.Pattern.Kids⟩ : DPattern)⟩ : ac_) : ac_))) st1.2.1 ((⟨y5.Name, (⟨y5.Pattern.Kind, (w4 ((w4 (st1.1 + 1)) + 1)), y5.Pattern.Text, y5.Pattern.Kids⟩ : DPattern)⟩ : ac_) : ac_))) st1.2.1).bind fun y7 => ((elt ((setS ((setS ((setS (setS st1.2.2 st1.2.1 ((⟨y2, y3.Pattern⟩ : ac_) : ac_)) st1.2.1 ((⟨y4.Name, (⟨(w4 (st1.1 + 1)), y4.Pattern.Num, y4.Pattern.Text, y4.Pattern.Kids⟩ : DPattern)⟩ : ac_) : ac_))) st1.2.1 ((⟨y5.Name, (⟨y5.Pattern.Kind, (w4 ((w4 (st1.1 + 1)) + 1)), y5.Pattern.Text, y5.Pattern.Kids⟩ : DPattern)⟩ : ac_) : ac_))) st1.2.1 ((⟨y7.Name, (⟨y7.Pattern.Kind, y7.Pattern.Num, y6, y7.Pattern.Kids⟩ : DPattern)⟩ : ac_) : ac_))) st1.2.1).bind fun y8 => ((a1_ y8.Pattern.Kids (w4 ((w4 ((w4 ((w4 (st1.1 + 1)) + 1)) + 1)) + 1))).bind fun y9 => (some (.inl (y9.1, (w4 (st1.2.1 + 1)), (setS ((setS ((setS ((setS (setS st1.2.2 st1.2.1 ((⟨y2, y3.Pattern⟩ : ac_) : ac_)) st1.2.1 ((⟨y4.Name, (⟨(w4 (st1.1 + 1)), y4.Pattern.Num, y4.Pattern.Text, y4.Pattern.Kids⟩ : DPattern)⟩ : ac_) : ac_))) st1.2.1 ((⟨y5.Name, (⟨y5.Pattern.Kind, (w4 ((w4 (st1.1 + 1)) + 1)), y5.Pattern.Text, y5.Pattern.Kids⟩ : DPattern)⟩ : ac_) : ac_))) st1.2.1 ((⟨y7.Name, (⟨y7.Pattern.Kind, y7.Pattern.Num, y6, y7.Pattern.Kids⟩ : DPattern)⟩ : ac_) : ac_))) st1.2.1 ((⟨y8.Name, (⟨y8.Pattern.Kind, y8.Pattern.Num, y8.Pattern.Text, y9.2⟩ : DPattern)⟩ : ac_) : ac_))))))))))))) else (some (.inr (st1.1, st1.2.2))))) (k, 0, s) = some (k', t') := q1
  exact ⟨k', t', by unfold bK_; rw [q1]; rfl, q2, by simpa using q3⟩
 intro m
 induction m with
 | zero =>
  intro i hi k t h0 h1 ht hdr
  have e : i = s.l.length := by omega
  subst e
  refine ⟨k, t, ak_ ?_, by omega, by omega⟩
  show (if decide ((s.l.length : Int) < (t.l.length : Int)) = true then _ else _) = _
  rw [if_neg (by simp [ht])]
 | succ m ih =>
  intro i hi k t h0 h1 ht hdr
  have his : i < s.l.length := by omega
  have hit : i < t.l.length := by omega
  have hds : s.l.drop i = s.l[i] :: s.l.drop (i + 1) := List.drop_eq_getElem_cons his
  have hdt : t.l.drop i = t.l[i] :: t.l.drop (i + 1) := List.drop_eq_getElem_cons hit
  have hti : t.l[i] = s.l[i] := by rw [hdt, hds] at hdr; injection hdr
  have hdr1 : t.l.drop (i + 1) = s.l.drop (i + 1) := by rw [hdt, hds] at hdr; injection hdr
  rw [hds, ndN, hs_] at h1
  have hx : elt t (i : Int) = some s.l[i] := by rw [bI_ hit, hti]
  generalize hpd : s.l[i] = p at hx h1 hds
  have hkl := ndL_len p.Pattern.Kids.l
  obtain ⟨k1, x1, m1, m2, g1, a1, b1⟩ := mh_PtS bigN p.Pattern.Kids (by unfold bigN; omega) (by omega) (k + 4) (by omega) (by omega)
  obtain ⟨w, hw⟩ := gl_ k h0 (by omega)
  obtain ⟨w', hw'⟩ := gl_ (k + 3) (by omega) (by omega)
  have W1 : w4 (k + 1) = k + 1 := aT_ (by omega) (by omega)
  have W2 : w4 (k + 1 + 1) = k + 2 := by rw [aT_ (by omega) (by omega)]; omega
  have W3 : w4 (k + 2 + 1) = k + 3 := by rw [aT_ (by omega) (by omega)]; omega
  have W4 : w4 (k + 3 + 1) = k + 4 := by rw [aT_ (by omega) (by omega)]; omega
  have WI : w4 ((i : Int) + 1) = (i : Int) + 1 := aT_ (by omega) (by omega)
  have m1 : a1_ p.Pattern.Kids (k + 4) = some (k1, x1) := m1
  obtain ⟨X, hX⟩ : ∃ X : ac_, X = ⟨w, ⟨k + 1, k + 2, w', x1⟩⟩ := ⟨_, rfl⟩
  obtain ⟨k2, t2, r1, r5, r6⟩ := ih (i + 1) (by omega) k1 (setS t (i : Int) X) (by omega) (by omega) (by simp [ht]) (by
   rw [← hdr1]
   simp only [setS, Int.toNat_natCast]
   rw [List.drop_set_of_lt (by omega)])
  have ec : ((i + 1 : Nat) : Int) = (i : Int) + 1 := by simp
  rw [ec] at r1
  refine ⟨k2, t2, au_ (s' := (k1, (i : Int) + 1, setS t (i : Int) X)) ?_ r1, by omega, by rw [hds, ndN, hs_]; omega⟩
  show (if decide ((i : Int) < (t.l.length : Int)) = true then _ else _) = _
  rw [if_pos (by simpa using hit)]
  simp only [hx, Option.bind_some, k6_, mN_ hit, W1, W2, W3, W4, hw, hw', m1, WI, hX]
theorem rf_ {d : Nat} {ts : List T} (h : Shp Go.Proofs.Try.prog d 88 ts) : ∃ x : ac_, ts = ac_.cells x ∧ mm_ x := by
 obtain ⟨d, g⟩ := lV_ (by kernel_rfl) h
 rw [show (ca_ Go.Proofs.Try.prog 88).map (·.type) = [9, 51] from by kernel_rfl] at g
 obtain ⟨a0, t0, rfl, -, q0, g⟩ := g
 obtain ⟨x0, rfl, b0⟩ := kQ_ q0
 obtain ⟨a1, t1, rfl, -, q1, g⟩ := g
 obtain ⟨x1, rfl, b1⟩ := dec_Pt q1
 cases g
 exact ⟨⟨x0, x1⟩, by rw [DPattern.enc_eq]; rfl, b0, b1⟩
theorem oP_ {d : Nat} {ts : List T} (h : Shp Go.Proofs.Try.prog d 35 ts) : ∃ x : Sl ac_, ts = [Sl.t x] ∧ FitS maxLen mm_ x :=
 qT_ (kt := by kernel_rfl) (he := by kernel_rfl) (fun d ts h => rf_ h) h
end Go.Am
end
