/- The law. -/
import Derived.Test.YtkgmfmcpbgffpaaAg0
import Derived.Test.YtkgmfmcpbgffpaaAl8
import Derived.Test.YtkgmfmcpbgffpaaAl16
import Derived.Test.YtkgmfmcpbgffpaaAl17
section
set_option maxRecDepth 100000
set_option maxHeartbeats 2000000
set_option linter.unusedVariables false
set_option linter.unusedSimpArgs false
namespace Go.Am
theorem kw_ {α : Type} {l : List α} {i : Nat} {x : α} (h : i < l.length) (e : l[i]? = some x) : l[i] = x := by rw [List.getElem?_eq_getElem h] at e; exact Option.some.inj e
theorem Sm_of_VP : ∀ p, VP p → SmPt p := by
 refine cg_ fun p ih h => ?_
 obtain ⟨h1, h2, h3⟩ := h.node
 have hk : (p.Kids.l.length : Int) ≤ 2 := by rw [h2]; unfold kidN; split <;> (try split) <;> omega
 have ht : p.Text.size ≤ 1048576 := by
  unfold ArgP at h3
  split at h3
  ·have := h3.2.1; omega
  ·split at h3
   ·rw [h3.1]; decide
   ·split at h3
    ·have := h3.2.2.1; omega
    ·rw [h3.2]; decide
 exact .mk ht (by omega) fun q hq => ih q hq (h.kid hq)
theorem fB_ {K : Int} (hK : K = 18 ∨ K = 19) {Z : Int} (c : Sl DPattern) (hs : ∀ p ∈ c.l, SmPt p) (hv : ∀ p ∈ c.l, VPat p) {m : Nat} (hm : c.l.length = m + 1) (h60 : m + ndL c.l ≤ 60) (hz : c.l.length ≤ 60) :
  (((if (decide ((c.l.length : Int) = 0)) = true then (some (Z, 0, ⟨#[]⟩, true, (⟨true, []⟩ : Sl DPattern))) else ((aI_ c (T.fn 53 [] [])).bind fun y2 => (if (!y2) = true then (some (0, 0, ⟨#[]⟩, false, (⟨true, []⟩ : Sl DPattern))) else (if (decide (60 < (c.l.length : Int))) = true then (some (0, 0, ⟨#[]⟩, false, (⟨true, []⟩ : Sl DPattern))) else ((elt c (w4 ((c.l.length : Int) - 1))).bind fun y3 => ((ak_ y3).bind fun y4 => ((subS c 0 (w4 ((c.l.length : Int) - 1))).bind fun y5 => ((im_ (S := (Int × Int × ByteArray × (Sl DPattern))) y5 (fun i1 y7 st1 => ((ak_ y7).bind fun y8 => (some (K, 0, ⟨#[]⟩, (⟨false, [y8, (⟨st1.1, st1.2.1, st1.2.2.1, st1.2.2.2⟩ : DPattern)]⟩ : Sl DPattern))))) (y4.Kind, y4.Num, y4.Text, y4.Kids)).bind fun y6 => ((ay_ (⟨y6.1, y6.2.1, y6.2.2.1, y6.2.2.2⟩ : DPattern)).bind fun y9 => (if (!y9) = true then (some (0, 0, ⟨#[]⟩, false, (⟨true, []⟩ : Sl DPattern))) else (some (y6.1, y6.2.1, y6.2.2.1, true, y6.2.2.2)))))))))))) : Option (Int × Int × ByteArray × Bool × (Sl DPattern))).bind fun y1 => (some ((⟨y1.1, y1.2.1, y1.2.2.1, y1.2.2.2.2⟩ : DPattern), y1.2.2.2.1))) =
   some (jn K cpPt (c.l.take m) (cpPt (c.l[m]'(by omega))), true) ∧ VPat (jn K cpPt (c.l.take m) (cpPt (c.l[m]'(by omega)))) ∧ nd (jn K cpPt (c.l.take m) (cpPt (c.l[m]'(by omega)))) = m + ndL c.l := by
 have nt : (!true) = false := rfl
 have k60 : decide (60 < (c.l.length : Int)) = false := by simp; omega
 have k0 : decide ((c.l.length : Int) = 0) = false := by simp; intro h; rw [h] at hm; simp at hm
 have hlast : m < c.l.length := by omega
 have em : w4 ((c.l.length : Int) - 1) = (m : Int) := by rw [w64 (by omega) (by omega)]; omega
 have hsl := hs _ (List.getElem_mem hlast)
 have hvl := hv _ (List.getElem_mem hlast)
 have hsp : c.l = c.l.take m ++ [c.l[m]] := by rw [← List.take_succ_eq_append_getElem hlast, List.take_of_length_le (by omega)]
 have app : ∀ a b : List DPattern, ndL (a ++ b) = ndL a + ndL b := fun a b => by
  induction a with
  | nil => simp [ndL]
  | cons p a ih => rw [List.cons_append, ndL, ndL, ih]; omega
 have hndl : ndL c.l = ndL (c.l.take m) + nd c.l[m] := by
  conv => lhs; rw [hsp]
  rw [app, ndL, ndL]; omega
 have hmem : ∀ p ∈ c.l.take m, p ∈ c.l := fun p hp => List.mem_of_mem_take hp
 have hlen : (c.l.take m).length = m := by rw [List.length_take]; omega
 obtain ⟨o2, ho2⟩ : ∃ o2, o2 = jn K cpPt (c.l.take m) (cpPt c.l[m]) := ⟨_, rfl⟩
 rw [← ho2]
 have hV : VP o2 := by rw [ho2]; exact nL_ hK (VP_cp _ hvl.1) _ fun p hp => VP_cp _ (hv p (hmem p hp)).1
 have hS : SmPt o2 := by rw [ho2]; exact pg_ (Sm_cpPt _ hsl) _ fun p hp => Sm_cpPt _ (hs p (hmem p hp))
 have hN : nd o2 = m + ndL c.l := by rw [ho2, or_ nd_cp, hlen, nd_cp, hndl]; omega
 have sub : subS c 0 (m : Int) = some ⟨c.z, c.l.take m⟩ := by unfold subS; rw [if_pos (by omega)]; simp
 have hb2 : im_ (S := (Int × Int × ByteArray × (Sl DPattern))) (⟨c.z, c.l.take m⟩ : Sl DPattern) (fun i1 y7 st1 => ((ak_ y7).bind fun y8 => (some (K, 0, ⟨#[]⟩, (⟨false, [y8, (⟨st1.1, st1.2.1, st1.2.2.1, st1.2.2.2⟩ : DPattern)]⟩ : Sl DPattern))))) ((cpPt c.l[m]).Kind, (cpPt c.l[m]).Num, (cpPt c.l[m]).Text, (cpPt c.l[m]).Kids) = some (tupP o2) := by
  unfold im_
  rw [if_pos (by show (c.l.take m).length < _; omega)]
  have := mN_ (c := ⟨c.z, c.l.take m⟩) (k := K) (fun p hp => hs p (hmem p hp)) m (by show m ≤ (c.l.take m).length; omega) (cpPt c.l[m])
  have h2 : (c.l.take m).take m = c.l.take m := by rw [List.take_take, Nat.min_self]
  show hi_ _ (c.l.take m) (c.l.take m).length _ = _
  have this : hi_ _ (c.l.take m) m (tupP (cpPt c.l[m])) = some (tupP (jn K cpPt ((c.l.take m).take m) (cpPt c.l[m]))) := this
  rw [h2] at this
  rw [hlen, ho2]; exact this
 have hyv : VPat o2 := ⟨hV, by rw [hN]; omega⟩
 refine ⟨?_, hyv, hN⟩
 simp only [em, k60, k0, jS_ c hs (by omega), bQ_ hv, nt, Bool.false_eq_true, if_false, bl_ hlast, sub, Option.bind_some, copy2 _ hsl, hb2]
 rw [show (⟨(tupP o2).1, (tupP o2).2.1, (tupP o2).2.2.1, (tupP o2).2.2.2⟩ : DPattern) = o2 by cases o2; rfl, m3_ o2 hS, bQ_ hyv]
 simp only [nt, Bool.false_eq_true, if_false, Option.bind_some]
 cases o2; rfl
theorem addL {R : Type} {names : Sl ByteArray} {more : Sl ByteArray} (hn : names.l.length + more.l.length ≤ 1000000)
  {b3 : Sl ByteArray → Int → Bool × Int → Option ((Bool × Int) ⊕ Bool)} (h3 : ∀ t k q j, b3 t k (q, j) = (if (decide (j < (t.l.length : Int))) = true then (if q = true then (some (.inl (true, (w4 (j + 1))))) else ((elt t j).bind fun y13 => ((elt more k).bind fun y14 => (some (.inl ((decide (y13 = y14)), (w4 (j + 1)))))))) else (some (.inr q))))
  {b : Int × Sl ByteArray → Option ((Int × Sl ByteArray) ⊕ Sl ByteArray)} (hb : ∀ k t, b (k, t) = (if (decide (k < (more.l.length : Int))) = true then ((aC_ (b3 t k) (false, 0)).bind fun y12 => (if (!y12) = true then ((elt more k).bind fun y15 => ((appS 16 t (⟨false, [y15]⟩ : Sl ByteArray)).bind fun y16 => (some (.inl ((w4 (k + 1)), y16))))) else (some (.inl ((w4 (k + 1)), t))))) else (some (.inr t)))) :
  ∃ s, aC_ b (0, names) = some s ∧ s.l = aR_ names.l more.l := by
 have inner : ∀ (t : Sl ByteArray) (k : Nat) (hk : k < more.l.length), t.l.length ≤ 1000000 → aC_ (b3 t (k : Int)) (false, 0) = some (says (more.l[k] ∈ t.l)) := by
  intro t k hk ht
  have H : ∀ (m i : Nat), i + m = t.l.length → ∀ q : Bool, (q = true ↔ more.l[k] ∈ t.l.take i) → aC_ (b3 t (k : Int)) (q, (i : Int)) = some (says (more.l[k] ∈ t.l)) := by
   intro m
   induction m with
   | zero =>
    intro i hi q hq
    have e : i = t.l.length := by omega
    subst e
    rw [List.take_length] at hq
    rw [ar_ (r := q) (by rw [h3, if_neg (by simp)])]
    by_cases h : more.l[k] ∈ t.l
    ·rw [bQ_ h, hq.2 h]
    ·rw [bC_ h]
     cases q with
     | true => exact absurd (hq.1 rfl) h
     | false => rfl
   | succ m ih =>
    intro i hi q hq
    have hlt : i < t.l.length := by omega
    have ec : ((i + 1 : Nat) : Int) = (i : Int) + 1 := by simp
    have hw : w4 ((i : Int) + 1) = (i : Int) + 1 := ct_ (by omega) (by omega)
    cases q with
    | true =>
     have := ih (i + 1) (by omega) true ⟨fun _ => by
      rw [List.take_succ_eq_append_getElem hlt]; exact List.mem_append_left _ (hq.1 rfl), fun _ => rfl⟩
     rw [ec] at this
     exact aw_ (by rw [h3, if_pos (by simpa using hlt), if_pos rfl, hw]) this
    | false =>
     have hno : more.l[k] ∉ t.l.take i := fun h => by have := hq.2 h; cases this
     have := ih (i + 1) (by omega) (decide (t.l[i] = more.l[k])) (by
      rw [List.take_succ_eq_append_getElem hlt, List.mem_append, List.mem_singleton, decide_eq_true_eq]
      exact ⟨fun h => .inr h.symm, fun h => by
       rcases h with h | h
       ·exact absurd h hno
       ·exact h.symm⟩)
     rw [ec] at this
     exact aw_ (by rw [h3, if_pos (by simpa using hlt), if_neg (by simp), bl_ hlt, Option.bind_some, bl_ hk, Option.bind_some, hw]) this
  exact H t.l.length 0 (by omega) false (by simp)
 have H : ∀ (m k : Nat), k + m = more.l.length → ∀ t : Sl ByteArray, t.l.length + m ≤ 1000000 → ∃ s, aC_ b ((k : Int), t) = some s ∧ s.l = aR_ t.l (more.l.drop k) := by
  intro m
  induction m with
  | zero =>
   intro k hk t ht
   have e : k = more.l.length := by omega
   subst e
   exact ⟨t, ar_ (by rw [hb, if_neg (by simp)]), by simp [aR_]⟩
  | succ m ih =>
   intro k hk t ht
   have hlt : k < more.l.length := by omega
   have ec : ((k + 1 : Nat) : Int) = (k : Int) + 1 := by simp
   have hw : w4 ((k : Int) + 1) = (k : Int) + 1 := ct_ (by omega) (by omega)
   have hd : more.l.drop k = more.l[k] :: more.l.drop (k + 1) := List.drop_eq_getElem_cons hlt
   have hi := inner t k hlt (by omega)
   by_cases hm : more.l[k] ∈ t.l
   ·obtain ⟨s, q1, q2⟩ := ih (k + 1) (by omega) t (by omega)
    rw [ec] at q1
    refine ⟨s, aw_ (by rw [hb, if_pos (by simpa using hlt), hi, bQ_ hm, Option.bind_some, if_neg (by simp), hw]) q1, ?_⟩
    rw [q2, hd]
    show _ = aR_ (stp t.l more.l[k]) _
    rw [stp, if_pos hm]
   ·obtain ⟨z, l⟩ := t
    have ht : l.length + (m + 1) ≤ 1000000 := ht
    obtain ⟨s, q1, q2⟩ := ih (k + 1) (by omega) ⟨false, l ++ [more.l[k]]⟩ (by show (l ++ [more.l[k]]).length + m ≤ _; simp; omega)
    rw [ec] at q1
    refine ⟨s, aw_ (by rw [hb, if_pos (by simpa using hlt), hi, bC_ hm, Option.bind_some, if_pos (by simp), bl_ hlt, Option.bind_some, d0_ (by omega), Option.bind_some, hw]) q1, ?_⟩
    rw [q2, hd]
    show _ = aR_ (stp l more.l[k]) _
    have hm : more.l[k] ∉ l := hm
    rw [stp, if_neg hm]
 obtain ⟨s, q1, q2⟩ := H more.l.length 0 (by omega) names (by omega)
 exact ⟨s, q1, by simpa using q2⟩
theorem iv_ (a : Sl (Iv .u8)) (ha : ∀ x ∈ a.l, 0 ≤ x.v ∧ x.v ≤ 255) : bS_ a = some true := by
 refine dB_ a _ ?_
 unfold bf_
 by_cases hs : 1048576 < (a.l.length : Int)
 ·rw [if_pos (by simpa using hs)]
 rw [if_neg (by simpa using hs)]
 obtain ⟨p1, c1, v1, _, n1⟩ := fI_ a ⟨ha, by omega⟩
 obtain ⟨m2, d2, e2⟩ := lQ_ 1 a ha (by omega)
 obtain ⟨p2, c2, v2, _, n2⟩ := fI_ m2 e2
 obtain ⟨m3, d3, e3⟩ := lQ_ 2 a ha (by omega)
 obtain ⟨p3, c3, v3, _, n3⟩ := fI_ m3 e3
 have s1 := Sm_of_VP _ v1; have s2 := Sm_of_VP _ v2; have s3 := Sm_of_VP _ v3
 have V1 : VPat p1 := ⟨v1, by omega⟩
 have V2 : VPat p2 := ⟨v2, by omega⟩
 have V3 : VPat p3 := ⟨v3, by omega⟩
 rw [c1, Option.bind_some, d2, Option.bind_some, c2, Option.bind_some, d3, Option.bind_some, c3, Option.bind_some]
 obtain ⟨c, hc⟩ : ∃ c : Sl DPattern, c = ⟨false, [p1, p2, p3]⟩ := ⟨_, rfl⟩
 have hcl : c.l = [p1, p2, p3] := by rw [hc]
 have hlen : c.l.length = 3 := by rw [hcl]; rfl
 have hsm : ∀ p ∈ c.l, SmPt p := fun p hp => by
  rw [hcl] at hp; simp only [List.mem_cons, List.not_mem_nil, or_false] at hp
  rcases hp with rfl | rfl | rfl <;> assumption
 have hvp : ∀ p ∈ c.l, VPat p := fun p hp => by
  rw [hcl] at hp; simp only [List.mem_cons, List.not_mem_nil, or_false] at hp
  rcases hp with rfl | rfl | rfl <;> assumption
 have hnd : ndL c.l = nd p1 + (nd p2 + nd p3) := by rw [hcl]; simp [ndL]
 obtain ⟨g1, h1, k1⟩ := fp_ p1 s1 V1
 obtain ⟨g2, h2, k2⟩ := fp_ p2 s2 V2
 obtain ⟨g3, h3, k3⟩ := fp_ p3 s3 V3
 have L : ∀ {p : DPattern} {g : Sl ByteArray}, g.l = aR_ [] (ns p) → nd p ≤ 7 → g.l.length ≤ 7 := fun {p g} hg hn => by
  have := addAll_len (ns p) []; have := ns_len p; rw [hg]; simp at *; omega
 have l1 := L k1 n1; have l2 := L k2 n2; have l3 := L k3 n3
 obtain ⟨b, hb⟩ : ∃ b : Int × Int × Sl ByteArray → Option ((Int × Int × Sl ByteArray) ⊕ (Int × Sl ByteArray)), b = (fun st1 => (if (decide (st1.2.1 < ((⟨false, [p1, p2, p3]⟩ : Sl DPattern).l.length : Int))) = true then ((elt (⟨false, [p1, p2, p3]⟩ : Sl DPattern) st1.2.1).bind fun y7 => ((aB_ y7).bind fun y8 => ((elt (⟨false, [p1, p2, p3]⟩ : Sl DPattern) st1.2.1).bind fun y9 => ((ax_ y9).bind fun y10 => ((aC_ (S := (Int × (Sl ByteArray))) (R := (Sl ByteArray)) (fun st2 => (if (decide (st2.1 < (y10.l.length : Int))) = true then ((aC_ (S := (Bool × Int)) (R := Bool) (fun st3 => (if (decide (st3.2 < (st2.2.l.length : Int))) = true then (if st3.1 = true then (some (.inl (true, (w4 (st3.2 + 1))))) else ((elt st2.2 st3.2).bind fun y13 => ((elt y10 st2.1).bind fun y14 => (some (.inl ((decide (y13 = y14)), (w4 (st3.2 + 1)))))))) else (some (.inr st3.1)))) (false, 0)).bind fun y12 => (if (!y12) = true then ((elt y10 st2.1).bind fun y15 => ((appS 16 st2.2 (⟨false, [y15]⟩ : Sl ByteArray)).bind fun y16 => (some (.inl ((w4 (st2.1 + 1)), y16))))) else (some (.inl ((w4 (st2.1 + 1)), st2.2))))) else (some (.inr st2.2)))) (0, st1.2.2)).bind fun y11 => (some (.inl ((w4 (st1.1 + y8)), (w4 (st1.2.1 + 1)), y11)))))))) else (some (.inr (st1.1, st1.2.2))))) := ⟨_, rfl⟩
 rw [← hb]
 have one : ∀ (i : Nat) (p : DPattern) (g t : Sl ByteArray) (n : Int), i < 3 → c.l[i]? = some p → nd p ≤ 7 → ax_ p = some g → g.l.length ≤ 7 → t.l.length ≤ 100 → 0 ≤ n → n ≤ 100 →
   ∃ t', b (n, (i : Int), t) = some (.inl (n + (nd p : Int), (i : Int) + 1, t')) ∧ t'.l = aR_ t.l g.l := by
  intro i p g t n hi hp hn hg hgl ht h0 h1
  obtain ⟨t', q1, q2⟩ := addL (R := Unit) (names := t) (more := g) (by omega) (b3 := fun t k st3 => (if (decide (st3.2 < (t.l.length : Int))) = true then (if st3.1 = true then (some (.inl (true, (w4 (st3.2 + 1))))) else ((elt t st3.2).bind fun y13 => ((elt g k).bind fun y14 => (some (.inl ((decide (y13 = y14)), (w4 (st3.2 + 1)))))))) else (some (.inr st3.1)))) (fun _ _ _ _ => rfl)
   (b := fun st2 => (if (decide (st2.1 < (g.l.length : Int))) = true then ((aC_ (S := (Bool × Int)) (R := Bool) (fun st3 => (if (decide (st3.2 < (st2.2.l.length : Int))) = true then (if st3.1 = true then (some (.inl (true, (w4 (st3.2 + 1))))) else ((elt st2.2 st3.2).bind fun y13 => ((elt g st2.1).bind fun y14 => (some (.inl ((decide (y13 = y14)), (w4 (st3.2 + 1)))))))) else (some (.inr st3.1)))) (false, 0)).bind fun y12 => (if (!y12) = true then ((elt g st2.1).bind fun y15 => ((appS 16 st2.2 (⟨false, [y15]⟩ : Sl ByteArray)).bind fun y16 => (some (.inl ((w4 (st2.1 + 1)), y16))))) else (some (.inl ((w4 (st2.1 + 1)), st2.2))))) else (some (.inr st2.2)))) (fun _ _ => rfl)
  refine ⟨t', ?_, q2⟩
  have he : elt (⟨false, [p1, p2, p3]⟩ : Sl DPattern) (i : Int) = some p := by rw [← hc]; exact kW_ hp
  rw [hb]
  show (if (decide ((i : Int) < (([p1, p2, p3] : List DPattern).length : Int))) = true then _ else _) = _
  rw [if_pos (by simp; omega)]
  simp only [he, Option.bind_some, nodes_ok p (by omega), hg, q1]
  rw [ct_ (n := n + _) (by omega) (by omega), ct_ (by omega) (by omega)]
 obtain ⟨t1, a1, r1⟩ := one 0 p1 g1 ⟨false, []⟩ 0 (by omega) (by rw [hcl]; rfl) n1 h1 l1 (by simp) (by omega) (by omega)
 have z1 : t1.l.length ≤ 7 := by rw [r1]; show (aR_ [] g1.l).length ≤ 7; have := addAll_len g1.l []; simp at this; omega
 obtain ⟨t2, a2, r2⟩ := one 1 p2 g2 t1 (nd p1 : Int) (by omega) (by rw [hcl]; rfl) n2 h2 l2 (by omega) (by omega) (by omega)
 have z2 : t2.l.length ≤ 14 := by rw [r2]; have := addAll_len g2.l t1.l; omega
 obtain ⟨t3, a3, r3⟩ := one 2 p3 g3 t2 ((nd p1 : Int) + (nd p2 : Int)) (by omega) (by rw [hcl]; rfl) n3 h3 l3 (by omega) (by omega) (by omega)
 have z3 : t3.l.length ≤ 21 := by rw [r3]; have := addAll_len g3.l t2.l; omega
 have hloop : aC_ b (0, 0, (⟨false, []⟩ : Sl ByteArray)) = some ((nd p1 : Int) + (nd p2 : Int) + (nd p3 : Int), t3) := by
  refine aw_ (by have := a1; simpa using this) (aw_ (by have := a2; simpa using this) (aw_ (by have := a3; simpa using this) (ar_ ?_)))
  rw [hb]; rfl
 rw [hloop, Option.bind_some]
 have hN : t3.l = aR_ [] (ns p1 ++ (ns p2 ++ ns p3)) := by
  rw [r3, r2, r1, k1, k2, k3]
  simp only [eu_, d6_]
  rfl
 -- the chains
 obtain ⟨j1, j2, j3⟩ := fB_ (K := 19) (.inr rfl) (Z := 1) c hsm hvp (m := 2) (by omega) (by omega) (by omega)
 obtain ⟨i1, i2, i3⟩ := fB_ (K := 18) (.inl rfl) (Z := 16) c hsm hvp (m := 2) (by omega) (by omega) (by omega)
 have hlast : ∀ h, c.l[2]'h = p3 := fun h => kw_ h (by rw [hcl]; rfl)
 have htake : c.l.take 2 = [p1, p2] := by rw [hcl]; rfl
 have ecat : b8_ c = some (jn 19 cpPt [p1, p2] (cpPt p3), true) := by
  have := e4_ c _ (by unfold cJ_; exact j1)
  rw [this, hlast, htake]
 have ealt : dS_ c = some (jn 18 cpPt [p1, p2] (cpPt p3), true) := by
  have := hu_ c _ (by unfold dC_; exact i1)
  rw [this, hlast, htake]
 rw [hlast, htake] at j2 j3 i2 i3
 obtain ⟨d, hd⟩ : ∃ d : Sl DPattern, d = ⟨false, [p1]⟩ := ⟨_, rfl⟩
 have hdl : d.l = [p1] := by rw [hd]
 have hdn : d.l.length = 1 := by rw [hdl]; rfl
 obtain ⟨o1, o2, o3⟩ := fB_ (K := 19) (.inr rfl) (Z := 1) d (fun p hp => by rw [hdl, List.mem_singleton] at hp; rw [hp]; exact s1) (fun p hp => by rw [hdl, List.mem_singleton] at hp; rw [hp]; exact V1) (m := 0) (by omega) (by rw [hdl]; simp [ndL]; omega) (by omega)
 have hone : ∀ h, d.l[0]'h = p1 := fun h => kw_ h (by rw [hdl]; rfl)
 have eone : b8_ d = some (cpPt p1, true) := by
  have := e4_ d _ (by unfold cJ_; exact o1)
  rw [this, hone]; rfl
 have ecut : cutS (⟨false, [p1, p2, p3]⟩ : Sl DPattern) 1 = some d := by rw [hd]; rfl
 have ename : ∃ g, ax_ (jn 19 cpPt [p1, p2] (cpPt p3)) = some g ∧ g.l = t3.l := by
  obtain ⟨g, q1, q2⟩ := fp_ _ (Sm_of_VP _ j2.1) j2
  refine ⟨g, q1, ?_⟩
  rw [q2, hN]
  show aR_ [] (ns (⟨19, 0, ⟨#[]⟩, ⟨false, [cpPt p1, ⟨19, 0, ⟨#[]⟩, ⟨false, [cpPt p2, cpPt p3]⟩⟩]⟩⟩ : DPattern)) = _
  simp only [ns, nsL, ns_cp, List.append_nil]
  simp
 obtain ⟨g, hg1, hg2⟩ := ename
 have e5 := nodes_ok _ (by rw [j3]; omega : ((nd (jn 19 cpPt [p1, p2] (cpPt p3)) : Nat) : Int) ≤ 1000000)
 have e6 := nodes_ok _ (by rw [i3]; omega : ((nd (jn 18 cpPt [p1, p2] (cpPt p3)) : Nat) : Int) ≤ 1000000)
 have e7 : elt (⟨false, [p1, p2, p3]⟩ : Sl DPattern) 0 = some p1 := rfl
 have e8 := same_pat (cpPt p1) (Sm_cpPt _ s1) p1 (eq_cpPt p1)
 have ew : w4 ((nd p1 : Int) + (nd p2 : Int) + (nd p3 : Int) + 2) = (nd p1 : Int) + (nd p2 : Int) + (nd p3 : Int) + 2 := ct_ (by omega) (by omega)
 have ej : ((nd (jn 19 cpPt [p1, p2] (cpPt p3)) : Nat) : Int) = (nd p1 : Int) + (nd p2 : Int) + (nd p3 : Int) + 2 := by rw [j3, hnd]; omega
 have ei : ((nd (jn 18 cpPt [p1, p2] (cpPt p3)) : Nat) : Int) = (nd p1 : Int) + (nd p2 : Int) + (nd p3 : Int) + 2 := by rw [i3, hnd]; omega
 rw [← hc, ecat, Option.bind_some, ealt, Option.bind_some, hc, ecut, Option.bind_some, eone, Option.bind_some, hg1, Option.bind_some]
 simp only [Bool.not_true, Bool.false_eq_true, if_false, e5, e6, Option.bind_some, ew, ej, ei, decide_true, e7, e8, hg2]
 rw [Sml.count_loop (n := t3.l.length) (r := .inl ()) (fun i hi => ?_) (by rw [if_neg (by simp)])]
 ·rfl
 ·have e9 := bl_ (s := g) (i := i) (by rw [hg2]; exact hi)
  have e10 := bl_ (s := t3) hi
  rw [if_pos (by simpa using hi), e9, Option.bind_some, e10, Option.bind_some]
  have : g.l[i]'(by rw [hg2]; exact hi) = t3.l[i] := kw_ _ (by rw [hg2]; exact List.getElem?_eq_getElem hi)
  rw [this, if_neg (by simp), ct_ (by omega) (by omega)]
theorem law_FnPatternChains {fu0 : Nat} {t0 : T} (h0 : Shp Go.Proofs.Try.prog fu0 22 [t0]) : ∃ σ', run Go.Proofs.Try.prog md ext 3 [t0] St.empty = some (.bool true, σ') := by
 obtain ⟨a, e0, ha⟩ := jf_ h0
 injection e0 with e0; subst e0
 exact ⟨_, dL_ (iv_ a ha.2) St.empty⟩
end Go.Am
end
