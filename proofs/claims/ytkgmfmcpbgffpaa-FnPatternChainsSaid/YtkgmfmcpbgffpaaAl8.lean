/- The law. -/
import Derived.Test.YtkgmfmcpbgffpaaAg0
import Derived.Test.YtkgmfmcpbgffpaaAg1
import Derived.Test.YtkgmfmcpbgffpaaAl4
import Derived.Test.YtkgmfmcpbgffpaaAl7
section
set_option maxRecDepth 100000
set_option maxHeartbeats 1000000
set_option linter.unusedVariables false
set_option linter.unusedSimpArgs false
namespace Go.Am
mutual
/-- All names that a pattern defers to, in order, again and again. -/
def ns : DPattern → List ByteArray
 | ⟨k, _, t, ⟨_, l⟩⟩ => (if k = 24 then [t] else []) ++ nsL l
def nsL : List DPattern → List ByteArray
 | [] => []
 | p :: l => ns p ++ nsL l
end
theorem la_ (p : DPattern) : ns p = (if p.Kind = 24 then [p.Text] else []) ++ nsL p.Kids.l := by obtain ⟨k, n, t, ⟨z, l⟩⟩ := p; rw [ns]
theorem ns_cp : ∀ p, ns (cpPt p) = ns p := by
 refine cg_ fun p ih => ?_
 rw [la_ (cpPt p), la_ p, dj_]
 show _ ++ nsL (p.Kids.l.map cpPt) = _
 congr 1
 revert ih
 generalize p.Kids.l = l
 intro ih
 induction l with
 | nil => rfl
 | cons q l ih2 => rw [List.map_cons, nsL, nsL, ih q (by simp), ih2 fun r hr => ih r (by simp [hr])]
theorem ns_len : ∀ p, (ns p).length ≤ nd p := by
 refine cg_ fun p ih => ?_
 rw [la_, eQ_, List.length_append]
 have h1 : (if p.Kind = 24 then [p.Text] else []).length ≤ 1 := by split <;> simp
 have h2 : (nsL p.Kids.l).length ≤ ndL p.Kids.l := by
  revert ih
  generalize p.Kids.l = l
  intro ih
  induction l with
  | nil => exact Nat.le_refl _
  | cons q l ih2 =>
   have := ih q (by simp)
   have := ih2 fun r hr => ih r (by simp [hr])
   rw [nsL, ndL, List.length_append]; omega
 omega
open Classical in
noncomputable def stp (l : List ByteArray) (x : ByteArray) : List ByteArray := if x ∈ l then l else l ++ [x]
noncomputable def aR_ (l xs : List ByteArray) : List ByteArray := xs.foldl stp l
theorem d6_ (l a b : List ByteArray) : aR_ l (a ++ b) = aR_ (aR_ l a) b := List.foldl_append ..
theorem mj_ {l : List ByteArray} {x y : ByteArray} (h : y ∈ l) : y ∈ stp l x := by
 unfold stp; split
 ·exact h
 ·exact List.mem_append_left _ h
theorem lC_ (l : List ByteArray) (x : ByteArray) : x ∈ stp l x := by
 unfold stp; split
 ·assumption
 ·simp
theorem gz_ {y : ByteArray} : ∀ (xs : List ByteArray) {l : List ByteArray}, y ∈ l → y ∈ aR_ l xs
 | [], _, h => h
 | x :: xs, _, h => gz_ xs (mj_ h)
theorem gi_ {y : ByteArray} : ∀ (xs : List ByteArray) {l : List ByteArray}, y ∈ xs → y ∈ aR_ l xs
 | [], _, h => by cases h
 | x :: xs, l, h => by
  rcases List.mem_cons.1 h with rfl | h
  ·exact gz_ xs (lC_ l _)
  ·exact gi_ xs h
theorem addAll_len : ∀ (xs l : List ByteArray), (aR_ l xs).length ≤ l.length + xs.length
 | [], l => by simp [aR_]
 | x :: xs, l => by
  have := addAll_len xs (stp l x)
  have h2 : (stp l x).length ≤ l.length + 1 := by unfold stp; split <;> simp
  show (aR_ (stp l x) xs).length ≤ _
  simp only [List.length_cons]; omega
theorem eu_ (l : List ByteArray) : ∀ (xs m : List ByteArray), aR_ l (aR_ m xs) = aR_ (aR_ l m) xs
 | [], m => rfl
 | x :: xs, m => by
  show aR_ l (aR_ (stp m x) xs) = aR_ (stp (aR_ l m) x) xs
  rw [eu_ l xs (stp m x)]
  congr 1
  by_cases h : x ∈ m
  ·have h2 : x ∈ aR_ l m := gi_ m h
   rw [stp, if_pos h, stp, if_pos h2]
  ·rw [stp, if_neg h, d6_]; rfl
theorem i9_ (s : Sl ByteArray) (v : ByteArray) (hl : s.l.length ≤ 2097160) : aK_ s v = some (says (v ∈ s.l)) := by
 have hi : ∃ r : Int, bq_ s v = some r ∧ (0 ≤ r ↔ v ∈ s.l) := by
  have H : ∀ (b : Int → Option (Int ⊕ (Unit ⊕ Int))), (∀ k, b k = (if (decide (k < (s.l.length : Int))) = true then ((elt s k).bind fun y2 => (if (decide (v = y2)) = true then (some (.inr (.inr k))) else (some (.inl (w4 (k + 1)))))) else (some (.inr (.inl ()))))) → ∀ (m i : Nat), i + m = s.l.length → ∃ r : Int, ((aC_ b (i : Int)).bind fun y1 => (Sum.elim (fun y1 => (some (-1))) (fun y1 => (some y1)) y1)) = some r ∧ (0 ≤ r ↔ v ∈ s.l.drop i) := by
   intro b hb m
   induction m with
   | zero =>
    intro i hi
    have e : i = s.l.length := by omega
    subst e
    exact ⟨-1, by rw [ar_ (r := .inl ()) (by rw [hb, if_neg (by simp)])]; rfl, by simp⟩
   | succ m ih =>
    intro i hi
    have hlt : i < s.l.length := by omega
    have hd : s.l.drop i = s.l[i] :: s.l.drop (i + 1) := List.drop_eq_getElem_cons hlt
    by_cases he : v = s.l[i]
    ·refine ⟨(i : Int), ?_, ?_⟩
     ·rw [ar_ (r := .inr (i : Int)) (by rw [hb, if_pos (by simpa using hlt), bl_ hlt, Option.bind_some, if_pos (by simpa using he)])]; rfl
     ·rw [hd]; exact ⟨fun _ => by rw [he]; exact List.Mem.head _, fun _ => by omega⟩
    ·obtain ⟨r, h1, h2⟩ := ih (i + 1) (by omega)
     have ec : ((i + 1 : Nat) : Int) = (i : Int) + 1 := by simp
     rw [ec] at h1
     obtain ⟨y, hy, h1⟩ := Option.bind_eq_some_iff.1 h1
     refine ⟨r, ?_, ?_⟩
     ·rw [aw_ (s' := (i : Int) + 1) (by rw [hb, if_pos (by simpa using hlt), bl_ hlt, Option.bind_some, if_neg (by simpa using he), ct_ (by omega) (by omega)]) hy]; exact h1
     ·rw [h2, hd]
      exact ⟨fun h => List.Mem.tail _ h, fun h => by
       rcases List.mem_cons.1 h with h | h
       ·exact absurd h he
       ·exact h⟩
  obtain ⟨r, h1, h2⟩ := H _ (fun _ => rfl) s.l.length 0 (by omega)
  exact ⟨r, dR_ s v _ (by unfold bj_; exact h1), by simpa using h2⟩
 obtain ⟨r, h1, h2⟩ := hi
 refine c9_ s v _ ?_
 unfold a5_
 rw [h1, Option.bind_some]
 by_cases h : v ∈ s.l
 ·rw [bQ_ h]; simp [h2.2 h]
 ·rw [bC_ h]
  have : ¬ 0 ≤ r := fun h3 => h (h2.1 h3)
  simp [this]
theorem defer_n : ∀ n p (s : Sl ByteArray), nd p ≤ n → s.l.length + nd p ≤ 1000000 → ∃ s', BG_impl_Pattern_deferred n p s = some s' ∧ s'.l = aR_ s.l (ns p) := by
 intro n
 induction n with
 | zero => intro p s h; have := hh_ p; omega
 | succ n ih =>
  intro p s hn hl
  show ∃ s', aA_ (BG_impl_Pattern_deferred n) p s = some s' ∧ _
  unfold aA_
  have hp := eQ_ p
  have hkl := ndL_len p.Kids.l
  have hsl : s.l.length ≤ 2097160 := by omega
  obtain ⟨s1, h1, h2⟩ : ∃ s1 : Sl ByteArray, (((if (decide (p.Kind = 24)) = true then ((aK_ s p.Text).bind fun y7 => (some (!y7))) else (some false)) : Option Bool).bind fun y1 => ((if y1 = true then ((appS 16 s (⟨false, [p.Text]⟩ : Sl ByteArray)).bind fun y6 => (some y6)) else (some s)) : Option (Sl ByteArray))) = some s1 ∧ s1.l = aR_ s.l (if p.Kind = 24 then [p.Text] else []) := by
   by_cases hk : p.Kind = 24
   ·rw [if_pos (by simpa using hk), i9_ s _ hsl, if_pos hk]
    by_cases hm : p.Text ∈ s.l
    ·refine ⟨s, by rw [bQ_ hm]; rfl, ?_⟩
     show s.l = stp s.l p.Text
     rw [stp, if_pos hm]
    ·obtain ⟨z, l⟩ := s
     refine ⟨⟨false, l ++ [p.Text]⟩, ?_, ?_⟩
     ·rw [bC_ hm]
      show ((appS 16 (⟨z, l⟩ : Sl ByteArray) ⟨false, [p.Text]⟩).bind fun y6 => some y6) = _
      have hl : l.length + nd p ≤ 1000000 := hl
      rw [d0_ (by omega)]; rfl
     ·show l ++ [p.Text] = stp l p.Text
      rw [stp, if_neg hm]
   ·exact ⟨s, by rw [if_neg (by simpa using hk)]; rfl, by rw [if_neg hk]; rfl⟩
  obtain ⟨y1, hy1, h1⟩ := Option.bind_eq_some_iff.1 h1
  rw [hy1, Option.bind_some, h1, Option.bind_some]
  have hl1 : s1.l.length + ndL p.Kids.l ≤ 1000000 := by
   have := addAll_len (if p.Kind = 24 then [p.Text] else []) s.l
   rw [h2]
   have : (if p.Kind = 24 then [p.Text] else []).length ≤ 1 := by split <;> simp
   omega
  suffices H : ∀ (m i : Nat), i + m = p.Kids.l.length → ∀ t : Sl ByteArray, t.l.length + ndL (p.Kids.l.drop i) ≤ 1000000 → ∃ s', aC_ (S := (Int × (Sl ByteArray))) (R := (Sl ByteArray)) (fun st1 => (if (decide (st1.1 < (p.Kids.l.length : Int))) = true then ((elt p.Kids st1.1).bind fun y4 => ((BG_impl_Pattern_deferred n y4 st1.2).bind fun y5 => (some (.inl ((w4 (st1.1 + 1)), y5))))) else (some (.inr st1.2)))) ((i : Int), t) = some s' ∧ s'.l = aR_ t.l (nsL (p.Kids.l.drop i)) by
   obtain ⟨s', q1, q2⟩ := H p.Kids.l.length 0 (by omega) s1 (by simpa using hl1)
   refine ⟨s', ?_, ?_⟩
   ·rw [show ((0 : Nat) : Int) = 0 from rfl] at q1
    rw [q1]; rfl
   ·rw [q2, h2, la_, d6_]; rfl
  intro m
  induction m with
  | zero =>
   intro i hi t ht
   have e : i = p.Kids.l.length := by omega
   subst e
   exact ⟨t, ar_ (if_neg (by simp)), by simp [nsL, aR_]⟩
  | succ m ihm =>
   intro i hi t ht
   have hlt : i < p.Kids.l.length := by omega
   have hd : p.Kids.l.drop i = p.Kids.l[i] :: p.Kids.l.drop (i + 1) := List.drop_eq_getElem_cons hlt
   rw [hd, ndL] at ht
   have hmem := ndL_mem (List.getElem_mem hlt)
   obtain ⟨t1, a1, a2⟩ := ih p.Kids.l[i] t (by omega) (by omega)
   have hlen := addAll_len (ns p.Kids.l[i]) t.l
   have hnl := ns_len p.Kids.l[i]
   obtain ⟨s', b1, b2⟩ := ihm (i + 1) (by omega) t1 (by rw [a2]; omega)
   have ec : ((i + 1 : Nat) : Int) = (i : Int) + 1 := by simp
   rw [ec] at b1
   refine ⟨s', aw_ (s' := ((i : Int) + 1, t1)) ?_ b1, ?_⟩
   ·show (if decide ((i : Int) < (p.Kids.l.length : Int)) = true then _ else _) = _
    rw [if_pos (by simpa using hlt), bl_ hlt, Option.bind_some, a1, Option.bind_some, ct_ (by omega) (by omega)]
   ·rw [b2, a2, hd, nsL, d6_]
theorem fp_ (p : DPattern) (hs : SmPt p) (hv : VPat p) : ∃ s, ax_ p = some s ∧ s.l = aR_ [] (ns p) := by
 have hb : bigN = 100000000000 := rfl
 obtain ⟨s, h1, h2⟩ := defer_n bigN p ⟨true, []⟩ (by rw [hb]; have := hv.2; omega) (by show 0 + nd p ≤ _; have := hv.2; omega)
 refine ⟨s, d9_ p _ ?_, h2⟩
 unfold bt_
 rw [m3_ p hs, bQ_ hv, Option.bind_some, if_neg (by simp)]
 show (BG_impl_Pattern_deferred bigN p ⟨true, []⟩).bind _ = _
 rw [h1]; rfl
theorem nodes_ok : ∀ p, (nd p : Int) ≤ 1000000 → aB_ p = some (nd p : Int) := by
 refine cg_ fun p ih hp => ?_
 refine eS_ p _ ?_
 unfold bZ_
 have hp2 := eQ_ p
 have hkl := ndL_len p.Kids.l
 suffices H : ∀ (m i : Nat), i + m = p.Kids.l.length → ∀ c : Int, 0 ≤ c → c + (ndL (p.Kids.l.drop i) : Int) ≤ 1000000 → aC_ (S := (Int × Int)) (R := Int) (fun st1 => (if (decide (st1.2 < (p.Kids.l.length : Int))) = true then ((elt p.Kids st1.2).bind fun y2 => ((aB_ y2).bind fun y3 => (some (.inl ((w4 (st1.1 + y3)), (w4 (st1.2 + 1))))))) else (some (.inr st1.1)))) (c, (i : Int)) = some (c + (ndL (p.Kids.l.drop i) : Int)) by
  have := H p.Kids.l.length 0 (by omega) 1 (by omega) (by simp; omega)
  rw [show ((0 : Nat) : Int) = 0 from rfl] at this
  rw [this, hp2]; simp
 intro m
 induction m with
 | zero =>
  intro i hi c h0 h1
  have e : i = p.Kids.l.length := by omega
  subst e
  refine ar_ ?_
  show (if decide (((p.Kids.l.length : Nat) : Int) < (p.Kids.l.length : Int)) = true then (_ : Option ((Int × Int) ⊕ Int)) else some (Sum.inr c)) = _
  rw [if_neg (by simp)]; simp [ndL]
 | succ m ihm =>
  intro i hi c h0 h1
  have hlt : i < p.Kids.l.length := by omega
  have hd : p.Kids.l.drop i = p.Kids.l[i] :: p.Kids.l.drop (i + 1) := List.drop_eq_getElem_cons hlt
  rw [hd, ndL] at h1 ⊢
  have hq := ih _ (List.getElem_mem hlt) (by omega)
  have hnp := hh_ p.Kids.l[i]
  have b1 := ihm (i + 1) (by omega) (c + (nd p.Kids.l[i] : Int)) (by omega) (by omega)
  have ec : ((i + 1 : Nat) : Int) = (i : Int) + 1 := by simp
  rw [ec] at b1
  rw [aw_ (s' := (c + (nd p.Kids.l[i] : Int), (i : Int) + 1)) (by
   show (if decide ((i : Int) < (p.Kids.l.length : Int)) = true then _ else _) = _
   rw [if_pos (by simpa using hlt), bl_ hlt, Option.bind_some, hq, Option.bind_some, ct_ (n := c + _) (by omega) (by omega), ct_ (by omega) (by omega)]) b1]
  congr 1; push_cast; omega
theorem same_pat : ∀ p, SmPt p → ∀ q, EqPt p q → bg_ p q = some true := by
 refine cg_ fun p ih hs q hq => ?_
 have hkl : p.Kids.l.length ≤ 1048576 := by cases hs with | mk h1 h2 h3 => exact h2
 cases hq with
 | mk g1 g2 g3 g4 g5 =>
  refine ez_ _ _ _ ?_
  unfold bK_
  rw [if_pos (by simpa using g1), if_pos (by simpa using g2), if_pos (by simpa using g3)]
  have e : aW_ p.Kids q.Kids (T.fn 21 [] []) = some true := by
   refine cB_ _ _ _ _ ?_
   unfold aY_
   rw [if_pos (show flat1 (T.fn 21 [] []) = true from rfl), if_neg (by simp [g4]), Sml.count_loop (n := p.Kids.l.length) (r := .inl ()) (fun i hi => ?_) (if_neg (by simp))]
   ·rfl
   ·have hi' : i < q.Kids.l.length := by omega
    have e1 := bl_ (s := p.Kids) hi
    have e2 := bl_ (s := q.Kids) hi'
    rw [if_pos (by simpa using hi), e1, Option.bind_some, e2, Option.bind_some]
    have e : fV_ Go.Proofs.Try.prog md ext E_bool (T.fn 21 [] []) [.agg [i4 p.Kids.l[i].Kind, i4 p.Kids.l[i].Num, .str p.Kids.l[i].Text, p.Kids.l[i].Kids.t], .agg [i4 q.Kids.l[i].Kind, i4 q.Kids.l[i].Num, .str q.Kids.l[i].Text, q.Kids.l[i].Kids.t]] = bg_ p.Kids.l[i] q.Kids.l[i] := rfl
    rw [e, ih _ (List.getElem_mem hi) (hs.kid (List.getElem_mem hi)) _ (g5 i _ _ (List.getElem?_eq_getElem hi) (List.getElem?_eq_getElem hi')), Option.bind_some, if_neg (by simp), ct_ (by omega) (by omega)]
  rw [e]; rfl
theorem eq_cpPt : ∀ p, EqPt (cpPt p) p := by
 refine cg_ fun p ih => ?_
 rw [dj_]
 refine .mk rfl rfl rfl (by simp) fun i x y hx hy => ?_
 have hx : (p.Kids.l.map cpPt)[i]? = some x := hx
 rw [List.getElem?_map, hy] at hx
 injection hx with hx
 rw [← hx]; exact ih y (List.mem_of_getElem? hy)
end Go.Am
end
