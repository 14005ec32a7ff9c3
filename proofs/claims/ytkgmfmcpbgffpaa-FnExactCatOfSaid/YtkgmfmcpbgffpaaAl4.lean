/- The law. -/
import Derived.Test.YtkgmfmcpbgffpaaAg0
import Derived.Test.YtkgmfmcpbgffpaaAl3
import Derived.Test.YtkgmfmcpbgffpaaAm6
section
set_option maxRecDepth 100000
set_option maxHeartbeats 1000000
set_option linter.unusedVariables false
set_option linter.unusedSimpArgs false
namespace Go.Am
def jn (k : Int) (f : DPattern → DPattern) (l : List DPattern) (o : DPattern) : DPattern := l.foldr (fun p o => ⟨k, 0, ⟨#[]⟩, ⟨false, [f p, o]⟩⟩) o
def tupP (p : DPattern) : Int × Int × ByteArray × Sl DPattern := (p.Kind, p.Num, p.Text, p.Kids)
theorem jG_ {k : Int} {f : DPattern → DPattern} {l : List DPattern} {n : Nat} (h : n < l.length) (o : DPattern) : jn k f (l.take n) ⟨k, 0, ⟨#[]⟩, ⟨false, [f l[n], o]⟩⟩ = jn k f (l.take (n + 1)) o := by
 rw [List.take_succ_eq_append_getElem h, jn, jn, List.foldr_append]; rfl
theorem nF_ {k : Int} {f : DPattern → DPattern} (hf : ∀ p, nd (f p) = nd p) (o : DPattern) : ∀ l, nd (jn k f l o) = l.length + ndL l + nd o
 | [] => by simp [jn, ndL]
 | p :: l => by
  have := nF_ (k := k) hf o l
  show nd ⟨k, 0, ⟨#[]⟩, ⟨false, [f p, jn k f l o]⟩⟩ = _
  rw [eA_]
  simp only [ndL, hf, this, List.length_cons]; omega
theorem on_ {k : Int} {f : DPattern → DPattern} {o : DPattern} (ho : SmPt o) : ∀ l, (∀ p ∈ l, SmPt (f p)) → SmPt (jn k f l o)
 | [], _ => ho
 | p :: l, h => .mk (by show (0 : Nat) ≤ _; omega) (by show 2 ≤ _; omega) fun q hq => by
  have hq : q ∈ [f p, jn k f l o] := hq
  simp only [List.mem_cons, List.not_mem_nil, or_false] at hq
  rcases hq with rfl | rfl
  ·exact h p (by simp)
  ·exact on_ ho l fun p hp => h p (by simp [hp])
theorem ol_ {k : Int} (hk : k = 18 ∨ k = 19) {f : DPattern → DPattern} {o : DPattern} (ho : VP o) : ∀ l, (∀ p ∈ l, VP (f p)) → VP (jn k f l o)
 | [], _ => ho
 | p :: l, h => .mk ⟨by show 1 ≤ k ∧ k ≤ 24; omega, by
   show (2 : Int) = kidN k
   unfold kidN; rw [if_pos hk], by
   show ArgP k 0 ⟨#[]⟩
   unfold ArgP; rw [if_neg (by omega), if_neg (by omega), if_neg (by omega)]; exact ⟨rfl, rfl⟩⟩ fun q hq => by
  have hq : q ∈ [f p, jn k f l o] := hq
  simp only [List.mem_cons, List.not_mem_nil, or_false] at hq
  rcases hq with rfl | rfl
  ·exact h p (by simp)
  ·exact ol_ hk ho l fun p hp => h p (by simp [hp])
theorem oC_ {k : Int} {f g : DPattern → DPattern} {o o' : DPattern} (ho : EqPt o o') : ∀ l, (∀ p ∈ l, EqPt (f p) (g p)) → EqPt (jn k f l o) (jn k g l o')
 | [], _ => ho
 | p :: l, h => .mk rfl rfl rfl rfl fun i x y hx hy => by
  have hx : [f p, jn k f l o][i]? = some x := hx
  have hy : [g p, jn k g l o'][i]? = some y := hy
  rcases i with _ | _ | i
  ·injection hx with hx; injection hy with hy; subst hx; subst hy; exact h p (by simp)
  ·injection hx with hx; injection hy with hy; subst hx; subst hy; exact oC_ ho l fun p hp => h p (by simp [hp])
  ·simp at hx
theorem VP_cp : ∀ p, VP p → VP (cpPt p) := by
 refine dn_ fun p ih h => ?_
 rw [eF_]
 refine .mk ?_ fun q hq => ?_
 ·obtain ⟨h1, h2, h3⟩ := h.node
  exact ⟨h1, by show ((p.Kids.l.map cpPt).length : Int) = _; rw [List.length_map]; exact h2, h3⟩
 ·obtain ⟨r, hr, rfl⟩ := List.mem_map.1 hq
  exact ih r hr (h.kid hr)
noncomputable def csPt (p : DPattern) : DPattern := (aq_ p).getD p
theorem kR_ {p : DPattern} (h : SmPt p) : aq_ p = some (csPt p) ∧ EqPt (cpPt p) (csPt p) := by
 obtain ⟨q, h1, h2⟩ := copy1 p h
 unfold csPt; rw [h1]; exact ⟨rfl, h2⟩
theorem k1_ {c : Sl DPattern} (hs : ∀ p ∈ c.l, SmPt p) (hl : c.l.length ≤ 60) {b : Int × Int → Option ((Int × Int) ⊕ (Int ⊕ Unit))} (h1 : ∀ n i : Int, b (n, i) = (if (decide (i < (c.l.length : Int))) = true then ((elt c i).bind fun y4 => ((an_ y4 60).bind fun y5 => (if (decide (y5 < 0)) = true then (some (.inr (.inr ()))) else (some (.inl ((w4 (n + y5)), (w4 (i + 1)))))))) else (some (.inr (.inl n))))) (n0 : Int) (h0 : 0 ≤ n0) (hn : n0 ≤ 60) :
  ((∀ p ∈ c.l, VPat p) → au_ b (n0, 0) = some (.inl (n0 + (ndL c.l : Int)))) ∧ (¬ (∀ p ∈ c.l, VPat p) → au_ b (n0, 0) = some (.inr ())) := by
 suffices H : ∀ m i : Nat, i + m = c.l.length → ∀ n : Int, 0 ≤ n → n ≤ 60 + 60 * (i : Int) → ((∀ p ∈ c.l.drop i, VPat p) → au_ b (n, (i : Int)) = some (.inl (n + (ndL (c.l.drop i) : Int)))) ∧ (¬ (∀ p ∈ c.l.drop i, VPat p) → au_ b (n, (i : Int)) = some (.inr ())) by
  have := H c.l.length 0 (by omega) n0 h0 (by omega)
  simpa using this
 intro m
 induction m with
 | zero =>
  intro i hi n hn0 hn1
  have e : i = c.l.length := by omega
  subst e
  refine ⟨fun _ => ao_ ?_, fun h => absurd (by simp) h⟩
  rw [h1, if_neg (by simp)]; simp [ndL]
 | succ m ih =>
  intro i hi n hn0 hn1
  have hlt : i < c.l.length := by omega
  have hd : c.l.drop i = c.l[i] :: c.l.drop (i + 1) := List.drop_eq_getElem_cons hlt
  obtain ⟨v1, v2⟩ := valid1 c.l[i] (hs _ (List.getElem_mem hlt)) 60 (by omega)
  have ec : ((i + 1 : Nat) : Int) = (i : Int) + 1 := by simp
  have hb : b (n, (i : Int)) = ((an_ c.l[i] 60).bind fun y5 => (if (decide (y5 < 0)) = true then (some (.inr (.inr ()))) else (some (.inl ((w4 (n + y5)), (w4 ((i : Int) + 1))))))) := by
   rw [h1, if_pos (by simpa using hlt), ct_ hlt]; rfl
  by_cases hv : VPat c.l[i]
  ·have e : b (n, (i : Int)) = some (.inl (n + (nd c.l[i] : Int), (i : Int) + 1)) := by
    rw [hb, v1 hv, Option.bind_some, if_neg (by simp), dp_ (n := n + _) (by omega) (by have := hv.2; omega), dp_ (by omega) (by omega)]
   obtain ⟨w1, w2⟩ := ih (i + 1) (by omega) (n + (nd c.l[i] : Int)) (by omega) (by have := hv.2; omega)
   rw [ec] at w1 w2
   rw [hd]
   refine ⟨fun h => ?_, fun h => ?_⟩
   ·rw [av_ e (w1 fun p hp => h p (List.Mem.tail _ hp)), ndL]
    rw [Int.natCast_add, Int.add_assoc]
   ·exact av_ e (w2 fun h2 => h fun p hp => by
     rcases List.mem_cons.1 hp with rfl | hp
     ·exact hv
     ·exact h2 p hp)
  ·rw [hd]
   refine ⟨fun h => absurd (h c.l[i] (List.Mem.head _)) hv, fun _ => ao_ ?_⟩
   rw [hb, v2 hv]; rfl
theorem ml_ {c : Sl DPattern} {k : Int} (hs : ∀ p ∈ c.l, SmPt p) (hl : c.l.length ≤ 60) {b : Int × Int × Int × ByteArray × Sl DPattern → Option ((Int × Int × Int × ByteArray × Sl DPattern) ⊕ (Int × Int × ByteArray × Sl DPattern))}
  (h1 : ∀ i a1 a2 a3 a4, b (i, a1, a2, a3, a4) = (if (decide (0 ≤ i)) = true then ((elt c i).bind fun y9 => ((aq_ y9).bind fun y10 => (some (.inl ((w4 (i - 1)), k, 0, ⟨#[]⟩, (⟨false, [y10, (⟨a1, a2, a3, a4⟩ : DPattern)]⟩ : Sl DPattern)))))) else (some (.inr (a1, a2, a3, a4))))) :
  ∀ n, n ≤ c.l.length → ∀ o : DPattern, au_ b ((n : Int) - 1, tupP o) = some (tupP (jn k csPt (c.l.take n) o)) := by
 intro n
 induction n with
 | zero => intro _ o; refine ao_ ?_; rw [tupP, h1, if_neg (by simp)]; rfl
 | succ n ih =>
  intro hn o
  have e : b (((n + 1 : Nat) : Int) - 1, tupP o) = some (.inl ((n : Int) - 1, tupP ⟨k, 0, ⟨#[]⟩, ⟨false, [csPt c.l[n], o]⟩⟩)) := by
   have : ((n + 1 : Nat) : Int) - 1 = (n : Int) := by omega
   rw [this, tupP, h1, if_pos (by simp), ct_ (by omega), Option.bind_some, (kR_ (hs _ (List.getElem_mem (by omega)))).1, Option.bind_some, w64 (by omega) (by omega)]
   cases o; rfl
  rw [av_ e (ih (by omega) _), jG_ (by omega)]
theorem l8_ {c : Sl DPattern} {k : Int} (hs : ∀ p ∈ c.l, SmPt p) : ∀ n, n ≤ c.l.length → ∀ o : DPattern,
  he_ (fun (i1 : Int) (y7 : DPattern) (st1 : Int × Int × ByteArray × Sl DPattern) => ((ar_ y7).bind fun y8 => (some (k, (0 : Int), (⟨#[]⟩ : ByteArray), (⟨false, [y8, (⟨st1.1, st1.2.1, st1.2.2.1, st1.2.2.2⟩ : DPattern)]⟩ : Sl DPattern))))) c.l n (tupP o) = some (tupP (jn k cpPt (c.l.take n) o)) := by
 intro n
 induction n with
 | zero => intro _ o; rfl
 | succ n ih =>
  intro hn o
  have hlt : n < c.l.length := by omega
  rw [he_, List.getElem?_eq_getElem hlt, Option.bind_some, copy2 _ (hs _ (List.getElem_mem hlt)), Option.bind_some, Option.bind_some, ← jG_ hlt]
  have := ih (by omega) ⟨k, 0, ⟨#[]⟩, ⟨false, [cpPt c.l[n], o]⟩⟩
  cases o; exact this
theorem jz_ (c : Sl DPattern) (hs : ∀ p ∈ c.l, SmPt p) (hl : c.l.length ≤ 1048576) : bc_ c (T.fn 53 [] []) = some (says (∀ p ∈ c.l, VPat p)) := by
 refine dD_ c _ _ ?_
 unfold bd_
 rw [if_pos (by rfl)]
 refine hs_ (by omega) fun i x hx he => ?_
 have e : gN_ Go.Proofs.Try.prog md ext E_bool (T.fn 53 [] []) [.agg [i4 x.Kind, i4 x.Num, .str x.Text, x.Kids.t]] = a2_ x := rfl
 have q := n6_ x (hs x hx)
 refine ⟨fun hp => ?_, fun hp => ?_⟩
 ·show (elt c (i : Int)).bind _ = _
  rw [he, Option.bind_some, e, q, Option.bind_some, bl_ hp]; rfl
 ·show (elt c (i : Int)).bind _ = _
  rw [he, Option.bind_some, e, q, Option.bind_some, aK_ hp]; rfl
end Go.Am
end
