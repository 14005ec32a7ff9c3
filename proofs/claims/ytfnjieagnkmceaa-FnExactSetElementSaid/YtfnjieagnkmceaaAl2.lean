/- The law. -/
import Derived.Test.YtfnjieagnkmceaaAl1
section
set_option maxRecDepth 100000
set_option maxHeartbeats 2000000
set_option linter.unusedVariables false
set_option linter.unusedSimpArgs false
namespace Go.Am

/-! lists of values -/
theorem rt_ (a b : ac_) : b2_ a b = some (says (a = b)) := by
 refine hX_ a b _ ?_
 unfold dQ_
 obtain ⟨a1, a2, a3, a4⟩ := a
 obtain ⟨b1, b2, b3, b4⟩ := b
 congr 1
 rw [Bool.eq_iff_iff, cs_]
 simp
theorem eqV (a b : ac_) : (decide (a.Kind = b.Kind) && (decide (a.Num = b.Num) && (decide (a.Text = b.Text) && (decide (a.Ref = b.Ref) && true)))) = says (a = b) := by
 obtain ⟨a1, a2, a3, a4⟩ := a
 obtain ⟨b1, b2, b3, b4⟩ := b
 rw [Bool.eq_iff_iff, cs_]
 simp
def SmVS (s : Sl ac_) : Prop := FitS 1048576 bg_ s
theorem pZ_ (s : Sl ac_) (h : SmVS s) (n : Int) : be_ s n = some (says ((s.l.length : Int) ≤ n ∧ ∀ v ∈ s.l, ValP v)) := by
 refine f0_ s n _ ?_
 unfold cb_
 have hl := h.1
 refine s_gt fun h1 => ?_
 refine gO_ (by omega) fun i x hx he => ?_
 rw [he, Option.bind_some, val1 x (h.2 x hx), Option.bind_some]
 exact ⟨fun h => by rw [aZ_ h, if_neg (by simp)], fun h => by rw [aS_ h, if_pos (by simp)]⟩
theorem all2 (s : Sl ac_) (hs : s.l.length ≤ 2097160) (fn : Nat) (a b : List T) (p : ac_ → Prop) (h : ∀ x ∈ s.l, i4_ Go.Proofs.Try.prog md ext E_bool (T.fn fn a b) [.agg (ac_.cells x)] = some (says (p x))) : aD_ s (T.fn fn a b) = some (says (∀ x ∈ s.l, p x)) := by
 refine gA_ s _ _ ?_
 unfold cG_
 refine Eq.trans (if_pos rfl) ?_
 refine gO_ (by omega) fun i x hx he => ?_
 rw [he, Option.bind_some, h x hx, Option.bind_some]
 exact ⟨fun h => by rw [aZ_ h, if_neg (by simp)], fun h => by rw [aS_ h, if_pos (by simp)]⟩
theorem oX_ (s : Sl ac_) (h : SmVS s) : aD_ s (T.fn 123 [] []) = some (says (∀ v ∈ s.l, ValP v)) := all2 s (by have := h.1; omega) 123 [] [] _ fun x hx => by
 have e : i4_ Go.Proofs.Try.prog md ext E_bool (T.fn 123 [] []) [.agg (ac_.cells x)] = a9_ x := rfl
 rw [e, val2 x (h.2 x hx)]
def kJ_ (v : ac_) : Prop := v.Kind = 1 ∧ v.Num = 0 ∧ v.Ref = 0 ∧ ht_ v.Text
theorem q8_ (v : ac_) (h : bg_ v) : eR_ v = some (says (kJ_ v)) := by
 refine i7_ v _ ?_
 unfold eU_
 have e : d7_ v.Text = some ⟨1, 0, v.Text, 0⟩ := jU_ _ _ rfl
 rw [e, Option.bind_some]
 refine gQ_ (eF_ fun _ => cN_ (pu_ _ h)) ?_
 unfold kJ_
 simp; grind
theorem oy_ (s : Sl ac_) (h : SmVS s) : aD_ s (T.fn 125 [] []) = some (says (∀ v ∈ s.l, kJ_ v)) := all2 s (by have := h.1; omega) 125 [] [] _ fun x hx => by
 have e : i4_ Go.Proofs.Try.prog md ext E_bool (T.fn 125 [] []) [.agg (ac_.cells x)] = eR_ x := rfl
 rw [e, q8_ x (h.2 x hx)]
/-- No value twice. -/
def nu_ (s : Sl ac_) : Prop := ∀ i, i < s.l.length → ∀ k, k < i → ∀ x y, s.l[i]? = some x → s.l[k]? = some y → x ≠ y
theorem qS_ (s : Sl ac_) (h : SmVS s) : b7_ s = some (says (nu_ s)) := by
 refine hi_ s _ ?_
 unfold c5_
 have hl := h.1
 have := gR_ (n := s.l.length) (p := fun i => ∀ k, k < i → ∀ x y, s.l[i]? = some x → s.l[k]? = some y → x ≠ y) (bd := fun st1 => ((aM_ (S := Int) (R := (Unit ⊕ Bool)) (fun st2 => (if (decide (st2 < st1)) = true then ((elt s st1).bind fun y3 => ((elt s st2).bind fun y4 => ((b2_ y3 y4).bind fun y5 => (if y5 = true then (some (.inr (.inr false))) else (some (.inl (w4 (st2 + 1)))))))) else (some (.inr (.inl ()))))) 0).bind fun y2 => (Sum.elim (fun y2 => (some (.inl (w4 (st1 + 1))))) (fun y2 => (some (.inr (.inr y2)))) y2))) 0 (by omega) (fun i _ hi hp => ?_) (fun i _ hi hp => ?_)
 ·have e0 : ((0 : Nat) : Int) = 0 := rfl
  rw [e0] at this
  refine this.trans (congrArg some (aU_ ⟨fun w i hi => w i (Nat.zero_le _) hi, fun w i _ hi => w i hi⟩))
 all_goals
  have q := gX_ (R := Unit ⊕ Bool) (n := i) (p := fun k => ∀ x y, s.l[i]? = some x → s.l[k]? = some y → x ≠ y) (bd := fun st2 => ((elt s (i : Int)).bind fun y3 => ((elt s st2).bind fun y4 => ((b2_ y3 y4).bind fun y5 => (if y5 = true then (some (.inr (.inr false))) else (some (.inl (w4 (st2 + 1))))))))) (x := .inl ()) (y := .inr false) 0 (by omega) (fun k _ hk hp => by
    show (elt s (i : Int)).bind _ = _
    rw [aW_ hi, Option.bind_some, aW_ (by omega : k < s.l.length), Option.bind_some, rt_, Option.bind_some, aS_ (hp _ _ (List.getElem?_eq_getElem hi) (List.getElem?_eq_getElem (by omega))), if_neg (by simp)]) (fun k _ hk hp => by
    show (elt s (i : Int)).bind _ = _
    have : s.l[i] = s.l[k] := Classical.byContradiction fun hne => hp fun x y hx hy => by
     rw [List.getElem?_eq_getElem hi] at hx; rw [List.getElem?_eq_getElem (by omega)] at hy
     injection hx with hx; injection hy with hy; subst hx; subst hy; exact hne
    rw [aW_ hi, Option.bind_some, aW_ (by omega : k < s.l.length), Option.bind_some, rt_, Option.bind_some, aZ_ this, if_pos rfl])
  have e0 : ((0 : Nat) : Int) = 0 := rfl
  rw [e0] at q
 ·show (aM_ _ 0).bind _ = _
  rw [q.1 fun k _ hk => hp k hk]; rfl
 ·show (aM_ _ 0).bind _ = _
  rw [q.2 fun w => hp fun k hk => w k (Nat.zero_le _) hk]; rfl
theorem o7_ (s : Sl ac_) (v : ac_) (hl : s.l.length ≤ 2097160) : ∃ r : Int, a4_ s v = some r ∧ -1 ≤ r ∧ (0 ≤ r ↔ v ∈ s.l) ∧ (∀ (n : Nat), r = n → s.l[n]? = some v ∧ ∀ k, k < n → s.l[k]? ≠ some v) := by
 have := j8_ (n := s.l.length) (p := fun i => s.l[i]? = some v) (bd := fun st1 => ((elt s st1).bind fun y2 => (if ((decide (v.Kind = y2.Kind) && (decide (v.Num = y2.Num) && (decide (v.Text = y2.Text) && (decide (v.Ref = y2.Ref) && true))))) = true then (some (.inr (.inr st1))) else (some (.inl (w4 (st1 + 1))))))) (by omega) (fun i hi hp => by
  show (elt s (i : Int)).bind _ = _
  rw [aW_ hi, Option.bind_some, eqV, aS_ (fun e => hp (by rw [List.getElem?_eq_getElem hi, e])), if_neg (by simp)]) (fun i hi hp => by
  show (elt s (i : Int)).bind _ = _
  rw [List.getElem?_eq_getElem hi] at hp; injection hp with hp
  rw [aW_ hi, Option.bind_some, eqV, aZ_ hp.symm, if_pos rfl])
 rcases this with ⟨r, r1, r2, r3, r4⟩ | ⟨r1, r2⟩
 ·refine ⟨r, d5_ s v _ (by unfold bD_; exact r4), by omega, ⟨fun _ => List.mem_of_getElem? r2, fun _ => by omega⟩, fun n hn => ?_⟩
  have : r = n := by omega
  subst this; exact ⟨r2, r3⟩
 ·refine ⟨-1, d5_ s v _ (by unfold bD_; exact r2), by omega, ⟨fun h => by omega, fun h => ?_⟩, fun n hn => by omega⟩
  obtain ⟨i, hi, e⟩ := List.getElem_of_mem h
  exact absurd (by rw [List.getElem?_eq_getElem hi, e]) (r1 i hi)
theorem oa_ (s : Sl ac_) (v : ac_) (hl : s.l.length ≤ 2097160) : bo_ s v = some (says (v ∈ s.l)) := by
 refine ft_ s v _ ?_
 unfold bY_
 obtain ⟨r, r1, r2, r3, _⟩ := o7_ s v hl
 rw [r1, Option.bind_some]
 exact gQ_ ea_ r3
theorem rr_ (s : Sl ac_) (h : SmVS s) : bT_ s = some (says (nu_ s)) := by
 refine gq_ s _ ?_
 unfold cJ_
 have hl := h.1
 have := gR_ (n := s.l.length) (p := fun i => ∀ k, k < i → ∀ x y, s.l[i]? = some x → s.l[k]? = some y → x ≠ y) (bd := fun st1 => ((elt s st1).bind fun y2 => ((subS s 0 st1).bind fun y3 => ((bo_ y3 y2).bind fun y4 => (if y4 = true then (some (.inr (.inr false))) else (some (.inl (w4 (st1 + 1))))))))) 0 (by omega) (fun i _ hi hp => ?_) (fun i _ hi hp => ?_)
 ·have e0 : ((0 : Nat) : Int) = 0 := rfl
  rw [e0] at this
  refine this.trans (congrArg some (aU_ ⟨fun w i hi => w i (Nat.zero_le _) hi, fun w i _ hi => w i hi⟩))
 all_goals
  have hsub : subS s 0 (i : Int) = some ⟨s.z, s.l.take i⟩ := by
   unfold subS; rw [if_pos ⟨by omega, by omega, by omega⟩]; simp
  have hc := oa_ ⟨s.z, s.l.take i⟩ s.l[i] (by simp; omega)
  have hmem : s.l[i] ∈ s.l.take i ↔ ¬ ∀ k, k < i → ∀ x y, s.l[i]? = some x → s.l[k]? = some y → x ≠ y := by
   constructor
   ·intro hm w
    obtain ⟨k, hk, e⟩ := List.getElem_of_mem hm
    simp only [List.length_take] at hk
    rw [List.getElem_take] at e
    exact w k (by omega) _ _ (List.getElem?_eq_getElem hi) (List.getElem?_eq_getElem (by omega)) e.symm
   ·intro w
    refine Classical.byContradiction fun hm => w fun k hk x y hx hy e => hm ?_
    rw [List.getElem?_eq_getElem hi] at hx; rw [List.getElem?_eq_getElem (by omega)] at hy
    injection hx with hx; injection hy with hy; subst hx; subst hy
    rw [e]
    have : (s.l.take i)[k]'(by simp; omega) = s.l[k] := List.getElem_take
    rw [← this]; exact List.getElem_mem _
 ·show (elt s (i : Int)).bind _ = _
  rw [aW_ hi, Option.bind_some, hsub, Option.bind_some, hc, Option.bind_some, aS_ (fun w => hmem.1 w hp), if_neg (by simp)]
 ·show (elt s (i : Int)).bind _ = _
  rw [aW_ hi, Option.bind_some, hsub, Option.bind_some, hc, Option.bind_some, aZ_ (hmem.2 hp), if_pos rfl]

/-! objects -/
def Zero (v : ac_) : Prop := v.Kind = 0 ∧ v.Num = 0 ∧ v.Text = (⟨#[]⟩ : ByteArray) ∧ v.Ref = 0
def jY_ (s : Sl ac_) : Prop := (∀ v ∈ s.l, v.Kind = 1 ∧ ht_ v.Text) ∧ (1 ≤ (s.l.length : Int) ∧ (((s.l.length : Int) ≤ 6 ∧ ∀ v ∈ s.l, ValP v) ∧ nu_ s))
theorem pL_ (s : Sl ac_) (h : SmVS s) : cv_ s = some (says (jY_ s)) := by
 refine gj_ s _ ?_
 unfold cu_
 have hl := h.1
 refine (km_ (n := s.l.length) (p := fun i => ∀ x, s.l[i]? = some x → x.Kind = 1 ∧ ht_ x.Text) (q := 1 ≤ (s.l.length : Int) ∧ (((s.l.length : Int) ≤ 6 ∧ ∀ v ∈ s.l, ValP v) ∧ nu_ s)) (by omega) (fun i hi hp => ?_) (fun i hi hp => ?_) (fun _ => e0_ fun _ => dl_ (pZ_ s h 6) fun _ => cN_ (qS_ s h))).trans (congrArg some (aU_ ?_))
 ·rw [aW_ hi]
  have := hp _ (List.getElem?_eq_getElem hi)
  simp only [Option.bind_some]
  rw [if_neg (by simp [this.1]), ot_ _ (h.2 _ (List.getElem_mem hi)), Option.bind_some, aZ_ this.2, if_neg (by simp)]
 ·rw [aW_ hi]
  simp only [Option.bind_some]
  by_cases hk : s.l[i].Kind = 1
  ·rw [if_neg (by simp [hk]), ot_ _ (h.2 _ (List.getElem_mem hi)), Option.bind_some, aS_ (fun w => hp fun x hx => by rw [List.getElem?_eq_getElem hi] at hx; injection hx with hx; subst hx; exact ⟨hk, w⟩), if_pos (by simp)]
  ·rw [if_pos (by simp [hk])]
 ·unfold jY_
  rw [show (∀ i, i < s.l.length → ∀ x, s.l[i]? = some x → x.Kind = 1 ∧ ht_ x.Text) ↔ ∀ v ∈ s.l, v.Kind = 1 ∧ ht_ v.Text from iS_]
def ObjP (o : aa_) : Prop := (1 ≤ o.Id ∧ o.Id ≤ 1000000) ∧ ((o.Vals.l.length : Int) ≤ 30 ∧ ∀ v ∈ o.Vals.l, ValP v) ∧
  ((o.Kind = 1 ∧ (o.Name = (⟨#[]⟩ : ByteArray) ∧ (-1000 ≤ o.Low ∧ o.Low ≤ 1000) ∧ o.Keys.l.length = 0 ∧ Zero o.Default)) ∨
   (o.Kind = 2 ∧ (o.Name = (⟨#[]⟩ : ByteArray) ∧ o.Low = 0 ∧ o.Keys.l.length = o.Vals.l.length ∧ (∀ v ∈ o.Keys.l, ValP v) ∧ nu_ o.Keys ∧ ValP o.Default)) ∨
   (o.Kind = 3 ∧ (ht_ o.Name ∧ o.Low = 0 ∧ o.Keys.l.length = o.Vals.l.length ∧ jY_ o.Keys ∧ Zero o.Default)))
theorem qI_ (v : ac_) : (decide (v.Kind = 0) && (decide (v.Num = 0) && (decide (v.Text = (⟨#[]⟩ : ByteArray)) && (decide (v.Ref = 0) && true)))) = says (Zero v) := by
 rw [Bool.eq_iff_iff, cs_]; unfold Zero; simp
theorem oc_ {c p : Prop} {o : Option Bool} {K : Bool → Option Bool} (ho : o = some (says c)) (h : ∀ b : Bool, b = says c → K b = some (says p)) : (o.bind fun y => K y) = some (says p) := by
 rw [ho, Option.bind_some]; exact h _ rfl
theorem kC_ {b : Bool} {c p : Prop} {K : Option Bool} (hb : b = says c) (h : c → K = some (says p)) : (if b = true then K else some false) = some (says (c ∧ p)) := by
 subst hb
 by_cases hc : c
 ·rw [aZ_ hc, if_pos rfl, h hc]; congr 1; exact aU_ ⟨fun w => ⟨hc, w⟩, fun w => w.2⟩
 ·rw [aS_ hc, if_neg (by simp), aS_ fun w => hc w.1]
theorem pb_ {p : Prop} : some (says p) = some (says p) := rfl
theorem obj1 (o : aa_) (h : cE_ o) : cD_ o = some (says (ObjP o)) := by
 refine h8_ o _ ?_
 unfold dM_
 obtain ⟨h1, h2, h3, h4⟩ := h
 simp only [qI_]
 refine gQ_ (fN_ (in1 _ _ _) fun _ => fN_ (pZ_ _ h3 30) fun hv => s_if (fun _ => e0_ fun _ => dl_ (in1 _ _ _) fun _ => e0_ fun _ => pb_) fun _ => s_if (fun _ => e0_ fun _ => e0_ fun _ => e0_ fun _ => dl_ (pZ_ _ h2 30) fun _ => dl_ (qS_ _ h2) fun _ => cN_ (val1 _ h4)) fun _ => s_if (fun _ => dl_ (ot_ _ h1) fun _ => e0_ fun _ => e0_ fun _ => dl_ (pL_ _ h2) fun _ => pb_) fun _ => s_no) ?_
 unfold ObjP
 by_cases c1 : o.Kind = 1
 ·simp [c1]
 by_cases c2 : o.Kind = 2
 ·simp [c2]; grind
 by_cases c3 : o.Kind = 3
 ·simp [c3]; grind
 simp [c1, c2, c3]
theorem jP_ (v : ac_) : kJ_ v ↔ (v.Kind = 1 ∧ ht_ v.Text) ∧ ValP v := by
 constructor
 ·rintro ⟨a, b, c, d⟩
  exact ⟨⟨a, d⟩, .inl ⟨a, b, c, by have := d.2.1; omega⟩⟩
 ·rintro ⟨⟨a, d⟩, w⟩
  unfold ValP at w
  rcases w with w | w | w | w | w
  ·exact ⟨a, w.2.1, w.2.2.1, d⟩
  ·rw [a] at w; omega
  ·rw [a] at w; omega
  ·rw [a] at w; omega
  ·rw [a] at w; omega
theorem ny_ {l : List ac_} : (∀ v ∈ l, kJ_ v) ↔ (∀ v ∈ l, v.Kind = 1 ∧ ht_ v.Text) ∧ ∀ v ∈ l, ValP v :=
 ⟨fun w => ⟨fun v hv => ((jP_ v).1 (w v hv)).1, fun v hv => ((jP_ v).1 (w v hv)).2⟩, fun w v hv => (jP_ v).2 ⟨w.1 v hv, w.2 v hv⟩⟩
theorem obj2 (o : aa_) (h : cE_ o) : ca_ o = some (says (ObjP o)) := by
 refine g3_ o _ ?_
 unfold cS_
 obtain ⟨h1, h2, h3, h4⟩ := h
 simp only [qI_]
 refine gQ_ (fN_ (id2 _) fun _ => s_gt fun _ => fN_ (oX_ _ h3) fun hv => s_if (fun _ => dl_ (in2 _ _ _) fun _ => e0_ fun _ => eF_ fun _ => ea_) fun _ => s_if (fun _ => gQ_ ((oc_ (e0_ fun _ => dl_ (oX_ _ h2) fun _ => cN_ (rr_ _ h2)) fun b q => e0_ fun _ => kC_ q fun _ => dl_ (val2 _ h4) fun _ => ea_)) Iff.rfl) fun _ => s_if (fun _ => gQ_ ((oc_ (e0_ fun _ => e0_ fun _ => e0_ fun _ => dl_ (oy_ _ h2) fun _ => cN_ (rr_ _ h2)) fun b q => e0_ fun _ => kC_ q fun _ => eF_ fun _ => cN_ (pu_ _ h1))) Iff.rfl) fun _ => s_no) ?_
 unfold ObjP
 by_cases c1 : o.Kind = 1
 ·simp [c1, cs_]; grind
 by_cases c2 : o.Kind = 2
 ·simp [c2, cs_]; grind
 by_cases c3 : o.Kind = 3
 ·simp [c3, cs_, jY_]; intro _ _; rw [ny_]; grind
 simp [c1, c2, c3]

end Go.Am
end
