/- The law. -/
import Derived.Test.YtfnjieagnkmceaaAl4
import Derived.Test.YtfnjieagnkmceaaAg6
import Derived.Test.YtfnjieagnkmceaaAg7
import Derived.Test.YtfnjieagnkmceaaAg8
section
set_option maxRecDepth 100000
set_option maxHeartbeats 2000000
set_option linter.unusedVariables false
set_option linter.unusedSimpArgs false
namespace Go.Am

def me_ (h : aj_) (s : Sl ac_) : Prop := of_ h ∧ ∀ v ∈ s.l, h1_ h v
theorem sK_ (h : aj_) (s : Sl ac_) (hh : eD_ h) (hs : SmVS s) : fC_ h s = some (says (me_ h s)) := by
 refine jI_ h s _ ?_
 unfold fb_
 exact dl_ (ok1 h hh) fun hv => cN_ (lH_ h s hh.1 hv.2.2.1.2 hs)
theorem rF_ (h : aj_) (s : Sl ac_) (hh : eD_ h) (hs : SmVS s) : dm_ h s = some (says (me_ h s)) := by
 refine hN_ h s _ ?_
 unfold dq_
 exact dl_ (ok2 h hh) fun hv => cN_ (nM_ h s hh.1 hv.2.2.1.2 (by have := hs.1; omega) hs.2)
theorem gY_ (b : Bool) (k : Int) : db_ b k = some (if b = true then 0 else k) := jZ_ b k _ (by unfold fv_; cases b <;> rfl)
theorem jQ_ (x y : Int) : fQ_ (⟨false, [⟨x⟩, ⟨y⟩]⟩) = some (if x = 0 then y else x) := by
 refine kH_ _ _ ?_
 unfold ga_
 have w0 : w4 (0 + 1) = 1 := rfl
 have w1 : w4 (1 + 1) = 2 := rfl
 by_cases hx : x = 0
 ·subst hx
  by_cases hy : y = 0
  ·subst hy
   rw [a3_ (s' := 1) rfl (a3_ (s' := 2) rfl (aL_ (r := .inl ()) rfl))]; rfl
  ·rw [a3_ (s' := 1) rfl (aL_ (r := .inr y) (by show (if (!decide (y = 0)) = true then _ else _) = _; rw [if_pos (by simpa using hy)]))]; rfl
 ·rw [aL_ (r := .inr x) (by show (if (!decide (x = 0)) = true then _ else _) = _; rw [if_pos (by simpa using hx)]), if_neg hx]; rfl
theorem sX_ (h : aj_) (s : Sl ac_) (hh : eD_ h) (hs : SmVS s) : fa_ h s = some (if says (me_ h s) = true then 0 else 1) := by
 refine jJ_ h s _ ?_
 unfold fi_
 rw [rF_ h s hh hs, Option.bind_some, gY_]; rfl
/-- Slices as the functions make them. -/
def NilO (o : aa_) : Prop := (o.Keys.z = true → o.Keys.l = []) ∧ (o.Vals.z = true → o.Vals.l = [])
theorem pc_ (s : Sl ac_) (hz : s.z = true → s.l = []) (hs : s.l.length ≤ 1048577) : bn_ s = some s := by
 refine d3_ s _ ?_
 unfold bF_
 obtain ⟨z, l⟩ := s
 cases z with
 | true => have := hz rfl; simp only at this; subst this; rfl
 | false => rw [if_neg (by simp), jX_ (by simp only at hs ⊢; omega)]; rfl
theorem sA_ (o : aa_) (h : aN_ o) (hz : NilO o) : aR_ o = some o := by
 refine d2_ o _ ?_
 unfold bG_
 rw [pc_ _ hz.1 h.1.1, Option.bind_some, pc_ _ hz.2 h.2.1.1]; rfl
def addI (h : aj_) (o : aa_) : aj_ := ⟨w4 (h.Next + 1), ⟨false, (ownH h).Objects.l ++ [⟨w4 (h.Next + 1), o.Kind, o.Name, o.Low, o.Keys, o.Vals, o.Default⟩]⟩⟩
theorem add3 (h : aj_) (o : aa_) (hh : bL_ h) (hz : NzH h) (ho : aN_ o) (hzo : NilO o) : cW_ h o = some (if (h.Objects.l.length : Int) = 40 ∨ h.Next = 1000000 then (⟨0, ⟨true, []⟩⟩, 0, 6) else (addI h o, w4 (h.Next + 1), 0)) := by
 refine fX_ h o _ ?_
 unfold c7_
 by_cases c1 : (h.Objects.l.length : Int) = 40
 ·rw [if_pos (by simpa using c1), if_pos (.inl c1)]
 ·rw [if_neg (by simpa using c1)]
  by_cases c2 : h.Next = 1000000
  ·rw [if_pos (by simpa using c2), if_pos (.inr c2)]
  ·rw [if_neg (by simpa using c2), if_neg (by rintro (h | h); exact c1 h; exact c2 h), oV_ h hh hz, Option.bind_some, sA_ o ho hzo, Option.bind_some, app1 (eM_ hh).1]; rfl
theorem pR_ (h : aj_) (o : aa_) : gn_ (addI h o) (addH h o) := by
 refine ⟨rfl, by simp [addI, addH], fun i u v hu hv => ?_⟩
 simp only [addI, addH] at hu hv
 by_cases hi : i < (ownH h).Objects.l.length
 ·rw [List.getElem?_append_left hi] at hu hv
  rw [hu] at hv; injection hv with hv; subst hv; exact fg_
 ·rw [List.getElem?_append_right (by omega)] at hu hv
  have hz : i - (ownH h).Objects.l.length = 0 := by
   have := (List.getElem?_eq_some_iff.1 hu).1
   simp only [List.length_singleton] at this; omega
  rw [hz] at hu hv
  simp only [List.getElem?_cons_zero] at hu hv
  injection hu with hu; injection hv with hv; subst hu; subst hv
  exact ⟨rfl, rfl, rfl, rfl, rfl, rfl, eH_⟩
theorem oR_ {h : aj_} {o : aa_} (hs : eD_ h) (ho : aN_ o) : bL_ (addI h o) := by
 have hh := eg_ hs
 refine ⟨by simp [addI, ownH]; have := hs.1; omega, fun f hf => ?_⟩
 simp only [addI, List.mem_append, List.mem_singleton] at hf
 rcases hf with hf | rfl
 ·exact (eM_ hh).2 f hf
 ·exact ho
def sC_ (k id : Int) : ac_ := ⟨w4 (w4 (k - 1) + 4), 0, ⟨#[]⟩, id⟩
/-- Both make an object: the heaps are the same but for nil. -/
theorem sT_ (h : aj_) (o : aa_) (hs : eD_ h) (hv : of_ h) (hz : NzH h) (ho : aN_ o) (hzo : NilO o) : ∃ w w' : aj_ × ac_ × Int, e4_ h o = some w ∧ eO_ h o = some w' ∧ bL_ w'.1 ∧ gn_ w'.1 w.1 ∧ w'.2 = w.2 := by
 have hh := eg_ hs
 suffices H : ∃ w w' : aj_ × ac_ × Int, co_ h o = some w ∧ b9_ h o = some w' ∧ bL_ w'.1 ∧ gn_ w'.1 w.1 ∧ w'.2 = w.2 by
  obtain ⟨w, w', h1, h2, h3⟩ := H; exact ⟨w, w', hF_ h o w h1, gF_ h o w' h2, h3⟩
 unfold co_ b9_
 rw [add1 h o hh hv ho, add3 h o hh hz ho hzo]
 by_cases c : (h.Objects.l.length : Int) = 40 ∨ h.Next = 1000000
 ·rw [if_pos c, if_pos c]
  exact ⟨_, _, rfl, rfl, Len_nilH, ch_, rfl⟩
 ·rw [if_neg c, if_neg c]
  have e : ∀ x : aa_, bW_ x = some (sC_ x.Kind x.Id) := fun x => fd_ x _ rfl
  simp only [Option.bind_some, e, decide_true, Bool.not_true, Bool.false_eq_true, if_false]
  exact ⟨_, _, rfl, rfl, oR_ hs ho, pR_ h o, rfl⟩
theorem oN_ {k : Int} (h : 4 ≤ k ∧ k ≤ 6) : jv_ k = k - 3 := by
 unfold jv_; rw [cM_ (n := k - 4) (by omega) (by omega), cM_ (by omega) (by omega)]; omega
/-- The object to which a value that fits refers. -/
theorem pO_ {h : aj_} {v : ac_} (hl : h.Objects.l.length ≤ 1048576) (ho : OrdP h.Objects.l) (hf : h1_ h v) (hr : 4 ≤ v.Kind ∧ v.Kind ≤ 6) : ∃ n : Nat, ∃ hn : n < h.Objects.l.length, b5_ h v.Ref = some (n : Int) ∧ bk_ h v.Ref = some (n : Int) ∧ h.Objects.l[n].Kind = v.Kind - 3 := by
 obtain ⟨r, r1, r2, ra⟩ := m4_ h v.Ref hl ho
 obtain ⟨q1, q2⟩ := na_ ho ra
 have hp := hf.2 hr
 have h0 : 0 ≤ r := Classical.byContradiction fun w => q2 w hp
 obtain ⟨n, hn, rfl, e⟩ := q1 h0
 exact ⟨n, hn, r1, r2, (e.2 hp).trans (oN_ hr)⟩
theorem key1 (s : Sl ac_) (v : ac_) (hl : s.l.length ≤ 1048577) : ∃ r : Int, c3_ s v = some r ∧ a4_ s v = some r ∧ ((r = -1 ∧ ¬ 0 ≤ r) ∨ ∃ n : Nat, n < s.l.length ∧ r = n) := by
 obtain ⟨r', i1, i2, i3, i4⟩ := o7_ s v (by omega)
 have := j8_ (n := s.l.length) (p := fun i => s.l[i]? = some v) (bd := fun st1 => ((elt s st1).bind fun y2 => (if ((decide (y2.Kind = v.Kind) && (decide (y2.Num = v.Num) && (decide (y2.Text = v.Text) && (decide (y2.Ref = v.Ref) && true))))) = true then (some (.inr (.inr st1))) else (some (.inl (w4 (st1 + 1))))))) (by omega) (fun i hi hp => by
  show (elt s (i : Int)).bind _ = _
  rw [aW_ hi, Option.bind_some, eqV, aS_ (fun e => hp (by rw [List.getElem?_eq_getElem hi, e])), if_neg (by simp)]) (fun i hi hp => by
  show (elt s (i : Int)).bind _ = _
  rw [List.getElem?_eq_getElem hi] at hp; injection hp with hp
  rw [aW_ hi, Option.bind_some, eqV, aZ_ hp, if_pos rfl])
 rcases this with ⟨r, r1, r2, r3, r4⟩ | ⟨r1, r2⟩
 ·have h0 : 0 ≤ r' := i3.2 (List.mem_of_getElem? r2)
  obtain ⟨n, hn⟩ : ∃ n : Nat, r' = n := ⟨r'.toNat, by omega⟩
  obtain ⟨a1, a2⟩ := i4 n hn
  have : n = r := by
   rcases Nat.lt_trichotomy n r with c | c | c
   ·exact absurd a1 (r3 n c)
   ·exact c
   ·exact absurd r2 (a2 r c)
  subst this; subst hn
  exact ⟨n, gH_ s v _ (by unfold ed_; exact r4), i1, .inr ⟨n, r1, rfl⟩⟩
 ·have h0 : ¬ 0 ≤ r' := fun w => by
   obtain ⟨i, hi, e⟩ := List.getElem_of_mem (i3.1 w)
   exact r1 i hi (by rw [List.getElem?_eq_getElem hi, e])
  have : r' = -1 := by omega
  subst this
  exact ⟨-1, gH_ s v _ (by unfold ed_; exact r2), i1, .inl ⟨rfl, by omega⟩⟩
theorem pE_ (h : aj_) (v : ac_) (r : Int) (hr : 4 ≤ v.Kind ∧ v.Kind ≤ 6) (hf : bk_ h v.Ref = some r) : b8_ h v = some r := by
 refine g5_ h v _ ?_
 unfold dg_
 rw [ref2, Option.bind_some, aZ_ hr, if_neg (by simp), hf]; rfl
theorem s1_ {v : ac_} (h : bg_ v) : SmVS ⟨false, [v]⟩ := ⟨by simp, fun x hx => by simp at hx; subst hx; exact h⟩
theorem tp_ {v w : ac_} (h : bg_ v) (h' : bg_ w) : SmVS ⟨false, [v, w]⟩ := ⟨by simp, fun x hx => by simp at hx; rcases hx with rfl | rfl; exact h; exact h'⟩

end Go.Am
end
