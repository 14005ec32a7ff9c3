/- The law. -/
import Derived.Test.YtfnjieagnkmceaaAl4
import Derived.Test.YtfnjieagnkmceaaAg5
import Derived.Test.YtfnjieagnkmceaaAg6
import Derived.Test.YtfnjieagnkmceaaAg7
section
set_option maxRecDepth 100000
set_option maxHeartbeats 2000000
set_option linter.unusedVariables false
set_option linter.unusedSimpArgs false
namespace Go.Am

def lu_ (h : ai_) (s : Sl ac_) : Prop := mG_ h ∧ ∀ v ∈ s.l, hG_ h v
theorem sf_ (h : ai_) (s : Sl ac_) (hh : ej_ h) (hs : SmVS s) : fd_ h s = some (says (lu_ h s)) := by
 refine js_ h s _ ?_
 unfold fn_
 exact dg_ (ok1 h hh) fun hv => cF_ (lj_ h s hh.1 hv.2.2.1.2 hs)
theorem rC_ (h : ai_) (s : Sl ac_) (hh : ej_ h) (hs : SmVS s) : dj_ h s = some (says (lu_ h s)) := by
 refine g6_ h s _ ?_
 unfold dv_
 exact dg_ (ok2 h hh) fun hv => cF_ (mF_ h s hh.1 hv.2.2.1.2 (by have := hs.1; omega) hs.2)
theorem kg_ (b : Bool) (k : Int) : dW_ b k = some (if b = true then 0 else k) := jw_ b k _ (by unfold fq_; cases b <;> rfl)
theorem rU_ (x y : Int) : hB_ (⟨false, [⟨x⟩, ⟨y⟩]⟩) = some (if x = 0 then y else x) := by
 refine kE_ _ _ ?_
 unfold fE_
 have w0 : w4 (0 + 1) = 1 := rfl
 have w1 : w4 (1 + 1) = 2 := rfl
 by_cases hx : x = 0
 ·subst hx
  by_cases hy : y = 0
  ·subst hy
   rw [a1_ (s' := 1) rfl (a1_ (s' := 2) rfl (aL_ (r := .inl ()) rfl))]; rfl
  ·rw [a1_ (s' := 1) rfl (aL_ (r := .inr y) (by show (if (!decide (y = 0)) = true then _ else _) = _; rw [if_pos (by simpa using hy)]))]; rfl
 ·rw [aL_ (r := .inr x) (by show (if (!decide (x = 0)) = true then _ else _) = _; rw [if_pos (by simpa using hx)]), if_neg hx]; rfl
theorem sE_ (h : ai_) (s : Sl ac_) (hh : ej_ h) (hs : SmVS s) : eX_ h s = some (if says (lu_ h s) = true then 0 else 1) := by
 refine jy_ h s _ ?_
 unfold e3_
 rw [rC_ h s hh hs, Option.bind_some, kg_]; rfl
/-- Slices as the functions make them. -/
def NilO (o : aa_) : Prop := (o.Keys.z = true → o.Keys.l = []) ∧ (o.Vals.z = true → o.Vals.l = [])
theorem oL_ (s : Sl ac_) (hz : s.z = true → s.l = []) (hs : s.l.length ≤ 1048577) : bh_ s = some s := by
 refine dV_ s _ ?_
 unfold bC_
 obtain ⟨z, l⟩ := s
 cases z with
 | true => have := hz rfl; simp only at this; subst this; rfl
 | false => rw [if_neg (by simp), jA_ (by simp only at hs ⊢; omega)]; rfl
theorem sl_ (o : aa_) (h : aN_ o) (hz : NilO o) : aS_ o = some o := by
 refine dS_ o _ ?_
 unfold bB_
 rw [oL_ _ hz.1 h.1.1, Option.bind_some, oL_ _ hz.2 h.2.1.1]; rfl
def addI (h : ai_) (o : aa_) : ai_ := ⟨w4 (h.Next + 1), ⟨false, (ownH h).Objects.l ++ [⟨w4 (h.Next + 1), o.Kind, o.Name, o.Low, o.Keys, o.Vals, o.Default⟩]⟩⟩
theorem add3 (h : ai_) (o : aa_) (hh : bE_ h) (hz : NzH h) (ho : aN_ o) (hzo : NilO o) : c4_ h o = some (if (h.Objects.l.length : Int) = 40 ∨ h.Next = 1000000 then (⟨0, ⟨true, []⟩⟩, 0, 6) else (addI h o, w4 (h.Next + 1), 0)) := by
 refine fS_ h o _ ?_
 unfold cO_
 by_cases c1 : (h.Objects.l.length : Int) = 40
 ·rw [if_pos (by simpa using c1), if_pos (.inl c1)]
 ·rw [if_neg (by simpa using c1)]
  by_cases c2 : h.Next = 1000000
  ·rw [if_pos (by simpa using c2), if_pos (.inr c2)]
  ·rw [if_neg (by simpa using c2), if_neg (by rintro (h | h); exact c1 h; exact c2 h), o3_ h hh hz, Option.bind_some, sl_ o ho hzo, Option.bind_some, app1 (f1_ hh).1]; rfl
theorem pw_ (h : ai_) (o : aa_) : gj_ (addI h o) (addH h o) := by
 refine ⟨rfl, by simp [addI, addH], fun i u v hu hv => ?_⟩
 simp only [addI, addH] at hu hv
 by_cases hi : i < (ownH h).Objects.l.length
 ·rw [List.getElem?_append_left hi] at hu hv
  rw [hu] at hv; injection hv with hv; subst hv; exact fc_
 ·rw [List.getElem?_append_right (by omega)] at hu hv
  have hz : i - (ownH h).Objects.l.length = 0 := by
   have := (List.getElem?_eq_some_iff.1 hu).1
   simp only [List.length_singleton] at this; omega
  rw [hz] at hu hv
  simp only [List.getElem?_cons_zero] at hu hv
  injection hu with hu; injection hv with hv; subst hu; subst hv
  exact ⟨rfl, rfl, rfl, rfl, rfl, rfl, ev_⟩
theorem oy_ {h : ai_} {o : aa_} (hs : ej_ h) (ho : aN_ o) : bE_ (addI h o) := by
 have hh := d4_ hs
 refine ⟨by simp [addI, ownH]; have := hs.1; omega, fun f hf => ?_⟩
 simp only [addI, List.mem_append, List.mem_singleton] at hf
 rcases hf with hf | rfl
 ·exact (f1_ hh).2 f hf
 ·exact ho
def si_ (k id : Int) : ac_ := ⟨w4 (w4 (k - 1) + 4), 0, ⟨#[]⟩, id⟩
/-- Both make an object: the heaps are the same but for nil. -/
theorem sK_ (h : ai_) (o : aa_) (hs : ej_ h) (hv : mG_ h) (hz : NzH h) (ho : aN_ o) (hzo : NilO o) : ∃ w w' : ai_ × ac_ × Int, eV_ h o = some w ∧ eC_ h o = some w' ∧ bE_ w'.1 ∧ gj_ w'.1 w.1 ∧ w'.2 = w.2 := by
 have hh := d4_ hs
 suffices H : ∃ w w' : ai_ × ac_ × Int, ch_ h o = some w ∧ b8_ h o = some w' ∧ bE_ w'.1 ∧ gj_ w'.1 w.1 ∧ w'.2 = w.2 by
  obtain ⟨w, w', h1, h2, h3⟩ := H; exact ⟨w, w', g7_ h o w h1, gD_ h o w' h2, h3⟩
 unfold ch_ b8_
 rw [add1 h o hh hv ho, add3 h o hh hz ho hzo]
 by_cases c : (h.Objects.l.length : Int) = 40 ∨ h.Next = 1000000
 ·rw [if_pos c, if_pos c]
  exact ⟨_, _, rfl, rfl, Len_nilH, dq_, rfl⟩
 ·rw [if_neg c, if_neg c]
  have e : ∀ x : aa_, bL_ x = some (si_ x.Kind x.Id) := fun x => fl_ x _ rfl
  simp only [Option.bind_some, e, decide_true, Bool.not_true, Bool.false_eq_true, if_false]
  exact ⟨_, _, rfl, rfl, oy_ hs ho, pw_ h o, rfl⟩
theorem oq_ {k : Int} (h : 4 ≤ k ∧ k ≤ 6) : i0_ k = k - 3 := by
 unfold i0_; rw [cy_ (n := k - 4) (by omega) (by omega), cy_ (by omega) (by omega)]; omega
/-- The object to which a value that fits refers. -/
theorem pf_ {h : ai_} {v : ac_} (hl : h.Objects.l.length ≤ 1048576) (ho : OrdP h.Objects.l) (hf : hG_ h v) (hr : 4 ≤ v.Kind ∧ v.Kind ≤ 6) : ∃ n : Nat, ∃ hn : n < h.Objects.l.length, b2_ h v.Ref = some (n : Int) ∧ bf_ h v.Ref = some (n : Int) ∧ h.Objects.l[n].Kind = v.Kind - 3 := by
 obtain ⟨r, r1, r2, ra⟩ := mY_ h v.Ref hl ho
 obtain ⟨q1, q2⟩ := mE_ ho ra
 have hp := hf.2 hr
 have h0 : 0 ≤ r := Classical.byContradiction fun w => q2 w hp
 obtain ⟨n, hn, rfl, e⟩ := q1 h0
 exact ⟨n, hn, r1, r2, (e.2 hp).trans (oq_ hr)⟩
theorem key1 (s : Sl ac_) (v : ac_) (hl : s.l.length ≤ 1048577) : ∃ r : Int, e5_ s v = some r ∧ bk_ s v = some r ∧ ((r = -1 ∧ ¬ 0 ≤ r) ∨ ∃ n : Nat, n < s.l.length ∧ r = n) := by
 obtain ⟨r', i1, i2, i3, i4⟩ := oX_ s v (by omega)
 have := ju_ (n := s.l.length) (p := fun i => s.l[i]? = some v) (bd := fun st1 => ((elt s st1).bind fun y2 => (if ((decide (y2.Kind = v.Kind) && (decide (y2.Num = v.Num) && (decide (y2.Text = v.Text) && (decide (y2.Ref = v.Ref) && true))))) = true then (some (.inr (.inr st1))) else (some (.inl (w4 (st1 + 1))))))) (by omega) (fun i hi hp => by
  show (elt s (i : Int)).bind _ = _
  rw [aU_ hi, Option.bind_some, eqV, aR_ (fun e => hp (by rw [List.getElem?_eq_getElem hi, e])), if_neg (by simp)]) (fun i hi hp => by
  show (elt s (i : Int)).bind _ = _
  rw [List.getElem?_eq_getElem hi] at hp; injection hp with hp
  rw [aU_ hi, Option.bind_some, eqV, a4_ hp, if_pos rfl])
 rcases this with ⟨r, r1, r2, r3, r4⟩ | ⟨r1, r2⟩
 ·have h0 : 0 ≤ r' := i3.2 (List.mem_of_getElem? r2)
  obtain ⟨n, hn⟩ : ∃ n : Nat, r' = n := ⟨r'.toNat, by omega⟩
  obtain ⟨a1, a2⟩ := i4 n hn
  have : n = r := by
   rcases Nat.lt_trichotomy n r with c | c | c
   ·exact absurd a1 (r3 n c)
   ·exact c
   ·exact absurd r2 (a2 r c)
  subst this; subst hn
  exact ⟨n, gz_ s v _ (by unfold dZ_; exact r4), i1, .inr ⟨n, r1, rfl⟩⟩
 ·have h0 : ¬ 0 ≤ r' := fun w => by
   obtain ⟨i, hi, e⟩ := List.getElem_of_mem (i3.1 w)
   exact r1 i hi (by rw [List.getElem?_eq_getElem hi, e])
  have : r' = -1 := by omega
  subst this
  exact ⟨-1, gz_ s v _ (by unfold dZ_; exact r2), i1, .inl ⟨rfl, by omega⟩⟩
theorem ph_ (h : ai_) (v : ac_) (r : Int) (hr : 4 ≤ v.Kind ∧ v.Kind ≤ 6) (hf : bf_ h v.Ref = some r) : cS_ h v = some r := by
 refine g2_ h v _ ?_
 unfold c5_
 rw [ref2, Option.bind_some, a4_ hr, if_neg (by simp), hf]; rfl
theorem s9_ {v : ac_} (h : bs_ v) : SmVS ⟨false, [v]⟩ := ⟨by simp, fun x hx => by simp at hx; subst hx; exact h⟩
theorem oZ_ {v w : ac_} (h : bs_ v) (h' : bs_ w) : SmVS ⟨false, [v, w]⟩ := ⟨by simp, fun x hx => by simp at hx; rcases hx with rfl | rfl; exact h; exact h'⟩

end Go.Am
end
