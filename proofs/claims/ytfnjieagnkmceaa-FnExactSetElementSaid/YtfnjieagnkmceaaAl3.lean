/- The law. -/
import Derived.Test.YtfnjieagnkmceaaAl2
section
set_option maxRecDepth 100000
set_option maxHeartbeats 2000000
set_option linter.unusedVariables false
set_option linter.unusedSimpArgs false
namespace Go.Am

/-! finding objects -/
def OrdP (l : List aa_) : Prop := ∀ i, 1 ≤ i → i < l.length → ∀ x y, l[i - 1]? = some x → l[i]? = some y → x.Id < y.Id
theorem oW_ {l : List aa_} (h : OrdP l) : ∀ (d i : Nat) (hi : i + d + 1 < l.length), (l[i]'(by omega)).Id < (l[i + d + 1]'hi).Id
 | 0, i, hi => h (i + 1) (by omega) hi _ _ (by rw [Nat.add_sub_cancel]; exact List.getElem?_eq_getElem (by omega)) (List.getElem?_eq_getElem hi)
 | d + 1, i, hi => by
  have h1 := oW_ h d i (by omega)
  have h2 := h (i + d + 2) (by omega) hi _ _ (by rw [show i + d + 2 - 1 = i + d + 1 by omega]; exact List.getElem?_eq_getElem (by omega)) (List.getElem?_eq_getElem hi)
  exact Int.lt_trans h1 h2
theorem hk_ {l : List aa_} (h : OrdP l) {i j : Nat} (hij : i < j) (hj : j < l.length) : (l[i]'(by omega)).Id < l[j].Id := by
 obtain ⟨d, rfl⟩ : ∃ d, j = i + d + 1 := ⟨j - i - 1, by omega⟩
 exact oW_ h d i hj
theorem cmp2 (a b : Int) : cL_ a b = some (if a < b then -1 else if b < a then 1 else 0) := by
 refine gB_ a b _ ?_
 unfold cK_
 have n : ∀ x : Int, cm_ x = some false := fun x => hl_ x _ (by unfold do_; simp)
 rw [n a, n b]
 by_cases h1 : a < b
 ·simp [h1]
 ·by_cases h2 : b < a <;> simp [h1, h2]
theorem cmpO (x : aa_) (b : Int) : bi_ x b = some (if x.Id < b then -1 else if b < x.Id then 1 else 0) := gD_ x b _ (by unfold c1_; rw [cmp2]; rfl)
/-- Where an object is, or -1. -/
def AtP (h : aj_) (id : Int) (r : Int) : Prop := (∃ n : Nat, ∃ hn : n < h.Objects.l.length, r = n ∧ h.Objects.l[n].Id = id) ∨ (r = -1 ∧ ∀ o ∈ h.Objects.l, o.Id ≠ id)
theorem rI_ (h : aj_) (id : Int) (hl : h.Objects.l.length ≤ 1048576) : ∃ r, b5_ h id = some r ∧ AtP h id r := by
 have := j8_ (n := h.Objects.l.length) (p := fun i => ∀ x, h.Objects.l[i]? = some x → x.Id = id) (bd := fun st1 => ((elt h.Objects st1).bind fun y2 => (if (decide (y2.Id = id)) = true then (some (.inr (.inr st1))) else (some (.inl (w4 (st1 + 1))))))) (by omega) (fun i hi hp => by
  show (elt h.Objects (i : Int)).bind _ = _
  rw [aW_ hi, Option.bind_some, if_neg (by simp; exact fun e => hp fun x hx => by rw [List.getElem?_eq_getElem hi] at hx; injection hx with hx; subst hx; exact e)]) (fun i hi hp => by
  show (elt h.Objects (i : Int)).bind _ = _
  rw [aW_ hi, Option.bind_some, if_pos (by simpa using hp _ (List.getElem?_eq_getElem hi))])
 rcases this with ⟨r, r1, r2, r3, r4⟩ | ⟨r1, r2⟩
 ·exact ⟨r, gm_ h id _ (by unfold dC_; exact r4), .inl ⟨r, r1, rfl, r2 _ (List.getElem?_eq_getElem r1)⟩⟩
 ·refine ⟨-1, gm_ h id _ (by unfold dC_; exact r2), .inr ⟨rfl, fun o ho e => ?_⟩⟩
  obtain ⟨i, hi, rfl⟩ := List.getElem_of_mem ho
  exact r1 i hi fun x hx => by rw [List.getElem?_eq_getElem hi] at hx; injection hx with hx; subst hx; exact e
theorem pX_ (a : Sl aa_) (a1 : Int) (hl : a.l.length ≤ 1048576) (hr : OrdP a.l) : ∃ r : Nat, r ≤ a.l.length ∧ aM_ (S := (Int × Int)) (R := Int) (fun st1 => (if (decide (st1.1 < st1.2)) = true then ((elt a ((w4 (((IntKind.u64.wrap (w4 (st1.1 + st1.2))).fdiv (2 ^ 1)))))).bind fun y2 => ((bi_ y2 a1).bind fun y3 => (if (decide (y3 < 0)) = true then (some (.inl ((w4 ((w4 (((IntKind.u64.wrap (w4 (st1.1 + st1.2))).fdiv (2 ^ 1)))) + 1)), st1.2))) else (some (.inl (st1.1, (w4 (((IntKind.u64.wrap (w4 (st1.1 + st1.2))).fdiv (2 ^ 1)))))))))) else (some (.inr st1.1)))) (0, (a.l.length : Int)) = some (r : Int) ∧ (∀ k, (hk : k < r) → (hk2 : k < a.l.length) → a.l[k].Id < a1) ∧ (∀ k, r ≤ k → (hk : k < a.l.length) → ¬ a.l[k].Id < a1) := by
 suffices H : ∀ (m lo hi : Nat), hi - lo ≤ m → lo ≤ hi → hi ≤ a.l.length → (∀ k, (hk : k < lo) → (hk2 : k < a.l.length) → a.l[k].Id < a1) → (∀ k, hi ≤ k → (hk : k < a.l.length) → ¬ a.l[k].Id < a1) →
   ∃ r : Nat, r ≤ a.l.length ∧ aM_ (S := (Int × Int)) (R := Int) (fun st1 => (if (decide (st1.1 < st1.2)) = true then ((elt a ((w4 (((IntKind.u64.wrap (w4 (st1.1 + st1.2))).fdiv (2 ^ 1)))))).bind fun y2 => ((bi_ y2 a1).bind fun y3 => (if (decide (y3 < 0)) = true then (some (.inl ((w4 ((w4 (((IntKind.u64.wrap (w4 (st1.1 + st1.2))).fdiv (2 ^ 1)))) + 1)), st1.2))) else (some (.inl (st1.1, (w4 (((IntKind.u64.wrap (w4 (st1.1 + st1.2))).fdiv (2 ^ 1)))))))))) else (some (.inr st1.1)))) ((lo : Int), (hi : Int)) = some (r : Int) ∧ (∀ k, (hk : k < r) → (hk2 : k < a.l.length) → a.l[k].Id < a1) ∧ (∀ k, r ≤ k → (hk : k < a.l.length) → ¬ a.l[k].Id < a1) by
  exact H a.l.length 0 a.l.length (by omega) (by omega) (Nat.le_refl _) (fun k hk => by omega) (fun k hk hk2 => by omega)
 intro m
 induction m with
 | zero =>
  intro lo hi hm h1 h2 h3 h4
  have : lo = hi := by omega
  subst this
  refine ⟨lo, h2, aL_ ?_, h3, h4⟩
  show (if decide ((lo : Int) < (lo : Int)) = true then _ else _) = _
  rw [if_neg (by simp)]
 | succ m ih =>
  intro lo hi hm h1 h2 h3 h4
  by_cases hlt : lo < hi
  ·obtain ⟨md, hmd⟩ : ∃ md, md = (lo + hi) / 2 := ⟨_, rfl⟩
   have hw : w4 ((IntKind.u64.wrap (w4 ((lo : Int) + (hi : Int)))).fdiv (2 ^ 1)) = (md : Int) := by
    rw [cM_ (n := (lo : Int) + hi) (by omega) (by omega)]
    have e1 : IntKind.u64.wrap ((lo : Int) + hi) = (lo : Int) + hi := by
     simp only [w4, IntKind.wrap, IntKind.signed, IntKind.bits]; simp; omega
    have e2 : ((lo : Int) + hi).fdiv (2 ^ 1) = (md : Int) := by
     rw [Int.fdiv_eq_ediv_of_nonneg _ (by omega), hmd]; omega
    rw [e1, e2, cM_ (by omega) (by omega)]
   have hmlt : md < a.l.length := by omega
   by_cases hc : a.l[md].Id < a1
   ·obtain ⟨R, r1, r2, r3⟩ := ih (md + 1) hi (by omega) (by omega) h2 (fun k hk hk2 => by
     by_cases e : k = md
     ·subst e; exact hc
     ·exact Int.lt_trans (hk_ hr (by omega : k < md) hmlt) hc) h4
    ·have e : (((md + 1 : Nat) : Int)) = (md : Int) + 1 := by simp
     rw [e] at r2
     refine ⟨R, r1, a3_ ?_ r2, r3⟩
     show (if decide ((lo : Int) < (hi : Int)) = true then _ else _) = _
     rw [if_pos (by simpa using hlt), hw, aW_ hmlt, Option.bind_some, cmpO, Option.bind_some, if_pos hc, if_pos (by simp), cM_ (by omega) (by omega)]
   ·obtain ⟨R, r1, r2, r3⟩ := ih lo md (by omega) (by omega) (by omega) h3 (fun k hk hk2 => by
     intro w
     by_cases e : k = md
     ·subst e; exact hc w
     ·exact hc (Int.lt_trans (hk_ hr (by omega : md < k) hk2) w))
    ·refine ⟨R, r1, a3_ ?_ r2, r3⟩
     show (if decide ((lo : Int) < (hi : Int)) = true then _ else _) = _
     rw [if_pos (by simpa using hlt), hw, aW_ hmlt, Option.bind_some, cmpO, Option.bind_some, if_neg hc, if_neg (by split <;> simp)]
  ·have : lo = hi := by omega
   subst this
   refine ⟨lo, h2, aL_ ?_, h3, h4⟩
   show (if decide ((lo : Int) < (lo : Int)) = true then _ else _) = _
   rw [if_neg (by simp)]
theorem ni_ {h : aj_} {id r r' : Int} (ho : OrdP h.Objects.l) (h1 : AtP h id r) (h2 : AtP h id r') : r = r' := by
 rcases h1 with ⟨n, hn, rfl, e⟩ | ⟨rfl, e⟩ <;> rcases h2 with ⟨n', hn', rfl, e'⟩ | ⟨rfl, e'⟩
 ·rcases Nat.lt_trichotomy n n' with c | c | c
  ·have := hk_ ho c hn'; omega
  ·rw [c]
  ·have := hk_ ho c hn; omega
 ·exact absurd e (e' _ (List.getElem_mem hn))
 ·exact absurd e' (e _ (List.getElem_mem hn'))
 ·rfl
theorem rA_ (h : aj_) (id : Int) (hl : h.Objects.l.length ≤ 1048576) (ho : OrdP h.Objects.l) : ∃ r, bk_ h id = some r ∧ AtP h id r := by
 suffices H : ∃ r, cC_ h id = some r ∧ AtP h id r by
  obtain ⟨r, a, b⟩ := H; exact ⟨r, hV_ h id r a, b⟩
 unfold cC_
 obtain ⟨r, r1, r2, r3, r4⟩ := pX_ h.Objects id hl ho
 rw [r2, Option.bind_some]
 by_cases hlt : r < h.Objects.l.length
 ·rw [if_pos (by simpa using hlt), aW_ hlt, Option.bind_some, cmpO, Option.bind_some]
  by_cases e : h.Objects.l[r].Id = id
  ·refine ⟨r, by simp [e], .inl ⟨r, hlt, rfl, e⟩⟩
  ·refine ⟨-1, ?_, .inr ⟨rfl, fun o hm e2 => ?_⟩⟩
   ·have n1 := r4 r (Nat.le_refl _) hlt
    have e3 : id < h.Objects.l[r].Id := by omega
    simp [n1, e3]
   ·obtain ⟨k, hk, rfl⟩ := List.getElem_of_mem hm
    rcases Nat.lt_trichotomy k r with c | c | c
    ·have := r3 k c hk; omega
    ·subst c; exact e e2
    ·have := hk_ ho c hk; have := r4 r (Nat.le_refl _) hlt; omega
 ·rw [if_neg (by simpa using hlt)]
  refine ⟨-1, rfl, .inr ⟨rfl, fun o hm e2 => ?_⟩⟩
  obtain ⟨k, hk, rfl⟩ := List.getElem_of_mem hm
  have := r3 k (by omega) hk; omega
theorem m4_ (h : aj_) (id : Int) (hl : h.Objects.l.length ≤ 1048576) (ho : OrdP h.Objects.l) : ∃ r, b5_ h id = some r ∧ bk_ h id = some r ∧ AtP h id r := by
 obtain ⟨r, a, b⟩ := rI_ h id hl
 obtain ⟨r', a', b'⟩ := rA_ h id hl ho
 have := ni_ ho b b'; subst this
 exact ⟨r, a, a', b⟩

/-! values that fit -/
def jv_ (k : Int) : Int := w4 (w4 (k - 4) + 1)
def RefP (h : aj_) (v : ac_) : Prop := ∃ o ∈ h.Objects.l, o.Id = v.Ref ∧ o.Kind = jv_ v.Kind
def h1_ (h : aj_) (v : ac_) : Prop := ValP v ∧ ((4 ≤ v.Kind ∧ v.Kind ≤ 6) → RefP h v)
theorem ref1 (v : ac_) : en_ v = some (says (4 ≤ v.Kind ∧ v.Kind ≤ 6)) := iC_ v _ (by unfold ev_; exact cN_ (in1 _ _ _))
theorem ref2 (k : Int) : ec_ k = some (says (4 ≤ k ∧ k ≤ 6)) := j6_ k _ (by unfold fx_; exact cN_ (in2 _ _ _))
theorem na_ {h : aj_} {v : ac_} {r : Int} (ho : OrdP h.Objects.l) (ha : AtP h v.Ref r) : (0 ≤ r → ∃ n : Nat, ∃ hn : n < h.Objects.l.length, r = n ∧ (h.Objects.l[n].Kind = jv_ v.Kind ↔ RefP h v)) ∧ (¬ 0 ≤ r → ¬ RefP h v) := by
 rcases ha with ⟨n, hn, rfl, e⟩ | ⟨rfl, e⟩
 ·refine ⟨fun _ => ⟨n, hn, rfl, fun w => ⟨_, List.getElem_mem hn, e, w⟩, fun ⟨o, hm, e2, w⟩ => ?_⟩, fun w => absurd (by omega) w⟩
  obtain ⟨k, hk, rfl⟩ := List.getElem_of_mem hm
  have := ni_ (r := (n : Int)) (r' := (k : Int)) (id := v.Ref) (h := h) ho (.inl ⟨n, hn, rfl, e⟩) (.inl ⟨k, hk, rfl, e2⟩)
  have : n = k := by omega
  subst this; exact w
 ·exact ⟨fun w => by omega, fun _ ⟨o, hm, e2, _⟩ => e o hm e2⟩
theorem qP_ (h : aj_) (v : ac_) (hl : h.Objects.l.length ≤ 1048576) (ho : OrdP h.Objects.l) (hv : bg_ v) : b4_ h v = some (says (h1_ h v)) := by
 refine i9_ h v _ ?_
 unfold eQ_
 refine fN_ (val1 v hv) fun _ => ?_
 rw [ref1, Option.bind_some]
 by_cases hr : 4 ≤ v.Kind ∧ v.Kind ≤ 6
 ·rw [aZ_ hr, if_neg (by simp)]
  obtain ⟨r, r1, ra⟩ := rI_ h v.Ref hl
  obtain ⟨q1, q2⟩ := na_ ho ra
  rw [r1, Option.bind_some]
  have hk : cw_ v.Kind = some (jv_ v.Kind) := gk_ _ _ rfl
  by_cases h0 : 0 ≤ r
  ·obtain ⟨n, hn, rfl, e⟩ := q1 h0
   rw [if_pos (by simp), aW_ hn, Option.bind_some, hk, Option.bind_some]
   exact gQ_ ea_ (e.trans ⟨fun w _ => w, fun w => w hr⟩)
  ·rw [if_neg (by simpa using h0), aS_ fun w => q2 h0 (w hr)]
 ·rw [aS_ hr, if_pos (by simp), aZ_ fun w => absurd w hr]
theorem sw_ (h : aj_) (v : ac_) (hl : h.Objects.l.length ≤ 1048576) (ho : OrdP h.Objects.l) (hv : bg_ v) : d0_ h v = some (says (h1_ h v)) := by
 refine h7_ h v _ ?_
 unfold dL_
 rw [val2 v hv]
 by_cases hvp : ValP v
 ·rw [aZ_ hvp]
  simp only [Option.bind_some]
  rw [if_neg (by simp), ref2, Option.bind_some]
  by_cases hr : 4 ≤ v.Kind ∧ v.Kind ≤ 6
  ·rw [aZ_ hr, if_neg (by simp)]
   obtain ⟨r, r1, ra⟩ := rA_ h v.Ref hl ho
   obtain ⟨q1, q2⟩ := na_ ho ra
   rw [r1, Option.bind_some]
   have hk : dt_ v.Kind = some (jv_ v.Kind) := hv_ _ _ rfl
   by_cases h0 : 0 ≤ r
   ·obtain ⟨n, hn, rfl, e⟩ := q1 h0
    rw [if_pos (by simp), aW_ hn, Option.bind_some, hk, Option.bind_some]
    exact gQ_ ea_ (e.trans ⟨fun w => ⟨hvp, fun _ => w⟩, fun w => w.2 hr⟩)
   ·rw [if_neg (by simpa using h0), aS_ fun w => q2 h0 (w.2 hr)]
  ·rw [aS_ hr, if_pos (by simp), aZ_ ⟨hvp, fun w => absurd w hr⟩]
 ·rw [aS_ hvp]
  simp only [Option.bind_some]
  rw [if_pos (by simp), aS_ fun w => hvp w.1]
theorem lH_ (h : aj_) (s : Sl ac_) (hl : h.Objects.l.length ≤ 1048576) (ho : OrdP h.Objects.l) (hs : SmVS s) : aY_ h s = some (says (∀ v ∈ s.l, h1_ h v)) := by
 refine hZ_ h s _ ?_
 unfold dW_
 have hl' := hs.1
 refine gO_ (by omega) fun i x hx he => ?_
 rw [he, Option.bind_some, qP_ h x hl ho (hs.2 x hx), Option.bind_some]
 exact ⟨fun h => by rw [aZ_ h, if_neg (by simp)], fun h => by rw [aS_ h, if_pos (by simp)]⟩
theorem nM_ (h : aj_) (s : Sl ac_) (hl : h.Objects.l.length ≤ 1048576) (ho : OrdP h.Objects.l) (hn : s.l.length ≤ 2097160) (hs : ∀ v ∈ s.l, bg_ v) : aD_ s (T.fn 73 [.agg (aj_.cells h)] []) = some (says (∀ v ∈ s.l, h1_ h v)) := all2 s hn 73 _ _ _ fun x hx => by
 have e : i4_ Go.Proofs.Try.prog md ext E_bool (T.fn 73 [.agg (aj_.cells h)] []) [.agg (ac_.cells x)] = d0_ h x := rfl
 rw [e, sw_ h x hl ho (hs x hx)]

/-! all values of an object -/
theorem lT_ {α : Type} {by_ : Nat} (hb : by_ ≤ 1000) {a b : Sl α} (ha : a.l.length ≤ 1048576) (hb' : b.l.length ≤ 1048576) (z : Bool) :
  ∃ s : Sl α, s.l = a.l ++ b.l ∧ (s.z = true → z = true) ∧ aM_ (S := (Int × (Sl α))) (R := (Sl α)) (fun st2 => (if (decide (st2.1 < ((⟨false, [a, b]⟩ : Sl (Sl α)).l.length : Int))) = true then ((elt (⟨false, [a, b]⟩ : Sl (Sl α)) st2.1).bind fun y8 => ((appS by_ st2.2 y8).bind fun y9 => (some (.inl ((w4 (st2.1 + 1)), y9))))) else (some (.inr st2.2)))) (0, (⟨z, []⟩ : Sl α)) = some s := by
 have app : ∀ (x y : Sl α), x.l.length ≤ 1048576 → y.l.length ≤ 1048576 → ∃ s : Sl α, appS by_ x y = some s ∧ s.l = x.l ++ y.l ∧ (s.z = true → x.z = true) := fun x y h1 h2 => by
  unfold appS
  split
  ·rename_i e; exact ⟨x, rfl, by rw [e]; simp, fun w => w⟩
  ·rw [if_pos]
   ·exact ⟨_, rfl, rfl, fun w => by cases w⟩
   ·have : (x.l.length + y.l.length) * by_ ≤ 2097152 * 1000 := Nat.mul_le_mul (by omega) hb
    omega
 obtain ⟨s1, p1, p2, p3⟩ := app ⟨z, []⟩ a (by simp) ha
 obtain ⟨s2, q1, q2, q3⟩ := app s1 b (by rw [p2]; simpa using ha) hb'
 refine ⟨s2, by rw [q2, p2]; first | done | simp, fun w => p3 (q3 w), ?_⟩
 refine a3_ (s' := (1, s1)) ?_ (a3_ (s' := (2, s2)) ?_ (aL_ ?_))
 ·show ((appS by_ ⟨z, []⟩ a).bind _) = _
  rw [p1]; rfl
 ·show ((appS by_ s1 b).bind _) = _
  rw [q1]; rfl
 ·rfl
theorem p2_ (a b : Sl ac_) (ha : a.l.length ≤ 1048576) (hb : b.l.length ≤ 1048576) : ∃ s : Sl ac_, cd_ ⟨false, [a, b]⟩ = some s ∧ s.l = a.l ++ b.l := by
 suffices H : ∃ s : Sl ac_, bu_ ⟨false, [a, b]⟩ = some s ∧ s.l = a.l ++ b.l by
  obtain ⟨s, h1, h2⟩ := H; exact ⟨s, f6_ _ s h1, h2⟩
 unfold bu_
 have w1 : w4 (0 + (a.l.length : Int)) = (a.l.length : Int) := by rw [cM_ (by omega) (by omega)]; omega
 have w2 : w4 ((a.l.length : Int) + (b.l.length : Int)) = (a.l.length : Int) + b.l.length := cM_ (by omega) (by omega)
 have e : aM_ (S := (Int × Int)) (R := Int) (fun st1 => (if (decide (st1.2 < ((⟨false, [a, b]⟩ : Sl (Sl ac_)).l.length : Int))) = true then ((elt (⟨false, [a, b]⟩ : Sl (Sl ac_)) st1.2).bind fun y2 => (if (decide ((w4 (st1.1 + (y2.l.length : Int))) < 0)) = true then none else (some (.inl ((w4 (st1.1 + (y2.l.length : Int))), (w4 (st1.2 + 1))))))) else (some (.inr st1.1)))) (0, 0) = some ((a.l.length : Int) + b.l.length) := by
  refine a3_ (s' := ((a.l.length : Int), 1)) ?_ (a3_ (s' := ((a.l.length : Int) + b.l.length, 2)) ?_ (aL_ ?_))
  ·show (if decide (w4 (0 + (a.l.length : Int)) < 0) = true then none else _) = _
   rw [w1, if_neg (by rw [decide_eq_true_eq]; omega)]; rfl
  ·show (if decide (w4 ((a.l.length : Int) + (b.l.length : Int)) < 0) = true then none else _) = _
   rw [w2, if_neg (by rw [decide_eq_true_eq]; omega)]; rfl
  ·rfl
 have g1 : (if decide ((a.l.length : Int) + b.l.length < 0) = true then (none : Option Unit) else some ()) = some () := if_neg (by simp; omega)
 rw [e, Option.bind_some, g1, Option.bind_some]
 have w3 : w4 ((a.l.length : Int) + b.l.length - w4 (0 - 0)) = (a.l.length : Int) + b.l.length := by
  rw [show w4 (0 - 0) = 0 from rfl, cM_ (by omega) (by omega)]; omega
 rw [w3]
 by_cases hz : 0 < (a.l.length : Int) + b.l.length
 ·rw [if_pos (by simpa using hz)]
  have z1 : kO_ 40 ((⟨0, 0, ⟨#[]⟩, 0⟩ : ac_) : ac_) ((a.l.length : Int) + b.l.length) = some ⟨false, List.replicate ((a.l.length : Int) + b.l.length).toNat ⟨0, 0, ⟨#[]⟩, 0⟩⟩ := by
   unfold kO_; rw [if_pos ⟨hz, by omega⟩]
  rw [z1, Option.bind_some, if_pos (by simp; omega), Option.bind_some]
  obtain ⟨s, s1, s2, s3⟩ := lT_ (by_ := 40) (by omega) ha hb false
  rw [s3, Option.bind_some, if_pos]
  ·exact ⟨s, rfl, s1⟩
  ·have : s.l.length ≠ 0 := by rw [s1, List.length_append]; omega
   simp [this]
 ·rw [if_neg (by simpa using hz)]
  obtain ⟨s, s1, s2, s3⟩ := lT_ (by_ := 40) (by omega) ha hb true
  rw [s3]; exact ⟨s, rfl, s1⟩
theorem pp_ (o : aa_) (h : cE_ o) : ∃ s : Sl ac_, bm_ o = some s ∧ s.l.length ≤ 2097160 ∧ ∀ v, v ∈ s.l ↔ (v ∈ o.Keys.l ∨ v ∈ o.Vals.l ∨ (o.Kind = 2 ∧ v = o.Default)) := by
 suffices H : ∃ s : Sl ac_, bE_ o = some s ∧ s.l.length ≤ 2097160 ∧ ∀ v, v ∈ s.l ↔ (v ∈ o.Keys.l ∨ v ∈ o.Vals.l ∨ (o.Kind = 2 ∧ v = o.Default)) by
  obtain ⟨s, h1, h2⟩ := H; exact ⟨s, gi_ _ s h1, h2⟩
 unfold bE_
 have hk := h.2.1.1; have hv := h.2.2.1.1
 obtain ⟨s, s1, s2⟩ := p2_ o.Keys o.Vals hk hv
 have hsl : s.l.length = o.Keys.l.length + o.Vals.l.length := by rw [s2]; simp
 rw [s1, Option.bind_some]
 by_cases hk2 : o.Kind = 2
 ·rw [if_pos (by simpa using hk2)]
  have : appS 40 s (⟨false, [o.Default]⟩ : Sl ac_) = some ⟨false, s.l ++ [o.Default]⟩ := by
   unfold appS
   show (if (s.l.length + 1) * 40 ≤ 1099511627776 then _ else none) = _
   rw [if_pos (by omega)]
  rw [this]
  refine ⟨_, rfl, by simp; omega, fun v => ?_⟩
  simp only [s2, hk2]; simp
 ·rw [if_neg (by simpa using hk2)]
  exact ⟨s, rfl, by omega, fun v => by rw [s2]; simp [hk2]⟩

/-! heaps -/
def kP_ (h : aj_) (o : aa_) : Prop := (∀ v ∈ o.Keys.l, h1_ h v) ∧ (∀ v ∈ o.Vals.l, h1_ h v) ∧ (o.Kind = 2 → h1_ h o.Default)
def of_ (h : aj_) : Prop := (0 ≤ h.Next ∧ h.Next ≤ 1000000) ∧ (h.Objects.l.length : Int) ≤ 40 ∧ ((∀ o ∈ h.Objects.l, ObjP o ∧ o.Id ≤ h.Next) ∧ OrdP h.Objects.l) ∧ ∀ o ∈ h.Objects.l, kP_ h o
theorem hP_ {h : aj_} (hs : eD_ h) {i : Nat} (hi : i < h.Objects.l.length) : cE_ h.Objects.l[i] := hs.2 _ (List.getElem_mem hi)
theorem mi_ {h : aj_} : (∀ i, i < h.Objects.l.length → ∀ x, h.Objects.l[i]? = some x → (ObjP x ∧ x.Id ≤ h.Next) ∧ ∀ y, 0 < i → h.Objects.l[i - 1]? = some y → y.Id < x.Id) ↔ (∀ o ∈ h.Objects.l, ObjP o ∧ o.Id ≤ h.Next) ∧ OrdP h.Objects.l := by
 constructor
 ·intro w
  exact ⟨iS_.1 fun i hi x hx => (w i hi x hx).1, fun i h1 hi x y hx hy => (w i hi y hy).2 x (by omega) hx⟩
 ·rintro ⟨w1, w2⟩ i hi x hx
  exact ⟨w1 x (List.mem_of_getElem? hx), fun y h0 hy => w2 i h0 hi y x hy hx⟩
theorem ok1 (h : aj_) (hs : eD_ h) : fR_ h = some (says (of_ h)) := by
 refine lh_ h _ ?_
 unfold f7_
 have hl := hs.1
 refine fN_ (in1 _ _ _) fun hnx => s_gt fun h40 => ?_
 have := km_ (n := h.Objects.l.length) (p := fun i => ∀ x, h.Objects.l[i]? = some x → (ObjP x ∧ x.Id ≤ h.Next) ∧ ∀ y, 0 < i → h.Objects.l[i - 1]? = some y → y.Id < x.Id) (q := ∀ o ∈ h.Objects.l, kP_ h o) (bd := fun st1 => ((elt h.Objects st1).bind fun y3 => ((cD_ y3).bind fun y4 => (if (!y4) = true then (some (.inr (.inr false))) else (if (decide (h.Next < y3.Id)) = true then (some (.inr (.inr false))) else (if (decide (0 < st1)) = true then ((elt h.Objects (w4 (st1 - 1))).bind fun y5 => (if (decide (y3.Id ≤ y5.Id)) = true then (some (.inr (.inr false))) else (some (.inl (w4 (st1 + 1)))))) else (some (.inl (w4 (st1 + 1)))))))))) (K := ((aM_ (S := Int) (R := (Unit ⊕ Bool)) (fun st2 => (if (decide (st2 < (h.Objects.l.length : Int))) = true then ((elt h.Objects st2).bind fun y7 => ((aY_ h y7.Keys).bind fun y8 => (if y8 = true then ((aY_ h y7.Vals).bind fun y9 => (if y9 = true then (if (!decide (y7.Kind = 2)) = true then (some (.inl (w4 (st2 + 1)))) else ((b4_ h y7.Default).bind fun y10 => (if (!y10) = true then (some (.inr (.inr false))) else (some (.inl (w4 (st2 + 1))))))) else (some (.inr (.inr false))))) else (some (.inr (.inr false)))))) else (some (.inr (.inl ()))))) 0).bind fun y6 => (Sum.elim (fun y6 => (some true)) (fun y6 => (some y6)) y6))) (by omega) (fun i hi hp => ?_) (fun i hi hp => ?_) (fun hall => ?_)
 ·refine this.trans (congrArg some (aU_ ?_))
  rw [mi_]
 ·obtain ⟨⟨w1, w2⟩, w3⟩ := hp _ (List.getElem?_eq_getElem hi)
  show (elt h.Objects (i : Int)).bind _ = _
  rw [aW_ hi, Option.bind_some, obj1 _ (hP_ hs hi), Option.bind_some, aZ_ w1, if_neg (by simp), if_neg (by simpa using w2)]
  by_cases h0 : 0 < i
  ·rw [if_pos (by simpa using h0), cM_ (by omega) (by omega), show ((i : Int) - 1) = ((i - 1 : Nat) : Int) by omega, aW_ (by omega), Option.bind_some, if_neg (by
    have := w3 _ h0 (List.getElem?_eq_getElem (by omega)); simpa using this)]
  ·rw [if_neg (by simpa using h0)]
 ·show (elt h.Objects (i : Int)).bind _ = _
  rw [aW_ hi, Option.bind_some, obj1 _ (hP_ hs hi), Option.bind_some]
  by_cases w1 : ObjP h.Objects.l[i]
  ·rw [aZ_ w1, if_neg (by simp)]
   by_cases w2 : h.Objects.l[i].Id ≤ h.Next
   ·rw [if_neg (by simpa using w2)]
    by_cases h0 : 0 < i
    ·rw [if_pos (by simpa using h0), cM_ (by omega) (by omega), show ((i : Int) - 1) = ((i - 1 : Nat) : Int) by omega, aW_ (by omega), Option.bind_some]
     by_cases w3 : h.Objects.l[i - 1].Id < h.Objects.l[i].Id
     ·refine absurd (fun x hx => ?_) hp
      rw [List.getElem?_eq_getElem hi] at hx; injection hx with hx; subst hx
      exact ⟨⟨w1, w2⟩, fun y _ hy => by rw [List.getElem?_eq_getElem (by omega)] at hy; injection hy with hy; subst hy; exact w3⟩
     ·rw [if_pos (by simpa using w3)]
    ·refine absurd (fun x hx => ?_) hp
     rw [List.getElem?_eq_getElem hi] at hx; injection hx with hx; subst hx
     exact ⟨⟨w1, w2⟩, fun y h _ => absurd h h0⟩
   ·rw [if_pos (by simpa using w2)]
  ·rw [aS_ w1, if_pos (by simp)]
 ·obtain ⟨hob, hord⟩ := mi_.1 hall
  have := gR_ (n := h.Objects.l.length) (p := fun i => ∀ x, h.Objects.l[i]? = some x → kP_ h x) (bd := fun st2 => ((elt h.Objects st2).bind fun y7 => ((aY_ h y7.Keys).bind fun y8 => (if y8 = true then ((aY_ h y7.Vals).bind fun y9 => (if y9 = true then (if (!decide (y7.Kind = 2)) = true then (some (.inl (w4 (st2 + 1)))) else ((b4_ h y7.Default).bind fun y10 => (if (!y10) = true then (some (.inr (.inr false))) else (some (.inl (w4 (st2 + 1))))))) else (some (.inr (.inr false))))) else (some (.inr (.inr false))))))) 0 (by omega) (fun i _ hi hp => ?_) (fun i _ hi hp => ?_)
  ·have e0 : ((0 : Nat) : Int) = 0 := rfl
   rw [e0] at this
   refine this.trans (congrArg some (aU_ ?_))
   rw [← iS_]
   exact ⟨fun w i hi => w i (Nat.zero_le _) hi, fun w i _ hi => w i hi⟩
  all_goals
   have so := hP_ hs hi
   have f1 := lH_ h h.Objects.l[i].Keys hl hord so.2.1
   have f2 := lH_ h h.Objects.l[i].Vals hl hord so.2.2.1
   have f3 := qP_ h h.Objects.l[i].Default hl hord so.2.2.2
  ·obtain ⟨w1, w2, w3⟩ := hp _ (List.getElem?_eq_getElem hi)
   show (elt h.Objects (i : Int)).bind _ = _
   rw [aW_ hi, Option.bind_some, f1, Option.bind_some, aZ_ w1, if_pos rfl, f2, Option.bind_some, aZ_ w2, if_pos rfl]
   by_cases k2 : h.Objects.l[i].Kind = 2
   ·rw [if_neg (by simp [k2]), f3, Option.bind_some, aZ_ (w3 k2), if_neg (by simp)]
   ·rw [if_pos (by simp [k2])]
  ·show (elt h.Objects (i : Int)).bind _ = _
   rw [aW_ hi, Option.bind_some, f1, Option.bind_some]
   by_cases w1 : ∀ v ∈ h.Objects.l[i].Keys.l, h1_ h v
   ·rw [aZ_ w1, if_pos rfl, f2, Option.bind_some]
    by_cases w2 : ∀ v ∈ h.Objects.l[i].Vals.l, h1_ h v
    ·rw [aZ_ w2, if_pos rfl]
     have hno : ¬ (h.Objects.l[i].Kind = 2 → h1_ h h.Objects.l[i].Default) := fun w3 => hp fun x hx => by
      rw [List.getElem?_eq_getElem hi] at hx; injection hx with hx; subst hx; exact ⟨w1, w2, w3⟩
     by_cases k2 : h.Objects.l[i].Kind = 2
     ·rw [if_neg (by simp [k2]), f3, Option.bind_some, aS_ (fun w => hno fun _ => w), if_pos (by simp)]
     ·exact absurd (fun w => absurd w k2) hno
    ·rw [aS_ w2, if_neg (by simp)]
   ·rw [aS_ w1, if_neg (by simp)]
theorem oj_ (h : aj_) (hl : h.Objects.l.length ≤ 1048576) : ((∀ o ∈ h.Objects.l, o.Id ≤ h.Next) ∧ OrdP h.Objects.l ∧ (∀ o ∈ h.Objects.l, 0 < o.Id) → aM_ (S := (Int × Int)) (R := (Unit ⊕ Bool)) (fun st2 => (if (decide (st2.2 < (h.Objects.l.length : Int))) = true then ((elt h.Objects st2.2).bind fun y7 => (if (decide (y7.Id ≤ st2.1)) = true then (some (.inr (.inr false))) else (if (decide (h.Next < y7.Id)) = true then (some (.inr (.inr false))) else (some (.inl (y7.Id, (w4 (st2.2 + 1)))))))) else (some (.inr (.inl ()))))) (0, 0) = some (.inl ())) ∧ (¬ ((∀ o ∈ h.Objects.l, o.Id ≤ h.Next) ∧ OrdP h.Objects.l ∧ (∀ o ∈ h.Objects.l, 0 < o.Id)) → aM_ (S := (Int × Int)) (R := (Unit ⊕ Bool)) (fun st2 => (if (decide (st2.2 < (h.Objects.l.length : Int))) = true then ((elt h.Objects st2.2).bind fun y7 => (if (decide (y7.Id ≤ st2.1)) = true then (some (.inr (.inr false))) else (if (decide (h.Next < y7.Id)) = true then (some (.inr (.inr false))) else (some (.inl (y7.Id, (w4 (st2.2 + 1)))))))) else (some (.inr (.inl ()))))) (0, 0) = some (.inr false)) := by
 suffices H : ∀ (m i : Nat) (last : Int), i + m = h.Objects.l.length → (((∀ k, i ≤ k → ∀ x, h.Objects.l[k]? = some x → x.Id ≤ h.Next) ∧ (∀ k, i < k → ∀ x y, h.Objects.l[k - 1]? = some x → h.Objects.l[k]? = some y → x.Id < y.Id) ∧ (∀ x, h.Objects.l[i]? = some x → last < x.Id)) → aM_ (S := (Int × Int)) (R := (Unit ⊕ Bool)) (fun st2 => (if (decide (st2.2 < (h.Objects.l.length : Int))) = true then ((elt h.Objects st2.2).bind fun y7 => (if (decide (y7.Id ≤ st2.1)) = true then (some (.inr (.inr false))) else (if (decide (h.Next < y7.Id)) = true then (some (.inr (.inr false))) else (some (.inl (y7.Id, (w4 (st2.2 + 1)))))))) else (some (.inr (.inl ()))))) (last, (i : Int)) = some (.inl ())) ∧
   (¬ ((∀ k, i ≤ k → ∀ x, h.Objects.l[k]? = some x → x.Id ≤ h.Next) ∧ (∀ k, i < k → ∀ x y, h.Objects.l[k - 1]? = some x → h.Objects.l[k]? = some y → x.Id < y.Id) ∧ (∀ x, h.Objects.l[i]? = some x → last < x.Id)) → aM_ (S := (Int × Int)) (R := (Unit ⊕ Bool)) (fun st2 => (if (decide (st2.2 < (h.Objects.l.length : Int))) = true then ((elt h.Objects st2.2).bind fun y7 => (if (decide (y7.Id ≤ st2.1)) = true then (some (.inr (.inr false))) else (if (decide (h.Next < y7.Id)) = true then (some (.inr (.inr false))) else (some (.inl (y7.Id, (w4 (st2.2 + 1)))))))) else (some (.inr (.inl ()))))) (last, (i : Int)) = some (.inr false)) by
  have := H h.Objects.l.length 0 0 (by omega)
  have e0 : ((0 : Nat) : Int) = 0 := rfl
  rw [e0] at this
  have key : ((∀ k, 0 ≤ k → ∀ x, h.Objects.l[k]? = some x → x.Id ≤ h.Next) ∧ (∀ k, 0 < k → ∀ x y, h.Objects.l[k - 1]? = some x → h.Objects.l[k]? = some y → x.Id < y.Id) ∧ (∀ x, h.Objects.l[0]? = some x → 0 < x.Id)) ↔ ((∀ o ∈ h.Objects.l, o.Id ≤ h.Next) ∧ OrdP h.Objects.l ∧ (∀ o ∈ h.Objects.l, 0 < o.Id)) := by
   constructor
   ·rintro ⟨a1, a2, a3⟩
    have ho : OrdP h.Objects.l := fun i h1 hi x y hx hy => a2 i h1 x y hx hy
    refine ⟨fun o ho => by obtain ⟨i, hi, rfl⟩ := List.getElem_of_mem ho; exact a1 i (Nat.zero_le _) _ (List.getElem?_eq_getElem hi), ho, fun o hm => ?_⟩
    obtain ⟨i, hi, rfl⟩ := List.getElem_of_mem hm
    have p0 := a3 _ (List.getElem?_eq_getElem (by omega : 0 < h.Objects.l.length))
    by_cases e : i = 0
    ·subst e; exact p0
    ·have := hk_ ho (by omega : 0 < i) hi; omega
   ·rintro ⟨a1, a2, a3⟩
    exact ⟨fun k _ x hx => a1 x (List.mem_of_getElem? hx), fun k hk x y hx hy => a2 k hk (by have := (List.getElem?_eq_some_iff.1 hy).1; exact this) x y hx hy, fun x hx => a3 x (List.mem_of_getElem? hx)⟩
  exact ⟨fun w => this.1 (key.2 w), fun w => this.2 fun q => w (key.1 q)⟩
 intro m
 induction m with
 | zero =>
  intro i last hi
  have hnone : ∀ k, i ≤ k → h.Objects.l[k]? = none := fun k hk => List.getElem?_eq_none (by omega)
  refine ⟨fun _ => aL_ ?_, fun w => (w ⟨fun k hk x hx => (by rw [hnone k hk] at hx; cases hx), fun k hk x y hx hy => (by rw [hnone k (by omega)] at hy; cases hy), fun x hx => (by rw [hnone i (Nat.le_refl _)] at hx; cases hx)⟩).elim⟩
  show (if decide ((i : Int) < (h.Objects.l.length : Int)) = true then _ else _) = _
  rw [if_neg (by simp; omega)]
 | succ m ih =>
  intro i last hi
  have hlt : i < h.Objects.l.length := by omega
  have e1 : ((i + 1 : Nat) : Int) = (i : Int) + 1 := by simp
  have hw : w4 ((i : Int) + 1) = (i : Int) + 1 := cM_ (by omega) (by omega)
  have hi' := ih (i + 1) h.Objects.l[i].Id (by omega)
  rw [e1] at hi'
  have start : ∀ r, (if decide (h.Objects.l[i].Id ≤ last) = true then (some (.inr (.inr false)) : Option ((Int × Int) ⊕ (Unit ⊕ Bool))) else (if decide (h.Next < h.Objects.l[i].Id) = true then (some (.inr (.inr false))) else (some (.inl (h.Objects.l[i].Id, (w4 ((i : Int) + 1))))))) = r → (fun st2 => (if (decide (st2.2 < (h.Objects.l.length : Int))) = true then ((elt h.Objects st2.2).bind fun y7 => (if (decide (y7.Id ≤ st2.1)) = true then (some (.inr (.inr false))) else (if (decide (h.Next < y7.Id)) = true then (some (.inr (.inr false))) else (some (.inl (y7.Id, (w4 (st2.2 + 1)))))))) else (some (.inr (.inl ()))))) (last, (i : Int)) = r := fun r hr => by
   show (if decide ((i : Int) < (h.Objects.l.length : Int)) = true then _ else _) = _
   rw [if_pos (by simpa using hlt), aW_ hlt, Option.bind_some]; exact hr
  by_cases c1 : h.Objects.l[i].Id ≤ last
  ·refine ⟨fun w => absurd (w.2.2 _ (List.getElem?_eq_getElem hlt)) (by omega), fun _ => aL_ (start _ (by rw [if_pos (by simpa using c1)]))⟩
  ·by_cases c2 : h.Next < h.Objects.l[i].Id
   ·refine ⟨fun w => absurd (w.1 i (Nat.le_refl _) _ (List.getElem?_eq_getElem hlt)) (by omega), fun _ => aL_ (start _ (by rw [if_neg (by simpa using c1), if_pos (by simpa using c2)]))⟩
   ·have st := start (some (.inl (h.Objects.l[i].Id, (i : Int) + 1))) (by rw [if_neg (by simpa using c1), if_neg (by simpa using c2), hw])
    have key : ((∀ k, i ≤ k → ∀ x, h.Objects.l[k]? = some x → x.Id ≤ h.Next) ∧ (∀ k, i < k → ∀ x y, h.Objects.l[k - 1]? = some x → h.Objects.l[k]? = some y → x.Id < y.Id) ∧ (∀ x, h.Objects.l[i]? = some x → last < x.Id)) ↔ ((∀ k, i + 1 ≤ k → ∀ x, h.Objects.l[k]? = some x → x.Id ≤ h.Next) ∧ (∀ k, i + 1 < k → ∀ x y, h.Objects.l[k - 1]? = some x → h.Objects.l[k]? = some y → x.Id < y.Id) ∧ (∀ x, h.Objects.l[i + 1]? = some x → h.Objects.l[i].Id < x.Id)) := by
     constructor
     ·rintro ⟨a1, a2, a3⟩
      exact ⟨fun k hk => a1 k (by omega), fun k hk => a2 k (by omega), fun x hx => a2 (i + 1) (by omega) _ x (by rw [Nat.add_sub_cancel]; exact List.getElem?_eq_getElem hlt) hx⟩
     ·rintro ⟨a1, a2, a3⟩
      refine ⟨fun k hk x hx => ?_, fun k hk x y hx hy => ?_, fun x hx => ?_⟩
      ·by_cases e : k = i
       ·subst e; rw [List.getElem?_eq_getElem hlt] at hx; injection hx with hx; subst hx; omega
       ·exact a1 k (by omega) x hx
      ·by_cases e : k = i + 1
       ·subst e; rw [Nat.add_sub_cancel, List.getElem?_eq_getElem hlt] at hx; injection hx with hx; subst hx; exact a3 y hy
       ·exact a2 k (by omega) x y hx hy
      ·rw [List.getElem?_eq_getElem hlt] at hx; injection hx with hx; subst hx; omega
    exact ⟨fun w => a3_ st (hi'.1 (key.1 w)), fun w => a3_ st (hi'.2 fun q => w (key.2 q))⟩
theorem ok2 (h : aj_) (hs : eD_ h) : dX_ h = some (says (of_ h)) := by
 refine hW_ h _ ?_
 unfold d1_
 have hl := hs.1
 refine fN_ (in2 _ _ _) fun hnx => s_gt fun h40 => ?_
 have A1 := kL_ (n := h.Objects.l.length) (p := fun i => ∀ x, h.Objects.l[i]? = some x → ObjP x) (bd := fun st1 => ((elt h.Objects st1).bind fun y4 => ((ca_ y4).bind fun y5 => (if (!y5) = true then (some (.inr (.inr ()))) else (some (.inl (w4 (st1 + 1)))))))) (by omega) (fun i hi hp => by
  show (elt h.Objects (i : Int)).bind _ = _
  rw [aW_ hi, Option.bind_some, obj2 _ (hP_ hs hi), Option.bind_some, aZ_ (hp _ (List.getElem?_eq_getElem hi)), if_neg (by simp)]) (fun i hi hp => by
  show (elt h.Objects (i : Int)).bind _ = _
  rw [aW_ hi, Option.bind_some, obj2 _ (hP_ hs hi), Option.bind_some, aS_ (fun w => hp fun x hx => by rw [List.getElem?_eq_getElem hi] at hx; injection hx with hx; subst hx; exact w), if_pos (by simp)])
 have A1 : _ = some (says (∀ o ∈ h.Objects.l, ObjP o)) := A1.trans (congrArg some (aU_ iS_))
 refine gQ_ (fN_ A1 fun hob => ?_) (q := ((∀ o ∈ h.Objects.l, ObjP o ∧ o.Id ≤ h.Next) ∧ OrdP h.Objects.l) ∧ ∀ o ∈ h.Objects.l, kP_ h o) (p := (∀ o ∈ h.Objects.l, ObjP o) ∧ ((∀ o ∈ h.Objects.l, o.Id ≤ h.Next) ∧ OrdP h.Objects.l) ∧ ∀ o ∈ h.Objects.l, kP_ h o) ⟨fun w => ⟨⟨fun o ho => ⟨w.1 o ho, w.2.1.1 o ho⟩, w.2.1.2⟩, w.2.2⟩, fun w => ⟨fun o ho => (w.1.1 o ho).1, ⟨fun o ho => (w.1.1 o ho).2, w.1.2⟩, w.2⟩⟩
 obtain ⟨L1, L2⟩ := oj_ h hl
 have hpos : ∀ o ∈ h.Objects.l, 0 < o.Id := fun o ho => by have := (hob o ho).1.1; omega
 by_cases ho : (∀ o ∈ h.Objects.l, o.Id ≤ h.Next) ∧ OrdP h.Objects.l
 ·rw [L1 ⟨ho.1, ho.2, hpos⟩, Option.bind_some]
  show ((_ : Option Bool).bind fun y8 => some y8) = _
  have vals : ∀ i (hi : i < h.Objects.l.length), ∃ s : Sl ac_, bm_ h.Objects.l[i] = some s ∧ aD_ s (T.fn 73 [.agg (aj_.cells h)] []) = some (says (kP_ h h.Objects.l[i])) := fun i hi => by
   obtain ⟨s, s1, s2, s3⟩ := pp_ _ (hP_ hs hi)
   have so := hP_ hs hi
   refine ⟨s, s1, ?_⟩
   rw [nM_ h s hl ho.2 s2 (fun v hv => by
    rcases (s3 v).1 hv with w | w | ⟨_, rfl⟩
    ·exact so.2.1.2 v w
    ·exact so.2.2.1.2 v w
    ·exact so.2.2.2)]
   congr 1
   refine aU_ ⟨fun w => ⟨fun v hv => w v ((s3 v).2 (.inl hv)), fun v hv => w v ((s3 v).2 (.inr (.inl hv))), fun hk => w _ ((s3 _).2 (.inr (.inr ⟨hk, rfl⟩)))⟩, fun w v hv => ?_⟩
   rcases (s3 v).1 hv with q | q | ⟨q, rfl⟩
   ·exact w.1 v q
   ·exact w.2.1 v q
   ·exact w.2.2 q
  have A3 := kL_ (n := h.Objects.l.length) (p := fun i => ∀ x, h.Objects.l[i]? = some x → kP_ h x) (bd := fun st3 => ((elt h.Objects st3).bind fun y10 => ((bm_ y10).bind fun y11 => ((aD_ y11 (T.fn 73 [.agg (aj_.cells h)] [])).bind fun y12 => (if (!y12) = true then (some (.inr (.inr ()))) else (some (.inl (w4 (st3 + 1))))))))) (by omega) (fun i hi hp => by
   obtain ⟨s, s1, s2⟩ := vals i hi
   show (elt h.Objects (i : Int)).bind _ = _
   rw [aW_ hi, Option.bind_some, s1, Option.bind_some, s2, Option.bind_some, aZ_ (hp _ (List.getElem?_eq_getElem hi)), if_neg (by simp)]) (fun i hi hp => by
   obtain ⟨s, s1, s2⟩ := vals i hi
   show (elt h.Objects (i : Int)).bind _ = _
   rw [aW_ hi, Option.bind_some, s1, Option.bind_some, s2, Option.bind_some, aS_ (fun w => hp fun x hx => by rw [List.getElem?_eq_getElem hi] at hx; injection hx with hx; subst hx; exact w), if_pos (by simp)])
  have A3 : _ = some (says (∀ o ∈ h.Objects.l, kP_ h o)) := A3.trans (congrArg some (aU_ iS_))
  refine (cN_ A3).trans (congrArg some (aU_ ⟨fun w => ⟨ho, w⟩, fun w => w.2⟩))
 ·rw [L2 (fun w => ho ⟨w.1, w.2.1⟩), aS_ fun w => ho w.1]; rfl

end Go.Am
end
