/- The law. -/
import Derived.Test.YtkgmfmcpbgffpaaAg0
import Derived.Test.YtkgmfmcpbgffpaaAl17
import Derived.Test.YtkgmfmcpbgffpaaAl2
section
set_option maxRecDepth 100000
set_option maxHeartbeats 1000000
set_option linter.unusedVariables false
set_option linter.unusedSimpArgs false
namespace Go.Am
theorem cP_.up {s : ae_} {k k' : Nat} (h : cP_ s k) (h1 : k ≤ k') (h2 : k' ≤ 1000000000) : cP_ s k' := ⟨h.1, h.2.1, by have := h.2.2.1; omega, h2⟩
theorem m7_ {s : ae_} {k : Nat} (l : Sl (Iv .i64)) (h : cP_ s k) (hk : k + 1 ≤ 1000000000) (h1 : 1 ≤ l.l.length) (h2 : l.l.length ≤ 200) : ∃ (x : Iv .i64) (s' : ae_), bo_ s l = some (x.v, s', l) ∧ x ∈ l.l ∧ cP_ s' (k + 1) := by
 obtain ⟨m, s', q1, q2, q3, q4⟩ := gF_ (l.l.length : Int) h hk (by omega) (by omega)
 unfold bo_
 obtain ⟨i, rfl⟩ : ∃ i : Nat, m = i := ⟨m.toNat, by omega⟩
 have hlt : i < l.l.length := by omega
 rw [q1, Option.bind_some, bm_ hlt]
 exact ⟨_, s', rfl, List.getElem_mem hlt, q4⟩
def names5 : Sl ByteArray := ⟨false, [⟨#[120]⟩, ⟨#[121]⟩, ⟨#[122]⟩, ⟨#[80, 97, 116]⟩, ⟨#[97, 95, 49]⟩]⟩
instance (x : Int) : Decidable (LetP x) := by unfold LetP; infer_instance
instance (x : Int) : Decidable (NbP x) := by unfold NbP DigP; infer_instance
theorem names5_ok : ∀ x ∈ names5.l, hn_ x := by
 intro x hx
 simp only [names5, List.mem_cons, List.not_mem_nil, or_false] at hx
 have nb : ∀ y : ByteArray, (1 ≤ y.size ∧ y.size ≤ 12 ∧ LetP (bAt y 0)) → (∀ i : Nat, i < y.size → NbP (bAt y i)) → hn_ y := fun y h h' => ⟨h.1, h.2.1, h.2.2, h'⟩
 rcases hx with rfl | rfl | rfl | rfl | rfl
 ·exact nb _ (by decide) fun i hi => match i, hi with | 0, _ => by decide
 ·exact nb _ (by decide) fun i hi => match i, hi with | 0, _ => by decide
 ·exact nb _ (by decide) fun i hi => match i, hi with | 0, _ => by decide
 ·exact nb _ (by decide) fun i hi => match i, hi with | 0, _ => by decide | 1, _ => by decide | 2, _ => by decide
 ·exact nb _ (by decide) fun i hi => match i, hi with | 0, _ => by decide | 1, _ => by decide | 2, _ => by decide
theorem n4_ {s : ae_} {k : Nat} (h : cP_ s k) (hk : k + 1 ≤ 1000000000) : ∃ x s', bL_ s = some (x, s') ∧ hn_ x ∧ cP_ s' (k + 1) := by
 unfold bL_
 obtain ⟨x, s', q1, q2, q3⟩ := lC_ (l := names5) h hk (by decide) (by decide)
 have q1 : aO_ s ⟨false, [⟨#[120]⟩, ⟨#[121]⟩, ⟨#[122]⟩, ⟨#[80, 97, 116]⟩, ⟨#[97, 95, 49]⟩]⟩ = some (x, s', names5) := q1
 rw [q1]
 exact ⟨x, s', rfl, names5_ok x q2, q3⟩
theorem sm_vp : ∀ p, VP p → SmPt p := by
 refine eL_ fun p ih hv => ?_
 have n := hv.node
 have ht : p.Text.size ≤ 1048576 := by
  have := n.2.2
  unfold ArgP at this
  have z : (⟨#[]⟩ : ByteArray).size = 0 := rfl
  by_cases h1 : p.Kind ≤ 5
  ·rw [if_pos h1] at this; omega
  ·rw [if_neg h1] at this
   by_cases h2 : p.Kind ≤ 10
   ·rw [if_pos h2] at this; rw [this.1, z]; omega
   ·rw [if_neg h2] at this
    by_cases h3 : 21 ≤ p.Kind
    ·rw [if_pos h3] at this; have := this.2.2.1; omega
    ·rw [if_neg h3] at this; rw [this.2, z]; omega
 have hk : p.Kids.l.length ≤ 2 := by
  have := n.2.1
  unfold kidN at this
  split at this
  ·omega
  ·split at this <;> omega
 exact .mk ht (by omega) fun q hq => ih q hq (hv.kid hq)
theorem o5_ {s : ae_} {k : Nat} (h : cP_ s k) (hk : k + 4 ≤ 1000000000) : ∃ p s', bO_ s = some (p, s') ∧ VP p ∧ nd p = 1 ∧ cP_ s' (k + 4) := by
 unfold bO_
 obtain ⟨K, s1, q1, q2, q3⟩ := m7_ (l := ⟨false, [⟨1⟩, ⟨1⟩, ⟨1⟩, ⟨2⟩, ⟨3⟩, ⟨4⟩, ⟨5⟩, ⟨6⟩, ⟨6⟩, ⟨7⟩, ⟨8⟩, ⟨9⟩, ⟨10⟩, ⟨11⟩, ⟨12⟩, ⟨12⟩, ⟨13⟩, ⟨14⟩, ⟨15⟩, ⟨16⟩, ⟨17⟩, ⟨23⟩, ⟨24⟩, ⟨24⟩]⟩) h (by omega) (by decide) (by decide)
 obtain ⟨K⟩ := K
 have hK : (1 ≤ K ∧ K ≤ 17) ∨ K = 23 ∨ K = 24 := by
  simp only [List.mem_cons, List.not_mem_nil, or_false, Iv.mk.injEq] at q2
  omega
 rw [q1, Option.bind_some, ry_ (k := K) (by omega), Option.bind_some]
 have mk : ∀ n t, ArgP K n t → VP ⟨K, n, t, ⟨true, []⟩⟩ := fun n t ha => .mk ⟨by show 1 ≤ K ∧ K ≤ 24; omega, by show (0 : Int) = kidN K; unfold kidN; rw [if_neg (by omega), if_neg (by omega)], ha⟩ (fun q hq => by simp at hq)
 have n1 : ∀ n t, nd ⟨K, n, t, ⟨true, []⟩⟩ = 1 := fun n t => by rw [go_]; rfl
 simp only
 unfold argW
 by_cases c1 : K ≤ 5
 ·rw [if_pos c1, if_pos (by simp)]
  obtain ⟨x, s2, r1, r2, r3, r4⟩ := mx_ q3 (by omega)
  rw [r1, Option.bind_some]
  by_cases c0 : K = 1
  ·rw [if_pos (by simpa using c0)]
   obtain ⟨b, s3, t1, t2⟩ := mM_ 4 r4 (by omega) (by omega) (by omega)
   rw [t1, Option.bind_some, Option.bind_some]
   cases b
   ·exact ⟨_, _, rfl, mk 0 x (by unfold ArgP; rw [if_pos c1]; exact ⟨rfl, by omega, .inl c0⟩), n1 _ _, t2.up (by omega) (by omega)⟩
   ·exact ⟨_, _, rfl, mk 0 ⟨#[]⟩ (by unfold ArgP; rw [if_pos c1]; exact ⟨rfl, by decide, .inl c0⟩), n1 _ _, t2.up (by omega) (by omega)⟩
  ·rw [if_neg (by simpa using c0), Option.bind_some]
   exact ⟨_, _, rfl, mk 0 x (by unfold ArgP; rw [if_pos c1]; exact ⟨rfl, by omega, .inr fun e => by rw [e] at r2; exact absurd r2 (by decide)⟩), n1 _ _, r4.up (by omega) (by omega)⟩
 rw [if_neg c1]
 by_cases c2 : K ≤ 10
 ·rw [if_pos c2, if_neg (by simp), if_pos (by simp)]
  obtain ⟨m, s2, r1, r2, r3, r4⟩ := gF_ 4 q3 (by omega) (by omega) (by omega)
  rw [r1, Option.bind_some]
  exact ⟨_, _, rfl, mk m ⟨#[]⟩ (by unfold ArgP; rw [if_neg c1, if_pos c2]; exact ⟨rfl, by omega, by omega⟩), n1 _ _, r4.up (by omega) (by omega)⟩
 rw [if_neg c2]
 by_cases c3 : 21 ≤ K
 ·rw [if_pos c3, if_neg (by simp), if_neg (by simp), if_pos (by simp)]
  obtain ⟨x, s2, r1, r2, r3⟩ := n4_ q3 (by omega)
  rw [r1, Option.bind_some]
  exact ⟨_, _, rfl, mk 0 x (by unfold ArgP; rw [if_neg c1, if_neg c2, if_pos c3]; exact ⟨rfl, r2⟩), n1 _ _, r3.up (by omega) (by omega)⟩
 ·rw [if_neg c3, if_neg (by simp), if_neg (by simp), if_neg (by simp)]
  exact ⟨_, _, rfl, mk 0 ⟨#[]⟩ (by unfold ArgP; rw [if_neg c1, if_neg c2, if_neg c3]; exact ⟨rfl, rfl⟩), n1 _ _, q3.up (by omega) (by omega)⟩
def RD : Nat → Nat
 | 0 => 4
 | d + 1 => 3 + 2 * RD d
def ND : Nat → Nat
 | 0 => 1
 | d + 1 => 1 + 2 * ND d
theorem rw_ (d : Nat) : 1 ≤ ND d := by cases d <;> unfold ND <;> omega
theorem ty_ (d : Nat) : 4 ≤ RD d := by
 induction d with
 | zero => exact Nat.le_refl _
 | succ d ih => unfold RD; omega
def DrP (d : Nat) (R : ae_ → Int → Option (DPattern × ae_)) : Prop := ∀ (s : ae_) (k : Nat), cP_ s k → k + RD d ≤ 1000000000 → ∃ p s', R s (d : Int) = some (p, s') ∧ VP p ∧ nd p ≤ ND d ∧ cP_ s' (k + RD d)
theorem qJ_ {n : Nat} : ∀ l : List DPattern, (∀ q ∈ l, nd q ≤ n) → ndL l ≤ l.length * n
 | [], _ => by unfold ndL; omega
 | q :: l, h => by
  have := qJ_ l fun x hx => h x (by simp [hx])
  have := h q (by simp)
  unfold ndL
  rw [List.length_cons, Nat.succ_mul]; omega
theorem ob_ {d : Nat} {R : ae_ → Int → Option (DPattern × ae_)} (hR : DrP d R) (hd : d ≤ 10) {K : Int} (hK : K ≤ 2) : ∀ (m i : Nat), (i : Int) + m = K → ∀ (c : Sl (Iv .u8)) (a sd : Int) (k : Nat) (ks : Sl DPattern), cP_ ⟨c, a, sd⟩ k → k + m * RD d ≤ 1000000000 → ks.l.length = i → (∀ q ∈ ks.l, VP q ∧ nd q ≤ ND d) →
  ∃ c' a' sd' ks', az_ (S := (Int × (Sl (Iv .u8)) × Int × Int × (Sl DPattern))) (R := ((Sl (Iv .u8)) × Int × Int × (Sl DPattern))) (fun st1 => (if (decide (st1.1 < K)) = true then ((R (⟨st1.2.1, st1.2.2.1, st1.2.2.2.1⟩ : ae_) (w4 (((d + 1 : Nat) : Int) - 1))).bind fun y7 => ((appS 56 st1.2.2.2.2 (⟨false, [y7.1]⟩ : Sl DPattern)).bind fun y8 => (some (.inl ((w4 (st1.1 + 1)), y7.2.code_, y7.2.at_, y7.2.seed_, y8))))) else (some (.inr (st1.2.1, st1.2.2.1, st1.2.2.2.1, st1.2.2.2.2))))) ((i : Int), c, a, sd, ks) = some (c', a', sd', ks') ∧ cP_ ⟨c', a', sd'⟩ (k + m * RD d) ∧ (ks'.l.length : Int) = K ∧ ∀ q ∈ ks'.l, VP q ∧ nd q ≤ ND d
 | 0, i, hi, c, a, sd, k, ks, h, hk, hl, hq => ⟨c, a, sd, ks, aj_ (if_neg (by simp; omega)), by simpa using h, by omega, hq⟩
 | m + 1, i, hi, c, a, sd, k, ks, h, hk, hl, hq => by
  rw [Nat.succ_mul] at hk
  obtain ⟨p, s', q1, q2, q3, q4⟩ := hR ⟨c, a, sd⟩ k h (by omega)
  obtain ⟨z, l⟩ := ks
  obtain ⟨c', a', sd', ks', r1, r2, r3, r4⟩ := ob_ hR hd hK m (i + 1) (by omega) s'.code_ s'.at_ s'.seed_ (k + RD d) ⟨false, l ++ [p]⟩ q4 (by omega) (by simp at hl ⊢; omega) (fun q hq' => by
   rcases List.mem_append.1 hq' with h' | h'
   ·exact hq q h'
   ·rw [List.mem_singleton] at h'; subst h'; exact ⟨q2, q3⟩)
  refine ⟨c', a', sd', ks', au_ ?_ r1, by rw [Nat.succ_mul, show k + (m * RD d + RD d) = k + RD d + m * RD d by omega]; exact r2, r3, r4⟩
  have w : w4 (((d + 1 : Nat) : Int) - 1) = d := by rw [a4_ (by omega) (by omega)]; omega
  simp only at hl
  rw [if_pos (by simp; omega), w]
  simp only [q1, Option.bind_some]
  rw [dH_ (by omega), Option.bind_some, a4_ (by omega) (by omega)]
  simp
theorem draw_ok : ∀ (d n : Nat), d < n → d ≤ 10 → DrP d (BG_spec_l11Draw n)
 | d, 0, h, _ => by omega
 | 0, n + 1, _, _ => fun s k h hk => by
  obtain ⟨p, s', q1, q2, q3, q4⟩ := o5_ h hk
  refine ⟨p, s', ?_, q2, by rw [q3]; exact Nat.le_refl _, q4⟩
  show bc_ _ _ _ = _
  unfold bc_
  rw [if_pos (by decide), q1]; rfl
 | d + 1, n + 1, hn, hd => fun s k h hk => by
  have IH := draw_ok d n (by omega) (by omega)
  have hr := ty_ d
  have hnd := rw_ d
  have eR : RD (d + 1) = 3 + 2 * RD d := rfl
  have eN : ND (d + 1) = 1 + 2 * ND d := rfl
  show ∃ p s', bc_ _ _ _ = _ ∧ _
  unfold bc_
  rw [if_neg (by simp <;> omega)]
  obtain ⟨b, s1, q1, q2⟩ := mM_ 4 h (by omega) (by omega) (by omega)
  rw [q1, Option.bind_some]
  cases b with
  | true =>
   rw [if_pos rfl]
   obtain ⟨p, s', r1, r2, r3, r4⟩ := o5_ q2 (by omega)
   rw [r1]
   exact ⟨p, s', rfl, r2, by omega, r4.up (by omega) (by omega)⟩
  | false =>
   rw [if_neg (by simp)]
   obtain ⟨⟨K⟩, s2, r1, r2, r3⟩ := m7_ (l := ⟨false, [⟨18⟩, ⟨18⟩, ⟨19⟩, ⟨19⟩, ⟨19⟩, ⟨20⟩, ⟨21⟩, ⟨22⟩]⟩) q2 (by omega) (by decide) (by decide)
   have hK : 18 ≤ K ∧ K ≤ 22 := by
    simp only [List.mem_cons, List.not_mem_nil, or_false, Iv.mk.injEq] at r2
    omega
   rw [r1, Option.bind_some, ry_ (k := K) (by omega), Option.bind_some]
   have hk2 : 1 ≤ kidN K ∧ kidN K ≤ 2 := by unfold kidN; split <;> (try split) <;> omega
   obtain ⟨m, hm⟩ : ∃ m : Nat, kidN K = m := ⟨(kidN K).toNat, by omega⟩
   have hm2 : m * RD d ≤ 2 * RD d := Nat.mul_le_mul_right _ (by omega)
   obtain ⟨c', a', sd', ks, t1, t2, t3, t4⟩ := ob_ IH (by omega) hk2.2 m 0 (by omega) s2.code_ s2.at_ s2.seed_ _ ⟨true, []⟩ r3 (by omega) rfl (fun q hq => by simp at hq)
   have t1' := t1
   simp only at t1' ⊢
   rw [show ((0 : Nat) : Int) = 0 from rfl] at t1'
   rw [t1', Option.bind_some]
   have hnl : ndL ks.l ≤ 2 * ND d := Nat.le_trans (qJ_ _ fun q hq => (t4 q hq).2) (Nat.mul_le_mul_right _ (by omega))
   have hN : ∀ n t, nd ⟨K, n, t, ks⟩ ≤ ND (d + 1) := fun n t => by rw [go_]; show 1 + ndL ks.l ≤ _; omega
   have hV : ∀ t, ArgP K 0 t → VP ⟨K, 0, t, ks⟩ := fun t ht => .mk ⟨by show 1 ≤ K ∧ K ≤ 24; omega, t3, ht⟩ fun q hq => (t4 q hq).1
   unfold argW
   rw [if_neg (show ¬ K ≤ 5 by omega), if_neg (show ¬ K ≤ 10 by omega)]
   by_cases c3 : 21 ≤ K
   ·rw [if_pos c3, if_pos (by simp)]
    obtain ⟨x, s3, u1, u2, u3⟩ := n4_ t2 (by omega)
    rw [u1]
    exact ⟨_, _, rfl, hV x (by unfold ArgP; rw [if_neg (show ¬ K ≤ 5 by omega), if_neg (show ¬ K ≤ 10 by omega), if_pos c3]; exact ⟨rfl, u2⟩), hN _ _, u3.up (by omega) (by omega)⟩
   ·rw [if_neg c3, if_neg (by simp)]
    exact ⟨_, _, rfl, hV ⟨#[]⟩ (by unfold ArgP; rw [if_neg (show ¬ K ≤ 5 by omega), if_neg (show ¬ K ≤ 10 by omega), if_neg c3]; exact ⟨rfl, rfl⟩), hN _ _, t2.up (by omega) (by omega)⟩
theorem drawn {s : ae_} {k : Nat} {d : Int} (h : cP_ s k) (hd : 0 ≤ d ∧ d ≤ 4) (hk : k + 200 ≤ 1000000000) : ∃ p s', ct_ s d = some (p, s') ∧ VPat p ∧ cP_ s' (k + 200) := by
 obtain ⟨n, rfl⟩ : ∃ n : Nat, d = n := ⟨d.toNat, by omega⟩
 have : ∀ n : Nat, n ≤ 4 → RD n ≤ 200 ∧ ND n ≤ 60 := by decide
 have := this n (by omega)
 obtain ⟨p, s', q1, q2, q3, q4⟩ := draw_ok n bigN (by unfold bigN; omega) (by omega) s k h (by omega)
 exact ⟨p, s', q1, ⟨q2, by omega⟩, q4.up (by omega) (by omega)⟩
def EnvI (i : Nat) (o : Sl DNamed) : Prop := o.l.length ≤ i ∧ (∀ x ∈ o.l, (∃ j, ∃ h : j < names5.l.length, j < i ∧ names5.l[j] = x.Name) ∧ VPat x.Pattern) ∧ o.l.Pairwise (fun x y => x.Name ≠ y.Name)
theorem names5_nd : ∀ (i j : Nat) (hi : i < names5.l.length) (hj : j < names5.l.length), i < j → names5.l[i] ≠ names5.l[j] := by
 have : names5.l.Pairwise (fun x y => x ≠ y) := by unfold names5; simp
 exact fun i j hi hj h => List.pairwise_iff_getElem.1 this i j hi hj h
theorem env_loop : ∀ (m i : Nat), i + m = 5 → ∀ (c : Sl (Iv .u8)) (a sd : Int) (k : Nat) (o : Sl DNamed), cP_ ⟨c, a, sd⟩ k → k + m * 202 ≤ 1000000000 → EnvI i o →
  ∃ c' a' sd' o', az_ (S := (Int × (Sl (Iv .u8)) × Int × Int × (Sl DNamed))) (R := ((Sl (Iv .u8)) × Int × Int × (Sl DNamed))) (fun st1 => (if (decide (st1.1 < 5)) = true then ((aX_ (⟨st1.2.1, st1.2.2.1, st1.2.2.2.1⟩ : ae_) 3).bind fun y2 => (if (!y2.1) = true then ((elt (⟨false, [⟨#[120]⟩, ⟨#[121]⟩, ⟨#[122]⟩, ⟨#[80, 97, 116]⟩, ⟨#[97, 95, 49]⟩]⟩ : Sl ByteArray) st1.1).bind fun y3 => ((aG_ y2.2 4).bind fun y4 => ((ct_ y4.2 y4.1).bind fun y5 => ((appS 72 st1.2.2.2.2 (⟨false, [(⟨y3, y5.1⟩ : DNamed)]⟩ : Sl DNamed)).bind fun y6 => (some (.inl ((w4 (st1.1 + 1)), y5.2.code_, y5.2.at_, y5.2.seed_, y6))))))) else (some (.inl ((w4 (st1.1 + 1)), y2.2.code_, y2.2.at_, y2.2.seed_, st1.2.2.2.2))))) else (some (.inr (st1.2.1, st1.2.2.1, st1.2.2.2.1, st1.2.2.2.2))))) ((i : Int), c, a, sd, o) = some (c', a', sd', o') ∧ EnvI 5 o'
 | 0, i, hi, c, a, sd, k, o, h, hk, ho => ⟨c, a, sd, o, aj_ (if_neg (by simp; omega)), by rw [show 5 = i by omega]; exact ho⟩
 | m + 1, i, hi, c, a, sd, k, o, h, hk, ho => by
  have w : w4 ((i : Int) + 1) = ((i + 1 : Nat) : Int) := by rw [a4_ (by omega) (by omega)]; simp
  obtain ⟨b, s1, q1, q2⟩ := mM_ 3 h (by omega) (by omega) (by omega)
  cases b with
  | true =>
   obtain ⟨c', a', sd', o', r1, r2⟩ := env_loop m (i + 1) (by omega) s1.code_ s1.at_ s1.seed_ _ o q2 (by omega) ⟨by have := ho.1; omega, fun x hx => ⟨by obtain ⟨j, h, h2, h3⟩ := (ho.2.1 x hx).1; exact ⟨j, h, by omega, h3⟩, (ho.2.1 x hx).2⟩, ho.2.2⟩
   refine ⟨c', a', sd', o', au_ ?_ r1, r2⟩
   rw [if_pos (by simp; omega)]
   simp only [q1, Option.bind_some, Bool.not_true, Bool.false_eq_true, if_false, w]
  | false =>
   have hlt : i < names5.l.length := by show i < 5; omega
   obtain ⟨d, s2, r1, r2, r3, r4⟩ := gF_ 4 q2 (by omega) (by omega) (by omega)
   obtain ⟨p, s3, t1, t2, t3⟩ := drawn r4 ⟨r2, by omega⟩ (by omega)
   obtain ⟨z, l⟩ := o
   have hol : l.length ≤ i := ho.1
   obtain ⟨c', a', sd', o', u1, u2⟩ := env_loop m (i + 1) (by omega) s3.code_ s3.at_ s3.seed_ _ ⟨false, l ++ [⟨names5.l[i], p⟩]⟩ t3 (by omega) ⟨by simp; omega, fun x hx => by
    rcases List.mem_append.1 hx with h' | h'
    ·exact ⟨by obtain ⟨j, h, h2, h3⟩ := (ho.2.1 x h').1; exact ⟨j, h, by omega, h3⟩, (ho.2.1 x h').2⟩
    ·rw [List.mem_singleton] at h'; subst h'; exact ⟨⟨i, hlt, by omega, rfl⟩, t2⟩, by
    rw [List.pairwise_append]
    refine ⟨ho.2.2, List.pairwise_singleton _ _, fun x hx y hy => ?_⟩
    rw [List.mem_singleton] at hy; subst hy
    obtain ⟨j, h, h2, h3⟩ := (ho.2.1 x hx).1
    rw [← h3]
    exact names5_nd j i h hlt h2⟩
   refine ⟨c', a', sd', o', au_ ?_ u1, u2⟩
   rw [if_pos (by simp; omega)]
   have e : elt (⟨false, [⟨#[120]⟩, ⟨#[121]⟩, ⟨#[122]⟩, ⟨#[80, 97, 116]⟩, ⟨#[97, 95, 49]⟩]⟩ : Sl ByteArray) (i : Int) = some names5.l[i] := bm_ (s := names5) hlt
   simp only [q1, Option.bind_some, Bool.not_false, if_true, w, e, r1, t1]
   rw [dH_ (by omega), Option.bind_some]
theorem oW_ (c : Sl (Iv .u8)) (h : Bys c) : ∃ o c', cF_ ⟨c, 0, 0⟩ = some (o, c') ∧ EnvP o ∧ o.l.length ≤ 5 := by
 have h0 : cP_ ⟨c, 0, 0⟩ 0 := ⟨h, Int.le_refl _, Int.le_refl _, by decide⟩
 obtain ⟨c', a', sd', o, r1, r2⟩ := env_loop 5 0 rfl c 0 0 0 ⟨false, []⟩ h0 (by decide) ⟨by simp, fun x hx => by simp at hx, by simp⟩
 have e : cF_ ⟨c, 0, 0⟩ = some (o, ⟨c', a', sd'⟩) := by
  unfold cF_
  rw [show ((0 : Nat) : Int) = 0 from rfl] at r1
  rw [r1]; rfl
 refine ⟨o, _, e, ⟨by have := r2.1; omega, fun x hx => ⟨?_, (r2.2.1 x hx).2⟩, fun i _ hi j hj x y hx hy => ?_⟩, r2.1⟩
 ·obtain ⟨j, h, h2, h3⟩ := (r2.2.1 x hx).1
  exact names5_ok x.Name (by rw [← h3]; exact List.getElem_mem h)
 ·obtain ⟨h1, rfl⟩ := List.getElem?_eq_some_iff.1 hx
  obtain ⟨h2, rfl⟩ := List.getElem?_eq_some_iff.1 hy
  exact List.pairwise_iff_getElem.1 r2.2.2 j i h1 h2 hj
theorem ud_ (c : Sl (Iv .u8)) (h : Bys c) : ∃ o, fS_ c = some o ∧ EnvP o ∧ o.l.length ≤ 5 := by
 obtain ⟨o, c', e, h1, h2⟩ := oW_ c h
 exact ⟨o, kW_ _ _ (by unfold f6_; rw [e]; rfl), h1, h2⟩
theorem uv_ {o : Sl DNamed} (h : EnvP o) : ti_ o := ⟨by have := h.1; omega, fun x hx => ⟨by have := (h.2.1 x hx).1.2.1; omega, sm_vp _ (h.2.1 x hx).2.1⟩⟩
end Go.Am
end
