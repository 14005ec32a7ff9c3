/- The law. -/
import Derived.Test.YtkgmfmcpbgffpaaAg0
import Derived.Test.YtkgmfmcpbgffpaaAl25
import Derived.Test.YtkgmfmcpbgffpaaAl20
section
set_option maxRecDepth 100000
set_option maxHeartbeats 1000000
set_option linter.unusedVariables false
set_option linter.unusedSimpArgs false
namespace Go.Am
theorem pV_ {α : Type} {a : Sl α} {j : Int} {x : α} (h : elt a j = some x) : x ∈ a.l := o5_ x h
theorem mD_ (s : ae_) (l : Sl ByteArray) (n : Nat) (hl : ∀ x ∈ l.l, x.size ≤ n) : Gv (aO_ s l) (fun r => r.1.size ≤ n) := by
 unfold aO_
 exact bh_ eL_ fun y _ => bh_ (Q := fun x => x.size ≤ n) (fun r hr => hl r (pV_ hr)) fun x hx => bl_ hx
theorem lj_ (s : ae_) : Gv (aU_ s) (fun r => r.1.size ≤ 3) := by
 unfold aU_
 exact bh_ (mD_ s _ 3 (fun x hx => (j7_ (a := 0) (b := 3) x hx (by decide)).2)) fun y hy => bl_ hy
theorem kh_ (s : ae_) : Gv (bp_ s) (fun r => r.1.size ≤ 3) := by
 unfold bp_
 exact bh_ (mD_ s _ 3 (fun x hx => (j7_ (a := 0) (b := 3) x hx (by decide)).2)) fun y hy => bl_ hy
def Tq (r : DPattern × ae_) : Prop := tl r.1 ≤ 3 * nd r.1
theorem e1_ {k n : Int} {t : ByteArray} {z : Bool} {s : ae_} (h : t.size ≤ 3) : Tq (⟨k, n, t, ⟨z, []⟩⟩, s) := by
 show tl _ ≤ 3 * nd _
 rw [h3_, gb_]
 show (if k = 1 then t.size else 0) + 0 ≤ 3 * (1 + 0)
 split <;> omega
theorem kt_ {k n : Int} {t : ByteArray} {ks : Sl DPattern} {s : ae_} (h : t.size ≤ 3) (hk : tlL ks.l ≤ 3 * ndL ks.l) : Tq (⟨k, n, t, ks⟩, s) := by
 show tl _ ≤ 3 * nd _
 rw [h3_, gb_]
 show (if k = 1 then t.size else 0) + tlL ks.l ≤ 3 * (1 + ndL ks.l)
 split <;> omega
theorem km_ (s : ae_) : Gv (bd_ s) Tq := by
 have z : (⟨#[]⟩ : ByteArray).size ≤ 3 := by decide
 unfold bd_
 exact bh_ eL_ fun y _ => bh_ eL_ fun y2 _ => go_ (fun _ => bh_ (lj_ _) fun x hx => bh_ eL_ fun w _ => go_ (fun _ => bl_ (e1_ z)) fun _ => bl_ (e1_ hx)) fun _ => go_ (fun _ => bh_ eL_ fun w _ => bl_ (e1_ z)) fun _ => go_ (fun _ => bh_ (kh_ _) fun x hx => bl_ (e1_ hx)) fun _ => bl_ (e1_ z)
theorem tlL_app : ∀ l l' : List DPattern, tlL (l ++ l') = tlL l + tlL l'
 | [], l' => by simp [tlL]
 | p :: l, l' => by have := tlL_app l l'; simp only [List.cons_append, tlL, this]; omega
theorem ndL_app' : ∀ l l' : List DPattern, ndL (l ++ l') = ndL l + ndL l'
 | [], l' => by simp [ndL]
 | p :: l, l' => by have := ndL_app' l l'; simp only [List.cons_append, ndL, this]; omega
theorem mQ_ {R : ae_ → Int → Option (DPattern × ae_)} (hR : ∀ s d, Gv (R s d) Tq) (K d : Int) (c : Sl (Iv .u8)) (a sd : Int) : Gv (aE_ (S := (Int × (Sl (Iv .u8)) × Int × Int × (Sl DPattern))) (R := ((Sl (Iv .u8)) × Int × Int × (Sl DPattern))) (fun st1 => (if (decide (st1.1 < K)) = true then ((R (⟨st1.2.1, st1.2.2.1, st1.2.2.2.1⟩ : ae_) d).bind fun y8 => ((appS 56 st1.2.2.2.2 (⟨false, [y8.1]⟩ : Sl DPattern)).bind fun y9 => (some (.inl ((w4 (st1.1 + 1)), y8.2.code_, y8.2.at_, y8.2.seed_, y9))))) else (some (.inr (st1.2.1, st1.2.2.1, st1.2.2.2.1, st1.2.2.2.2))))) (0, c, a, sd, (⟨true, []⟩ : Sl DPattern))) (fun r => tlL r.2.2.2.l ≤ 3 * ndL r.2.2.2.l) := by
 refine rn_ (fun st : Int × (Sl (Iv .u8)) × Int × Int × (Sl DPattern) => tlL st.2.2.2.2.l ≤ 3 * ndL st.2.2.2.2.l) (by show tlL [] ≤ _; simp [tlL]) fun st h => go_ (fun _ => bh_ (hR _ _) fun y hy => bh_ (app1) fun q hq => bl_ ?_) fun _ => bl_ h
 show tlL q.l ≤ 3 * ndL q.l
 have hq : q.l = st.2.2.2.2.l ++ [y.1] := hq
 have hy : tl y.1 ≤ 3 * nd y.1 := hy
 rw [hq, tlL_app, ndL_app']
 simp only [tlL, ndL]
 have h : tlL st.2.2.2.2.l ≤ 3 * ndL st.2.2.2.2.l := h
 omega
theorem gvx_draw : ∀ n s d, Gv (BG_spec_l11Draw n s d) Tq
 | 0, _, _ => lN_
 | n + 1, s, d => by
  have z : (⟨#[]⟩ : ByteArray).size ≤ 3 := by decide
  have IH := gvx_draw n
  show Gv (bf_ _ _ _) _
  unfold bf_
  exact go_ (fun _ => bh_ (km_ _) fun y hy => bl_ hy) fun _ => bh_ eL_ fun y2 _ => go_ (fun _ => bh_ (km_ _) fun y hy => bl_ hy) fun _ => bh_ eL_ fun y4 _ => bh_ eL_ fun y5 _ => bh_ (mQ_ IH _ _ _ _ _) fun y6 h6 => go_ (fun _ => bh_ (kh_ _) fun x hx => bl_ (kt_ hx h6)) fun _ => bl_ (kt_ z h6)
theorem gvx_plain : ∀ n s d, Gv (BG_spec_l15Plain n s d) Tq
 | 0, _, _ => lN_
 | n + 1, s, d => by
  have z : (⟨#[]⟩ : ByteArray).size ≤ 3 := by decide
  have IH := gvx_plain n
  show Gv (a6_ _ _ _) _
  unfold a6_
  exact bh_ eL_ fun y _ => go_ (fun _ => bh_ eL_ fun y2 _ => go_ (fun _ => bl_ (e1_ z)) fun _ => go_ (fun _ => bl_ (e1_ z)) fun _ => go_ (fun _ => bl_ (e1_ z)) fun _ => go_ (fun _ => bl_ (e1_ z)) fun _ => go_ (fun _ => bh_ (km_ _) fun y hy => bl_ hy) fun _ => bh_ (lj_ _) fun x hx => bl_ (e1_ hx)) fun _ => bh_ eL_ fun y4 _ => bh_ eL_ fun y5 _ => bh_ (mQ_ IH _ _ _ _ _) fun y6 h6 => go_ (fun _ => bh_ (kh_ _) fun x hx => bl_ (kt_ hx h6)) fun _ => bl_ (kt_ z h6)
def RP : Nat → Nat
 | 0 => 5
 | d + 1 => 3 + 2 * RP d
theorem uq_ (d : Nat) : 5 ≤ RP d := by
 induction d with
 | zero => exact Nat.le_refl _
 | succ d ih => unfold RP; omega
def DpP (d : Nat) (R : ae_ → Int → Option (DPattern × ae_)) : Prop := ∀ (s : ae_) (k : Nat), cr_ s k → k + RP d ≤ 1000000000 → ∃ p s', R s (d : Int) = some (p, s') ∧ VP p ∧ nd p ≤ ND d ∧ cr_ s' (k + RP d)
theorem mC_ {d : Nat} {R : ae_ → Int → Option (DPattern × ae_)} (hR : DpP d R) (hd : d ≤ 10) {K : Int} (hK : K ≤ 2) : ∀ (m i : Nat), (i : Int) + m = K → ∀ (c : Sl (Iv .u8)) (a sd : Int) (k : Nat) (ks : Sl DPattern), cr_ ⟨c, a, sd⟩ k → k + m * RP d ≤ 1000000000 → ks.l.length = i → (∀ q ∈ ks.l, VP q ∧ nd q ≤ ND d) →
  ∃ c' a' sd' ks', aE_ (S := (Int × (Sl (Iv .u8)) × Int × Int × (Sl DPattern))) (R := ((Sl (Iv .u8)) × Int × Int × (Sl DPattern))) (fun st1 => (if (decide (st1.1 < K)) = true then ((R (⟨st1.2.1, st1.2.2.1, st1.2.2.2.1⟩ : ae_) (w4 (((d + 1 : Nat) : Int) - 1))).bind fun y7 => ((appS 56 st1.2.2.2.2 (⟨false, [y7.1]⟩ : Sl DPattern)).bind fun y8 => (some (.inl ((w4 (st1.1 + 1)), y7.2.code_, y7.2.at_, y7.2.seed_, y8))))) else (some (.inr (st1.2.1, st1.2.2.1, st1.2.2.2.1, st1.2.2.2.2))))) ((i : Int), c, a, sd, ks) = some (c', a', sd', ks') ∧ cr_ ⟨c', a', sd'⟩ (k + m * RP d) ∧ (ks'.l.length : Int) = K ∧ ∀ q ∈ ks'.l, VP q ∧ nd q ≤ ND d
 | 0, i, hi, c, a, sd, k, ks, h, hk, hl, hq => ⟨c, a, sd, ks, ai_ (if_neg (by simp; omega)), by simpa using h, by omega, hq⟩
 | m + 1, i, hi, c, a, sd, k, ks, h, hk, hl, hq => by
  rw [Nat.succ_mul] at hk
  obtain ⟨p, s', q1, q2, q3, q4⟩ := hR ⟨c, a, sd⟩ k h (by omega)
  obtain ⟨z, l⟩ := ks
  obtain ⟨c', a', sd', ks', r1, r2, r3, r4⟩ := mC_ hR hd hK m (i + 1) (by omega) s'.code_ s'.at_ s'.seed_ (k + RP d) ⟨false, l ++ [p]⟩ q4 (by omega) (by simp at hl ⊢; omega) (fun q hq' => by
   rcases List.mem_append.1 hq' with h' | h'
   ·exact hq q h'
   ·rw [List.mem_singleton] at h'; subst h'; exact ⟨q2, q3⟩)
  refine ⟨c', a', sd', ks', aw_ ?_ r1, by rw [Nat.succ_mul, show k + (m * RP d + RP d) = k + RP d + m * RP d by omega]; exact r2, r3, r4⟩
  have w : w4 (((d + 1 : Nat) : Int) - 1) = d := by rw [aT_ (by omega) (by omega)]; omega
  simp only at hl
  rw [if_pos (by simp; omega), w]
  simp only [q1, Option.bind_some]
  rw [d4_ (by omega), Option.bind_some, aT_ (by omega) (by omega)]
  simp
theorem hN_ (K : Int) (hK : K = 1 ∨ K = 6 ∨ K = 15 ∨ K = 16) : VP ⟨K, 0, ⟨#[]⟩, ⟨true, []⟩⟩ ∧ nd ⟨K, 0, ⟨#[]⟩, ⟨true, []⟩⟩ = 1 := by
 refine ⟨.mk ⟨by show 1 ≤ K ∧ K ≤ 24; omega, by show (0 : Int) = kidN K; unfold kidN; rw [if_neg (by omega), if_neg (by omega)], ?_⟩ (fun q hq => by simp at hq), by rw [gb_]; rfl⟩
 show ArgP K 0 ⟨#[]⟩
 unfold ArgP
 rcases hK with rfl | rfl | rfl | rfl
 ·rw [if_pos (by decide)]; exact ⟨rfl, by decide, .inl rfl⟩
 ·rw [if_neg (by decide), if_pos (by decide)]; exact ⟨rfl, by decide, by decide⟩
 ·rw [if_neg (by decide), if_neg (by decide), if_neg (by decide)]; exact ⟨rfl, rfl⟩
 ·rw [if_neg (by decide), if_neg (by decide), if_neg (by decide)]; exact ⟨rfl, rfl⟩
theorem mA_ {s : ae_} {k : Nat} (h : cr_ s k) (hk : k + 5 ≤ 1000000000) : ∃ p s', ((au_ s 6).bind fun y2 => (if (decide (y2.1 = 0)) = true then (some ((⟨16, 0, ⟨#[]⟩, ⟨true, []⟩⟩ : DPattern), y2.2)) else (if (decide (y2.1 = 1)) = true then (some ((⟨6, 0, ⟨#[]⟩, ⟨true, []⟩⟩ : DPattern), y2.2)) else (if (decide (y2.1 = 2)) = true then (some ((⟨15, 0, ⟨#[]⟩, ⟨true, []⟩⟩ : DPattern), y2.2)) else (if (decide (y2.1 = 3)) = true then (some ((⟨1, 0, ⟨#[]⟩, ⟨true, []⟩⟩ : DPattern), y2.2)) else (if (decide (y2.1 = 4)) = true then ((bd_ y2.2).bind fun y3 => (some (y3.1, y3.2))) else ((aU_ y2.2).bind fun y4 => (some ((⟨1, 0, y4.1, ⟨true, []⟩⟩ : DPattern), y4.2))))))))) = some (p, s') ∧ VP p ∧ nd p = 1 ∧ cr_ s' (k + 5) := by
 obtain ⟨m, s1, q1, q2, q3, q4⟩ := fT_ 6 h (by omega) (by omega) (by omega)
 rw [q1, Option.bind_some]
 simp only
 by_cases m0 : m = 0
 ·rw [if_pos (by simpa using m0)]; exact ⟨_, _, rfl, (hN_ 16 (by omega)).1, (hN_ 16 (by omega)).2, q4.up (by omega) (by omega)⟩
 rw [if_neg (by simpa using m0)]
 by_cases m1 : m = 1
 ·rw [if_pos (by simpa using m1)]; exact ⟨_, _, rfl, (hN_ 6 (by omega)).1, (hN_ 6 (by omega)).2, q4.up (by omega) (by omega)⟩
 rw [if_neg (by simpa using m1)]
 by_cases m2 : m = 2
 ·rw [if_pos (by simpa using m2)]; exact ⟨_, _, rfl, (hN_ 15 (by omega)).1, (hN_ 15 (by omega)).2, q4.up (by omega) (by omega)⟩
 rw [if_neg (by simpa using m2)]
 by_cases m3 : m = 3
 ·rw [if_pos (by simpa using m3)]; exact ⟨_, _, rfl, (hN_ 1 (by omega)).1, (hN_ 1 (by omega)).2, q4.up (by omega) (by omega)⟩
 rw [if_neg (by simpa using m3)]
 by_cases m4 : m = 4
 ·rw [if_pos (by simpa using m4)]
  obtain ⟨p, s', r1, r2, r3, r4⟩ := lP_ q4 (by omega)
  rw [r1]
  exact ⟨p, s', rfl, r2, r3, r4.up (by omega) (by omega)⟩
 ·rw [if_neg (by simpa using m4)]
  obtain ⟨x, s2, r1, r2, r3, r4⟩ := ki_ q4 (by omega)
  rw [r1]
  exact ⟨_, _, rfl, gV_ (t := x) (by omega), gb_ _, r4.up (by omega) (by omega)⟩
theorem plain_ok : ∀ (d n : Nat), d < n → d ≤ 10 → DpP d (BG_spec_l15Plain n)
 | d, 0, h, _ => by omega
 | 0, n + 1, _, _ => fun s k h hk => by
  have hk : k + 5 ≤ 1000000000 := hk
  obtain ⟨p, s', q1, q2, q3, q4⟩ := mA_ h hk
  refine ⟨p, s', ?_, q2, by rw [q3]; exact Nat.le_refl _, q4⟩
  show a6_ _ _ _ = _
  unfold a6_
  rw [if_pos (by decide), Option.bind_some, if_pos rfl]
  exact q1
 | d + 1, n + 1, hn, hd => fun s k h hk => by
  have IH := plain_ok d n (by omega) (by omega)
  have hr := uq_ d
  have hnd := nS_ d
  have eR : RP (d + 1) = 3 + 2 * RP d := rfl
  have eN : ND (d + 1) = 1 + 2 * ND d := rfl
  show ∃ p s', a6_ _ _ _ = _ ∧ _
  unfold a6_
  rw [if_neg (by simp <;> omega)]
  obtain ⟨b, s1, q1, q2⟩ := kR_ 4 h (by omega) (by omega) (by omega)
  rw [q1, Option.bind_some, Option.bind_some]
  cases b with
  | true =>
   rw [if_pos rfl]
   obtain ⟨p, s', r1, r2, r3, r4⟩ := mA_ (s := ⟨s1.code_, s1.at_, s1.seed_⟩) q2 (by omega)
   exact ⟨p, s', r1, r2, by omega, r4.up (by omega) (by omega)⟩
  | false =>
   rw [if_neg (by simp)]
   obtain ⟨⟨K⟩, s2, r1, r2, r3⟩ := jP_ (s := ⟨s1.code_, s1.at_, s1.seed_⟩) (l := ⟨false, [⟨18⟩, ⟨19⟩, ⟨19⟩, ⟨20⟩, ⟨21⟩, ⟨22⟩]⟩) q2 (by omega) (by decide) (by decide)
   have hK : 18 ≤ K ∧ K ≤ 22 := by
    simp only [List.mem_cons, List.not_mem_nil, or_false, Iv.mk.injEq] at r2
    omega
   rw [r1, Option.bind_some, pQ_ (k := K) (by omega), Option.bind_some]
   have hk2 : 1 ≤ kidN K ∧ kidN K ≤ 2 := by unfold kidN; split <;> (try split) <;> omega
   obtain ⟨m, hm⟩ : ∃ m : Nat, kidN K = m := ⟨(kidN K).toNat, by omega⟩
   have hm2 : m * RP d ≤ 2 * RP d := Nat.mul_le_mul_right _ (by omega)
   obtain ⟨c', a', sd', ks, t1, t2, t3, t4⟩ := mC_ IH (by omega) hk2.2 m 0 (by omega) s2.code_ s2.at_ s2.seed_ _ ⟨true, []⟩ r3 (by omega) rfl (fun q hq => by simp at hq)
   have t1' := t1
   simp only at t1' ⊢
   rw [show ((0 : Nat) : Int) = 0 from rfl] at t1'
   rw [t1', Option.bind_some]
   have hnl : ndL ks.l ≤ 2 * ND d := Nat.le_trans (oC_ _ fun q hq => (t4 q hq).2) (Nat.mul_le_mul_right _ (by omega))
   have hN : ∀ n t, nd ⟨K, n, t, ks⟩ ≤ ND (d + 1) := fun n t => by rw [gb_]; show 1 + ndL ks.l ≤ _; omega
   have hV : ∀ t, ArgP K 0 t → VP ⟨K, 0, t, ks⟩ := fun t ht => .mk ⟨by show 1 ≤ K ∧ K ≤ 24; omega, t3, ht⟩ fun q hq => (t4 q hq).1
   unfold argW
   rw [if_neg (show ¬ K ≤ 5 by omega), if_neg (show ¬ K ≤ 10 by omega)]
   by_cases c3 : 21 ≤ K
   ·rw [if_pos c3, if_pos (by simp)]
    obtain ⟨x, s3, u1, u2, u3⟩ := lJ_ t2 (by omega)
    rw [u1]
    exact ⟨_, _, rfl, hV x (by unfold ArgP; rw [if_neg (show ¬ K ≤ 5 by omega), if_neg (show ¬ K ≤ 10 by omega), if_pos c3]; exact ⟨rfl, u2⟩), hN _ _, u3.up (by omega) (by omega)⟩
   ·rw [if_neg c3, if_neg (by simp)]
    exact ⟨_, _, rfl, hV ⟨#[]⟩ (by unfold ArgP; rw [if_neg (show ¬ K ≤ 5 by omega), if_neg (show ¬ K ≤ 10 by omega), if_neg c3]; exact ⟨rfl, rfl⟩), hN _ _, t2.up (by omega) (by omega)⟩
theorem nq_ (c : Sl (Iv .u8)) (h : Bys c) : ∃ p, e2_ c = some p ∧ VP p ∧ nd p ≤ 31 ∧ tl p ≤ 93 := by
 have h0 : cr_ ⟨c, 0, 0⟩ 0 := ⟨h, Int.le_refl _, Int.le_refl _, by decide⟩
 obtain ⟨m, s1, q1, q2, q3, q4⟩ := fT_ 5 h0 (by decide) (by decide) (by decide)
 obtain ⟨n, rfl⟩ : ∃ n : Nat, m = n := ⟨m.toNat, by omega⟩
 have hb : bigN = 100000000000 := rfl
 have hRN : ∀ n : Nat, n ≤ 4 → RP n ≤ 200 ∧ ND n ≤ 31 := by decide
 have hrn := hRN n (by omega)
 obtain ⟨p, s', r1, r2, r3, r4⟩ := plain_ok n bigN (by rw [hb]; omega) (by omega) s1 _ q4 (by omega)
 have hq : Tq (p, s') := gvx_plain bigN s1 n _ r1
 have hq : tl p ≤ 3 * nd p := hq
 refine ⟨p, i9_ _ _ ?_, r2, by omega, by omega⟩
 unfold e6_
 have r1 : ee_ s1 (n : Int) = some (p, s') := r1
 rw [q1, Option.bind_some]
 simp only [r1, Option.bind_some]
end Go.Am
end
