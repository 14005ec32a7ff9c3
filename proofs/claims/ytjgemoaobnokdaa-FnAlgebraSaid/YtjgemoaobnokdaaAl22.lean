/- The law. -/
import Derived.Test.YtjgemoaobnokdaaAg1
import Derived.Test.YtjgemoaobnokdaaAg4
import Derived.Test.YtjgemoaobnokdaaAl21
import Derived.Test.YtjgemoaobnokdaaAl11
section
set_option maxRecDepth 100000
set_option maxHeartbeats 2000000
set_option linter.unusedVariables false
set_option linter.unusedSimpArgs false
namespace Go.Am
theorem ju_ {α β γ : Type} {o : Option α} {f : α → Option β} {o' : Option γ} {Q : α → Prop} {P : β → γ → Prop} (h : Gv o Q) (k : ∀ y, Q y → Gt (f y) o' P) : Gt (o.bind f) o' P := fun r r' hr hr' => by
 obtain ⟨y, h1, h2⟩ := Option.bind_eq_some_iff.1 hr
 exact k y (h y h1) r r' h2 hr'
theorem fy_ {s : ByteArray} {o o' : Option (Bool × aa_)} (h : Gt o o' (PZ s)) : Gt (o.bind fun y => some (y.1, NS y.2)) o' (PZ s) := fun r r' hr hr' => by
 obtain ⟨y, h1, h2⟩ := Option.bind_eq_some_iff.1 hr
 injection h2 with h2
 rw [← h2]; exact h y r' h1 hr'
theorem Rz.symm {s : ByteArray} {S S' : aa_} (h : Rz s S S') : Rz s S' S := by cases h with | mk hE h4 h5 => exact .mk hE h4 h5
theorem PZ.symm {s : ByteArray} {r r' : Bool × aa_} (h : PZ s r r') : PZ s r' r := by
 rcases h with h | h | ⟨h1, h2, h3, h4, h5, h6⟩
 ·exact .inr (.inl h)
 ·exact .inl h
 ·exact .inr (.inr ⟨h1.symm, h3, h2, h4.symm, h4 ▸ h5, fun q => (h6 (h1 ▸ q)).symm⟩)
theorem cD_ {s : ByteArray} {o o' : Option (Bool × aa_)} (h : Gt o o' (PZ s)) : Gt o' o (PZ s) := fun r r' hr hr' => (h r' r hr' hr).symm
abbrev catP (p q : DPattern) : DPattern := ⟨19, 0, ⟨#[]⟩, ⟨false, [p, q]⟩⟩
abbrev altP (p q : DPattern) : DPattern := ⟨18, 0, ⟨#[]⟩, ⟨false, [p, q]⟩⟩
noncomputable def KK (n : Nat) (q : DPattern) (Φ : PhiT) : PhiT := fun e S => ((BG_impl_search_match n).1 (NS S) q e Φ).bind fun y => some (y.1, NS y.2)
noncomputable def AA (n : Nat) (p q : DPattern) (S : aa_) (c : Int) (Φ : PhiT) : Option (Bool × aa_) := ((BG_impl_search_match n).1 S p c Φ).bind fun y2 => if y2.1 = true then ((BG_impl_search_match n).1 (NS y2.2) q c Φ).bind (fun y4 => some (y4.1, NS y4.2)) else some (false, NS y2.2)
theorem j0_ {s : ByteArray} {k : Int} (hk : k = 18 ∨ k = 19) {n : Nat} {p q : DPattern} {S S' : aa_} {c : Int} {Φ : PhiT} {o' : Option (Bool × aa_)} (hr : Rz s S S') (h : ∀ n1 S1, Rz s S1 S' → Gt (if k = 18 then AA n1 p q S1 c Φ else (BG_impl_search_match n1).1 S1 p c (KK n1 q Φ)) o' (PZ s)) :
  Gt ((BG_impl_search_match n).1 S ⟨k, 0, ⟨#[]⟩, ⟨false, [p, q]⟩⟩ c Φ) o' (PZ s) := by
 cases n with
 | zero => exact fn_
 | succ n =>
  cases hr with
  | @mk env st mo f t f' t' nw cd mt me hE h4 h5 =>
   show Gt (ac_ _ _ _ _ _ _) _ _
   unfold ac_
   refine ju_ (st_q t f 0 mt) fun y hy => ?_
   obtain ⟨b, u, cs, m⟩ := y
   rcases hy with ⟨a1, a2⟩ | ⟨a1, a2, a3⟩
   ·exact iY_ (by simp only at a1; rw [a1]; rfl) (b6_ fun _ => .inl ⟨rfl, by show cs ≠ 0; intro w; simp only at a2; omega⟩)
   simp only at a1 a2 a3
   subst a1 a2 a3
   have hr : Rz s ⟨env, s, f, u, st, nw, cd, m, mo, me, T.nilm, 0⟩ ⟨env, s, f', t', st, nw, cd, m, mo, me, T.nilm, 0⟩ := .mk hE h4 h5
   have dl : decide (0 < (([p, q] : List DPattern).length : Int)) = true := rfl
   have e0 : elt (⟨false, [p, q]⟩ : Sl DPattern) 0 = some p := rfl
   have e1 : elt (⟨false, [p, q]⟩ : Sl DPattern) 1 = some q := rfl
   rcases hk with rfl | rfl
   ·simp only [Int.reduceEq, decide_true, decide_false, Bool.false_eq_true, Bool.not_true, Bool.not_false, if_true, if_false, dl]
    refine fy_ ?_
    cases n with
    | zero => exact fn_
    | succ n =>
     rw [bgI2 n]
     unfold al_
     simp only [e0, e1, Option.bind_some, Int.reduceEq, decide_true, if_true]
     exact h n _ hr
   ·simp only [Int.reduceEq, decide_true, decide_false, Bool.false_eq_true, Bool.not_true, Bool.not_false, if_true, if_false, dl]
    refine fy_ ?_
    cases n with
    | zero => exact fn_
    | succ n =>
     rw [bgI2 n]
     unfold al_
     simp only [e0, Option.bind_some, Int.reduceEq, decide_true, decide_false, Bool.false_eq_true, if_true, if_false]
     exact fy_ (h n _ hr)
def SamZ (s : ByteArray) (p q : DPattern) : Prop := ∀ n m S S' c Φ Φ', 0 ≤ c ∧ c ≤ (s.size : Int) → Rz s S S' → PhiZ s Φ Φ' → Gt ((BG_impl_search_match n).1 S p c Φ) ((BG_impl_search_match m).1 S' q c Φ') (PZ s)
theorem qO_ {s : ByteArray} {S S' : aa_} (h : Rz s S S') : Rz s (NS S) (NS S') := by cases h with | mk hE h4 h5 => exact .mk hE h4 h5
theorem n7_ {s : ByteArray} (hs : s.size ≤ 200) {a b d : DPattern} (va : VP a) (vb : VP b) (vd : VP d) : SamZ s (catP (catP a b) d) (catP a (catP b d)) := fun n m S S' c Φ Φ' hc hr hΦ => by
 refine j0_ (.inr rfl) hr fun n1 S1 h1 => ?_
 rw [if_neg (by decide)]
 refine j0_ (.inr rfl) h1 fun n2 S2 h2 => ?_
 rw [if_neg (by decide)]
 refine cD_ (j0_ (.inr rfl) h2.symm fun m1 S3 h3 => cD_ ?_)
 rw [if_neg (by decide)]
 refine (g7_ hs n2 m1).1 _ _ _ _ _ _ va hc h3.symm fun e T T' he hT => ?_
 refine fy_ (cD_ (fy_ (j0_ (.inr rfl) (qO_ hT).symm fun m2 S4 h4 => cD_ ?_)))
 rw [if_neg (by decide)]
 refine (g7_ hs n2 m2).1 _ _ _ _ _ _ vb he h4.symm fun e T T' he hT => ?_
 exact fy_ (cD_ (fy_ (cD_ ((g7_ hs n1 m2).1 _ _ _ _ _ _ vd he (qO_ hT) hΦ))))
theorem pk_ {s : ByteArray} {n : Nat} {S S' : aa_} {c : Int} {Φ : PhiT} {o' : Option (Bool × aa_)} (he : bh_ 1 0 ⟨#[]⟩ s c = some c) (hc : 0 ≤ c) (hr : Rz s S S') (h : ∀ S1, Rz s S1 S' → Gt (Φ c S1) o' (PZ s)) :
  Gt ((BG_impl_search_match n).1 S ⟨1, 0, ⟨#[]⟩, ⟨true, []⟩⟩ c Φ) o' (PZ s) := by
 cases n with
 | zero => exact fn_
 | succ n =>
  cases hr with
  | @mk env st mo f t f' t' nw cd mt me hE h4 h5 =>
   show Gt (ac_ _ _ _ _ _ _) _ _
   unfold ac_
   refine ju_ (st_q t f 0 mt) fun y hy => ?_
   obtain ⟨b, u, cs, m⟩ := y
   rcases hy with ⟨a1, a2⟩ | ⟨a1, a2, a3⟩
   ·exact iY_ (by simp only at a1; rw [a1]; rfl) (b6_ fun _ => .inl ⟨rfl, by show cs ≠ 0; intro w; simp only at a2; omega⟩)
   simp only at a1 a2 a3
   subst a1 a2 a3
   have hr : Rz s ⟨env, s, f, u, st, nw, cd, m, mo, me, T.nilm, 0⟩ ⟨env, s, f', t', st, nw, cd, m, mo, me, T.nilm, 0⟩ := .mk hE h4 h5
   have dl : decide (0 < (([] : List DPattern).length : Int)) = false := rfl
   have dn : decide (c < 0) = false := by simp; omega
   simp only [Int.reduceEq, decide_true, decide_false, Bool.false_eq_true, Bool.not_true, Bool.not_false, if_true, if_false, dl, he, Option.bind_some, dn]
   exact fy_ (h _ hr)
theorem nt_ {s : ByteArray} (hs : s.size ≤ 200) {a : DPattern} (va : VP a) (ht : ∀ c : Int, 0 ≤ c ∧ c ≤ (s.size : Int) → bh_ 1 0 ⟨#[]⟩ s c = some c) : SamZ s a (catP a ⟨1, 0, ⟨#[]⟩, ⟨true, []⟩⟩) := fun n m S S' c Φ Φ' hc hr hΦ => by
 refine cD_ (j0_ (.inr rfl) hr.symm fun m1 S3 h3 => cD_ ?_)
 rw [if_neg (by decide)]
 refine (g7_ hs n m1).1 _ _ _ _ _ _ va hc h3.symm fun e T T' he hT => ?_
 exact cD_ (fy_ (pk_ (ht e he) he.1 (qO_ hT).symm fun S4 h4 => cD_ (hΦ e T S4 he (by cases hT with | mk hE h4' h5' => exact h4.symm))))
theorem o5_ {s : ByteArray} (hs : s.size ≤ 200) {a : DPattern} (va : VP a) (ht : ∀ c : Int, 0 ≤ c ∧ c ≤ (s.size : Int) → bh_ 1 0 ⟨#[]⟩ s c = some c) : SamZ s a (catP ⟨1, 0, ⟨#[]⟩, ⟨true, []⟩⟩ a) := fun n m S S' c Φ Φ' hc hr hΦ => by
 refine cD_ (j0_ (.inr rfl) hr.symm fun m1 S3 h3 => ?_)
 rw [if_neg (by decide)]
 refine pk_ (ht c hc) hc.1 h3 fun S4 h4 => fy_ (cD_ ((g7_ hs n m1).1 _ _ _ _ _ _ va hc ?_ hΦ))
 exact (by cases h4 with | mk hE h4' h5' => exact .mk hE h4' h5')
theorem ql_ {s : ByteArray} (hs : s.size ≤ 200) (c : Int) (hc : 0 ≤ c ∧ c ≤ (s.size : Int)) : bh_ 1 0 ⟨#[]⟩ s c = some c := by
 refine gz_ _ _ _ _ _ _ ?_
 obtain ⟨n, rfl⟩ : ∃ n : Nat, c = n := ⟨c.toNat, by omega⟩
 unfold c0_
 have e1 : subB s n (s.size : Int) = some (s.extract n s.size) := by unfold subB; rw [if_pos (by omega)]; simp
 have z : (⟨#[]⟩ : ByteArray).size = 0 := rfl
 have w : w4 ((n : Int) + ((⟨#[]⟩ : ByteArray).size : Int)) = n := by rw [z, aR_ (by omega) (by omega)]; simp
 simp only [decide_true, if_true, e1, Option.bind_some, m9_, w]
 rw [a3_ ⟨by rw [z]; omega, by rw [z]; simp; rfl⟩]
 rfl
theorem pJ_ {s : ByteArray} {n : Nat} {S S' : aa_} {c : Int} {Φ : PhiT} {o' : Option (Bool × aa_)} (hr : Rz s S S') (h : ∀ S1, Rz s S1 S' → Gt (some (true, S1)) o' (PZ s)) :
  Gt ((BG_impl_search_match n).1 S ⟨16, 0, ⟨#[]⟩, ⟨true, []⟩⟩ c Φ) o' (PZ s) := by
 cases n with
 | zero => exact fn_
 | succ n =>
  cases hr with
  | @mk env st mo f t f' t' nw cd mt me hE h4 h5 =>
   show Gt (ac_ _ _ _ _ _ _) _ _
   unfold ac_
   refine ju_ (st_q t f 0 mt) fun y hy => ?_
   obtain ⟨b, u, cs, m⟩ := y
   rcases hy with ⟨a1, a2⟩ | ⟨a1, a2, a3⟩
   ·exact iY_ (by simp only at a1; rw [a1]; rfl) (b6_ fun _ => .inl ⟨rfl, by show cs ≠ 0; intro w; simp only at a2; omega⟩)
   simp only at a1 a2 a3
   subst a1 a2 a3
   have hr : Rz s ⟨env, s, f, u, st, nw, cd, m, mo, me, T.nilm, 0⟩ ⟨env, s, f', t', st, nw, cd, m, mo, me, T.nilm, 0⟩ := .mk hE h4 h5
   simp only [Int.reduceEq, decide_true, decide_false, Bool.false_eq_true, Bool.not_true, Bool.not_false, if_true, if_false]
   exact h _ hr
theorem qB_ {s : ByteArray} {r r' : Bool × aa_} {a : Option (Bool × aa_)} (h : PZ s r r') (k3 : r.1 = true → r'.1 = true → Rz s (NS r.2) (NS r'.2) → Gt a (some r') (PZ s)) :
  Gt (if r.1 = true then a else some (false, NS r.2)) (some r') (PZ s) := by
 rcases h with h | h | ⟨h1, h2, h3, h4, h5, h6⟩
 ·rw [if_neg (by rw [h.1]; simp)]; exact aN_ (.inl ⟨rfl, h.2⟩)
 ·exact bj_ fun _ => .inr (.inl h)
 ·by_cases q : r.1 = true
  ·rw [if_pos q]; exact k3 q (h1 ▸ q) (h6 q)
  ·rw [if_neg q]
   have q1 : r.1 = false := by cases h : r.1 <;> simp [h] at q ⊢
   exact aN_ (.inr (.inr ⟨by rw [← h1, q1], h2, h3, h4, h5, fun w => (by cases w)⟩))
theorem ov_ {α β γ : Type} {o : Option α} {f : α → Option β} {o' : Option γ} {Q : α → γ → Prop} {P : β → γ → Prop} (h : Gt o o' Q) (k : ∀ y y', Q y y' → Gt (f y) (some y') P) : Gt (o.bind f) o' P := fun r r' hr hr' => by
 obtain ⟨y, h1, h2⟩ := Option.bind_eq_some_iff.1 hr
 exact k y r' (h y r' h1 hr') r r' h2 rfl
theorem oh_ {s : ByteArray} (hs : s.size ≤ 200) {a : DPattern} (va : VP a) : SamZ s a (altP a ⟨16, 0, ⟨#[]⟩, ⟨true, []⟩⟩) := fun n m S S' c Φ Φ' hc hr hΦ => by
 refine cD_ (j0_ (.inl rfl) hr.symm fun m1 S3 h3 => ?_)
 rw [if_pos rfl]
 unfold AA
 refine ov_ (cD_ ((g7_ hs n m1).1 _ _ _ _ _ _ va hc h3.symm hΦ)) fun y y' h => qB_ h fun q q' hi => fy_ (pJ_ hi fun S1 h1 => aN_ ?_)
 have e : y' = (true, y'.2) := by rw [← q']
 rw [e]
 cases hy : y'.2 with
 | mk x1 x2 x3 x4 x5 x6 x7 x8 x9 x10 x11 x12 =>
  rw [hy] at h1
  have h1 : Rz s S1 ⟨x1, x2, x3, x4, x5, x6, x7, x8, x9, x10, T.nilm, x12⟩ := h1
  cases h1 with
  | mk hE h4 h5 => exact .inr (.inr ⟨rfl, rfl, rfl, rfl, h5, fun _ => .mk hE h4 h5⟩)
theorem o2_ {s : ByteArray} (hs : s.size ≤ 200) {a : DPattern} (va : VP a) : SamZ s a (altP ⟨16, 0, ⟨#[]⟩, ⟨true, []⟩⟩ a) := fun n m S S' c Φ Φ' hc hr hΦ => by
 refine cD_ (j0_ (.inl rfl) hr.symm fun m1 S3 h3 => ?_)
 rw [if_pos rfl]
 unfold AA
 intro r r' h1 h2
 obtain ⟨y, g1, g2⟩ := Option.bind_eq_some_iff.1 h1
 have := pJ_ (n := m1) (c := c) (Φ := Φ') (o' := some (true, S)) h3 (fun S1 k1 => aN_ (by
  cases k1 with
  | mk hE h4 h5 => exact .inr (.inr ⟨rfl, rfl, rfl, rfl, h5, fun _ => .mk hE h4 h5⟩)) : ∀ S1, Rz s S1 S → _) y (true, S) g1 rfl
 rcases this with k | k | ⟨k1, k2, k3, k4, k5, k6⟩
 ·rw [if_neg (by rw [k.1]; simp)] at g2
  injection g2 with g2
  rw [← g2]; exact .inl ⟨rfl, k.2⟩
 ·exact absurd k.1 (by simp)
 ·rw [if_pos k1] at g2
  have hz := k6 k1
  refine fy_ (cD_ ((g7_ hs n m1).1 S (NS y.2) a c Φ Φ' va hc ?_ hΦ)) r r' g2 h2
  cases hr with
  | mk hE h4 h5 => exact hz.symm
theorem Rz.trans {s : ByteArray} {A B C : aa_} (h : Rz s A B) (k : Rz s B C) : Rz s A C := by
 cases h with
 | mk hE h4 h5 =>
  cases k with
  | mk hE' h4' h5' => exact .mk hE h4 h5
theorem ja_ {s : ByteArray} {n : Nat} {p q : DPattern} {S S' : aa_} {c : Int} {Φ : PhiT} (hr : Rz s S S') : Gv ((BG_impl_search_match n).1 S (altP p q) c Φ) (fun x => Bad x ∨ ∃ n1 S1 x0, Rz s S1 S' ∧ AA n1 p q S1 c Φ = some x0 ∧ x = (x0.1, NS x0.2)) := by
 cases n with
 | zero => exact nG_
 | succ n =>
  cases hr with
  | @mk env st mo f t f' t' nw cd mt me hE h4 h5 =>
   show Gv (ac_ _ _ _ _ _ _) _
   unfold ac_
   refine jK_ (st_q t f 0 mt) fun y hy => ?_
   obtain ⟨b, u, cs, m⟩ := y
   rcases hy with ⟨rfl, a2⟩ | ⟨rfl, a2, a3⟩
   ·exact rA_ (fun _ => ha_ (.inl ⟨rfl, by show cs ≠ 0; intro w; simp only at a2; omega⟩)) fun w => absurd rfl w
   simp only at a2 a3
   subst a2 a3
   have dl : decide (0 < (([p, q] : List DPattern).length : Int)) = true := rfl
   have e0 : elt (⟨false, [p, q]⟩ : Sl DPattern) 0 = some p := rfl
   have e1 : elt (⟨false, [p, q]⟩ : Sl DPattern) 1 = some q := rfl
   simp only [Int.reduceEq, decide_true, decide_false, Bool.false_eq_true, Bool.not_true, Bool.not_false, if_true, if_false, dl]
   cases n with
   | zero => exact nG_
   | succ n =>
    rw [bgI2 n]
    unfold al_
    simp only [e0, e1, Option.bind_some, Int.reduceEq, decide_true, if_true]
    exact jK_ (Q := fun x0 => AA n p q ⟨env, s, f, u, st, nw, cd, m, mo, me, T.nilm, 0⟩ c Φ = some x0) (fun x0 h => h) fun x0 h => ha_ (.inr ⟨n, _, x0, .mk hE h4 h5, h, rfl⟩)
theorem mc_ {n : Nat} {p q : DPattern} {S : aa_} {c : Int} {Φ : PhiT} {r : Bool × aa_} (h : AA n p q S c Φ = some r) : ∃ y, (BG_impl_search_match n).1 S p c Φ = some y ∧ ((y.1 = true ∧ ∃ x, (BG_impl_search_match n).1 (NS y.2) q c Φ = some x ∧ r = (x.1, NS x.2)) ∨ (y.1 = false ∧ r = (false, NS y.2))) := by
 unfold AA at h
 obtain ⟨y, h1, h2⟩ := Option.bind_eq_some_iff.1 h
 refine ⟨y, h1, ?_⟩
 by_cases q : y.1 = true
 ·rw [if_pos q] at h2
  obtain ⟨x, h3, h4⟩ := Option.bind_eq_some_iff.1 h2
  injection h4 with h4
  exact .inl ⟨q, x, h3, h4.symm⟩
 ·rw [if_neg q] at h2
  injection h2 with h2
  exact .inr ⟨by cases h : y.1 <;> simp [h] at q ⊢, h2.symm⟩
theorem nF_ {s : ByteArray} (hs : s.size ≤ 200) {a b d : DPattern} (va : VP a) (vb : VP b) (vd : VP d) : SamZ s (altP (altP a b) d) (altP a (altP b d)) := fun n m S S' c Φ Φ' hc hr hΦ r r' hr1 hr2 => by
 rcases ja_ hr r hr1 with hb | ⟨n1, S1, x0, k1, k2, rfl⟩
 ·exact .inl hb
 rcases ja_ hr.symm r' hr2 with hb | ⟨m1, S3, z0, l1, l2, rfl⟩
 ·exact .inr (.inl hb)
 obtain ⟨u, u1, u2⟩ := mc_ k2
 obtain ⟨ya', a1', a2'⟩ := mc_ l2
 rcases ja_ k1 u u1 with hb | ⟨n2, S2, w0, g1, g2, rfl⟩
 ·rcases u2 with ⟨q, _⟩ | ⟨_, rfl⟩
  ·rw [hb.1] at q; cases q
  ·exact .inl ⟨rfl, hb.2⟩
 obtain ⟨ya, a1, a2⟩ := mc_ g2
 have hS : Rz s S2 S3 := g1.trans (hr.symm.trans l1.symm)
 have PA := (g7_ hs n2 m1).1 _ _ _ _ _ _ va hc hS hΦ ya ya' a1 a1'
 have stop : ya.1 = false → w0 = (false, NS ya.2) → x0 = (false, NS ya.2) := fun q hw => by
  subst hw
  rcases u2 with ⟨q2, _⟩ | ⟨_, h⟩
  ·cases q2
  ·exact h
 rcases a2 with ⟨qa, yb, b1, rfl⟩ | ⟨qa, hw⟩
 ·rcases a2' with ⟨qa', v, v1, rfl⟩ | ⟨qa', rfl⟩
  ·have hN : Rz s (NS ya.2) (NS ya'.2) := by
    rcases PA with h | h | h
    ·rw [h.1] at qa; cases qa
    ·rw [h.1] at qa'; cases qa'
    ·exact h.2.2.2.2.2 qa
   rcases ja_ hN.symm v v1 with hb | ⟨m2, S4, t0, h1, h2, rfl⟩
   ·exact .inr (.inl ⟨hb.1, hb.2⟩)
   obtain ⟨yb', b1', b2'⟩ := mc_ h2
   have PB' := (g7_ hs n2 m2).1 _ _ _ _ _ _ vb hc h1.symm hΦ yb yb' b1 b1'
   rcases u2 with ⟨q2, x, x1, rfl⟩ | ⟨q2, rfl⟩
   ·have q2 : yb.1 = true := q2
    rcases b2' with ⟨q3, x', x1', rfl⟩ | ⟨q3, rfl⟩
    ·have hM : Rz s (NS yb.2) (NS yb'.2) := by
      rcases PB' with h | h | h
      ·rw [h.1] at q2; cases q2
      ·rw [h.1] at q3; cases q3
      ·exact h.2.2.2.2.2 q2
     exact (g7_ hs n1 m2).1 _ _ _ _ _ _ vd hc hM hΦ x x' x1 x1'
    ·rcases PB' with h | h | h
     ·rw [h.1] at q2; cases q2
     ·exact .inr (.inl ⟨rfl, h.2⟩)
     ·rw [q2, q3] at h; cases h.1
   ·have q2 : yb.1 = false := q2
    rcases b2' with ⟨q3, x', x1', rfl⟩ | ⟨q3, rfl⟩
    ·rcases PB' with h | h | h
     ·exact .inl ⟨rfl, h.2⟩
     ·rw [h.1] at q3; cases q3
     ·rw [q2, q3] at h; cases h.1
    ·exact PZ.no (b := yb.1) (b' := yb'.1) PB'
  ·rcases PA with h | h | h
   ·rw [h.1] at qa; cases qa
   ·exact .inr (.inl ⟨rfl, h.2⟩)
   ·rw [qa, qa'] at h; cases h.1
 ·have hx := stop qa hw
  subst hx
  rcases a2' with ⟨qa', v, v1, rfl⟩ | ⟨qa', rfl⟩
  ·rcases PA with h | h | h
   ·exact .inl ⟨rfl, h.2⟩
   ·rw [h.1] at qa'; cases qa'
   ·rw [qa, qa'] at h; cases h.1
  ·exact PZ.no (b := ya.1) (b' := ya'.1) PA
end Go.Am
end
