/- The law. -/
import Derived.Test.YtkgmfmcpbgffpaaAg1
import Derived.Test.YtkgmfmcpbgffpaaAl28
section
set_option maxRecDepth 100000
set_option maxHeartbeats 4000000
set_option linter.unusedVariables false
set_option linter.unusedSimpArgs false
namespace Go.Am
noncomputable def TH (o : Option (Bool × aa_)) (Ψ : aa_ → Option (Bool × aa_)) : Option (Bool × aa_) := o.bind fun y => if y.1 = true then Ψ (NS y.2) else some (false, NS y.2)
theorem ip_ (o : Option (Bool × aa_)) (Ψ : aa_ → Option (Bool × aa_)) : TH (o.bind fun y => some (y.1, NS y.2)) Ψ = TH o Ψ := by cases o <;> rfl
theorem rl_ (o : Option (Bool × aa_)) (Ψ1 Ψ2 : aa_ → Option (Bool × aa_)) : TH (TH o Ψ1) Ψ2 = TH o (fun S => TH (Ψ1 S) Ψ2) := by
 cases o with
 | none => rfl
 | some y => obtain ⟨b, S⟩ := y; cases b <;> rfl
theorem og_ (n : Nat) (x y : DPattern) (S : aa_) (c : Int) (Φ : PhiT) : AA n x y S c Φ = TH (MM n S x c Φ) (fun S => (MM n S y c Φ).bind fun y => some (y.1, NS y.2)) := rfl
theorem th_L {o : Option (Bool × aa_)} {Ψ : aa_ → Option (Bool × aa_)} {o' : Option (Bool × aa_)} {P : Bool × aa_ → Bool × aa_ → Prop} (h : Gt o (some ()) (fun r _ => Gt (TH (some r) Ψ) o' P)) : Gt (TH o Ψ) o' P := fun r r' hr hr' => by
 cases o with
 | none => cases hr
 | some y => exact h y () rfl rfl r r' hr hr'
theorem th_U {o : Option (Bool × aa_)} {Ψ : aa_ → Option (Bool × aa_)} {o' : Option (Bool × aa_)} {P : Bool × aa_ → Bool × aa_ → Prop} (h : Gt (TH o Ψ) o' P) : Gt o (some ()) (fun r _ => Gt (TH (some r) Ψ) o' P) := fun r _ hr _ => by
 rw [hr] at h; exact h
theorem h5_ {s : ByteArray} {f : Int} {Ψ : aa_ → Option (Bool × aa_)} {o' : Option (Bool × aa_)} : PL (fun r (_ : Unit) => Gt (TH (some r) Ψ) o' (PD s f)) := ⟨fun r _ h => by
 obtain ⟨b, S⟩ := r
 have hb : b = false := h.1
 subst hb
 exact b8_ fun _ => .inl ⟨rfl, h.2⟩, fun r _ h => h⟩
def HA (s : ByteArray) (f : Int) (b : DPattern) (c : Int) (Ψ : aa_ → Option (Bool × aa_)) (Φ' : PhiT) : Prop :=
 (b.Kind = 16 → ∀ S S', Rd s f 0 S S' → Gt (Ψ S) (some (true, S')) (PD s f)) ∧ (b.Kind ≠ 16 → ∀ m S S', Rd s f 0 S S' → Gt (Ψ S) (MM m S' b c Φ') (PD s f))
def Rg (s : ByteArray) (e : Int) : Prop := 0 ≤ e ∧ e ≤ (s.size : Int)
def HX (s : ByteArray) (f d : Int) (b : DPattern) (Φ Φ' : PhiT) : Prop :=
 (Emp b → ∀ e S S', Rg s e → Rd s f d S S' → Gt (Φ e S) (Φ' e S') (PD s f)) ∧
 (¬ Emp b → b.Kind = 1 → ∀ e S S', Rg s e → Rd s f (1 + d) S S' → Gt (Φ e S) (SG s b.Text Φ' e S') (PD s f)) ∧
 (∀ u v, b.Kind = 19 → b.Kids.l = [u, v] → u.Kind = 1 → ∀ m e S S', Rg s e → Rd s f (2 + d) S S' → Gt (Φ e S) (SG s u.Text (KK m v Φ') e S') (PD s f)) ∧
 (b.Kind ≠ 1 → (∀ u v, b.Kind = 19 → b.Kids.l = [u, v] → u.Kind ≠ 1) → ∀ m e S S', Rg s e → Rd s f d S S' → Gt (Φ e S) (MM m S' b e Φ') (PD s f))
def T1P (s : ByteArray) (f : Int) (n : Nat) (p a : DPattern) : Prop := ∀ m S S' c Φ Φ', Rg s c → Rd s f 1 S S' → PhiD s f Φ Φ' → Gt (MM n S p c Φ) (MM m S' a c Φ') (PD s f)
def NopG (s : ByteArray) (f : Int) (Ψ : aa_ → Option (Bool × aa_)) : Prop := ∀ S S', Rd s f 0 S S' → Gt (Ψ S) (some (true, S')) (PD s f)
theorem Rd.nsR {s : ByteArray} {f k : Int} {S S' : aa_} (h : Rd s f k S S') : Rd s f k S (NS S') := by cases h with | mk hE h4 h5 ht ht' => exact .mk hE h4 h5 ht ht'
theorem HX.mono {s : ByteArray} {f d d' : Int} {b : DPattern} {Φ Φ' : PhiT} (h : HX s f d b Φ Φ') (hd : d' ≤ d) : HX s f d' b Φ Φ' :=
 ⟨fun h1 e S S' he hr => h.1 h1 e S S' he (hr.up hd), fun h1 h2 e S S' he hr => h.2.1 h1 h2 e S S' he (hr.up (by omega)), fun u v h1 h2 h3 m e S S' he hr => h.2.2.1 u v h1 h2 h3 m e S S' he (hr.up (by omega)), fun h1 h2 m e S S' he hr => h.2.2.2 h1 h2 m e S S' he (hr.up hd)⟩
theorem HX.pre {s : ByteArray} {f : Int} {n : Nat} {b : DPattern} {Φs : Nat → PhiT} {Ψ Φ' : PhiT} (h : ∀ n1, n1 < n → HX s f 0 b (Φs n1) Φ') (pre : ∀ k e S S' o', Rg s e → Rd s f k S S' → (∀ n1 S1, n1 < n → Rd s f (k - 2) S1 S' → Gt (Φs n1 e S1) o' (PD s f)) → Gt (Ψ e S) o' (PD s f)) : HX s f 2 b Ψ Φ' :=
  ⟨fun h1 e S S' he hr => pre _ e S S' _ he hr fun n1 S1 hn hr1 => (h n1 hn).1 h1 e S1 S' he (hr1.up (by omega)),
   fun h1 h2 e S S' he hr => pre _ e S S' _ he hr fun n1 S1 hn hr1 => (h n1 hn).2.1 h1 h2 e S1 S' he (hr1.up (by omega)),
   fun u v h1 h2 h3 m e S S' he hr => pre _ e S S' _ he hr fun n1 S1 hn hr1 => (h n1 hn).2.2.1 u v h1 h2 h3 m e S1 S' he (hr1.up (by omega)),
   fun h1 h2 m e S S' he hr => pre _ e S S' _ he hr fun n1 S1 hn hr1 => (h n1 hn).2.2.2 h1 h2 m e S1 S' he (hr1.up (by omega))⟩
theorem HX.ns {s : ByteArray} {f d : Int} {b : DPattern} {Φ Φ' : PhiT} (h : HX s f d b Φ Φ') : HX s f d b (fun e S => (Φ e (NS S)).bind fun y => some (y.1, NS y.2)) Φ' :=
 ⟨fun h1 e S S' he hr => hp_ (h.1 h1 e _ S' he (by cases hr with | mk hE h4 h5 ht ht' => exact .mk hE h4 h5 ht ht')), fun h1 h2 e S S' he hr => hp_ (h.2.1 h1 h2 e _ S' he (by cases hr with | mk hE h4 h5 ht ht' => exact .mk hE h4 h5 ht ht')), fun u v h1 h2 h3 m e S S' he hr => hp_ (h.2.2.1 u v h1 h2 h3 m e _ S' he (by cases hr with | mk hE h4 h5 ht ht' => exact .mk hE h4 h5 ht ht')), fun h1 h2 m e S S' he hr => hp_ (h.2.2.2 h1 h2 m e _ S' he (by cases hr with | mk hE h4 h5 ht ht' => exact .mk hE h4 h5 ht ht'))⟩
theorem oo_ {p : DPattern} (h : VP p) (k : p.Kind = 1) : ∃ z, p = ⟨1, 0, p.Text, ⟨z, []⟩⟩ := by
 have hl := pl_ h (.inl (by omega))
 have ha := h.node.2.2
 obtain ⟨k', n, t, ⟨z, l⟩⟩ := p
 have k : k' = 1 := k
 subst k
 have hl : l = [] := hl
 subst hl
 have ha : ArgP 1 n t := ha
 unfold ArgP at ha
 rw [if_pos (by decide)] at ha
 obtain ⟨rfl, _⟩ := ha
 exact ⟨z, rfl⟩
theorem ju_ {p : DPattern} {K : Int} (h : VP p) (k : p.Kind = K) (hK : K < 18 ∨ 22 < K) : ∃ n t z, p = ⟨K, n, t, ⟨z, []⟩⟩ := by
 have hl := pl_ h (by omega)
 obtain ⟨k', n, t, ⟨z, l⟩⟩ := p
 have k : k' = K := k
 subst k
 have hl : l = [] := hl
 subst hl
 exact ⟨n, t, z, rfl⟩
theorem oa_ {p x y : DPattern} {K : Int} (k : p.Kind = K) (e : p.Kids.l = [x, y]) : ∃ n t z, p = ⟨K, n, t, ⟨z, [x, y]⟩⟩ := by
 obtain ⟨k', n, t, ⟨z, l⟩⟩ := p
 have k : k' = K := k
 subst k
 have e : l = [x, y] := e
 subst e
 exact ⟨n, t, z, rfl⟩
theorem pL_ {p x : DPattern} {K : Int} (k : p.Kind = K) (e : p.Kids.l = [x]) : ∃ n t z, p = ⟨K, n, t, ⟨z, [x]⟩⟩ := by
 obtain ⟨k', n, t, ⟨z, l⟩⟩ := p
 have k : k' = K := k
 subst k
 have e : l = [x] := e
 subst e
 exact ⟨n, t, z, rfl⟩
section
variable {s : ByteArray} {f : Int}
theorem HX.full {d : Int} {b : DPattern} {Φ Φ' : PhiT} (hf : f ≤ 800) (h : HX s f d b Φ Φ') (vb : VP b) (hb : ¬ Emp b) (hd : d ≤ 10) {m : Nat} {e : Int} {S S' : aa_} (he : Rg s e) (hr : Rd s f d S S') : Gt (Φ e S) (MM m S' b e Φ') (PD s f) := by
 by_cases h1 : b.Kind = 1
 ·obtain ⟨z, hz⟩ := oo_ vb h1
  rw [hz]
  exact ov_ hf (by omega) hr fun n1 S1 _ hr1 => h.2.1 hb h1 e S S1 he (hr1.up (by omega))
 by_cases h2 : ∃ u v, b.Kind = 19 ∧ b.Kids.l = [u, v] ∧ u.Kind = 1
 ·obtain ⟨u, v, k, ek, ku⟩ := h2
  obtain ⟨vu, vv⟩ := b1_ vb ek
  obtain ⟨kn, tx, z, hz⟩ := oa_ k ek
  obtain ⟨zu, hzu⟩ := oo_ vu ku
  rw [hz]
  refine qM_ hf (by omega) hr fun n1 S1 _ hr1 => ?_
  have := h.2.2.1 u v k ek ku
  rw [hzu]
  exact ov_ hf (by omega) hr1 fun n2 S2 _ hr2 => this n1 e S S2 he (hr2.up (by omega))
 ·exact h.2.2.2 h1 (fun u v a1 a2 a3 => h2 ⟨u, v, a1, a2, a3⟩) m e S S' he hr
theorem HX.kk {b : DPattern} {Φ Φ' : PhiT} (hf : f ≤ 800) (h : HX s f 0 b Φ Φ') (vb : VP b) (hb : ¬ Emp b) (m : Nat) {e : Int} {S S' : aa_} (he : Rg s e) (hr : Rd s f 0 S S') : Gt (Φ e S) (KK m b Φ' e S') (PD s f) := hx_ (h.full hf vb hb (by decide) he hr.nsR)
theorem uj_ {m : Nat} {a : DPattern} (va : VP a) (k : a.Kind = 16 ∨ a.Kind = 15) (S : aa_) (c : Int) (Φ1 Φ2 : PhiT) : MM m S a c Φ1 = MM m S a c Φ2 := by
 rcases k with k | k
 ·obtain ⟨kn, tx, z, hz⟩ := ju_ va k (by decide)
  rw [hz]
  cases m with
  | zero => rfl
  | succ m =>
   show ac_ _ _ _ _ _ _ = ac_ _ _ _ _ _ _
   unfold ac_
   simp only [Int.reduceEq, decide_true, decide_false, Bool.false_eq_true, if_true, if_false]
 ·obtain ⟨kn, tx, z, hz⟩ := ju_ va k (by decide)
  rw [hz]
  cases m with
  | zero => rfl
  | succ m =>
   show ac_ _ _ _ _ _ _ = ac_ _ _ _ _ _ _
   unfold ac_
   simp only [Int.reduceEq, decide_true, decide_false, Bool.false_eq_true, if_true, if_false]
theorem pJ_ {m : Nat} {a : DPattern} (va : VP a) (k : a.Kind = 15) (S : aa_) (c : Int) (Φ : PhiT) : Gv (MM m S a c Φ) (fun r => r.1 = false) := by
 obtain ⟨kn, tx, z, hz⟩ := ju_ va k (by decide)
 rw [hz]
 cases m with
 | zero => exact oc_
 | succ m =>
  show Gv (ac_ _ _ _ _ _ _) _
  unfold ac_
  simp only [Int.reduceEq, decide_true, decide_false, Bool.false_eq_true, if_true, if_false]
  exact b5_ gz_ fun y _ => kl_ (fun _ => cc_ rfl) fun _ => cc_ rfl
theorem vQ_ {env : Sl DNamed} {u st mo c kn : Int} {nw cd : Sl DCapture} {mt : Sl DMatch} {me z : Bool} {tx : ByteArray} {Φ : PhiT} (hu : 0 ≤ u ∧ u ≤ 1600) : MM 1 ⟨env, s, 20000, u, st, nw, cd, mt, mo, me, T.nilm, 0⟩ ⟨16, kn, tx, ⟨z, []⟩⟩ c Φ = some (true, ⟨env, s, 20000, u + 1, st, nw, cd, mt, mo, me, T.nilm, 0⟩) := by
 show ac_ _ _ _ _ _ _ = _
 unfold ac_
 have h : decide (u = 20000) = false := by simp; omega
 simp only [Int.reduceEq, decide_true, decide_false, Bool.false_eq_true, Bool.not_true, if_true, if_false, h, Option.bind_some]
 rw [a4_ (by omega) (by omega)]
theorem nopE (hs : s.size ≤ 200) {env : Sl DNamed} {u st mo c : Int} {nw cd : Sl DCapture} {mt : Sl DMatch} {me z : Bool} {Φ : PhiT} (hu : 0 ≤ u ∧ u ≤ 1600) (hc : Rg s c) (hΦ : ∀ S, Φ c S = some (true, S)) : MM 1 ⟨env, s, 20000, u, st, nw, cd, mt, mo, me, T.nilm, 0⟩ ⟨1, 0, ⟨#[]⟩, ⟨z, []⟩⟩ c Φ = some (true, ⟨env, s, 20000, u + 1, st, nw, cd, mt, mo, me, T.nilm, 0⟩) := by
 show ac_ _ _ _ _ _ _ = _
 unfold ac_
 have h : decide (u = 20000) = false := by simp; omega
 have dl : decide (0 < (([] : List DPattern).length : Int)) = false := rfl
 have dn : decide (c < 0) = false := by have := hc.1; simp; omega
 simp only [Int.reduceEq, decide_true, decide_false, Bool.false_eq_true, Bool.not_true, if_true, if_false, h, Option.bind_some, dl, oS_ hs c hc, dn, hΦ]
 rw [a4_ (by omega) (by omega)]
theorem vu_ {r : Bool × aa_} {S' : aa_} (h1 : r.1 = true) (h : Rd s f 0 (NS r.2) S') : PD s f r (true, S') := by
 obtain ⟨b, R⟩ := r
 have h1 : b = true := h1
 subst h1
 exact PD.rel (S := NS R) true h
open Classical in
theorem m1_ {n : Nat} {x a : DPattern} (hs : s.size ≤ 200) (hf : f ≤ 800) (va : VP a) (ha : a.Kind = 16 ∨ Emp a) (t1 : T1P s f n x a) {c : Int} {K : PhiT} (hc : Rg s c) (hK : Emp a → ∀ S, K c S = some (true, NS S)) {k : Int} {S S' : aa_} (hr : Rd s f k S S') : Gv (MM n S x c K) (fun r => Bd r ∨ (r.1 = true ∧ Rd s f (k - 2) (NS r.2) S')) := fun r h => by
 cases hr with
 | @mk env st mo t t' nw cd mt me hE h4 h5 ht ht' =>
  have hr2 : Rd s f 0 ⟨env, s, f, t, st, nw, cd, mt, mo, me, T.nilm, 0⟩ ⟨env, s, 20000, 2 * t, st, nw, cd, mt, mo, me, T.nilm, 0⟩ := .mk hE h4 h5 ht (by omega)
  have hx := t1 1 _ _ c K (fun e S => if Emp a ∧ e = c then some (true, S) else none) hc (hr2.up (by decide)) (fun e S1 S1' he hr1 => by
   show Gt (K e S1) (if Emp a ∧ e = c then some (true, S1') else none) _
   by_cases q : Emp a ∧ e = c
   ·obtain ⟨q1, rfl⟩ := q
    rw [if_pos ⟨q1, rfl⟩, hK q1]
    exact aI_ (PD.rel (S := NS S1) true (by cases hr1 with | mk hE h4 h5 ht ht' => exact .mk hE h4 h5 ht ht'))
   ·rw [if_neg q]; exact cK_)
  have hv : MM 1 ⟨env, s, 20000, 2 * t, st, nw, cd, mt, mo, me, T.nilm, 0⟩ a c (fun e S => if Emp a ∧ e = c then some (true, S) else none) = some (true, ⟨env, s, 20000, 2 * t + 1, st, nw, cd, mt, mo, me, T.nilm, 0⟩) := by
   by_cases q : Emp a
   ·obtain ⟨z, hz⟩ := oo_ va q.1
    rw [q.2] at hz
    have e : (fun e S => if Emp a ∧ e = c then some (true, S) else none : PhiT) = fun e S => if e = c then some (true, S) else none := by funext e S; simp [q]
    rw [e, hz]
    exact nopE hs (by omega) hc fun S => if_pos rfl
   ·obtain ⟨kn, tx, z, hz⟩ := ju_ va (ha.resolve_right q) (by decide)
    rw [hz]
    exact vQ_ (by omega)
  rcases hx r _ h hv with hb | ⟨e1, e2, e3, e4, e5⟩
  ·exact .inl hb
  ·refine .inr ⟨e1, ?_⟩
   have h5' : Rd s f 0 (NS r.2) ⟨env, s, 20000, 2 * t + 1, st, nw, cd, mt, mo, me, T.nilm, 0⟩ := e5 e1
   generalize hR : NS r.2 = R at h5'
   cases h5' with
   | mk g1 g4 g5 gt gt' => exact .mk g1 g4 g5 gt ⟨ht'.1, by omega⟩
theorem tZ_ {n : Nat} {x a : DPattern} (hs : s.size ≤ 200) (hf : f ≤ 800) (va : VP a) (ha : a.Kind = 16 ∨ Emp a) (t1 : T1P s f n x a) {c : Int} {K : PhiT} (hc : Rg s c) (hK : Emp a → ∀ S, K c S = some (true, NS S)) : NopG s f (fun S => (MM n S x c K).bind fun y => some (y.1, NS y.2)) := fun S S' hr => hp_ (fun r r' h h' => by
 injection h' with h'
 rw [← h']
 rcases m1_ hs hf va ha t1 hc hK hr r h with h | ⟨h1, h2⟩
 ·exact .inl h
 ·exact vu_ h1 (h2.up (by decide)))
theorem oR_ {o o' : Option (Bool × aa_)} {Ψ : aa_ → Option (Bool × aa_)} (h : Gt o o' (PD s f)) (hn : NopG s f Ψ) : Gt (TH o Ψ) o' (PD s f) := fun r r' hr hr' => by
 obtain ⟨y, h1, h2⟩ := Option.bind_eq_some_iff.1 hr
 have hp := h y r' h1 hr'
 by_cases q : y.1 = true
 ·rw [if_pos q] at h2
  rcases hp with hb | ⟨e1, e2, e3, e4, e5⟩
  ·rw [hb.1] at q; cases q
  ·have := hn _ _ (e5 q) r (true, NS r'.2) h2 rfl
   obtain ⟨b', R'⟩ := r'
   have hb : b' = true := by have e1 : y.1 = b' := e1; rw [← e1]; exact q
   subst hb
   exact this
 ·rw [if_neg q] at h2
  injection h2 with h2
  obtain ⟨b, Y⟩ := y
  obtain ⟨b', R'⟩ := r'
  have q1 : b = false := by cases b <;> simp at q ⊢
  subst q1
  subst h2
  rcases hp with hb | ⟨e1, e2, e3, e4, e5⟩
  ·exact .inl ⟨rfl, hb.2⟩
  ·have : b' = false := e1.symm
   subst this
   exact .inr ⟨rfl, e2, e3, e4, fun w => (by cases w)⟩
theorem q0_ {b : DPattern} {c : Int} {Ψx Ψ : aa_ → Option (Bool × aa_)} {Φ' : PhiT} (h : HA s f b c Ψ Φ') (hn : NopG s f Ψx) : HA s f b c (fun S => TH (Ψx S) Ψ) Φ' := by
 have key : ∀ S S' o', Rd s f 0 S S' → (∀ S1, Rd s f 0 S1 (NS S') → Gt (Ψ S1) o' (PD s f)) → Gt (TH (Ψx S) Ψ) o' (PD s f) := fun S S' o' hr hk => th_L fun r _ h1 _ => by
  rcases hn S S' hr r _ h1 rfl with hb | ⟨e1, e2, e3, e4, e5⟩
  ·exact h5_.1 r () hb
  ·unfold TH
   rw [Option.bind_some, if_pos e1]
   exact hk _ (e5 e1)
 exact ⟨fun k S S' hr => key S S' _ hr fun S1 h1 => h.1 k S1 S' (by
   cases hr with
   | mk hE h4 h5 ht ht' => exact h1), fun k m S S' hr => key S S' _ hr fun S1 h1 => h.2 k m S1 S' (by
   cases hr with
   | mk hE h4 h5 ht ht' => exact h1)⟩
end
end Go.Am
end
