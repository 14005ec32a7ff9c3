/- The law. -/
import Derived.Test.YtkgmfmcpbgffpaaAg1
import Derived.Test.YtkgmfmcpbgffpaaAg3
import Derived.Test.YtkgmfmcpbgffpaaAl12
import Derived.Test.YtkgmfmcpbgffpaaAl26
section
set_option maxRecDepth 100000
set_option maxHeartbeats 4000000
set_option linter.unusedVariables false
set_option linter.unusedSimpArgs false
namespace Go.Am
noncomputable abbrev MM (n : Nat) := (BG_impl_search_match n).1
noncomputable def SG (s t : ByteArray) (Ψ : PhiT) : PhiT := fun e S => (aL_ 1 0 t s e).bind fun v => if decide (v < 0) = true then some (true, S) else Ψ v S
theorem ih_ {α β γ : Type} {o : Option α} {f : α → Option β} {o' : Option γ} {Q : α → Prop} {P : γ → β → Prop} (h : Gv o Q) (k : ∀ y, Q y → Gt o' (f y) P) : Gt o' (o.bind f) P := fun r r' hr hr' => by
 obtain ⟨y, h1, h2⟩ := Option.bind_eq_some_iff.1 hr'
 exact k y (h y h1) r r' hr h2
theorem hp_ {s : ByteArray} {f : Int} {o o' : Option (Bool × aa_)} (h : Gt o o' (PD s f)) : Gt (o.bind fun y => some (y.1, NS y.2)) o' (PD s f) := fun r r' hr hr' => by
 obtain ⟨y, h1, h2⟩ := Option.bind_eq_some_iff.1 hr
 injection h2 with h2
 rw [← h2]; exact h y r' h1 hr'
theorem hx_ {s : ByteArray} {f : Int} {o o' : Option (Bool × aa_)} (h : Gt o o' (PD s f)) : Gt o (o'.bind fun y => some (y.1, NS y.2)) (PD s f) := fun r r' hr hr' => by
 obtain ⟨y, h1, h2⟩ := Option.bind_eq_some_iff.1 hr'
 injection h2 with h2
 rw [← h2]; exact h r y hr h1
def PL {β : Type} (P : Bool × aa_ → β → Prop) : Prop := (∀ r r', Bd r → P r r') ∧ (∀ r r', P r r' → P (r.1, NS r.2) r')
theorem gW_ {s : ByteArray} {f : Int} : PL (PD s f) := ⟨fun _ _ h => .inl h, fun _ _ h => h⟩
theorem e1_ {β : Type} {P : Bool × aa_ → β → Prop} (hP : PL P) {o : Option (Bool × aa_)} {o' : Option β} (h : Gt o o' P) : Gt (o.bind fun y => some (y.1, NS y.2)) o' P := fun r r' hr hr' => by
 obtain ⟨y, h1, h2⟩ := Option.bind_eq_some_iff.1 hr
 injection h2 with h2
 rw [← h2]; exact hP.2 _ _ (h y r' h1 hr')
theorem vp_ {β : Type} {P : Bool × aa_ → β → Prop} (hP : PL P) {s t : ByteArray} {Φ : PhiT} {c : Int} {S1 : aa_} {o' : Option β} (h : Gt (SG s t Φ c S1) o' P) : Gt ((aL_ 1 0 t s c).bind fun v => if decide (v < 0) = true then some (true, S1) else (Φ v S1).bind fun y => some (y.1, NS y.2)) o' P := by
 unfold SG at h
 cases hs : aL_ 1 0 t s c with
 | none => exact b2_
 | some v =>
  rw [hs, Option.bind_some] at h
  rw [Option.bind_some]
  by_cases hv : decide (v < 0) = true
  ·rw [if_pos hv] at h ⊢; exact h
  ·rw [if_neg hv] at h ⊢; exact e1_ hP h
theorem st_l {f t : Int} {mt : Sl DMatch} (hf : f ≤ 800) (h : 0 ≤ t ∧ t ≤ f) :
  Gv ((if (decide (t = f)) = true then (some (false, t, 7, (⟨true, []⟩ : Sl DMatch))) else (some (true, (w4 (t + 1)), 0, mt))) : Option (Bool × Int × Int × (Sl DMatch))) (fun y => (y = (false, t, 7, ⟨true, []⟩)) ∨ (y = (true, t + 1, 0, mt) ∧ (0 ≤ t + 1 ∧ t + 1 ≤ f))) := by
 by_cases h1 : t = f
 ·rw [if_pos (by simpa using h1)]; exact cc_ (.inl rfl)
 ·rw [if_neg (by simpa using h1), a4_ (by omega) (by omega)]; exact cc_ (.inr ⟨rfl, by omega, by omega⟩)
theorem st_r {f t t' k : Int} {mt : Sl DMatch} (hf : f ≤ 800) (h : 0 ≤ t ∧ t ≤ f) (h' : 0 ≤ t' ∧ t' ≤ 2 * t + k) (hk : k ≤ 20) :
  Gv ((if (decide (t' = 20000)) = true then (some (false, t', 7, (⟨true, []⟩ : Sl DMatch))) else (some (true, (w4 (t' + 1)), 0, mt))) : Option (Bool × Int × Int × (Sl DMatch))) (fun y => y = (true, t' + 1, 0, mt) ∧ (0 ≤ t' + 1 ∧ t' + 1 ≤ 2 * t + (k + 1))) := by
 rw [if_neg (by simp; omega), a4_ (by omega) (by omega)]; exact cc_ ⟨rfl, by omega, by omega⟩
theorem sg_R {s t : ByteArray} {f : Int} {Φ : PhiT} {c : Int} {S1 : aa_} {o' : Option (Bool × aa_)} (h : Gt o' (SG s t Φ c S1) (PD s f)) : Gt o' ((aL_ 1 0 t s c).bind fun v => if decide (v < 0) = true then some (true, S1) else (Φ v S1).bind fun y => some (y.1, NS y.2)) (PD s f) := by
 unfold SG at h
 cases hs : aL_ 1 0 t s c with
 | none => exact cK_
 | some v =>
  rw [hs, Option.bind_some] at h
  rw [Option.bind_some]
  by_cases hv : decide (v < 0) = true
  ·rw [if_pos hv] at h ⊢; exact h
  ·rw [if_neg hv] at h ⊢; exact hx_ h
theorem sZ_ {s : ByteArray} (hs : s.size ≤ 200) (c : Int) (hc : 0 ≤ c ∧ c ≤ (s.size : Int)) : aL_ 6 0 ⟨#[]⟩ s c = some c := by
 refine c8_ _ _ _ _ _ _ ?_
 unfold b0_
 have w : w4 (c + 0) = c := by rw [a4_ (by omega) (by omega)]; omega
 have d : decide (c ≤ (s.size : Int)) = true := by simp; omega
 simp only [Int.reduceEq, decide_true, decide_false, Bool.false_eq_true, if_true, if_false, Option.bind_some, w, d, Sum.elim_inl, Sum.elim_inr, Bool.or_false, Bool.false_or, Bool.or_self]
section
variable {s : ByteArray} {f k : Int} {n m : Nat} {S S' : aa_} {c kn : Int} {tx : ByteArray} {z : Bool} {x y : DPattern} {Φ : PhiT} {o : Option (Bool × aa_)}
theorem jH_ {β : Type} {o' : Option β} {P : Bool × aa_ → β → Prop} (hP : PL P) (hf : f ≤ 800) (hr : Rd s f k S S') (h : ∀ n1 S1, n1 < n → Rd s f (k - 2) S1 S' → Gt (SG s tx Φ c S1) o' P) : Gt (MM n S ⟨1, 0, tx, ⟨z, []⟩⟩ c Φ) o' P := by
 cases n with
 | zero => exact b2_
 | succ n =>
  cases hr with
  | @mk env st mo t t' nw cd mt me hE h4 h5 ht ht' =>
   show Gt (ac_ _ _ _ _ _ _) _ _
   unfold ac_
   refine fp_ (st_l hf ht) fun y hy => ?_
   rcases hy with rfl | ⟨rfl, q1⟩
   ·exact gv_ rfl (b8_ fun _ => hP.1 _ _ (bd7 rfl rfl))
   have hr : Rd s f (k - 2) ⟨env, s, f, t + 1, st, nw, cd, mt, mo, me, T.nilm, 0⟩ ⟨env, s, 20000, t', st, nw, cd, mt, mo, me, T.nilm, 0⟩ := .mk hE h4 h5 q1 ⟨ht'.1, by omega⟩
   have dl : decide (0 < (([] : List DPattern).length : Int)) = false := rfl
   simp only [Int.reduceEq, decide_true, decide_false, Bool.false_eq_true, Bool.not_true, Bool.not_false, if_true, if_false, dl]
   exact vp_ hP (h n _ (Nat.lt_succ_self n) hr)
theorem mj_ {β : Type} {o' : Option β} {P : Bool × aa_ → β → Prop} (hP : PL P) (hf : f ≤ 800) (hr : Rd s f k S S') (h : ∀ n1 S1, n1 < n → Rd s f (k - 2) S1 S' → Gt (MM n1 S1 x c (KK n1 y Φ)) o' P) : Gt (MM n S ⟨19, kn, tx, ⟨z, [x, y]⟩⟩ c Φ) o' P := by
 cases n with
 | zero => exact b2_
 | succ n =>
  cases hr with
  | @mk env st mo t t' nw cd mt me hE h4 h5 ht ht' =>
   show Gt (ac_ _ _ _ _ _ _) _ _
   unfold ac_
   refine fp_ (st_l hf ht) fun y hy => ?_
   rcases hy with rfl | ⟨rfl, q1⟩
   ·exact gv_ rfl (b8_ fun _ => hP.1 _ _ (bd7 rfl rfl))
   have hr : Rd s f (k - 2) ⟨env, s, f, t + 1, st, nw, cd, mt, mo, me, T.nilm, 0⟩ ⟨env, s, 20000, t', st, nw, cd, mt, mo, me, T.nilm, 0⟩ := .mk hE h4 h5 q1 ⟨ht'.1, by omega⟩
   have dl : decide (0 < (([x, y] : List DPattern).length : Int)) = true := rfl
   have e0 : elt (⟨z, [x, y]⟩ : Sl DPattern) 0 = some x := rfl
   have e1 : elt (⟨z, [x, y]⟩ : Sl DPattern) 1 = some y := rfl
   simp only [Int.reduceEq, decide_true, decide_false, Bool.false_eq_true, Bool.not_true, Bool.not_false, if_true, if_false, dl]
   refine e1_ hP ?_
   cases n with
   | zero => exact b2_
   | succ n =>
    rw [bgI2 n]
    unfold ai_
    simp only [e0, e1, Option.bind_some, Int.reduceEq, decide_true, decide_false, Bool.false_eq_true, if_true, if_false]
    exact e1_ hP (h n _ (by omega) hr)
theorem k3_ {β : Type} {o' : Option β} {P : Bool × aa_ → β → Prop} (hP : PL P) (hf : f ≤ 800) (hr : Rd s f k S S') (h : ∀ n1 S1, n1 < n → Rd s f (k - 2) S1 S' → Gt (AA n1 x y S1 c Φ) o' P) : Gt (MM n S ⟨18, kn, tx, ⟨z, [x, y]⟩⟩ c Φ) o' P := by
 cases n with
 | zero => exact b2_
 | succ n =>
  cases hr with
  | @mk env st mo t t' nw cd mt me hE h4 h5 ht ht' =>
   show Gt (ac_ _ _ _ _ _ _) _ _
   unfold ac_
   refine fp_ (st_l hf ht) fun y hy => ?_
   rcases hy with rfl | ⟨rfl, q1⟩
   ·exact gv_ rfl (b8_ fun _ => hP.1 _ _ (bd7 rfl rfl))
   have hr : Rd s f (k - 2) ⟨env, s, f, t + 1, st, nw, cd, mt, mo, me, T.nilm, 0⟩ ⟨env, s, 20000, t', st, nw, cd, mt, mo, me, T.nilm, 0⟩ := .mk hE h4 h5 q1 ⟨ht'.1, by omega⟩
   have dl : decide (0 < (([x, y] : List DPattern).length : Int)) = true := rfl
   have e0 : elt (⟨z, [x, y]⟩ : Sl DPattern) 0 = some x := rfl
   have e1 : elt (⟨z, [x, y]⟩ : Sl DPattern) 1 = some y := rfl
   simp only [Int.reduceEq, decide_true, decide_false, Bool.false_eq_true, Bool.not_true, Bool.not_false, if_true, if_false, dl]
   refine e1_ hP ?_
   cases n with
   | zero => exact b2_
   | succ n =>
    rw [bgI2 n]
    unfold ai_
    simp only [e0, e1, Option.bind_some, Int.reduceEq, decide_true, decide_false, Bool.false_eq_true, if_true, if_false]
    exact h n _ (by omega) hr
theorem ov_ (hf : f ≤ 800) (hk : k ≤ 20) (hr : Rd s f k S S') (h : ∀ n1 S1, n1 < n → Rd s f (k + 1) S S1 → Gt o (SG s tx Φ c S1) (PD s f)) : Gt o (MM n S' ⟨1, 0, tx, ⟨z, []⟩⟩ c Φ) (PD s f) := by
 cases n with
 | zero => exact cK_
 | succ n =>
  cases hr with
  | @mk env st mo t t' nw cd mt me hE h4 h5 ht ht' =>
   show Gt _ (ac_ _ _ _ _ _ _) _
   unfold ac_
   refine ih_ (st_r hf ht ht' hk) fun y hy => ?_
   obtain ⟨rfl, q1⟩ := hy
   have hr : Rd s f (k + 1) ⟨env, s, f, t, st, nw, cd, mt, mo, me, T.nilm, 0⟩ ⟨env, s, 20000, t' + 1, st, nw, cd, mt, mo, me, T.nilm, 0⟩ := .mk hE h4 h5 ht q1
   have dl : decide (0 < (([] : List DPattern).length : Int)) = false := rfl
   simp only [Int.reduceEq, decide_true, decide_false, Bool.false_eq_true, Bool.not_true, Bool.not_false, if_true, if_false, dl]
   exact sg_R (h n _ (Nat.lt_succ_self n) hr)
theorem rT_ (hf : f ≤ 800) (hk : k ≤ 20) (hr : Rd s f k S S') (h : ∀ n1 S1, n1 < n → Rd s f (k + 1) S S1 → Gt o (some (true, S1)) (PD s f)) : Gt o (MM n S' ⟨16, kn, tx, ⟨z, []⟩⟩ c Φ) (PD s f) := by
 cases n with
 | zero => exact cK_
 | succ n =>
  cases hr with
  | @mk env st mo t t' nw cd mt me hE h4 h5 ht ht' =>
   show Gt _ (ac_ _ _ _ _ _ _) _
   unfold ac_
   refine ih_ (st_r hf ht ht' hk) fun y hy => ?_
   obtain ⟨rfl, q1⟩ := hy
   have hr : Rd s f (k + 1) ⟨env, s, f, t, st, nw, cd, mt, mo, me, T.nilm, 0⟩ ⟨env, s, 20000, t' + 1, st, nw, cd, mt, mo, me, T.nilm, 0⟩ := .mk hE h4 h5 ht q1
   have dl : decide (0 < (([] : List DPattern).length : Int)) = false := rfl
   simp only [Int.reduceEq, decide_true, decide_false, Bool.false_eq_true, Bool.not_true, Bool.not_false, if_true, if_false, dl]
   exact h n _ (Nat.lt_succ_self n) hr
theorem qM_ (hf : f ≤ 800) (hk : k ≤ 20) (hr : Rd s f k S S') (h : ∀ n1 S1, n1 < n → Rd s f (k + 1) S S1 → Gt o (MM n1 S1 x c (KK n1 y Φ)) (PD s f)) : Gt o (MM n S' ⟨19, kn, tx, ⟨z, [x, y]⟩⟩ c Φ) (PD s f) := by
 cases n with
 | zero => exact cK_
 | succ n =>
  cases hr with
  | @mk env st mo t t' nw cd mt me hE h4 h5 ht ht' =>
   show Gt _ (ac_ _ _ _ _ _ _) _
   unfold ac_
   refine ih_ (st_r hf ht ht' hk) fun y hy => ?_
   obtain ⟨rfl, q1⟩ := hy
   have hr : Rd s f (k + 1) ⟨env, s, f, t, st, nw, cd, mt, mo, me, T.nilm, 0⟩ ⟨env, s, 20000, t' + 1, st, nw, cd, mt, mo, me, T.nilm, 0⟩ := .mk hE h4 h5 ht q1
   have dl : decide (0 < (([x, y] : List DPattern).length : Int)) = true := rfl
   have e0 : elt (⟨z, [x, y]⟩ : Sl DPattern) 0 = some x := rfl
   have e1 : elt (⟨z, [x, y]⟩ : Sl DPattern) 1 = some y := rfl
   simp only [Int.reduceEq, decide_true, decide_false, Bool.false_eq_true, Bool.not_true, Bool.not_false, if_true, if_false, dl]
   refine hx_ ?_
   cases n with
   | zero => exact cK_
   | succ n =>
    rw [bgI2 n]
    unfold ai_
    simp only [e0, e1, Option.bind_some, Int.reduceEq, decide_true, decide_false, Bool.false_eq_true, if_true, if_false]
    exact hx_ (h n _ (by omega) hr)
theorem tn_ (hf : f ≤ 800) (hk : k ≤ 20) (hr : Rd s f k S S') (h : ∀ n1 S1, n1 < n → Rd s f (k + 1) S S1 → Gt o (AA n1 x y S1 c Φ) (PD s f)) : Gt o (MM n S' ⟨18, kn, tx, ⟨z, [x, y]⟩⟩ c Φ) (PD s f) := by
 cases n with
 | zero => exact cK_
 | succ n =>
  cases hr with
  | @mk env st mo t t' nw cd mt me hE h4 h5 ht ht' =>
   show Gt _ (ac_ _ _ _ _ _ _) _
   unfold ac_
   refine ih_ (st_r hf ht ht' hk) fun y hy => ?_
   obtain ⟨rfl, q1⟩ := hy
   have hr : Rd s f (k + 1) ⟨env, s, f, t, st, nw, cd, mt, mo, me, T.nilm, 0⟩ ⟨env, s, 20000, t' + 1, st, nw, cd, mt, mo, me, T.nilm, 0⟩ := .mk hE h4 h5 ht q1
   have dl : decide (0 < (([x, y] : List DPattern).length : Int)) = true := rfl
   have e0 : elt (⟨z, [x, y]⟩ : Sl DPattern) 0 = some x := rfl
   have e1 : elt (⟨z, [x, y]⟩ : Sl DPattern) 1 = some y := rfl
   simp only [Int.reduceEq, decide_true, decide_false, Bool.false_eq_true, Bool.not_true, Bool.not_false, if_true, if_false, dl]
   refine hx_ ?_
   cases n with
   | zero => exact cK_
   | succ n =>
    rw [bgI2 n]
    unfold ai_
    simp only [e0, e1, Option.bind_some, Int.reduceEq, decide_true, decide_false, Bool.false_eq_true, if_true, if_false]
    exact h n _ (by omega) hr
theorem pe_ {β : Type} {o' : Option β} {P : Bool × aa_ → β → Prop} (hP : PL P) (hs : s.size ≤ 200) (hc : 0 ≤ c ∧ c ≤ (s.size : Int)) (hf : f ≤ 800) (hr : Rd s f k S S') (h : ∀ n1 S1, n1 < n → Rd s f (k - 2) S1 S' → Gt (Φ c S1) o' P) : Gt (MM n S ⟨6, 0, ⟨#[]⟩, ⟨z, []⟩⟩ c Φ) o' P := by
 cases n with
 | zero => exact b2_
 | succ n =>
  cases hr with
  | @mk env st mo t t' nw cd mt me hE h4 h5 ht ht' =>
   show Gt (ac_ _ _ _ _ _ _) _ _
   unfold ac_
   refine fp_ (st_l hf ht) fun y hy => ?_
   rcases hy with rfl | ⟨rfl, q1⟩
   ·exact gv_ rfl (b8_ fun _ => hP.1 _ _ (bd7 rfl rfl))
   have hr : Rd s f (k - 2) ⟨env, s, f, t + 1, st, nw, cd, mt, mo, me, T.nilm, 0⟩ ⟨env, s, 20000, t', st, nw, cd, mt, mo, me, T.nilm, 0⟩ := .mk hE h4 h5 q1 ⟨ht'.1, by omega⟩
   have dl : decide (0 < (([] : List DPattern).length : Int)) = false := rfl
   have dn : decide (c < 0) = false := by simp; omega
   simp only [Int.reduceEq, decide_true, decide_false, Bool.false_eq_true, Bool.not_true, Bool.not_false, if_true, if_false, dl, sZ_ hs c hc, Option.bind_some, dn]
   exact e1_ hP (h n _ (Nat.lt_succ_self n) hr)
theorem qW_ {β : Type} {o' : Option β} {P : Bool × aa_ → β → Prop} (hP : PL P) (hf : f ≤ 800) (hr : Rd s f k S S') (h : ∀ n1 S1, n1 < n → Rd s f (k - 2) S1 S' → Gt ((Φ c S1).bind fun y => if y.1 = true then (MM n1 (NS y.2) x c (al_ (MM n1) (BG_impl_search_match n1).2 c ⟨20, kn, tx, ⟨z, [x]⟩⟩ Φ)).bind (fun y4 => some (y4.1, NS y4.2)) else some (false, NS y.2)) o' P) : Gt (MM n S ⟨20, kn, tx, ⟨z, [x]⟩⟩ c Φ) o' P := by
 cases n with
 | zero => exact b2_
 | succ n =>
  cases hr with
  | @mk env st mo t t' nw cd mt me hE h4 h5 ht ht' =>
   show Gt (ac_ _ _ _ _ _ _) _ _
   unfold ac_
   refine fp_ (st_l hf ht) fun y hy => ?_
   rcases hy with rfl | ⟨rfl, q1⟩
   ·exact gv_ rfl (b8_ fun _ => hP.1 _ _ (bd7 rfl rfl))
   have hr : Rd s f (k - 2) ⟨env, s, f, t + 1, st, nw, cd, mt, mo, me, T.nilm, 0⟩ ⟨env, s, 20000, t', st, nw, cd, mt, mo, me, T.nilm, 0⟩ := .mk hE h4 h5 q1 ⟨ht'.1, by omega⟩
   have dl : decide (0 < (([x] : List DPattern).length : Int)) = true := rfl
   have e0 : elt (⟨z, [x]⟩ : Sl DPattern) 0 = some x := rfl
   simp only [Int.reduceEq, decide_true, decide_false, Bool.false_eq_true, Bool.not_true, Bool.not_false, if_true, if_false, dl]
   refine e1_ hP ?_
   cases n with
   | zero => exact b2_
   | succ n =>
    rw [bgI2 n]
    unfold ai_
    simp only [e0, Option.bind_some, Int.reduceEq, decide_true, decide_false, Bool.false_eq_true, if_true, if_false]
    exact h n _ (by omega) hr
theorem qi_ {β : Type} {o' : Option β} {P : Bool × aa_ → β → Prop} (hP : PL P) (hf : f ≤ 800) (hr : Rd s f k S S') (h : ∀ n1 S1, n1 < n → Rd s f (k - 2) S1 S' → Gt (MM n1 S1 x c (aq_ (MM n1) (BG_impl_search_match n1).2 ⟨21, kn, tx, ⟨z, [x]⟩⟩ c Φ)) o' P) : Gt (MM n S ⟨21, kn, tx, ⟨z, [x]⟩⟩ c Φ) o' P := by
 cases n with
 | zero => exact b2_
 | succ n =>
  cases hr with
  | @mk env st mo t t' nw cd mt me hE h4 h5 ht ht' =>
   show Gt (ac_ _ _ _ _ _ _) _ _
   unfold ac_
   refine fp_ (st_l hf ht) fun y hy => ?_
   rcases hy with rfl | ⟨rfl, q1⟩
   ·exact gv_ rfl (b8_ fun _ => hP.1 _ _ (bd7 rfl rfl))
   have hr : Rd s f (k - 2) ⟨env, s, f, t + 1, st, nw, cd, mt, mo, me, T.nilm, 0⟩ ⟨env, s, 20000, t', st, nw, cd, mt, mo, me, T.nilm, 0⟩ := .mk hE h4 h5 q1 ⟨ht'.1, by omega⟩
   have dl : decide (0 < (([x] : List DPattern).length : Int)) = true := rfl
   have e0 : elt (⟨z, [x]⟩ : Sl DPattern) 0 = some x := rfl
   simp only [Int.reduceEq, decide_true, decide_false, Bool.false_eq_true, Bool.not_true, Bool.not_false, if_true, if_false, dl]
   refine e1_ hP ?_
   cases n with
   | zero => exact b2_
   | succ n =>
    rw [bgI2 n]
    unfold ai_
    simp only [e0, Option.bind_some, Int.reduceEq, decide_true, decide_false, Bool.false_eq_true, if_true, if_false]
    exact e1_ hP (h n _ (by omega) hr)
theorem qe_ {β : Type} {o' : Option β} {P : Bool × aa_ → β → Prop} (hP : PL P) (hf : f ≤ 800) (hr : Rd s f k S S') (h : ∀ n1 S1, n1 < n → Rd s f (k - 2) S1 S' → Gt (MM n1 S1 x c (aq_ (MM n1) (BG_impl_search_match n1).2 ⟨22, kn, tx, ⟨z, [x]⟩⟩ c Φ)) o' P) : Gt (MM n S ⟨22, kn, tx, ⟨z, [x]⟩⟩ c Φ) o' P := by
 cases n with
 | zero => exact b2_
 | succ n =>
  cases hr with
  | @mk env st mo t t' nw cd mt me hE h4 h5 ht ht' =>
   show Gt (ac_ _ _ _ _ _ _) _ _
   unfold ac_
   refine fp_ (st_l hf ht) fun y hy => ?_
   rcases hy with rfl | ⟨rfl, q1⟩
   ·exact gv_ rfl (b8_ fun _ => hP.1 _ _ (bd7 rfl rfl))
   have hr : Rd s f (k - 2) ⟨env, s, f, t + 1, st, nw, cd, mt, mo, me, T.nilm, 0⟩ ⟨env, s, 20000, t', st, nw, cd, mt, mo, me, T.nilm, 0⟩ := .mk hE h4 h5 q1 ⟨ht'.1, by omega⟩
   have dl : decide (0 < (([x] : List DPattern).length : Int)) = true := rfl
   have e0 : elt (⟨z, [x]⟩ : Sl DPattern) 0 = some x := rfl
   simp only [Int.reduceEq, decide_true, decide_false, Bool.false_eq_true, Bool.not_true, Bool.not_false, if_true, if_false, dl]
   refine e1_ hP ?_
   cases n with
   | zero => exact b2_
   | succ n =>
    rw [bgI2 n]
    unfold ai_
    simp only [e0, Option.bind_some, Int.reduceEq, decide_true, decide_false, Bool.false_eq_true, if_true, if_false]
    exact e1_ hP (h n _ (by omega) hr)
end
end Go.Am
end
