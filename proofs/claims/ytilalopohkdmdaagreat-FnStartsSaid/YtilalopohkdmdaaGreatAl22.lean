/- The law. -/
import Derived.Test.YtilalopohkdmdaaGreatAg1
import Derived.Test.YtilalopohkdmdaaGreatAg2
import Derived.Test.YtilalopohkdmdaaGreatAl21
section
set_option maxRecDepth 100000
set_option maxHeartbeats 4000000
set_option linter.unusedVariables false
set_option linter.unusedSimpArgs false
namespace Go.Am
inductive RelX (X : List Int) (f f' : Int) : aa_ → aa_ → Prop
 | mk {env : Sl DNamed} {s : ByteArray} {st st' t t' : Int} {nw cd nw' cd' : Sl DCapture} {mt mt' : Sl DMatch} {me : Bool} (h1 : 0 ≤ t ∧ t ≤ f ∧ f ≤ 20000) (h2 : 0 ≤ t' ∧ t' ≤ f' ∧ f' ≤ 20000) (h3 : f - t ≤ f' - t') (h4 : nw'.l.length ≤ nw.l.length ∧ cd'.l.length ≤ cd.l.length ∧ nw.l.length + cd.l.length ≤ 100) (h5 : mt.l.map (fun x => x.End) = X ++ mt'.l.map (fun x => x.End) ∧ mt.l.length ≤ 60) :
  RelX X f f' ⟨env, s, f, t, st, nw, cd, mt, 0, me, T.nilm, 0⟩ ⟨env, s, f', t', st', nw', cd', mt', 0, me, T.nilm, 0⟩
theorem RelX.ns {X : List Int} {f f' : Int} {S S' : aa_} (h : RelX X f f' S S') : RelX X f f' (NS S) (NS S') := by cases h with | mk h1 h2 h3 h4 h5 => exact .mk h1 h2 h3 h4 h5
theorem c7 {x : Int} (h : x = 7) : x ≠ 0 := by omega
def PX (X : List Int) (f f' : Int) (r r' : Bool × aa_) : Prop := Bad r ∨ (r.1 = r'.1 ∧ RelX X f f' (NS r.2) (NS r'.2))
section
variable {X : List Int} {f f' : Int} {R R2 R' R2' : MTy} {p : DPattern} {c : Int} {Φ Φ' : PhiT}
theorem PX.rel {S S' : aa_} (b : Bool) (h : RelX X f f' S S') : PX X f f' (b, S) (b, S') := .inr ⟨rfl, h.ns⟩
theorem PX.no {b b' : Bool} {S S' : aa_} (h : PX X f f' (b, S) (b', S')) : PX X f f' (false, S) (false, S') := by
 rcases h with h | ⟨_, h⟩
 ·exact .inl ⟨rfl, h.2⟩
 ·exact .inr ⟨rfl, h⟩
theorem PX.ns {r r' : Bool × aa_} (h : PX X f f' r r') : PX X f f' (r.1, NS r.2) (r'.1, NS r'.2) := by
 rcases h with h | ⟨h1, h2⟩
 ·exact .inl h
 ·exact .inr ⟨h1, h2.ns⟩
def PhiX (X : List Int) (f f' : Int) (Φ Φ' : PhiT) : Prop := ∀ e S S', RelX X f f' S S' → Gt (Φ e S) (Φ' e S') (PX X f f')
def BX (X : List Int) (f f' : Int) (R R' : MTy) : Prop := ∀ S S' p c Φ Φ', RelX X f f' S S' → PhiX X f f' Φ Φ' → Gt (R S p c Φ) (R' S' p c Φ') (PX X f f')
theorem lC_ {α β : Type} {r r' : Bool × aa_} {a b : Option α} {a' b' : Option β} {P : α → β → Prop} (h : PX X f f' r r') (k1 : Bad r → ∀ o : Option β, Gt b o P) (k3 : r.1 = true → r'.1 = true → RelX X f f' (NS r.2) (NS r'.2) → Gt a a' P) (k4 : r.1 = false → r'.1 = false → RelX X f f' (NS r.2) (NS r'.2) → Gt b b' P) :
  Gt (if r.1 = true then a else b) (if r'.1 = true then a' else b') P := by
 rcases h with h | ⟨h1, h2⟩
 ·rw [if_neg (c := r.1 = true) (by rw [h.1]; simp)]; exact k1 h _
 ·by_cases q : r.1 = true
  ·rw [if_pos q, if_pos (h1 ▸ q)]; exact k3 q (h1 ▸ q) h2
  ·have q1 : r.1 = false := by cases h : r.1 <;> simp [h] at q ⊢
   rw [if_neg q, if_neg (h1 ▸ q)]; exact k4 q1 (h1 ▸ q1) h2
theorem nM_ {α β : Type} {r r' : Bool × aa_} {a b : Option α} {a' b' : Option β} {P : α → β → Prop} (h : PX X f f' r r') (k1 : Bad r → ∀ o : Option β, Gt b o P) (k3 : r.1 = true → r'.1 = true → RelX X f f' (NS r.2) (NS r'.2) → Gt a a' P) (k4 : r.1 = false → r'.1 = false → RelX X f f' (NS r.2) (NS r'.2) → Gt b b' P) :
  Gt (if (!r.1) = true then b else a) (if (!r'.1) = true then b' else a') P := by
 have e : ∀ {α : Type} (r : Bool × aa_) (a b : Option α), (if (!r.1) = true then b else a) = if r.1 = true then a else b := fun r a b => by cases r.1 <;> rfl
 rw [e, e]
 exact lC_ h k1 k3 k4
theorem st_x {f t f' t' : Int} {mt mt' : Sl DMatch} (h1 : 0 ≤ t ∧ t ≤ f ∧ f ≤ 20000) (h2 : 0 ≤ t' ∧ t' ≤ f' ∧ f' ≤ 20000) (h3 : f - t ≤ f' - t') :
  Gt ((if (decide (t = f)) = true then (some (false, t, 7, (⟨true, []⟩ : Sl DMatch))) else (some (true, (w4 (t + 1)), 0, mt))) : Option (Bool × Int × Int × (Sl DMatch))) ((if (decide (t' = f')) = true then (some (false, t', 7, (⟨true, []⟩ : Sl DMatch))) else (some (true, (w4 (t' + 1)), 0, mt'))) : Option (Bool × Int × Int × (Sl DMatch)))
   (fun y y' => (y.1 = false ∧ y.2.2.1 = 7) ∨ (y = (true, t + 1, 0, mt) ∧ y' = (true, t' + 1, 0, mt') ∧ t + 1 ≤ f ∧ t' + 1 ≤ f')) := by
 by_cases h : t = f
 ·rw [if_pos (by simpa using h)]; exact a3_ fun y => .inl ⟨rfl, rfl⟩
 ·rw [if_neg (by simpa using h), if_neg (by simp; omega), aU_ (by omega) (by omega), aU_ (by omega) (by omega)]
  exact aA_ (.inr ⟨rfl, rfl, by omega, by omega⟩)
theorem rc_x (a b a' b' : Sl DCapture) (x x' : DCapture) (mt mt' : Sl DMatch) (h : a.l.length + b.l.length ≤ 100) (h' : a'.l.length ≤ a.l.length ∧ b'.l.length ≤ b.l.length) {γ δ : Type} {P : γ → δ → Prop} {g : (Bool × Int × Sl DCapture × Sl DMatch) → Option γ} {g' : (Bool × Int × Sl DCapture × Sl DMatch) → Option δ}
  (k1 : ∀ y, ∀ o : Option δ, Gt (g (false, 6, y, ⟨true, []⟩)) o P) (k2 : ∀ y y' : Sl DCapture, y.l.length = a.l.length + 1 → y'.l.length = a'.l.length + 1 → y.l.length + b.l.length ≤ 100 → Gt (g (true, 0, y, mt)) (g' (true, 0, y', mt')) P) {e e' : Int → Int} (he : ∀ y : Sl DCapture, y.l.length ≤ 101 → e (y.l.length : Int) = (y.l.length : Int) + (b.l.length : Int)) (he' : ∀ y : Sl DCapture, y.l.length ≤ 101 → e' (y.l.length : Int) = (y.l.length : Int) + (b'.l.length : Int)) :
  Gt (((appS 48 a (⟨false, [x]⟩ : Sl DCapture)).bind fun y3 => (if ((decide (100 < e (y3.l.length : Int)))) = true then (some (false, (6 : Int), y3, (⟨true, []⟩ : Sl DMatch))) else (some (true, 0, y3, mt)))).bind g) (((appS 48 a' (⟨false, [x']⟩ : Sl DCapture)).bind fun y3 => (if ((decide (100 < e' (y3.l.length : Int)))) = true then (some (false, (6 : Int), y3, (⟨true, []⟩ : Sl DMatch))) else (some (true, 0, y3, mt')))).bind g') P := by
 cases hq : appS 48 a (⟨false, [x]⟩ : Sl DCapture) with
 | none => intro r r' hr; cases hr
 | some q =>
  have hl : q.l = a.l ++ [x] := app1 q hq
  have e1 : q.l.length = a.l.length + 1 := by rw [hl]; simp
  rw [Option.bind_some, he q (by omega)]
  by_cases h7 : 100 < (q.l.length : Int) + (b.l.length : Int)
  ·rw [if_pos (by simpa using h7)]; exact k1 q _
  ·rw [if_neg (by simpa using h7)]
   cases hq' : appS 48 a' (⟨false, [x']⟩ : Sl DCapture) with
   | none => intro r r' _ hr; cases hr
   | some q' =>
    have hl' : q'.l = a'.l ++ [x'] := app1 q' hq'
    have e1' : q'.l.length = a'.l.length + 1 := by rw [hl']; simp
    simp only [Option.bind_some]
    rw [he' q' (by omega), if_neg (by simp; omega)]
    exact k2 q q' e1 e1' (by omega)
theorem x_found : PhiX X f f' (fun e (S : aa_) => ak_ S e) (fun e (S : aa_) => ak_ S e) := fun e S S' hr => by
 cases hr with
 | @mk env s st st' t t' nw cd nw' cd' mt mt' me h1 h2 h3 h4 h5 =>
  unfold ak_
  refine bu_ (fun _ => ay_ (st_x h1 h2 h3) fun y y' hy => ?_) fun _ => ay_ (st_x h1 h2 h3) fun y y' hy => ?_
  ·rcases hy with ⟨d1, d2⟩ | ⟨rfl, rfl, a1, a2⟩
   ·exact a3_ fun _ => .inl ⟨d1, c7 d2⟩
   ·have a1 : t + 1 ≤ f := a1
    have a2 : t' + 1 ≤ f' := a2
    have q1 : 0 ≤ t + 1 ∧ t + 1 ≤ f ∧ f ≤ 20000 := by omega
    have q2 : 0 ≤ t' + 1 ∧ t' + 1 ≤ f' ∧ f' ≤ 20000 := by omega
    have q3 : f - (t + 1) ≤ f' - (t' + 1) := by omega
    exact aA_ (PX.rel true (.mk q1 q2 q3 h4 h5))
  ·rcases hy with ⟨d1, d2⟩ | ⟨rfl, rfl, a1, a2⟩
   ·exact hm_ (by rw [d1]; rfl) (a3_ fun _ => .inl ⟨rfl, c7 d2⟩)
   ·have hm := congrArg List.length h5.1
    simp only [List.length_map, List.length_append] at hm
    by_cases q60 : mt.l.length = 60
    ·exact bu_ (fun w => by cases w) fun _ => hm_ (by simp [q60]) (a3_ fun _ => .inl ⟨rfl, by show (6 : Int) ≠ 0; decide⟩)
    refine bu_ (fun w => by cases w) fun _ => hV_ (by simp; omega) (jI_ (by simp; omega) (ay_ (Q := fun _ _ => True) (fun _ _ _ _ => trivial) fun y y' _ => ay_ (gH_ app1 app1) fun q q' hq => aA_ ?_))
    obtain ⟨f1, f2⟩ := hq
    have f1 : q.l = mt.l ++ [⟨st, e, y⟩] := f1
    have f2 : q'.l = mt'.l ++ [⟨st', e, y'⟩] := f2
    have a1 : t + 1 ≤ f := a1
    have a2 : t' + 1 ≤ f' := a2
    have d : ∀ n : Nat, decide (((n + 1 : Nat) : Int) = 0) = false := fun n => by simp; omega
    have q1 : 0 ≤ t + 1 ∧ t + 1 ≤ f ∧ f ≤ 20000 := by omega
    have q2 : 0 ≤ t' + 1 ∧ t' + 1 ≤ f' ∧ f' ≤ 20000 := by omega
    have q3 : f - (t + 1) ≤ f' - (t' + 1) := by omega
    refine .inr ⟨?_, .mk q1 q2 q3 h4 ⟨?_, ?_⟩⟩
    ·show (!decide ((q.l.length : Int) = 0)) = (!decide ((q'.l.length : Int) = 0))
     rw [f1, f2, List.length_append, List.length_append]
     simp only [List.length_cons, List.length_nil, Nat.zero_add, d]
    ·rw [f1, f2, List.map_append, List.map_append, h5.1, List.append_assoc]; rfl
    ·rw [f1, List.length_append, List.length_singleton]; omega
theorem x_k1 (hR : BX X f f' R R') (hΦ : PhiX X f f' Φ Φ') : PhiX X f f' (aq_ R R2 p Φ) (aq_ R' R2' p Φ') := fun e S S' hr => by
 unfold aq_
 exact dA_ fun y => ay_ (hR _ _ _ _ _ _ hr.ns hΦ) fun r r' h => aA_ h.ns
theorem x_k2 (hR : BX X f f' R R') (hΦ : PhiX X f f' Φ Φ') : PhiX X f f' (an_ R R2 c p Φ) (an_ R' R2' c p Φ') := fun e S S' hr => by
 unfold an_
 exact bu_ (fun _ => aA_ (PX.rel true hr.ns)) fun _ => ay_ (hR _ _ _ _ _ _ hr.ns hΦ) fun r r' h => aA_ h.ns
theorem x_k3 (hΦ : PhiX X f f' Φ Φ') : PhiX X f f' (aj_ R R2 p c Φ) (aj_ R' R2' p c Φ') := fun e S S' hr => by
 cases hr with
 | @mk env s st st' t t' nw cd nw' cd' mt mt' me h1 h2 h3 h4 h5 =>
  unfold aj_
  refine dA_ fun y => bu_ (fun _ => ?_) fun _ => ?_
  ·refine rc_x nw cd nw' cd' _ _ mt mt' h4.2.2 ⟨h4.1, h4.2.1⟩ (e := fun n => w4 (n + (cd.l.length : Int))) (e' := fun n => w4 (n + (cd'.l.length : Int))) ?_ ?_ (fun q hq => aU_ (by omega) (by omega)) (fun q hq => aU_ (by omega) (by omega))
   ·exact fun q o => hV_ (by simp) (a3_ fun _ => .inl ⟨rfl, by show (6 : Int) ≠ 0; decide⟩)
   ·exact fun q q' e1 e2 e3 => have h6 : q'.l.length ≤ q.l.length ∧ cd'.l.length ≤ cd.l.length ∧ q.l.length + cd.l.length ≤ 100 := by omega
    bu_ (fun _ => ay_ (hΦ _ _ _ (.mk h1 h2 h3 h6 h5)) fun r r' h => aA_ h.ns) fun w => absurd rfl w
  ·refine ay_ (Q := fun q q' => PX X f f' (q.1, D11 q.2) (q'.1, D11 q'.2)) (rc_x cd nw cd' nw' _ _ mt mt' (by omega) (by omega) (e := fun n => w4 ((nw.l.length : Int) + n)) (e' := fun n => w4 ((nw'.l.length : Int) + n)) ?_ ?_ (fun q hq => (aU_ (by omega) (by omega)).trans (Int.add_comm _ _)) (fun q hq => (aU_ (by omega) (by omega)).trans (Int.add_comm _ _))) fun q q' hq => ?_
   ·exact fun q o => hV_ (by simp) (a3_ fun _ => .inl ⟨rfl, by show (6 : Int) ≠ 0; decide⟩)
   ·exact fun q q' e1 e2 e3 => have h6 : nw'.l.length ≤ nw.l.length ∧ q'.l.length ≤ q.l.length ∧ nw.l.length + q.l.length ≤ 100 := by omega
    bu_ (fun _ => ay_ (hΦ _ _ _ (.mk h1 h2 h3 h6 h5)) fun r r' h => aA_ h.ns) fun w => absurd rfl w
   obtain ⟨b, x1, x2, x3, x4, x5, x6, x7, x8, x9, x10, x11⟩ := q
   obtain ⟨b', y1, y2, y3, y4, y5, y6, y7, y8, y9, y10, y11⟩ := q'
   rcases hq with ⟨d1, d2⟩ | ⟨e1, e5⟩
   ·exact uh_ (au_ dd_ fun w _ => ar_ fun _ => .inl ⟨d1, d2⟩)
   ·have e1 : b = b' := e1
    subst e1
    have e5 : RelX X f f' ⟨x1, x2, x3, x4, x5, x9, x10, x11, x6, x7, T.nilm, x8⟩ ⟨y1, y2, y3, y4, y5, y9, y10, y11, y6, y7, T.nilm, y8⟩ := e5
    cases e5 with
    | mk g1 g2 g3 g4 g5 =>
     refine ay_ (gH_ of_ of_) fun w w' hw => aA_ (PX.rel b (.mk g1 g2 g3 ?_ g5))
     have w1 : w.l = x10.l.take (cd.l.length : Int).toNat := hw.1
     have w2 : w'.l = y10.l.take (cd'.l.length : Int).toNat := hw.2
     show y9.l.length ≤ x9.l.length ∧ w'.l.length ≤ w.l.length ∧ x9.l.length + w.l.length ≤ 100
     rw [w1, w2, List.length_take, List.length_take]
     omega
theorem se_ (hR : BX X f f' R R') : BX X f f' (ai_ R R2) (ai_ R' R2') := fun S S' p c Φ Φ' hr hΦ => by
 unfold ai_
 have hn := hr.ns
 refine dA_ fun q => bu_ (fun _ => ay_ (hR _ _ _ _ _ _ hn hΦ) fun r r' h => ?_) fun _ => bu_ (fun _ => ay_ (hR _ _ _ _ _ _ hn (x_k1 hR hΦ)) fun r r' h => aA_ h.ns) fun _ => bu_ (fun _ => ay_ (hΦ _ _ _ hn) fun r r' h => ?_) fun _ => ay_ (hR _ _ _ _ _ _ hn (x_k3 hΦ)) fun r r' h => aA_ h.ns
 ·exact lC_ h (fun b o => a3_ fun _ => .inl ⟨rfl, b.2⟩) (fun _ _ hi => dA_ fun q => ay_ (hR _ _ _ _ _ _ hi hΦ) fun r r' h => aA_ h.ns) fun _ _ hi => aA_ (.inr ⟨rfl, hi.ns⟩)
 ·exact lC_ h (fun b o => a3_ fun _ => .inl ⟨rfl, b.2⟩) (fun _ _ hi => ay_ (hR _ _ _ _ _ _ hi (x_k2 hR hΦ)) fun r r' h => aA_ h.ns) fun _ _ hi => aA_ (.inr ⟨rfl, hi.ns⟩)
theorem resX {b : Bool} {x x' : T11 ⊕ (Bool × aa_)} (h : PX X f f' (fB_ b x) (fB_ b x')) : Gt (Sum.elim (fun y => some (b, D11 y)) (fun y => some y) x) (Sum.elim (fun y => some (b, D11 y)) (fun y => some y) x') (PX X f f') := by
 cases x <;> cases x' <;> exact aA_ h
theorem qH_ (hR : BX X f f' R R') (hR2 : BX X f f' R2 R2') : BX X f f' (ac_ R R2) (ac_ R' R2') := fun S S' p c Φ Φ' hr hΦ => by
 cases hr with
 | @mk env s st st' t t' nw cd nw' cd' mt mt' me h1 h2 h3 h4 h5 =>
  unfold ac_
  refine ay_ (st_x h1 h2 h3) fun y y' hy => ?_
  rcases hy with ⟨d1, d2⟩ | ⟨rfl, rfl, a1, a2⟩
  ·exact hm_ (by rw [d1]; rfl) (a3_ fun _ => .inl ⟨rfl, c7 d2⟩)
  have a1 : t + 1 ≤ f := a1
  have a2 : t' + 1 ≤ f' := a2
  have q1 : 0 ≤ t + 1 ∧ t + 1 ≤ f ∧ f ≤ 20000 := by omega
  have q2 : 0 ≤ t' + 1 ∧ t' + 1 ≤ f' ∧ f' ≤ 20000 := by omega
  have q3 : f - (t + 1) ≤ f' - (t' + 1) := by omega
  have hr : RelX X f f' ⟨env, s, f, t + 1, st, nw, cd, mt, 0, me, T.nilm, 0⟩ ⟨env, s, f', t' + 1, st', nw', cd', mt', 0, me, T.nilm, 0⟩ := .mk q1 q2 q3 h4 h5
  refine bu_ (fun w => by cases w) fun _ => bu_ (fun _ => ?_) fun _ => bu_ (fun _ => dA_ fun v => ?_) fun _ => bu_ (fun _ => ay_ (hΦ _ _ _ hr) fun r r' h => aA_ (PX.no (b := r.1) (b' := r'.1) h.ns)) fun _ => bu_ (fun _ => aA_ (PX.rel false hr)) fun _ => bu_ (fun _ => aA_ (PX.rel true hr)) fun _ => bu_ (fun _ => ?_) fun _ => bu_ (fun _ => ?_) fun _ => bu_ (fun _ => ?_) fun _ => bu_ (fun _ => ay_ (hR2 _ _ _ _ _ _ hr hΦ) fun r r' h => aA_ h.ns) fun _ => dA_ fun e => bu_ (fun _ => aA_ (PX.rel true hr)) fun _ => ay_ (hΦ _ _ _ hr) fun r r' h => aA_ h.ns
  ·refine ay_ (Q := fun x x' => PX X f f' (fB_ true x) (fB_ true x')) (kO_ (fun (s t : Int × T11) => ∃ j A A', RelX X f f' A A' ∧ s = (j, fC_ A) ∧ t = (j, fC_ A')) ⟨c, _, _, hr, rfl, rfl⟩ fun s t hs => ?_) fun x x' hx => resX hx
   obtain ⟨j, A, A', hA, rfl, rfl⟩ := hs
   have hn := hA.ns
   cases hA with
   | mk g1 g2 g3 g4 g5 =>
    refine bu_ (fun _ => ay_ (hΦ j _ _ hn) fun r r' h => nM_ h (fun b o => a3_ fun _ => .inl ⟨_, rfl, fun _ => .inl ⟨rfl, b.2⟩⟩) (fun _ _ hi => aA_ (.inr (.inl ⟨_, _, rfl, rfl, _, _, _, hi, rfl, rfl⟩))) fun _ _ hi => aA_ (.inr (.inr ⟨_, _, rfl, rfl, .inr ⟨rfl, hi.ns⟩⟩))) fun _ => aA_ (.inr (.inr ⟨_, _, rfl, rfl, PX.rel true hn⟩))
  ·refine ay_ (Q := fun x x' => PX X f f' (fB_ true x) (fB_ true x')) (kO_ (fun (s t : Int × T11) => ∃ j A A', RelX X f f' A A' ∧ s = (j, fC_ A) ∧ t = (j, fC_ A')) ⟨v, _, _, hr, rfl, rfl⟩ fun s t hs => ?_) fun x x' hx => resX hx
   obtain ⟨j, A, A', hA, rfl, rfl⟩ := hs
   have hn := hA.ns
   cases hA with
   | mk g1 g2 g3 g4 g5 =>
    refine bu_ (fun _ => ay_ (hΦ j _ _ hn) fun r r' h => nM_ h (fun b o => a3_ fun _ => .inl ⟨_, rfl, fun _ => .inl ⟨rfl, b.2⟩⟩) (fun _ _ hi => ?_) fun _ _ hi => aA_ (.inr (.inr ⟨_, _, rfl, rfl, .inr ⟨rfl, hi.ns⟩⟩))) fun _ => aA_ (.inr (.inr ⟨_, _, rfl, rfl, PX.rel true hn⟩))
    obtain ⟨b1, u1, u2, u3, u4, u5, u6, u7, u8, u9, u10, u11, u12⟩ := r
    obtain ⟨b2, v1, v2, v3, v4, v5, v6, v7, v8, v9, v10, v11, v12⟩ := r'
    have hi : RelX X f f' ⟨u1, u2, u3, u4, u5, u6, u7, u8, u9, u10, T.nilm, u12⟩ ⟨v1, v2, v3, v4, v5, v6, v7, v8, v9, v10, T.nilm, v12⟩ := hi
    cases hi with
    | mk g1 g2 g3 g4 g5 => exact dA_ fun q => aA_ (.inr (.inl ⟨_, _, rfl, rfl, _, _, _, .mk g1 g2 g3 g4 g5, rfl, rfl⟩))
  ·refine ay_ (Q := fun x x' => PX X f f' (fB_ false x) (fB_ false x')) (kO_ (fun (s t : T11) => ∃ A A', RelX X f f' A A' ∧ s = fC_ A ∧ t = fC_ A') ⟨_, _, hr, rfl, rfl⟩ fun s t hs => ?_) fun x x' hx => resX hx
   obtain ⟨A, A', hA, rfl, rfl⟩ := hs
   have hn := hA.ns
   refine ay_ (hΦ c _ _ hn) fun r r' h => lC_ h (fun b o => a3_ fun _ => .inl ⟨_, rfl, fun _ => .inl ⟨rfl, b.2⟩⟩) (fun _ _ hi => ?_) fun _ _ hi => aA_ (.inr (.inr ⟨_, _, rfl, rfl, .inr ⟨rfl, hi.ns⟩⟩))
   obtain ⟨b1, u1, u2, u3, u4, u5, u6, u7, u8, u9, u10, u11, u12⟩ := r
   obtain ⟨b2, v1, v2, v3, v4, v5, v6, v7, v8, v9, v10, v11, v12⟩ := r'
   have hi : RelX X f f' ⟨u1, u2, u3, u4, u5, u6, u7, u8, u9, u10, T.nilm, u12⟩ ⟨v1, v2, v3, v4, v5, v6, v7, v8, v9, v10, T.nilm, v12⟩ := hi
   cases hi with
   | mk g1 g2 g3 g4 g5 =>
    refine ay_ (st_x g1 g2 g3) fun y y' hy => ?_
    rcases hy with ⟨d1, d2⟩ | ⟨rfl, rfl, a1, a2⟩
    ·exact hm_ (by rw [d1]; rfl) (a3_ fun _ => .inl ⟨_, rfl, fun _ => .inl ⟨rfl, c7 d2⟩⟩)
    ·have a1 : u4 + 1 ≤ f := a1
     have a2 : v4 + 1 ≤ f' := a2
     have q1 : 0 ≤ u4 + 1 ∧ u4 + 1 ≤ f ∧ f ≤ 20000 := by omega
     have q2 : 0 ≤ v4 + 1 ∧ v4 + 1 ≤ f' ∧ f' ≤ 20000 := by omega
     have q3 : f - (u4 + 1) ≤ f' - (v4 + 1) := by omega
     exact bu_ (fun w => by cases w) fun _ => aA_ (.inr (.inl ⟨_, _, rfl, rfl, _, _, .mk q1 q2 q3 g4 g5, rfl, rfl⟩))
  ·refine rc_x nw cd nw' cd' _ _ mt mt' h4.2.2 ⟨h4.1, h4.2.1⟩ (e := fun n => w4 (n + (cd.l.length : Int))) (e' := fun n => w4 (n + (cd'.l.length : Int))) ?_ ?_ (fun q hq => aU_ (by omega) (by omega)) (fun q hq => aU_ (by omega) (by omega))
   ·exact fun q o => hV_ (by simp) (a3_ fun _ => .inl ⟨rfl, by show (6 : Int) ≠ 0; decide⟩)
   ·exact fun q q' e1 e2 e3 => have h6 : q'.l.length ≤ q.l.length ∧ cd'.l.length ≤ cd.l.length ∧ q.l.length + cd.l.length ≤ 100 := by omega
    bu_ (fun _ => ay_ (hΦ _ _ _ (.mk q1 q2 q3 h6 h5)) fun r r' h => aA_ h.ns) fun w => absurd rfl w
  ·exact dA_ fun i => bu_ (fun _ => a3_ fun _ => .inl ⟨rfl, by show (5 : Int) ≠ 0; decide⟩) fun _ => dA_ fun q => ay_ (hR _ _ _ _ _ _ hr hΦ) fun r r' h => aA_ h.ns
theorem x_all : ∀ n m, BX X f f' (BG_impl_search_match n).1 (BG_impl_search_match m).1 ∧ BX X f f' (BG_impl_search_match n).2 (BG_impl_search_match m).2
 | 0, _ => ⟨fun _ _ _ _ _ _ _ _ => hD_, fun _ _ _ _ _ _ _ _ => hD_⟩
 | n + 1, 0 => ⟨fun _ _ _ _ _ _ _ _ => hJ_, fun _ _ _ _ _ _ _ _ => hJ_⟩
 | n + 1, m + 1 => ⟨qH_ (x_all n m).1 (x_all n m).2, se_ (x_all n m).1⟩
end
end Go.Am
end
