/- The law. -/
import Derived.Test.YtjgemoaobnokdaaAg1
import Derived.Test.YtjgemoaobnokdaaAg2
import Derived.Test.YtjgemoaobnokdaaAl8
import Derived.Test.YtjgemoaobnokdaaAl9
section
set_option maxRecDepth 100000
set_option maxHeartbeats 4000000
set_option linter.unusedVariables false
set_option linter.unusedSimpArgs false
namespace Go.Am
inductive Rz (s : ByteArray) : aa_ → aa_ → Prop
 | mk {env : Sl DNamed} {st mo f t f' t' : Int} {nw cd : Sl DCapture} {mt : Sl DMatch} {me : Bool} (hE : ∀ x ∈ env.l, VP x.Pattern) (h4 : nw.l.length + cd.l.length ≤ 100) (h5 : ∀ m ∈ mt.l, m.Captures.l.length ≤ 100) :
  Rz s ⟨env, s, f, t, st, nw, cd, mt, mo, me, T.nilm, 0⟩ ⟨env, s, f', t', st, nw, cd, mt, mo, me, T.nilm, 0⟩
def PZ (s : ByteArray) (r r' : Bool × aa_) : Prop := Bad r ∨ Bad r' ∨ (r.1 = r'.1 ∧ r.2.code_ = 0 ∧ r'.2.code_ = 0 ∧ r.2.matches_ = r'.2.matches_ ∧ (∀ m ∈ r.2.matches_.l, m.Captures.l.length ≤ 100) ∧ (r.1 = true → Rz s (NS r.2) (NS r'.2)))
theorem PZ.rel {s : ByteArray} {S S' : aa_} (b : Bool) (h : Rz s S S') : PZ s (b, S) (b, S') := .inr (.inr (by cases h with | mk hE h4 h5 => exact ⟨rfl, rfl, rfl, rfl, h5, fun _ => .mk hE h4 h5⟩))
theorem PZ.no {s : ByteArray} {b b' : Bool} {S S' : aa_} (h : PZ s (b, S) (b', S')) : PZ s (false, S) (false, S') := by
 rcases h with h | h | ⟨h1, h2, h3, h4, h5, _⟩
 ·exact .inl ⟨rfl, h.2⟩
 ·exact .inr (.inl ⟨rfl, h.2⟩)
 ·exact .inr (.inr ⟨rfl, h2, h3, h4, h5, fun h => (by cases h)⟩)
def PhiZ (s : ByteArray) (Φ Φ' : PhiT) : Prop := ∀ e S S', 0 ≤ e ∧ e ≤ (s.size : Int) → Rz s S S' → Gt (Φ e S) (Φ' e S') (PZ s)
def BZ (s : ByteArray) (R R' : MTy) : Prop := ∀ S S' p c Φ Φ', VP p → 0 ≤ c ∧ c ≤ (s.size : Int) → Rz s S S' → PhiZ s Φ Φ' → Gt (R S p c Φ) (R' S' p c Φ') (PZ s)
theorem rc_z (a b : Sl DCapture) (x : DCapture) (mt : Sl DMatch) (h : a.l.length + b.l.length ≤ 100) {γ δ : Type} {P : γ → δ → Prop} {g : (Bool × Int × Sl DCapture × Sl DMatch) → Option γ} {g' : (Bool × Int × Sl DCapture × Sl DMatch) → Option δ}
  (k1 : ∀ y, Gt (g (false, 6, y, ⟨true, []⟩)) (g' (false, 6, y, ⟨true, []⟩)) P) (k2 : ∀ y : Sl DCapture, y.l.length + b.l.length ≤ 100 → Gt (g (true, 0, y, mt)) (g' (true, 0, y, mt)) P) {e : Int → Int} (he : ∀ y : Sl DCapture, y.l.length ≤ 101 → e (y.l.length : Int) = (y.l.length : Int) + (b.l.length : Int)) :
  Gt (((appS 48 a (⟨false, [x]⟩ : Sl DCapture)).bind fun y3 => (if ((decide (100 < e (y3.l.length : Int)))) = true then (some (false, (6 : Int), y3, (⟨true, []⟩ : Sl DMatch))) else (some (true, 0, y3, mt)))).bind g) (((appS 48 a (⟨false, [x]⟩ : Sl DCapture)).bind fun y3 => (if ((decide (100 < e (y3.l.length : Int)))) = true then (some (false, (6 : Int), y3, (⟨true, []⟩ : Sl DMatch))) else (some (true, 0, y3, mt)))).bind g') P := rc_t a b x 0 mt h k1 k2 he
theorem st_z {f t f' t' : Int} {mt : Sl DMatch} :
  Gt ((if (decide (t = f)) = true then (some (false, t, 7, (⟨true, []⟩ : Sl DMatch))) else (some (true, (w4 (t + 1)), 0, mt))) : Option (Bool × Int × Int × (Sl DMatch))) ((if (decide (t' = f')) = true then (some (false, t', 7, (⟨true, []⟩ : Sl DMatch))) else (some (true, (w4 (t' + 1)), 0, mt))) : Option (Bool × Int × Int × (Sl DMatch)))
   (fun y y' => (y.1 = false ∧ y.2.2.1 = 7) ∨ (y'.1 = false ∧ y'.2.2.1 = 7) ∨ (y.1 = true ∧ y'.1 = true ∧ y.2.2.1 = 0 ∧ y'.2.2.1 = 0 ∧ y.2.2.2 = mt ∧ y'.2.2.2 = mt)) := fun r r' hr hr' => by
 rcases st_q t f 0 mt r hr with ⟨a, b⟩ | ⟨a, b, c⟩
 ·exact .inl ⟨a, b⟩
 ·rcases st_q t' f' 0 mt r' hr' with ⟨a', b'⟩ | ⟨a', b', c'⟩
  ·exact .inr (.inl ⟨a', b'⟩)
  ·exact .inr (.inr ⟨a, a', b, b', c, c'⟩)
theorem l8_ {s : ByteArray} {α β : Type} {r r' : Bool × aa_} {a b : Option α} {a' b' : Option β} {P : α → β → Prop} (h : PZ s r r') (k1 : Bad r → Gt b b' P) (k1' : Bad r → r'.1 = true → Gt b a' P) (k2 : Bad r' → Gt b b' P) (k2' : Bad r' → r.1 = true → Gt a b' P) (k3 : r.1 = true → r'.1 = true → Rz s (NS r.2) (NS r'.2) → Gt a a' P) (k4 : r.1 = false → r'.1 = false → PZ s (false, r.2) (false, r'.2) → Gt b b' P) :
  Gt (if r.1 = true then a else b) (if r'.1 = true then a' else b') P := by
 have hno : PZ s (false, r.2) (false, r'.2) := PZ.no (b := r.1) (b' := r'.1) h
 rcases h with h | h | ⟨h1, h2, h3, h4, h5, h6⟩
 ·rw [if_neg (by rw [h.1]; simp)]
  by_cases q : r'.1 = true
  ·rw [if_pos q]; exact k1' h q
  ·rw [if_neg q]; exact k1 h
 ·rw [if_neg (c := r'.1 = true) (by rw [h.1]; simp)]
  by_cases q : r.1 = true
  ·rw [if_pos q]; exact k2' h q
  ·rw [if_neg q]; exact k2 h
 ·by_cases q : r.1 = true
  ·rw [if_pos q, if_pos (h1 ▸ q)]; exact k3 q (h1 ▸ q) (h6 q)
  ·have q1 : r.1 = false := by cases h : r.1 <;> simp [h] at q ⊢
   rw [if_neg q, if_neg (h1 ▸ q)]; exact k4 q1 (h1 ▸ q1) hno
theorem k8_ {s : ByteArray} {α β : Type} {r r' : Bool × aa_} {a b : Option α} {a' b' : Option β} {P : α → β → Prop} (h : PZ s r r') (k1 : Bad r → Gt b b' P) (k1' : Bad r → r'.1 = true → Gt b a' P) (k2 : Bad r' → Gt b b' P) (k2' : Bad r' → r.1 = true → Gt a b' P) (k3 : r.1 = true → r'.1 = true → Rz s (NS r.2) (NS r'.2) → Gt a a' P) (k4 : r.1 = false → r'.1 = false → PZ s (false, r.2) (false, r'.2) → Gt b b' P) :
  Gt (if (!r.1) = true then b else a) (if (!r'.1) = true then b' else a') P := by
 have e : ∀ {α : Type} (r : Bool × aa_) (a b : Option α), (if (!r.1) = true then b else a) = if r.1 = true then a else b := fun r a b => by cases r.1 <;> rfl
 rw [e, e]
 exact l8_ h k1 k1' k2 k2' k3 k4
theorem qU_ {s : ByteArray} : PhiZ s (fun e (S : aa_) => ay_ S e) (fun e (S : aa_) => ay_ S e) := fun e S S' hc hr => by
 cases hr with
 | @mk env st mo f t f' t' nw cd mt me hE h4 h5 =>
  unfold ay_
  refine cV_ (fun _ => aS_ st_z fun y y' hy => ?_) fun _ => aS_ st_z fun y y' hy => ?_
  ·obtain ⟨b, k, cs, m⟩ := y
   obtain ⟨b', k', cs', m'⟩ := y'
   rcases hy with ⟨a1, a2⟩ | ⟨a1, a2⟩ | ⟨a1, a1', a2, a2', a3, a3'⟩
   ·exact b6_ fun _ => .inl ⟨a1, by show cs ≠ 0; intro w; simp only at a2; omega⟩
   ·exact bj_ fun _ => .inr (.inl ⟨a1, by show cs' ≠ 0; intro w; simp only at a2; omega⟩)
   ·simp only at a1 a1' a2 a2' a3 a3'
    subst a1 a1' a2 a2' a3 a3'
    exact aN_ (PZ.rel true (.mk hE h4 h5))
  ·obtain ⟨b, k, cs, m⟩ := y
   obtain ⟨b', k', cs', m'⟩ := y'
   rcases hy with ⟨a1, a2⟩ | ⟨a1, a2⟩ | ⟨a1, a1', a2, a2', a3, a3'⟩
   ·exact iY_ (by simp only at a1; rw [a1]; rfl) (b6_ fun _ => .inl ⟨rfl, by show cs ≠ 0; intro w; simp only at a2; omega⟩)
   ·exact nr_ (by simp only at a1; rw [a1]; rfl) (bj_ fun _ => .inr (.inl ⟨rfl, by show cs' ≠ 0; intro w; simp only at a2; omega⟩))
   ·simp only at a1 a1' a2 a2' a3 a3'
    subst a1 a1' a2 a2' a3 a3'
    refine cV_ (fun w => by cases w) fun _ => cV_ (fun _ => aN_ (.inl ⟨rfl, by show (6 : Int) ≠ 0; decide⟩)) fun _ => aS_ (Q := fun a b => a = b ∧ a.l.length ≤ 100) (fun r r' hr hr' => ?_) fun y y' hy => ?_
    ·obtain ⟨y, y1, y2⟩ := j4_ nw cd h4
     have hr : ba_ ⟨false, [nw, cd]⟩ = some r := hr
     have hr' : ba_ ⟨false, [nw, cd]⟩ = some r' := hr'
     rw [y1] at hr hr'
     injection hr with hr; injection hr' with hr'
     subst hr hr'
     exact ⟨rfl, by rw [y2, List.length_append]; exact h4⟩
    ·obtain ⟨rfl, hy⟩ := hy
     refine aS_ (Q := fun a b => a = b ∧ a.l = m'.l ++ [⟨st, e, y⟩]) (fun r r' hr hr' => ?_) fun q q' hq => ?_
     ·have hr : appS 40 m' ⟨false, [⟨st, e, y⟩]⟩ = some r := hr
      have hr' : appS 40 m' ⟨false, [⟨st, e, y⟩]⟩ = some r' := hr'
      have := app1 r hr
      rw [hr] at hr'; injection hr' with hr'
      exact ⟨hr', this⟩
     ·obtain ⟨rfl, hq⟩ := hq
      refine aN_ (PZ.rel _ (.mk hE h4 fun m hm => ?_))
      rw [hq] at hm
      rcases List.mem_append.1 hm with h' | h'
      ·exact h5 m h'
      ·rw [List.mem_singleton] at h'; rw [h']; exact hy
theorem kD_ {α : Type} {a : Sl α} {j : Int} : Gt (elt a j) (elt a j) (fun x y => x = y ∧ x ∈ a.l) := fun r r' h h' => ⟨by rw [h] at h'; injection h', qL_ r h⟩
section
variable {s : ByteArray} {R R2 R' R2' : MTy} {p : DPattern} {c : Int} {Φ Φ' : PhiT}
theorem z_k1 (hp : VP p) (hR : BZ s R R') (hΦ : PhiZ s Φ Φ') : PhiZ s (aC_ R R2 p Φ) (aC_ R' R2' p Φ') := fun e S S' hc hr => by
 have hr0 := hr
 cases hr with
 | @mk env st mo f t f' t' nw cd mt me hE h4 h5 =>
  unfold aC_
  refine aS_ kD_ fun y y' hy => ?_
  obtain ⟨rfl, hy⟩ := hy
  exact aS_ (hR _ _ _ _ _ _ (hp.kid hy) hc hr0 hΦ) fun r r' h => aN_ h
theorem z_k2 (hp : VP p) (hR : BZ s R R') (hΦ : PhiZ s Φ Φ') : PhiZ s (aw_ R R2 c p Φ) (aw_ R' R2' c p Φ') := fun e S S' hc hr => by
 have hr0 := hr
 cases hr with
 | @mk env st mo f t f' t' nw cd mt me hE h4 h5 =>
  unfold aw_
  exact cV_ (fun _ => aN_ (PZ.rel true hr0)) fun _ => aS_ (hR _ _ _ _ _ _ hp hc hr0 hΦ) fun r r' h => aN_ h
theorem z_k3 (hΦ : PhiZ s Φ Φ') : PhiZ s (aq_ R R2 p c Φ) (aq_ R' R2' p c Φ') := fun e S S' hc hr => by
 cases hr with
 | @mk env st mo f t f' t' nw cd mt me hE h4 h5 =>
  unfold aq_
  refine ph_ fun y => cV_ (fun _ => ?_) fun _ => ?_
  ·refine rc_z nw cd _ mt h4 (e := fun n => w4 (n + (cd.l.length : Int))) ?_ ?_ (fun q hq => aR_ (by omega) (by omega))
   ·exact fun q => cV_ (fun w => by cases w) fun _ => aN_ (.inl ⟨rfl, by show (6 : Int) ≠ 0; decide⟩)
   ·exact fun q hq => cV_ (fun _ => aS_ (hΦ _ _ _ hc (.mk hE hq h5)) fun r r' h => aN_ h) fun w => absurd rfl w
  ·refine aS_ (Q := fun q q' => PZ s (q.1, D11 q.2) (q'.1, D11 q'.2)) (rc_z cd nw _ mt (by omega) (e := fun n => w4 ((nw.l.length : Int) + n)) ?_ ?_ (fun q hq => (aR_ (by omega) (by omega)).trans (Int.add_comm _ _))) fun q q' hq => ?_
   ·exact fun q => cV_ (fun w => by cases w) fun _ => aN_ (.inl ⟨rfl, by show (6 : Int) ≠ 0; decide⟩)
   ·exact fun q hq => cV_ (fun _ => aS_ (hΦ _ _ _ hc (.mk hE (by show nw.l.length + q.l.length ≤ 100; omega) h5)) fun r r' h => aN_ h) fun w => absurd rfl w
   obtain ⟨b, x1, x2, x3, x4, x5, x6, x7, x8, x9, x10, x11⟩ := q
   obtain ⟨b', y1, y2, y3, y4, y5, y6, y7, y8, y9, y10, y11⟩ := q'
   rcases hq with hb | hb | ⟨e1, e0, e0', e3, e4, e5⟩
   ·exact t5_ (jK_ py_ fun w _ => ha_ fun _ => .inl hb)
   ·exact sU_ (jK_ py_ fun w _ => ha_ fun _ => .inr (.inl hb))
   ·have e1 : b = b' := e1
    subst e1
    cases b with
    | false => exact aS_ (Q := fun _ _ => True) (fun _ _ _ _ => trivial) fun w w' _ => aN_ (.inr (.inr ⟨rfl, e0, e0', e3, e4, fun h => (by cases h)⟩))
    | true =>
     have e5 : Rz s ⟨x1, x2, x3, x4, x5, x9, x10, x11, x6, x7, T.nilm, x8⟩ ⟨y1, y2, y3, y4, y5, y9, y10, y11, y6, y7, T.nilm, y8⟩ := e5 rfl
     cases e5 with
     | mk hE g4 g5 =>
      refine aS_ (Q := fun a b => a = b ∧ a.l.length ≤ x10.l.length) (fun r r' hr hr' => ?_) fun w w' hw => ?_
      ·have := qE_ r hr
       have hr' : cutS x10 (cd.l.length : Int) = some r' := hr'
       have hr : cutS x10 (cd.l.length : Int) = some r := hr
       rw [hr] at hr'; injection hr' with hr'
       exact ⟨hr', this⟩
      ·obtain ⟨rfl, hw⟩ := hw
       exact aN_ (PZ.rel true (.mk hE (by show x9.l.length + w.l.length ≤ 100; omega) g5))
theorem rj_ (hR : BZ s R R') : BZ s (al_ R R2) (al_ R' R2') := fun S S' p c Φ Φ' hp hc hr hΦ => by
 have hr0 := hr
 cases hr with
 | @mk env st mo f t f' t' nw cd mt me hE h4 h5 =>
  unfold al_
  refine aS_ kD_ fun q q' hq => ?_
  obtain ⟨rfl, hq⟩ := hq
  have hv := hp.kid hq
  refine cV_ (fun _ => aS_ (hR _ _ _ _ _ _ hv hc hr0 hΦ) fun r r' h => ?_) fun _ => cV_ (fun _ => aS_ (hR _ _ _ _ _ _ hv hc hr0 (z_k1 hp hR hΦ)) fun r r' h => aN_ h) fun _ => cV_ (fun _ => aS_ (hΦ _ _ _ hc hr0) fun r r' h => ?_) fun _ => aS_ (hR _ _ _ _ _ _ hv hc hr0 (z_k3 hΦ)) fun r r' h => aN_ h
  ·exact l8_ h (fun b => b6_ fun _ => .inl ⟨rfl, b.2⟩) (fun b _ => b6_ fun _ => .inl ⟨rfl, b.2⟩) (fun b => bj_ fun _ => .inr (.inl ⟨rfl, b.2⟩)) (fun b _ => bj_ fun _ => .inr (.inl ⟨rfl, b.2⟩)) (fun _ _ hi => aS_ kD_ fun q q' hq => by obtain ⟨rfl, hq⟩ := hq; exact aS_ (hR _ _ _ _ _ _ (hp.kid hq) hc hi hΦ) fun r r' h => aN_ h) fun _ _ hi => aN_ hi
  ·exact l8_ h (fun b => b6_ fun _ => .inl ⟨rfl, b.2⟩) (fun b _ => b6_ fun _ => .inl ⟨rfl, b.2⟩) (fun b => bj_ fun _ => .inr (.inl ⟨rfl, b.2⟩)) (fun b _ => bj_ fun _ => .inr (.inl ⟨rfl, b.2⟩)) (fun _ _ hi => aS_ (hR _ _ _ _ _ _ hv hc hi (z_k2 hp hR hΦ)) fun r r' h => aN_ h) fun _ _ hi => aN_ hi
theorem resZ {b : Bool} {x x' : T11 ⊕ (Bool × aa_)} (h : PZ s (kS_ b x) (kS_ b x')) : Gt (Sum.elim (fun y => some (b, D11 y)) (fun y => some y) x) (Sum.elim (fun y => some (b, D11 y)) (fun y => some y) x') (PZ s) := by
 cases x <;> cases x' <;> exact aN_ h
theorem p3_ (hs : s.size ≤ 200) (hR : BZ s R R') (hR2 : BZ s R2 R2') : BZ s (ac_ R R2) (ac_ R' R2') := fun S S' p c Φ Φ' hp hc hr hΦ => by
 cases hr with
 | @mk env st mo f t f' t' nw cd mt me hE h4 h5 =>
  unfold ac_
  refine aS_ st_z fun y y' hy => ?_
  obtain ⟨b, k, cs, m⟩ := y
  obtain ⟨b', k', cs', m'⟩ := y'
  rcases hy with ⟨a1, a2⟩ | ⟨a1, a2⟩ | ⟨a1, a1', a2, a2', a3, a3'⟩
  ·exact iY_ (by simp only at a1; rw [a1]; rfl) (b6_ fun _ => .inl ⟨rfl, by show cs ≠ 0; intro w; simp only at a2; omega⟩)
  ·exact nr_ (by simp only at a1; rw [a1]; rfl) (bj_ fun _ => .inr (.inl ⟨rfl, by show cs' ≠ 0; intro w; simp only at a2; omega⟩))
  simp only at a1 a1' a2 a2' a3 a3'
  subst a1 a1' a2 a2' a3 a3'
  have hr : Rz s ⟨env, s, f, k, st, nw, cd, m', mo, me, T.nilm, 0⟩ ⟨env, s, f', k', st, nw, cd, m', mo, me, T.nilm, 0⟩ := .mk hE h4 h5
  refine cV_ (fun w => by cases w) fun _ => cV_ (fun _ => ?_) fun k12 => cV_ (fun _ => aS_ (Q := fun a b => a = b ∧ a ≤ (s.size : Int)) ?_ fun v v' hv => ?_) fun k13 => cV_ (fun _ => aS_ (hΦ _ _ _ hc hr) fun r r' h => aN_ (PZ.no (b := r.1) (b' := r'.1) h)) fun k14 => cV_ (fun _ => aN_ (PZ.rel false hr)) fun k15 => cV_ (fun _ => aN_ (PZ.rel true hr)) fun k16 => cV_ (fun _ => ?_) fun k17 => cV_ (fun _ => ?_) fun k23 => cV_ (fun _ => ?_) fun k24 => cV_ (fun _ => aS_ (hR2 _ _ _ _ _ _ hp hc hr hΦ) fun r r' h => aN_ h) fun kk => aS_ (Q := fun a b => a = b ∧ (a < 0 ∨ (0 ≤ a ∧ a ≤ (s.size : Int)))) ?_ fun e e' he => ?_
  ·refine aS_ (Q := fun x x' => PZ s (kS_ true x) (kS_ true x')) (jB_ (fun (x1 x2 : Int × T11) => ∃ j A A', 0 ≤ j ∧ Rz s A A' ∧ x1 = (j, g1_ A) ∧ x2 = (j, g1_ A')) ⟨c, _, _, hc.1, hr, rfl, rfl⟩ fun x1 x2 hs1 => ?_) fun x x' hx => resZ hx
   obtain ⟨j, A, A', hj, hA, rfl, rfl⟩ := hs1
   cases hA with
   | @mk env st mo f t f' t' nw cd mt me hE h4 h5 =>
    have hr : Rz s ⟨env, s, f, t, st, nw, cd, mt, mo, me, T.nilm, 0⟩ ⟨env, s, f', t', st, nw, cd, mt, mo, me, T.nilm, 0⟩ := .mk hE h4 h5
    refine cV_ (fun hcn => aS_ (hΦ j _ _ ⟨hj, of_decide_eq_true hcn⟩ hr) fun r r' h => k8_ h (fun b => b6_ fun _ => .inl ⟨_, rfl, fun _ => .inl ⟨rfl, b.2⟩⟩) (fun b _ => b6_ fun _ => .inl ⟨_, rfl, fun _ => .inl ⟨rfl, b.2⟩⟩) (fun b => bj_ fun _ => .inr (.inl ⟨_, rfl, fun _ => .inr (.inl ⟨rfl, b.2⟩)⟩)) (fun b _ => bj_ fun _ => .inr (.inl ⟨_, rfl, fun _ => .inr (.inl ⟨rfl, b.2⟩)⟩)) (fun _ _ hi => aN_ (.inr (.inr (.inl ⟨_, _, rfl, rfl, _, _, _, ?_, hi, rfl, rfl⟩)))) fun _ _ hi => aN_ (.inr (.inr (.inr ⟨_, _, rfl, rfl, hi⟩)))) fun _ => aN_ (.inr (.inr (.inr ⟨_, _, rfl, rfl, PZ.rel true hr⟩)))
    have h1 : j ≤ (s.size : Int) := of_decide_eq_true hcn
    show 0 ≤ w4 (j + 1)
    rw [aR_ (by omega) (by omega)]; omega
  ·have hb : ∀ e : Int, Gt (aY_ s c e) (aY_ s c e) (fun a b => a = b ∧ a ≤ (s.size : Int)) := fun e r r' h h' => by
    obtain ⟨n, rfl⟩ : ∃ n : Nat, c = n := ⟨c.toNat, by omega⟩
    obtain ⟨v, _, v2, v3⟩ := oB_ (s := s) n e hs (by omega)
    rw [v2] at h h'
    injection h with h; injection h' with h'
    exact ⟨h.symm.trans h', by omega⟩
   exact hb c
  ·obtain ⟨rfl, hv⟩ := hv
   refine aS_ (Q := fun x x' => PZ s (kS_ true x) (kS_ true x')) (jB_ (fun (x1 x2 : Int × T11) => ∃ j A A', j ≤ (s.size : Int) ∧ Rz s A A' ∧ x1 = (j, g1_ A) ∧ x2 = (j, g1_ A')) ⟨v, _, _, hv, hr, rfl, rfl⟩ fun x1 x2 hs1 => ?_) fun x x' hx => resZ hx
   obtain ⟨j, A, A', hj, hA, rfl, rfl⟩ := hs1
   cases hA with
   | @mk env st mo f t f' t' nw cd mt me hE h4 h5 =>
    have hr : Rz s ⟨env, s, f, t, st, nw, cd, mt, mo, me, T.nilm, 0⟩ ⟨env, s, f', t', st, nw, cd, mt, mo, me, T.nilm, 0⟩ := .mk hE h4 h5
    refine cV_ (fun hcn => aS_ (hΦ j _ _ ⟨of_decide_eq_true hcn, hj⟩ hr) fun r r' h => k8_ h (fun b => b6_ fun _ => .inl ⟨_, rfl, fun _ => .inl ⟨rfl, b.2⟩⟩) (fun b _ => b6_ fun _ => .inl ⟨_, rfl, fun _ => .inl ⟨rfl, b.2⟩⟩) (fun b => bj_ fun _ => .inr (.inl ⟨_, rfl, fun _ => .inr (.inl ⟨rfl, b.2⟩)⟩)) (fun b _ => bj_ fun _ => .inr (.inl ⟨_, rfl, fun _ => .inr (.inl ⟨rfl, b.2⟩)⟩)) (fun _ _ hi => ?_) fun _ _ hi => aN_ (.inr (.inr (.inr ⟨_, _, rfl, rfl, hi⟩)))) fun _ => aN_ (.inr (.inr (.inr ⟨_, _, rfl, rfl, PZ.rel true hr⟩)))
    obtain ⟨b1, u1, u2, u3, u4, u5, u6, u7, u8, u9, u10, u11, u12⟩ := r
    obtain ⟨b2, v1, v2, v3, v4, v5, v6, v7, v8, v9, v10, v11, v12⟩ := r'
    have hi : Rz s ⟨u1, u2, u3, u4, u5, u6, u7, u8, u9, u10, T.nilm, u12⟩ ⟨v1, v2, v3, v4, v5, v6, v7, v8, v9, v10, T.nilm, v12⟩ := hi
    cases hi with
    | mk hE g4 g5 =>
     refine aS_ (Q := fun a b => a = b ∧ a ≤ (s.size : Int)) (fun r r' h h' => ?_) fun q q' hq => by obtain ⟨rfl, hq⟩ := hq; exact aN_ (.inr (.inr (.inl ⟨_, _, rfl, rfl, _, _, _, hq, .mk hE g4 g5, rfl, rfl⟩)))
     have h : aY_ s c j = some r := h
     have h' : aY_ s c j = some r' := h'
     obtain ⟨n, rfl⟩ : ∃ n : Nat, c = n := ⟨c.toNat, by omega⟩
     obtain ⟨v, _, v2, v3⟩ := oB_ (s := s) n j hs (by omega)
     rw [v2] at h h'
     injection h with h; injection h' with h'
     exact ⟨h.symm.trans h', by omega⟩
  ·refine aS_ (Q := fun x x' => PZ s (kS_ false x) (kS_ false x')) (jB_ (fun (x1 x2 : T11) => ∃ A A', Rz s A A' ∧ x1 = g1_ A ∧ x2 = g1_ A') ⟨_, _, hr, rfl, rfl⟩ fun x1 x2 hs1 => ?_) fun x x' hx => resZ hx
   obtain ⟨A, A', hA, rfl, rfl⟩ := hs1
   cases hA with
   | @mk env st mo f t f' t' nw cd mt me hE h4 h5 =>
    have hr : Rz s ⟨env, s, f, t, st, nw, cd, mt, mo, me, T.nilm, 0⟩ ⟨env, s, f', t', st, nw, cd, mt, mo, me, T.nilm, 0⟩ := .mk hE h4 h5
    refine aS_ (hΦ c _ _ hc hr) fun r r' h => l8_ h (fun b => b6_ fun _ => .inl ⟨_, rfl, fun _ => .inl ⟨rfl, b.2⟩⟩) (fun b _ => b6_ fun _ => .inl ⟨_, rfl, fun _ => .inl ⟨rfl, b.2⟩⟩) (fun b => bj_ fun _ => .inr (.inl ⟨_, rfl, fun _ => .inr (.inl ⟨rfl, b.2⟩)⟩)) (fun b _ => bj_ fun _ => .inr (.inl ⟨_, rfl, fun _ => .inr (.inl ⟨rfl, b.2⟩)⟩)) (fun _ _ hi => ?_) fun _ _ hi => aN_ (.inr (.inr (.inr ⟨_, _, rfl, rfl, hi⟩)))
    obtain ⟨b1, u1, u2, u3, u4, u5, u6, u7, u8, u9, u10, u11, u12⟩ := r
    obtain ⟨b2, v1, v2, v3, v4, v5, v6, v7, v8, v9, v10, v11, v12⟩ := r'
    have hi : Rz s ⟨u1, u2, u3, u4, u5, u6, u7, u8, u9, u10, T.nilm, u12⟩ ⟨v1, v2, v3, v4, v5, v6, v7, v8, v9, v10, T.nilm, v12⟩ := hi
    cases hi with
    | mk hE g4 g5 =>
     refine aS_ st_z fun y y' hy => ?_
     obtain ⟨b, k, cs, m⟩ := y
     obtain ⟨b', k', cs', m'⟩ := y'
     rcases hy with ⟨a1, a2⟩ | ⟨a1, a2⟩ | ⟨a1, a1', a2, a2', a3, a3'⟩
     ·exact iY_ (by simp only at a1; rw [a1]; rfl) (b6_ fun _ => .inl ⟨_, rfl, fun _ => .inl ⟨rfl, by show cs ≠ 0; intro w; simp only at a2; omega⟩⟩)
     ·exact nr_ (by simp only at a1; rw [a1]; rfl) (bj_ fun _ => .inr (.inl ⟨_, rfl, fun _ => .inr (.inl ⟨rfl, by show cs' ≠ 0; intro w; simp only at a2; omega⟩)⟩))
     ·simp only at a1 a1' a2 a2' a3 a3'
      subst a1 a1' a2 a2' a3 a3'
      exact cV_ (fun w => by cases w) fun _ => aN_ (.inr (.inr (.inl ⟨_, _, rfl, rfl, _, _, .mk hE g4 g5, rfl, rfl⟩)))
  ·refine rc_z nw cd _ m' h4 (e := fun n => w4 (n + (cd.l.length : Int))) ?_ ?_ (fun q hq => aR_ (by omega) (by omega))
   ·exact fun q => cV_ (fun w => by cases w) fun _ => aN_ (.inl ⟨rfl, by show (6 : Int) ≠ 0; decide⟩)
   ·exact fun q hq => cV_ (fun _ => aS_ (hΦ _ _ _ hc (.mk hE hq h5)) fun r r' h => aN_ h) fun w => absurd rfl w
  ·exact ph_ fun i => cV_ (fun _ => aN_ (.inl ⟨rfl, by show (5 : Int) ≠ 0; decide⟩)) fun _ => aS_ kD_ fun q q' hq => by obtain ⟨rfl, hq⟩ := hq; exact aS_ (hR _ _ _ _ _ _ (hE q hq) hc hr hΦ) fun r r' h => aN_ h
  ·intro r r' h h'
   have h : bh_ p.Kind p.Num p.Text s c = some r := h
   have h' : bh_ p.Kind p.Num p.Text s c = some r' := h'
   obtain ⟨n, rfl⟩ : ∃ n : Nat, c = n := ⟨c.toNat, by omega⟩
   have nd := hp.node
   have k0 : ¬ (0 < (p.Kids.l.length : Int)) := fun w => kk (by simpa using w)
   have hk : 1 ≤ p.Kind ∧ p.Kind ≤ 11 := by
    have n2 := nd.2.1
    have n1 := nd.1
    unfold kidN at n2
    simp only [decide_eq_true_eq] at k12 k13 k14 k15 k16 k17 k23 k24
    split at n2
    ·omega
    ·split at n2 <;> omega
   obtain ⟨e, _, e2, e3⟩ := rH_ p s n hs (by omega) hk nd.2.2
   rw [e2] at h h'
   injection h with h; injection h' with h'
   exact ⟨h.symm.trans h', by omega⟩
  ·obtain ⟨rfl, he⟩ := he
   exact cV_ (fun _ => aN_ (PZ.rel true hr)) fun hn => aS_ (hΦ _ _ _ (he.resolve_left (by simpa using hn)) hr) fun r r' h => aN_ h
end
theorem g7_ {s : ByteArray} (hs : s.size ≤ 200) : ∀ n m, BZ s (BG_impl_search_match n).1 (BG_impl_search_match m).1 ∧ BZ s (BG_impl_search_match n).2 (BG_impl_search_match m).2
 | 0, _ => ⟨fun _ _ _ _ _ _ _ _ _ _ => fn_, fun _ _ _ _ _ _ _ _ _ _ => fn_⟩
 | n + 1, 0 => ⟨fun _ _ _ _ _ _ _ _ _ _ => lL_, fun _ _ _ _ _ _ _ _ _ _ => lL_⟩
 | n + 1, m + 1 => ⟨p3_ hs (g7_ hs n m).1 (g7_ hs n m).2, rj_ (g7_ hs n m).1⟩
end Go.Am
end
