/- The law. -/
import Derived.Test.YtkgmfmcpbgffpaaAg1
import Derived.Test.YtkgmfmcpbgffpaaAg2
import Derived.Test.YtkgmfmcpbgffpaaAl11
section
set_option maxRecDepth 100000
set_option maxHeartbeats 4000000
set_option linter.unusedVariables false
set_option linter.unusedSimpArgs false
namespace Go.Am
inductive Rd (s : ByteArray) (f k : Int) : aa_ → aa_ → Prop
 | mk {env : Sl DNamed} {st mo t t' : Int} {nw cd : Sl DCapture} {mt : Sl DMatch} {me : Bool} (hE : ∀ x ∈ env.l, VP x.Pattern) (h4 : nw.l.length + cd.l.length ≤ 100) (h5 : ∀ m ∈ mt.l, m.Captures.l.length ≤ 100) (ht : 0 ≤ t ∧ t ≤ f) (ht' : 0 ≤ t' ∧ t' ≤ 2 * t + k) :
  Rd s f k ⟨env, s, f, t, st, nw, cd, mt, mo, me, T.nilm, 0⟩ ⟨env, s, 20000, t', st, nw, cd, mt, mo, me, T.nilm, 0⟩
def Bd (r : Bool × aa_) : Prop := r.1 = false ∧ r.2.code_ ≠ 0 ∧ r.2.matches_.l = []
def PD (s : ByteArray) (f : Int) (r r' : Bool × aa_) : Prop := Bd r ∨ (r.1 = r'.1 ∧ r.2.code_ = r'.2.code_ ∧ r.2.matches_ = r'.2.matches_ ∧ (∀ m ∈ r.2.matches_.l, m.Captures.l.length ≤ 100) ∧ (r.1 = true → Rd s f 0 (NS r.2) (NS r'.2)))
theorem Rd.up {s : ByteArray} {f k k' : Int} {S S' : aa_} (h : Rd s f k S S') (hk : k ≤ k') : Rd s f k' S S' := by cases h with | mk hE h4 h5 ht ht' => exact .mk hE h4 h5 ht (by omega)
theorem PD.rel {s : ByteArray} {f : Int} {S S' : aa_} (b : Bool) (h : Rd s f 0 S S') : PD s f (b, S) (b, S') := .inr (by cases h with | mk hE h4 h5 ht ht' => exact ⟨rfl, rfl, rfl, h5, fun _ => .mk hE h4 h5 ht ht'⟩)
theorem PD.no {s : ByteArray} {f : Int} {b b' : Bool} {S S' : aa_} (h : PD s f (b, S) (b', S')) : PD s f (false, S) (false, S') := by
 rcases h with h | ⟨h1, h2, h4, h5, _⟩
 ·exact .inl ⟨rfl, h.2⟩
 ·exact .inr ⟨rfl, h2, h4, h5, fun h => (by cases h)⟩
def PhiD (s : ByteArray) (f : Int) (Φ Φ' : PhiT) : Prop := ∀ e S S', 0 ≤ e ∧ e ≤ (s.size : Int) → Rd s f 0 S S' → Gt (Φ e S) (Φ' e S') (PD s f)
structure Pr (Q : DPattern → DPattern → Prop) : Prop where
 vp : ∀ {p q}, Q p q → VP p
 self : ∀ {p}, VP p → Q p p
def CgP (Q : DPattern → DPattern → Prop) (p q : DPattern) : Prop := VP p ∧ p.Kind = q.Kind ∧ p.Num = q.Num ∧ p.Text = q.Text ∧ p.Kids.l.length = q.Kids.l.length ∧ ∀ (i : Nat) x y, p.Kids.l[i]? = some x → q.Kids.l[i]? = some y → Q x y
def BD (s : ByteArray) (f k : Int) (Q : DPattern → DPattern → Prop) (R R' : MTy) : Prop := ∀ S S' p q c Φ Φ', Q p q → 0 ≤ c ∧ c ≤ (s.size : Int) → Rd s f k S S' → PhiD s f Φ Φ' → Gt (R S p c Φ) (R' S' q c Φ') (PD s f)
theorem st_d {f t t' k : Int} (k2 : Int) {mt : Sl DMatch} (hf : f ≤ 800) (h : 0 ≤ t ∧ t ≤ f) (h' : 0 ≤ t' ∧ t' ≤ 2 * t + k) (hk : k ≤ 20 ∧ k ≤ k2 + 1) :
  Gt ((if (decide (t = f)) = true then (some (false, t, 7, (⟨true, []⟩ : Sl DMatch))) else (some (true, (w4 (t + 1)), 0, mt))) : Option (Bool × Int × Int × (Sl DMatch))) ((if (decide (t' = 20000)) = true then (some (false, t', 7, (⟨true, []⟩ : Sl DMatch))) else (some (true, (w4 (t' + 1)), 0, mt))) : Option (Bool × Int × Int × (Sl DMatch)))
   (fun y y' => (y = (false, t, 7, ⟨true, []⟩)) ∨ (y = (true, t + 1, 0, mt) ∧ y' = (true, t' + 1, 0, mt) ∧ (0 ≤ t + 1 ∧ t + 1 ≤ f) ∧ (0 ≤ t' + 1 ∧ t' + 1 ≤ 2 * (t + 1) + k2))) := by
 by_cases h1 : t = f
 ·rw [if_pos (by simpa using h1)]; exact b8_ fun y => .inl rfl
 ·rw [if_neg (by simpa using h1), a4_ (by omega) (by omega), if_neg (by simp; omega), a4_ (by omega) (by omega)]
  exact aI_ (.inr ⟨rfl, rfl, by omega, by omega⟩)
theorem bd7 {S : aa_} (h : S.code_ = 7) (h2 : S.matches_ = ⟨true, []⟩) : Bd (false, S) := ⟨rfl, by show S.code_ ≠ 0; rw [h]; decide, by show S.matches_.l = []; rw [h2]⟩
theorem bd6 {S : aa_} (h : S.code_ = 6) (h2 : S.matches_ = ⟨true, []⟩) : Bd (false, S) := ⟨rfl, by show S.code_ ≠ 0; rw [h]; decide, by show S.matches_.l = []; rw [h2]⟩
theorem lw_ {s : ByteArray} {f : Int} {α β : Type} {r r' : Bool × aa_} {a b : Option α} {a' b' : Option β} {P : α → β → Prop} (h : PD s f r r') (k1 : Bd r → ∀ o' : Option β, Gt b o' P) (k3 : r.1 = true → r'.1 = true → Rd s f 0 (NS r.2) (NS r'.2) → Gt a a' P) (k4 : r.1 = false → r'.1 = false → PD s f (false, r.2) (false, r'.2) → Gt b b' P) :
  Gt (if r.1 = true then a else b) (if r'.1 = true then a' else b') P := by
 have hno : PD s f (false, r.2) (false, r'.2) := PD.no (b := r.1) (b' := r'.1) h
 rcases h with h | ⟨h1, h2, h4, h5, h6⟩
 ·rw [if_neg (by rw [h.1]; simp)]
  exact k1 h _
 ·by_cases q : r.1 = true
  ·rw [if_pos q, if_pos (h1 ▸ q)]; exact k3 q (h1 ▸ q) (h6 q)
  ·have q1 : r.1 = false := by cases h : r.1 <;> simp [h] at q ⊢
   rw [if_neg q, if_neg (h1 ▸ q)]; exact k4 q1 (h1 ▸ q1) hno
theorem l4_ {s : ByteArray} {f : Int} {α β : Type} {r r' : Bool × aa_} {a b : Option α} {a' b' : Option β} {P : α → β → Prop} (h : PD s f r r') (k1 : Bd r → ∀ o' : Option β, Gt b o' P) (k3 : r.1 = true → r'.1 = true → Rd s f 0 (NS r.2) (NS r'.2) → Gt a a' P) (k4 : r.1 = false → r'.1 = false → PD s f (false, r.2) (false, r'.2) → Gt b b' P) :
  Gt (if (!r.1) = true then b else a) (if (!r'.1) = true then b' else a') P := by
 have e : ∀ {α : Type} (r : Bool × aa_) (a b : Option α), (if (!r.1) = true then b else a) = if r.1 = true then a else b := fun r a b => by cases r.1 <;> rfl
 rw [e, e]
 exact lw_ h k1 k3 k4
theorem rX_ {s : ByteArray} {f : Int} (hf : f ≤ 800) : PhiD s f (fun e (S : aa_) => aK_ S e) (fun e (S : aa_) => aK_ S e) := fun e S S' hc hr => by
 cases hr with
 | @mk env st mo t t' nw cd mt me hE h4 h5 ht ht' =>
  unfold aK_
  refine c6_ (fun _ => aN_ (st_d 0 hf ht ht' (by decide)) fun y y' hy => ?_) fun _ => aN_ (st_d 0 hf ht ht' (by decide)) fun y y' hy => ?_
  ·rcases hy with rfl | ⟨rfl, rfl, q1, q2⟩
   ·exact b8_ fun _ => .inl (bd7 rfl rfl)
   ·exact aI_ (PD.rel true (.mk hE h4 h5 q1 q2))
  ·rcases hy with rfl | ⟨rfl, rfl, q1, q2⟩
   ·exact gv_ rfl (b8_ fun _ => .inl (bd7 rfl rfl))
   ·refine c6_ (fun w => by cases w) fun _ => c6_ (fun _ => aI_ (.inr ⟨rfl, rfl, rfl, h5, fun w => (by cases w)⟩)) fun _ => aN_ (Q := fun a b => a = b ∧ a.l.length ≤ 100) (fun r r' hr hr' => ?_) fun y y' hy => ?_
    ·obtain ⟨y, y1, y2⟩ := kO_ nw cd h4
     have hr : be_ ⟨false, [nw, cd]⟩ = some r := hr
     have hr' : be_ ⟨false, [nw, cd]⟩ = some r' := hr'
     rw [y1] at hr hr'
     injection hr with hr; injection hr' with hr'
     subst hr hr'
     exact ⟨rfl, by rw [y2, List.length_append]; exact h4⟩
    ·obtain ⟨rfl, hy⟩ := hy
     refine aN_ (Q := fun a b => a = b ∧ a.l = mt.l ++ [⟨st, e, y⟩]) (fun r r' hr hr' => ?_) fun q q' hq => ?_
     ·have hr : appS 40 mt ⟨false, [⟨st, e, y⟩]⟩ = some r := hr
      have hr' : appS 40 mt ⟨false, [⟨st, e, y⟩]⟩ = some r' := hr'
      have := app1 r hr
      rw [hr] at hr'; injection hr' with hr'
      exact ⟨hr', this⟩
     ·obtain ⟨rfl, hq⟩ := hq
      refine aI_ (PD.rel _ (.mk hE h4 (fun m hm => ?_) q1 q2))
      rw [hq] at hm
      rcases List.mem_append.1 hm with h' | h'
      ·exact h5 m h'
      ·rw [List.mem_singleton] at h'; rw [h']; exact hy
theorem o2_ {Q : DPattern → DPattern → Prop} {p q : DPattern} {j : Int} (h : CgP Q p q) : Gt (elt p.Kids j) (elt q.Kids j) (fun x y => Q x y) := fun r r' h1 h2 => by
 unfold elt at h1 h2
 split at h1
 ·rename_i hj
  rw [if_pos hj] at h2
  exact h.2.2.2.2.2 _ r r' h1 h2
 ·cases h1
section
variable {s : ByteArray} {f : Int} {Q : DPattern → DPattern → Prop} {R R2 R' R2' : MTy} {p q : DPattern} {c : Int} {Φ Φ' : PhiT}
theorem d_k1 (hp : CgP Q p q) (hR : BD s f 1 Q R R') (hΦ : PhiD s f Φ Φ') : PhiD s f (aC_ R R2 p Φ) (aC_ R' R2' q Φ') := fun e S S' hc hr => by
 have hr0 := hr
 cases hr with
 | @mk env st mo t t' nw cd mt me hE h4 h5 ht ht' =>
  unfold aC_
  exact aN_ (o2_ hp) fun y y' hy => aN_ (hR _ _ _ _ _ _ _ hy hc (hr0.up (by decide)) hΦ) fun r r' h => aI_ h
theorem d_k2 (hp : Q p q) (hR : BD s f 1 Q R R') (hΦ : PhiD s f Φ Φ') : PhiD s f (al_ R R2 c p Φ) (al_ R' R2' c q Φ') := fun e S S' hc hr => by
 have hr0 := hr
 cases hr with
 | @mk env st mo t t' nw cd mt me hE h4 h5 ht ht' =>
  unfold al_
  exact c6_ (fun _ => aI_ (PD.rel true hr0)) fun _ => aN_ (hR _ _ _ _ _ _ _ hp hc (hr0.up (by decide)) hΦ) fun r r' h => aI_ h
theorem d_k3 {k n n' : Int} {tx : ByteArray} {K K' : Sl DPattern} (hΦ : PhiD s f Φ Φ') : PhiD s f (aq_ R R2 ⟨k, n, tx, K⟩ c Φ) (aq_ R' R2' ⟨k, n', tx, K'⟩ c Φ') := fun e S S' hc hr => by
 cases hr with
 | @mk env st mo t t' nw cd mt me hE h4 h5 ht ht' =>
  unfold aq_
  refine qE_ fun y => c6_ (fun _ => ?_) fun _ => ?_
  ·refine rc_t nw cd _ 0 mt h4 (e := fun n => w4 (n + (cd.l.length : Int))) ?_ ?_ (fun q hq => a4_ (by omega) (by omega))
   ·exact fun q => c6_ (fun w => by cases w) fun _ => aI_ (.inl (bd6 rfl rfl))
   ·exact fun q hq => c6_ (fun _ => aN_ (hΦ _ _ _ hc (.mk hE hq h5 ht ht')) fun r r' h => aI_ h) fun w => absurd rfl w
  ·refine aN_ (Q := fun q q' => PD s f (q.1, D11 q.2) (q'.1, D11 q'.2)) (rc_t cd nw _ 0 mt (by omega) (e := fun n => w4 ((nw.l.length : Int) + n)) ?_ ?_ (fun q hq => (a4_ (by omega) (by omega)).trans (Int.add_comm _ _))) fun q q' hq => ?_
   ·exact fun q => c6_ (fun w => by cases w) fun _ => aI_ (.inl (bd6 rfl rfl))
   ·exact fun q hq => c6_ (fun _ => aN_ (hΦ _ _ _ hc (.mk hE (by show nw.l.length + q.l.length ≤ 100; omega) h5 ht ht')) fun r r' h => aI_ h) fun w => absurd rfl w
   obtain ⟨b, x1, x2, x3, x4, x5, x6, x7, x8, x9, x10, x11⟩ := q
   obtain ⟨b', y1, y2, y3, y4, y5, y6, y7, y8, y9, y10, y11⟩ := q'
   rcases hq with hb | ⟨e1, e0, e3, e4, e5⟩
   ·exact vg_ (b5_ gz_ fun w _ => cc_ fun _ => .inl hb)
   ·have e1 : b = b' := e1
    subst e1
    cases b with
    | false => exact aN_ (Q := fun _ _ => True) (fun _ _ _ _ => trivial) fun w w' _ => aI_ (.inr ⟨rfl, e0, e3, e4, fun h => (by cases h)⟩)
    | true =>
     have e5 : Rd s f 0 ⟨x1, x2, x3, x4, x5, x9, x10, x11, x6, x7, T.nilm, x8⟩ ⟨y1, y2, y3, y4, y5, y9, y10, y11, y6, y7, T.nilm, y8⟩ := e5 rfl
     cases e5 with
     | mk hE g4 g5 gt gt' =>
      refine aN_ (Q := fun a b => a = b ∧ a.l.length ≤ x10.l.length) (fun r r' hr hr' => ?_) fun w w' hw => ?_
      ·have := rF_ r hr
       have hr' : cutS x10 (cd.l.length : Int) = some r' := hr'
       have hr : cutS x10 (cd.l.length : Int) = some r := hr
       rw [hr] at hr'; injection hr' with hr'
       exact ⟨hr', this⟩
      ·obtain ⟨rfl, hw⟩ := hw
       exact aI_ (PD.rel true (.mk hE (by show x9.l.length + w.l.length ≤ 100; omega) g5 gt gt'))
theorem qT_ (hR : BD s f 1 Q R R') : BD s f 0 (fun p q => CgP Q p q ∧ Q p q) (ai_ R R2) (ai_ R' R2') := fun S S' p q c Φ Φ' hp hc hr hΦ => by
 obtain ⟨hp, hq⟩ := hp
 have hcg := hp
 obtain ⟨k, n, tx, K⟩ := p
 obtain ⟨k', n', tx', K'⟩ := q
 obtain ⟨_, e1, e2, e3, _⟩ := hp
 have e1 : k = k' := e1
 have e2 : n = n' := e2
 have e3 : tx = tx' := e3
 subst e1 e2 e3
 have hr0 := hr
 cases hr with
 | @mk env st mo t t' nw cd mt me hE h4 h5 ht ht' =>
  unfold ai_
  refine aN_ (o2_ hcg) fun x x' hv => ?_
  refine c6_ (fun _ => aN_ (hR _ _ _ _ _ _ _ hv hc (hr0.up (by decide)) hΦ) fun r r' h => ?_) fun _ => c6_ (fun _ => aN_ (hR _ _ _ _ _ _ _ hv hc (hr0.up (by decide)) (d_k1 hcg hR hΦ)) fun r r' h => aI_ h) fun _ => c6_ (fun _ => aN_ (hΦ _ _ _ hc hr0) fun r r' h => ?_) fun _ => aN_ (hR _ _ _ _ _ _ _ hv hc (hr0.up (by decide)) (d_k3 hΦ)) fun r r' h => aI_ h
  ·exact lw_ h (fun b _ => b8_ fun _ => .inl ⟨rfl, b.2⟩) (fun _ _ hi => aN_ (o2_ hcg) fun q q' hq => aN_ (hR _ _ _ _ _ _ _ hq hc (hi.up (by decide)) hΦ) fun r r' h => aI_ h) fun _ _ hi => aI_ hi
  ·exact lw_ h (fun b _ => b8_ fun _ => .inl ⟨rfl, b.2⟩) (fun _ _ hi => aN_ (hR _ _ _ _ _ _ _ hv hc (hi.up (by decide)) (d_k2 hq hR hΦ)) fun r r' h => aI_ h) fun _ _ hi => aI_ hi
theorem rR_ {b : Bool} {x x' : T11 ⊕ (Bool × aa_)} (h : PD s f (h1_ b x) (h1_ b x')) : Gt (Sum.elim (fun y => some (b, D11 y)) (fun y => some y) x) (Sum.elim (fun y => some (b, D11 y)) (fun y => some y) x') (PD s f) := by
 cases x <;> cases x' <;> exact aI_ h
theorem o0_ (hs : s.size ≤ 200) (hf : f ≤ 800) (hQ : Pr Q) (hR : BD s f 1 Q R R') (hR2 : BD s f 0 (fun p q => CgP Q p q ∧ Q p q) R2 R2') : BD s f 1 (fun p q => CgP Q p q ∧ Q p q) (ac_ R R2) (ac_ R' R2') := fun S S' p q c Φ Φ' hp hc hr hΦ => by
 have hpq := hp
 obtain ⟨hp, hq⟩ := hp
 have hcg := hp
 obtain ⟨k, n, tx, K⟩ := p
 obtain ⟨k', n', tx', K'⟩ := q
 obtain ⟨vp, e1, e2, e3, e4, _⟩ := hp
 have e1 : k = k' := e1
 have e2 : n = n' := e2
 have e3 : tx = tx' := e3
 have e4 : K.l.length = K'.l.length := e4
 subst e1 e2 e3
 cases hr with
 | @mk env st mo t t' nw cd mt me hE h4 h5 ht ht' =>
  unfold ac_
  refine aN_ (st_d 0 hf ht ht' (by decide)) fun y y' hy => ?_
  rcases hy with rfl | ⟨rfl, rfl, q1, q2⟩
  ·exact gv_ rfl (b8_ fun _ => .inl (bd7 rfl rfl))
  have hr : Rd s f 0 ⟨env, s, f, t + 1, st, nw, cd, mt, mo, me, T.nilm, 0⟩ ⟨env, s, 20000, t' + 1, st, nw, cd, mt, mo, me, T.nilm, 0⟩ := .mk hE h4 h5 q1 q2
  have ek : decide (0 < ((⟨k, n, tx, K'⟩ : DPattern).Kids.l.length : Int)) = decide (0 < ((⟨k, n, tx, K⟩ : DPattern).Kids.l.length : Int)) := by show decide (0 < (K'.l.length : Int)) = decide (0 < (K.l.length : Int)); rw [e4]
  simp only [ek]
  refine c6_ (fun w => by cases w) fun _ => c6_ (fun _ => ?_) fun k12 => c6_ (fun _ => aN_ (Q := fun a b => a = b ∧ a ≤ (s.size : Int)) ?_ fun v v' hv => ?_) fun k13 => c6_ (fun _ => aN_ (hΦ _ _ _ hc hr) fun r r' h => aI_ (PD.no (b := r.1) (b' := r'.1) h)) fun k14 => c6_ (fun _ => aI_ (PD.rel false hr)) fun k15 => c6_ (fun _ => aI_ (PD.rel true hr)) fun k16 => c6_ (fun _ => ?_) fun k17 => c6_ (fun _ => ?_) fun k23 => c6_ (fun _ => ?_) fun k24 => c6_ (fun _ => aN_ (hR2 _ _ _ _ _ _ _ hpq hc hr hΦ) fun r r' h => aI_ h) fun kk => aN_ (Q := fun a b => a = b ∧ (a < 0 ∨ (0 ≤ a ∧ a ≤ (s.size : Int)))) ?_ fun e e' he => ?_
  ·refine aN_ (Q := fun x x' => PD s f (h1_ true x) (h1_ true x')) (jS_ (fun (x1 x2 : Int × T11) => ∃ j A A', 0 ≤ j ∧ Rd s f 0 A A' ∧ x1 = (j, hF_ A) ∧ x2 = (j, hF_ A')) ⟨c, _, _, hc.1, hr, rfl, rfl⟩ fun x1 x2 hs1 => ?_) fun x x' hx => rR_ hx
   obtain ⟨j, A, A', hj, hA, rfl, rfl⟩ := hs1
   cases hA with
   | @mk env st mo t t' nw cd mt me hE h4 h5 ht ht' =>
    have hr : Rd s f 0 ⟨env, s, f, t, st, nw, cd, mt, mo, me, T.nilm, 0⟩ ⟨env, s, 20000, t', st, nw, cd, mt, mo, me, T.nilm, 0⟩ := .mk hE h4 h5 ht ht'
    refine c6_ (fun hcn => aN_ (hΦ j _ _ ⟨hj, of_decide_eq_true hcn⟩ hr) fun r r' h => l4_ h (fun b _ => b8_ fun _ => .inl ⟨_, rfl, fun _ => .inl ⟨rfl, b.2⟩⟩) (fun _ _ hi => aI_ (.inr (.inr (.inl ⟨_, _, rfl, rfl, _, _, _, ?_, hi, rfl, rfl⟩)))) fun _ _ hi => aI_ (.inr (.inr (.inr ⟨_, _, rfl, rfl, hi⟩)))) fun _ => aI_ (.inr (.inr (.inr ⟨_, _, rfl, rfl, PD.rel true hr⟩)))
    have h1 : j ≤ (s.size : Int) := of_decide_eq_true hcn
    show 0 ≤ w4 (j + 1)
    rw [a4_ (by omega) (by omega)]; omega
  ·have hb : ∀ e : Int, Gt (aU_ s c e) (aU_ s c e) (fun a b => a = b ∧ a ≤ (s.size : Int)) := fun e r r' h h' => by
    obtain ⟨n, rfl⟩ : ∃ n : Nat, c = n := ⟨c.toNat, by omega⟩
    obtain ⟨v, _, v2, v3⟩ := rL_ (s := s) n e hs (by omega)
    rw [v2] at h h'
    injection h with h; injection h' with h'
    exact ⟨h.symm.trans h', by omega⟩
   exact hb c
  ·obtain ⟨rfl, hv⟩ := hv
   refine aN_ (Q := fun x x' => PD s f (h1_ true x) (h1_ true x')) (jS_ (fun (x1 x2 : Int × T11) => ∃ j A A', j ≤ (s.size : Int) ∧ Rd s f 0 A A' ∧ x1 = (j, hF_ A) ∧ x2 = (j, hF_ A')) ⟨v, _, _, hv, hr, rfl, rfl⟩ fun x1 x2 hs1 => ?_) fun x x' hx => rR_ hx
   obtain ⟨j, A, A', hj, hA, rfl, rfl⟩ := hs1
   cases hA with
   | @mk env st mo t t' nw cd mt me hE h4 h5 ht ht' =>
    have hr : Rd s f 0 ⟨env, s, f, t, st, nw, cd, mt, mo, me, T.nilm, 0⟩ ⟨env, s, 20000, t', st, nw, cd, mt, mo, me, T.nilm, 0⟩ := .mk hE h4 h5 ht ht'
    refine c6_ (fun hcn => aN_ (hΦ j _ _ ⟨of_decide_eq_true hcn, hj⟩ hr) fun r r' h => l4_ h (fun b _ => b8_ fun _ => .inl ⟨_, rfl, fun _ => .inl ⟨rfl, b.2⟩⟩) (fun _ _ hi => ?_) fun _ _ hi => aI_ (.inr (.inr (.inr ⟨_, _, rfl, rfl, hi⟩)))) fun _ => aI_ (.inr (.inr (.inr ⟨_, _, rfl, rfl, PD.rel true hr⟩)))
    obtain ⟨b1, u1, u2, u3, u4, u5, u6, u7, u8, u9, u10, u11, u12⟩ := r
    obtain ⟨b2, v1, v2, v3, v4, v5, v6, v7, v8, v9, v10, v11, v12⟩ := r'
    have hi : Rd s f 0 ⟨u1, u2, u3, u4, u5, u6, u7, u8, u9, u10, T.nilm, u12⟩ ⟨v1, v2, v3, v4, v5, v6, v7, v8, v9, v10, T.nilm, v12⟩ := hi
    cases hi with
    | mk hE g4 g5 gt gt' =>
     refine aN_ (Q := fun a b => a = b ∧ a ≤ (s.size : Int)) (fun r r' h h' => ?_) fun q q' hq => by obtain ⟨rfl, hq⟩ := hq; exact aI_ (.inr (.inr (.inl ⟨_, _, rfl, rfl, _, _, _, hq, .mk hE g4 g5 gt gt', rfl, rfl⟩)))
     have h : aU_ s c j = some r := h
     have h' : aU_ s c j = some r' := h'
     obtain ⟨n, rfl⟩ : ∃ n : Nat, c = n := ⟨c.toNat, by omega⟩
     obtain ⟨v, _, v2, v3⟩ := rL_ (s := s) n j hs (by omega)
     rw [v2] at h h'
     injection h with h; injection h' with h'
     exact ⟨h.symm.trans h', by omega⟩
  ·refine aN_ (Q := fun x x' => PD s f (h1_ false x) (h1_ false x')) (jS_ (fun (x1 x2 : T11) => ∃ A A', Rd s f 0 A A' ∧ x1 = hF_ A ∧ x2 = hF_ A') ⟨_, _, hr, rfl, rfl⟩ fun x1 x2 hs1 => ?_) fun x x' hx => rR_ hx
   obtain ⟨A, A', hA, rfl, rfl⟩ := hs1
   cases hA with
   | @mk env st mo t t' nw cd mt me hE h4 h5 ht ht' =>
    have hr : Rd s f 0 ⟨env, s, f, t, st, nw, cd, mt, mo, me, T.nilm, 0⟩ ⟨env, s, 20000, t', st, nw, cd, mt, mo, me, T.nilm, 0⟩ := .mk hE h4 h5 ht ht'
    refine aN_ (hΦ c _ _ hc hr) fun r r' h => lw_ h (fun b _ => b8_ fun _ => .inl ⟨_, rfl, fun _ => .inl ⟨rfl, b.2⟩⟩) (fun _ _ hi => ?_) fun _ _ hi => aI_ (.inr (.inr (.inr ⟨_, _, rfl, rfl, hi⟩)))
    obtain ⟨b1, u1, u2, u3, u4, u5, u6, u7, u8, u9, u10, u11, u12⟩ := r
    obtain ⟨b2, v1, v2, v3, v4, v5, v6, v7, v8, v9, v10, v11, v12⟩ := r'
    have hi : Rd s f 0 ⟨u1, u2, u3, u4, u5, u6, u7, u8, u9, u10, T.nilm, u12⟩ ⟨v1, v2, v3, v4, v5, v6, v7, v8, v9, v10, T.nilm, v12⟩ := hi
    cases hi with
    | mk hE g4 g5 gt gt' =>
     refine aN_ (st_d 0 hf gt gt' (by decide)) fun y y' hy => ?_
     rcases hy with rfl | ⟨rfl, rfl, q1, q2⟩
     ·exact gv_ rfl (b8_ fun _ => .inl ⟨_, rfl, fun _ => .inl (bd7 rfl rfl)⟩)
     ·exact c6_ (fun w => by cases w) fun _ => aI_ (.inr (.inr (.inl ⟨_, _, rfl, rfl, _, _, .mk hE g4 g5 q1 q2, rfl, rfl⟩)))
  ·refine rc_t nw cd _ 0 mt h4 (e := fun n => w4 (n + (cd.l.length : Int))) ?_ ?_ (fun q hq => a4_ (by omega) (by omega))
   ·exact fun q => c6_ (fun w => by cases w) fun _ => aI_ (.inl (bd6 rfl rfl))
   ·exact fun q hq => c6_ (fun _ => aN_ (hΦ _ _ _ hc (.mk hE hq h5 q1 q2)) fun r r' h => aI_ h) fun w => absurd rfl w
  ·exact qE_ fun i => c6_ (fun _ => aI_ (.inl ⟨rfl, by show (5 : Int) ≠ 0; decide, rfl⟩)) fun _ => aN_ qI_ fun q q' hq => by obtain ⟨rfl, hq⟩ := hq; exact aN_ (hR _ _ _ _ _ _ _ (hQ.self (hE q hq)) hc (hr.up (by decide)) hΦ) fun r r' h => aI_ h
  ·intro r r' h h'
   have h : aL_ k n tx s c = some r := h
   have h' : aL_ k n tx s c = some r' := h'
   obtain ⟨c', rfl⟩ : ∃ n : Nat, c = n := ⟨c.toNat, by omega⟩
   have nd := vp.node
   have k0 : ¬ (0 < (K.l.length : Int)) := fun w => kk (by simpa using w)
   have hk : 1 ≤ k ∧ k ≤ 11 := by
    have n2 : (K.l.length : Int) = kidN k := nd.2.1
    have n1 : 1 ≤ k ∧ k ≤ 24 := nd.1
    unfold kidN at n2
    simp only [decide_eq_true_eq] at k12 k13 k14 k15 k16 k17 k23 k24
    split at n2
    ·omega
    ·split at n2 <;> omega
   obtain ⟨e, _, e2, e3⟩ := uz_ ⟨k, n, tx, K⟩ s c' hs (by omega) hk nd.2.2
   have e2 : aL_ k n tx s (c' : Int) = some e := e2
   rw [e2] at h h'
   injection h with h; injection h' with h'
   exact ⟨h.symm.trans h', by omega⟩
  ·obtain ⟨rfl, he⟩ := he
   exact c6_ (fun _ => aI_ (PD.rel true hr)) fun hn => aN_ (hΦ _ _ _ (he.resolve_left (by simpa using hn)) hr) fun r r' h => aI_ h
end
end Go.Am
end
