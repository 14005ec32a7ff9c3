/- The law. -/
import Derived.Test.YtnihabnkoegdjaaAg1
import Derived.Test.YtnihabnkoegdjaaAg2
import Derived.Test.YtnihabnkoegdjaaAl5
section
set_option maxRecDepth 100000
set_option maxHeartbeats 4000000
set_option linter.unusedVariables false
set_option linter.unusedSimpArgs false
namespace Go.Am
def Gt {α β : Type} (o : Option α) (o' : Option β) (P : α → β → Prop) : Prop := ∀ r r', o = some r → o' = some r' → P r r'
section
variable {α β γ δ : Type}
theorem aB_ {o : Option α} {o' : Option β} {f : α → Option γ} {f' : β → Option δ} {Q : α → β → Prop} {P : γ → δ → Prop} (h : Gt o o' Q) (k : ∀ y y', Q y y' → Gt (f y) (f' y') P) : Gt (o.bind f) (o'.bind f') P := fun r r' hr hr' => by
 obtain ⟨y, h1, h2⟩ := Option.bind_eq_some_iff.1 hr
 obtain ⟨y', h1', h2'⟩ := Option.bind_eq_some_iff.1 hr'
 exact k y y' (h y y' h1 h1') r r' h2 h2'
theorem cM_ {o : Option α} {f : α → Option γ} {f' : α → Option δ} {P : γ → δ → Prop} (k : ∀ y, Gt (f y) (f' y) P) : Gt (o.bind f) (o.bind f') P := aB_ (Q := fun a b => a = b) (fun r r' h h' => by rw [h] at h'; injection h') fun y y' h => by subst h; exact k y
theorem au_ {x : α} {y : β} {P : α → β → Prop} (h : P x y) : Gt (some x) (some y) P := fun r r' hr hr' => by injection hr with hr; injection hr' with hr'; subst hr hr'; exact h
theorem aW_ {c : Prop} [Decidable c] {a a' : Option α} {b b' : Option β} {P : α → β → Prop} (h1 : c → Gt a b P) (h2 : ¬ c → Gt a' b' P) : Gt (if c then a else a') (if c then b else b') P := by
 by_cases h : c
 ·rw [if_pos h, if_pos h]; exact h1 h
 ·rw [if_neg h, if_neg h]; exact h2 h
theorem cl_ {x : α} {o' : Option β} {P : α → β → Prop} (h : ∀ y, P x y) : Gt (some x) o' P := fun r r' hr _ => by injection hr with hr; subst hr; exact h r'
theorem rN_ {o : Option α} {o' : Option β} {P : α → β → Prop} (h : Gv o (fun x => ∀ y, P x y)) : Gt o o' P := fun r r' hr _ => h r hr r'
end
theorem ka_ {S T R R' : Type} {b : S → Option (S ⊕ R)} {b' : T → Option (T ⊕ R')} {s : S} {t : T} (I : S → T → Prop) {Q : R → R' → Prop} (h0 : I s t)
  (h : ∀ s t, I s t → Gt (b s) (b' t) (fun x x' => (∃ r, x = .inr r ∧ ∀ r', Q r r') ∨ (∃ a a', x = .inl a ∧ x' = .inl a' ∧ I a a') ∨ (∃ a a', x = .inr a ∧ x' = .inr a' ∧ Q a a'))) : Gt (aF_ b s) (aF_ b' t) Q := fun r r' hr hr' => by
 obtain ⟨n, hn⟩ := bK_.1 hr
 clear hr
 induction n generalizing s t with
 | zero => cases hn
 | succ n ih =>
  simp only [iter] at hn
  cases hb : b s with
  | none => rw [hb] at hn; cases hn
  | some x =>
   rw [hb] at hn
   obtain ⟨n', hn'⟩ := bK_.1 hr'
   cases n' with
   | zero => cases hn'
   | succ n' =>
    simp only [iter] at hn'
    cases hb' : b' t with
    | none => rw [hb'] at hn'; cases hn'
    | some x' =>
     rw [hb'] at hn'
     rcases h s t h0 x x' hb hb' with ⟨a, rfl, k⟩ | ⟨a, a', rfl, rfl, k⟩ | ⟨a, a', rfl, rfl, k⟩
     ·injection hn with hn; subst hn; exact k r'
     ·exact ih k (bK_.2 ⟨n', hn'⟩) hn
     ·injection hn with hn; injection hn' with hn'; subst hn hn'; exact k
inductive RelD (k : Int) : aa_ → aa_ → Prop
 | mk {env : Sl DNamed} {s : ByteArray} {st mo co f t f' t' : Int} {nw cd : Sl DCapture} {mt : Sl DMatch} {me : Bool} (h1 : 0 ≤ t ∧ t ≤ f ∧ f ≤ 20000) (h2 : 0 ≤ t' ∧ t' ≤ f' ∧ f' ≤ 20000) (h3 : 0 ≤ k ∧ f - t + k ≤ f' - t') (h4 : nw.l.length + cd.l.length ≤ 100) (h5 : ∀ m ∈ mt.l, m.Captures.l.length ≤ 100) :
  RelD k ⟨env, s, f, t, st, nw, cd, mt, mo, me, T.nilm, co⟩ ⟨env, s, f', t', st, nw, cd, mt, mo, me, T.nilm, co⟩
def Dead (r : Bool × aa_) : Prop := r.1 = false ∧ r.2.code_ = 7
def PB (k : Int) (r r' : Bool × aa_) : Prop := Dead r ∨ (r.1 = r'.1 ∧ r.2.code_ = r'.2.code_ ∧ r.2.matches_ = r'.2.matches_ ∧ (∀ m ∈ r.2.matches_.l, m.Captures.l.length ≤ 100) ∧ (r.1 = true → RelD k (NS r.2) (NS r'.2)))
theorem PB.rel {k : Int} {S S' : aa_} (b : Bool) (h : RelD k S S') : PB k (b, S) (b, S') := .inr (by cases h with | mk h1 h2 h3 h4 h5 => exact ⟨rfl, rfl, rfl, h5, fun _ => .mk h1 h2 h3 h4 h5⟩)
theorem PB.no {k : Int} {b b' : Bool} {S S' : aa_} (h : PB k (b, S) (b', S')) : PB k (false, S) (false, S') := by
 rcases h with ⟨h, h'⟩ | ⟨h1, h2, h3, h4, h5⟩
 ·exact .inl ⟨rfl, h'⟩
 ·exact .inr ⟨rfl, h2, h3, h4, fun h => (by cases h)⟩
def PhiR (k : Int) (Φ Φ' : PhiT) : Prop := ∀ e S S', RelD k S S' → Gt (Φ e S) (Φ' e S') (PB k)
abbrev MTy := aa_ → DPattern → Int → PhiT → Option (Bool × aa_)
def BR (k : Int) (R R' : MTy) : Prop := ∀ S S' p c Φ Φ', RelD k S S' → PhiR k Φ Φ' → Gt (R S p c Φ) (R' S' p c Φ') (PB k)
theorem st_t {f t f' t' k co : Int} {mt : Sl DMatch} (h1 : 0 ≤ t ∧ t ≤ f ∧ f ≤ 20000) (h2 : 0 ≤ t' ∧ t' ≤ f' ∧ f' ≤ 20000) (h3 : 0 ≤ k ∧ f - t + k ≤ f' - t') :
  Gt ((if (decide (t = f)) = true then (some (false, t, 7, (⟨true, []⟩ : Sl DMatch))) else (some (true, (w4 (t + 1)), co, mt))) : Option (Bool × Int × Int × (Sl DMatch))) ((if (decide (t' = f')) = true then (some (false, t', 7, (⟨true, []⟩ : Sl DMatch))) else (some (true, (w4 (t' + 1)), co, mt))) : Option (Bool × Int × Int × (Sl DMatch)))
   (fun y y' => (y.1 = false ∧ y.2.2.1 = 7) ∨ (y = (true, t + 1, co, mt) ∧ y' = (true, t' + 1, co, mt) ∧ t + 1 ≤ f ∧ t' + 1 ≤ f')) := by
 by_cases h : t = f
 ·rw [if_pos (by simpa using h)]; exact cl_ fun y => .inl ⟨rfl, rfl⟩
 ·rw [if_neg (by simpa using h), if_neg (by simp; omega), aS_ (by omega) (by omega), aS_ (by omega) (by omega)]
  exact au_ (.inr ⟨rfl, rfl, by omega, by omega⟩)
theorem rc_t (a b : Sl DCapture) (x : DCapture) (co : Int) (mt : Sl DMatch) (h : a.l.length + b.l.length ≤ 100) {γ δ : Type} {P : γ → δ → Prop} {g : (Bool × Int × Sl DCapture × Sl DMatch) → Option γ} {g' : (Bool × Int × Sl DCapture × Sl DMatch) → Option δ}
  (k1 : ∀ y, Gt (g (false, 6, y, ⟨true, []⟩)) (g' (false, 6, y, ⟨true, []⟩)) P) (k2 : ∀ y : Sl DCapture, y.l.length + b.l.length ≤ 100 → Gt (g (true, co, y, mt)) (g' (true, co, y, mt)) P) {e : Int → Int} (he : ∀ y : Sl DCapture, y.l.length ≤ 101 → e (y.l.length : Int) = (y.l.length : Int) + (b.l.length : Int)) :
  Gt (((appS 48 a (⟨false, [x]⟩ : Sl DCapture)).bind fun y3 => (if ((decide (100 < e (y3.l.length : Int)))) = true then (some (false, (6 : Int), y3, (⟨true, []⟩ : Sl DMatch))) else (some (true, co, y3, mt)))).bind g) (((appS 48 a (⟨false, [x]⟩ : Sl DCapture)).bind fun y3 => (if ((decide (100 < e (y3.l.length : Int)))) = true then (some (false, (6 : Int), y3, (⟨true, []⟩ : Sl DMatch))) else (some (true, co, y3, mt)))).bind g') P := by
 cases hq : appS 48 a (⟨false, [x]⟩ : Sl DCapture) with
 | none => intro r r' hr; cases hr
 | some q =>
  have hl : q.l = a.l ++ [x] := app1 q hq
  have e1 : q.l.length = a.l.length + 1 := by rw [hl]; simp
  rw [Option.bind_some, he q (by omega)]
  by_cases h7 : 100 < (q.l.length : Int) + (b.l.length : Int)
  ·rw [if_pos (by simpa using h7)]; exact k1 q
  ·rw [if_neg (by simpa using h7)]; exact k2 q (by omega)
theorem fC_ {α β : Type} {c : Prop} [Decidable c] {a a' : Option α} {o : Option β} {P : α → β → Prop} (h : c) (k : Gt a o P) : Gt (if c then a else a') o P := by rw [if_pos h]; exact k
theorem PB.err {k : Int} {S S' : aa_} (h1 : S.code_ = S'.code_) (h2 : S.matches_ = S'.matches_) (h3 : ∀ m ∈ S.matches_.l, m.Captures.l.length ≤ 100) : PB k (false, S) (false, S') := .inr ⟨rfl, h1, h2, h3, fun h => (by cases h)⟩
theorem nilCaps : ∀ m ∈ (⟨true, []⟩ : Sl DMatch).l, m.Captures.l.length ≤ 100 := fun m hm => by simp at hm
theorem qx_ (k : Int) : PhiR k (fun e (S : aa_) => ak_ S e) (fun e (S : aa_) => ak_ S e) := fun e S S' hr => by
 cases hr with
 | @mk env s st mo co f t f' t' nw cd mt me h1 h2 h3 h4 h5 =>
  unfold ak_
  refine aW_ (fun _ => aB_ (st_t h1 h2 h3) fun y y' hy => ?_) fun _ => aB_ (st_t h1 h2 h3) fun y y' hy => ?_
  ·rcases hy with ⟨d1, d2⟩ | ⟨rfl, rfl, a1, a2⟩
   ·exact cl_ fun _ => .inl ⟨d1, d2⟩
   ·have a1 : t + 1 ≤ f := a1
    have a2 : t' + 1 ≤ f' := a2
    have q1 : 0 ≤ t + 1 ∧ t + 1 ≤ f ∧ f ≤ 20000 := by omega
    have q2 : 0 ≤ t' + 1 ∧ t' + 1 ≤ f' ∧ f' ≤ 20000 := by omega
    have q3 : 0 ≤ k ∧ f - (t + 1) + k ≤ f' - (t' + 1) := by omega
    exact au_ (PB.rel true (.mk q1 q2 q3 h4 h5))
  ·rcases hy with ⟨d1, d2⟩ | ⟨rfl, rfl, a1, a2⟩
   ·exact fC_ (by rw [d1]; rfl) (cl_ fun _ => .inl ⟨rfl, d2⟩)
   ·refine aW_ (fun w => by cases w) fun _ => aW_ (fun _ => au_ (PB.err rfl rfl h5)) fun _ => aB_ (Q := fun a b => a = b ∧ a.l.length ≤ 100) (fun r r' hr hr' => ?_) fun y y' hy => ?_
    ·obtain ⟨y, y1, y2⟩ := kE_ nw cd h4
     have hr : a9_ ⟨false, [nw, cd]⟩ = some r := hr
     have hr' : a9_ ⟨false, [nw, cd]⟩ = some r' := hr'
     rw [y1] at hr hr'
     injection hr with hr; injection hr' with hr'
     subst hr hr'
     exact ⟨rfl, by rw [y2, List.length_append]; exact h4⟩
    ·obtain ⟨rfl, hy⟩ := hy
     refine aB_ (Q := fun a b => a = b ∧ a.l = mt.l ++ [⟨st, e, y⟩]) (fun r r' hr hr' => ?_) fun q q' hq => ?_
     ·have hr : appS 40 mt ⟨false, [⟨st, e, y⟩]⟩ = some r := hr
      have hr' : appS 40 mt ⟨false, [⟨st, e, y⟩]⟩ = some r' := hr'
      have := app1 r hr
      rw [hr] at hr'; injection hr' with hr'
      exact ⟨hr', this⟩
     ·obtain ⟨rfl, hq⟩ := hq
      have a1 : t + 1 ≤ f := a1
      have a2 : t' + 1 ≤ f' := a2
      have q1 : 0 ≤ t + 1 ∧ t + 1 ≤ f ∧ f ≤ 20000 := by omega
      have q2 : 0 ≤ t' + 1 ∧ t' + 1 ≤ f' ∧ f' ≤ 20000 := by omega
      have q3 : 0 ≤ k ∧ f - (t + 1) + k ≤ f' - (t' + 1) := by omega
      refine au_ (PB.rel _ (.mk q1 q2 q3 h4 fun m hm => ?_))
      rw [hq] at hm
      rcases List.mem_append.1 hm with h' | h'
      ·exact h5 m h'
      ·rw [List.mem_singleton] at h'; rw [h']; exact hy
section
variable {k : Int} {R R2 R' R2' : MTy} {p : DPattern} {c : Int} {Φ Φ' : PhiT}
theorem b_k1 (hR : BR k R R') (hΦ : PhiR k Φ Φ') : PhiR k (as_ R R2 p Φ) (as_ R' R2' p Φ') := fun e S S' hr => by
 have hr0 := hr
 cases hr with
 | @mk env s st mo co f t f' t' nw cd mt me h1 h2 h3 h4 h5 =>
  unfold as_
  exact cM_ fun y => aB_ (hR _ _ _ _ _ _ hr0 hΦ) fun r r' h => au_ h
theorem b_k2 (hR : BR k R R') (hΦ : PhiR k Φ Φ') : PhiR k (aq_ R R2 c p Φ) (aq_ R' R2' c p Φ') := fun e S S' hr => by
 have hr0 := hr
 cases hr with
 | @mk env s st mo co f t f' t' nw cd mt me h1 h2 h3 h4 h5 =>
  unfold aq_
  exact aW_ (fun _ => au_ (PB.rel true hr0)) fun _ => aB_ (hR _ _ _ _ _ _ hr0 hΦ) fun r r' h => au_ h
theorem b_k3 (hΦ : PhiR k Φ Φ') : PhiR k (al_ R R2 p c Φ) (al_ R' R2' p c Φ') := fun e S S' hr => by
 cases hr with
 | @mk env s st mo co f t f' t' nw cd mt me h1 h2 h3 h4 h5 =>
  unfold al_
  refine cM_ fun y => aW_ (fun _ => ?_) fun _ => ?_
  ·refine rc_t nw cd _ co mt h4 (e := fun n => w4 (n + (cd.l.length : Int))) ?_ ?_ (fun q hq => aS_ (by omega) (by omega))
   ·exact fun q => aW_ (fun w => by cases w) fun _ => au_ (PB.err rfl rfl nilCaps)
   ·exact fun q hq => aW_ (fun _ => aB_ (hΦ _ _ _ (.mk h1 h2 h3 hq h5)) fun r r' h => au_ h) fun w => absurd rfl w
  ·refine aB_ (Q := fun q q' => PB k (q.1, D11 q.2) (q'.1, D11 q'.2)) (rc_t cd nw _ co mt (by omega) (e := fun n => w4 ((nw.l.length : Int) + n)) ?_ ?_ (fun q hq => (aS_ (by omega) (by omega)).trans (Int.add_comm _ _))) fun q q' hq => ?_
   ·exact fun q => aW_ (fun w => by cases w) fun _ => au_ (PB.err rfl rfl nilCaps)
   ·exact fun q hq => aW_ (fun _ => aB_ (hΦ _ _ _ (.mk h1 h2 h3 (by show nw.l.length + q.l.length ≤ 100; omega) h5)) fun r r' h => au_ h) fun w => absurd rfl w
   obtain ⟨b, x1, x2, x3, x4, x5, x6, x7, x8, x9, x10, x11⟩ := q
   obtain ⟨b', y1, y2, y3, y4, y5, y6, y7, y8, y9, y10, y11⟩ := q'
   rcases hq with ⟨d1, d2⟩ | ⟨e1, e2, e3, e4, e5⟩
   ·exact rN_ (az_ cr_ fun w _ => ap_ fun _ => .inl ⟨d1, d2⟩)
   ·have e1 : b = b' := e1
    subst e1
    cases b with
    | false => exact aB_ (Q := fun _ _ => True) (fun _ _ _ _ => trivial) fun w w' _ => au_ (PB.err e2 e3 e4)
    | true =>
     have e5 : RelD k ⟨x1, x2, x3, x4, x5, x9, x10, x11, x6, x7, T.nilm, x8⟩ ⟨y1, y2, y3, y4, y5, y9, y10, y11, y6, y7, T.nilm, y8⟩ := e5 rfl
     cases e5 with
     | mk g1 g2 g3 g4 g5 =>
      refine aB_ (Q := fun a b => a = b ∧ a.l.length ≤ x10.l.length) (fun r r' hr hr' => ?_) fun w w' hw => ?_
      ·have := qE_ r hr
       have hr' : cutS x10 (cd.l.length : Int) = some r' := hr'
       have hr : cutS x10 (cd.l.length : Int) = some r := hr
       rw [hr] at hr'; injection hr' with hr'
       exact ⟨hr', this⟩
      ·obtain ⟨rfl, hw⟩ := hw
       exact au_ (PB.rel true (.mk g1 g2 g3 (by show x9.l.length + w.l.length ≤ 100; omega) g5))
theorem sS_ (hR : BR k R R') : BR k (aj_ R R2) (aj_ R' R2') := fun S S' p c Φ Φ' hr hΦ => by
 have hr0 := hr
 cases hr with
 | @mk env s st mo co f t f' t' nw cd mt me h1 h2 h3 h4 h5 =>
  unfold aj_
  refine cM_ fun q => aW_ (fun _ => aB_ (hR _ _ _ _ _ _ hr0 hΦ) fun r r' h => ?_) fun _ => aW_ (fun _ => aB_ (hR _ _ _ _ _ _ hr0 (b_k1 hR hΦ)) fun r r' h => au_ h) fun _ => aW_ (fun _ => aB_ (hΦ _ _ _ hr0) fun r r' h => ?_) fun _ => aB_ (hR _ _ _ _ _ _ hr0 (b_k3 hΦ)) fun r r' h => au_ h
  all_goals
   obtain ⟨b, T1⟩ := r
   obtain ⟨b', T2⟩ := r'
   rcases h with ⟨d1, d2⟩ | ⟨e1, e2, e3, e4, e5⟩
   ·have d1 : b = false := d1
    subst d1
    refine fun r r' hr _ => ?_
    have hr : some (false, NS T1) = some r := hr
    injection hr with hr; rw [← hr]; exact .inl ⟨rfl, d2⟩
   ·have e1 : b = b' := e1
    subst e1
    cases b with
    | false => exact aW_ (fun w => by cases w) fun _ => au_ (PB.err e2 e3 e4)
    | true =>
     first
      | exact aW_ (fun _ => cM_ fun q => aB_ (hR _ _ _ _ _ _ (e5 rfl) hΦ) fun r r' h => au_ h) fun w => absurd rfl w
      | exact aW_ (fun _ => aB_ (hR _ _ _ _ _ _ (e5 rfl) (b_k2 hR hΦ)) fun r r' h => au_ h) fun w => absurd rfl w
abbrev eA_ (b : Bool) (x : T11 ⊕ (Bool × aa_)) : Bool × aa_ := Sum.elim (fun y => (b, D11 y)) (fun r => r) x
theorem qZ_ {b : Bool} {x x' : T11 ⊕ (Bool × aa_)} (h : PB k (eA_ b x) (eA_ b x')) : Gt (Sum.elim (fun y => some (b, D11 y)) (fun y => some y) x) (Sum.elim (fun y => some (b, D11 y)) (fun y => some y) x') (PB k) := by
 cases x <;> cases x' <;> exact au_ h
theorem p1_ (hR : BR k R R') (hR2 : BR k R2 R2') : BR k (ac_ R R2) (ac_ R' R2') := fun S S' p c Φ Φ' hr hΦ => by
 cases hr with
 | @mk env s st mo co f t f' t' nw cd mt me h1 h2 h3 h4 h5 =>
  unfold ac_
  refine aB_ (st_t h1 h2 h3) fun y y' hy => ?_
  rcases hy with ⟨d1, d2⟩ | ⟨rfl, rfl, a1, a2⟩
  ·exact fC_ (by rw [d1]; rfl) (cl_ fun _ => .inl ⟨rfl, d2⟩)
  have a1 : t + 1 ≤ f := a1
  have a2 : t' + 1 ≤ f' := a2
  have q1 : 0 ≤ t + 1 ∧ t + 1 ≤ f ∧ f ≤ 20000 := by omega
  have q2 : 0 ≤ t' + 1 ∧ t' + 1 ≤ f' ∧ f' ≤ 20000 := by omega
  have q3 : 0 ≤ k ∧ f - (t + 1) + k ≤ f' - (t' + 1) := by omega
  have hr : RelD k ⟨env, s, f, t + 1, st, nw, cd, mt, mo, me, T.nilm, co⟩ ⟨env, s, f', t' + 1, st, nw, cd, mt, mo, me, T.nilm, co⟩ := .mk q1 q2 q3 h4 h5
  refine aW_ (fun w => by cases w) fun _ => aW_ (fun _ => ?_) fun _ => aW_ (fun _ => cM_ fun v => ?_) fun _ => aW_ (fun _ => aB_ (hΦ _ _ _ hr) fun r r' h => au_ (PB.no (b := r.1) (b' := r'.1) h)) fun _ => aW_ (fun _ => au_ (PB.rel false hr)) fun _ => aW_ (fun _ => au_ (PB.rel true hr)) fun _ => aW_ (fun _ => ?_) fun _ => aW_ (fun _ => ?_) fun _ => aW_ (fun _ => ?_) fun _ => aW_ (fun _ => aB_ (hR2 _ _ _ _ _ _ hr hΦ) fun r r' h => au_ h) fun _ => cM_ fun e => aW_ (fun _ => au_ (PB.rel true hr)) fun _ => aB_ (hΦ _ _ _ hr) fun r r' h => au_ h
  ·refine aB_ (Q := fun x x' => PB k (eA_ true x) (eA_ true x')) (ka_ (fun (s t : Int × T11) => ∃ j A A', RelD k A A' ∧ s = (j, cu_ A) ∧ t = (j, cu_ A')) ⟨c, _, _, hr, rfl, rfl⟩ fun s t hs => ?_) fun x x' hx => qZ_ hx
   obtain ⟨j, A, A', hA, rfl, rfl⟩ := hs
   cases hA with
   | @mk env s st mo co f t f' t' nw cd mt me h1 h2 h3 h4 h5 =>
    have hr : RelD k ⟨env, s, f, t, st, nw, cd, mt, mo, me, T.nilm, co⟩ ⟨env, s, f', t', st, nw, cd, mt, mo, me, T.nilm, co⟩ := .mk h1 h2 h3 h4 h5
    refine aW_ (fun _ => aB_ (hΦ j _ _ hr) fun r r' h => ?_) fun _ => au_ (.inr (.inr ⟨_, _, rfl, rfl, PB.rel true hr⟩))
    obtain ⟨b, U⟩ := r
    obtain ⟨b', U'⟩ := r'
    rcases h with ⟨d1, d2⟩ | ⟨e1, e2, e3, e4, e5⟩
    ·have d1 : b = false := d1
     subst d1
     exact fC_ rfl (cl_ fun _ => .inl ⟨_, rfl, fun _ => .inl ⟨rfl, d2⟩⟩)
    ·have e1 : b = b' := e1
     subst e1
     cases b with
     | false => exact aW_ (fun _ => au_ (.inr (.inr ⟨_, _, rfl, rfl, PB.err e2 e3 e4⟩))) fun w => absurd rfl w
     | true => exact aW_ (fun w => by cases w) fun _ => au_ (.inr (.inl ⟨_, _, rfl, rfl, _, _, _, e5 rfl, rfl, rfl⟩))
  ·refine aB_ (Q := fun x x' => PB k (eA_ true x) (eA_ true x')) (ka_ (fun (s t : Int × T11) => ∃ j A A', RelD k A A' ∧ s = (j, cu_ A) ∧ t = (j, cu_ A')) ⟨v, _, _, hr, rfl, rfl⟩ fun s t hs => ?_) fun x x' hx => qZ_ hx
   obtain ⟨j, A, A', hA, rfl, rfl⟩ := hs
   cases hA with
   | @mk env s st mo co f t f' t' nw cd mt me h1 h2 h3 h4 h5 =>
    have hr : RelD k ⟨env, s, f, t, st, nw, cd, mt, mo, me, T.nilm, co⟩ ⟨env, s, f', t', st, nw, cd, mt, mo, me, T.nilm, co⟩ := .mk h1 h2 h3 h4 h5
    refine aW_ (fun _ => aB_ (hΦ j _ _ hr) fun r r' h => ?_) fun _ => au_ (.inr (.inr ⟨_, _, rfl, rfl, PB.rel true hr⟩))
    obtain ⟨b, U⟩ := r
    obtain ⟨b', U'⟩ := r'
    rcases h with ⟨d1, d2⟩ | ⟨e1, e2, e3, e4, e5⟩
    ·have d1 : b = false := d1
     subst d1
     exact fC_ rfl (cl_ fun _ => .inl ⟨_, rfl, fun _ => .inl ⟨rfl, d2⟩⟩)
    ·have e1 : b = b' := e1
     subst e1
     cases b with
     | false => exact aW_ (fun _ => au_ (.inr (.inr ⟨_, _, rfl, rfl, PB.err e2 e3 e4⟩))) fun w => absurd rfl w
     | true =>
      obtain ⟨u1, u2, u3, u4, u5, u6, u7, u8, u9, u10, u11, u12⟩ := U
      obtain ⟨v1, v2, v3, v4, v5, v6, v7, v8, v9, v10, v11, v12⟩ := U'
      have e5 : RelD k ⟨u1, u2, u3, u4, u5, u6, u7, u8, u9, u10, T.nilm, u12⟩ ⟨v1, v2, v3, v4, v5, v6, v7, v8, v9, v10, T.nilm, v12⟩ := e5 rfl
      cases e5 with
      | mk g1 g2 g3 g4 g5 => exact aW_ (fun w => by cases w) fun _ => cM_ fun q => au_ (.inr (.inl ⟨_, _, rfl, rfl, _, _, _, .mk g1 g2 g3 g4 g5, rfl, rfl⟩))
  ·refine aB_ (Q := fun x x' => PB k (eA_ false x) (eA_ false x')) (ka_ (fun (s t : T11) => ∃ A A', RelD k A A' ∧ s = cu_ A ∧ t = cu_ A') ⟨_, _, hr, rfl, rfl⟩ fun s t hs => ?_) fun x x' hx => qZ_ hx
   obtain ⟨A, A', hA, rfl, rfl⟩ := hs
   cases hA with
   | @mk env s st mo co f t f' t' nw cd mt me h1 h2 h3 h4 h5 =>
    have hr : RelD k ⟨env, s, f, t, st, nw, cd, mt, mo, me, T.nilm, co⟩ ⟨env, s, f', t', st, nw, cd, mt, mo, me, T.nilm, co⟩ := .mk h1 h2 h3 h4 h5
    refine aB_ (hΦ c _ _ hr) fun r r' h => ?_
    obtain ⟨b, U⟩ := r
    obtain ⟨b', U'⟩ := r'
    rcases h with ⟨d1, d2⟩ | ⟨e1, e2, e3, e4, e5⟩
    ·have d1 : b = false := d1
     subst d1
     refine fun r r' hr _ => ?_
     have hr : some (.inr (.inl (cu_ U))) = some r := hr
     injection hr with hr
     exact .inl ⟨_, hr.symm, fun _ => .inl ⟨rfl, d2⟩⟩
    ·have e1 : b = b' := e1
     subst e1
     cases b with
     | false => exact aW_ (fun w => by cases w) fun _ => au_ (.inr (.inr ⟨_, _, rfl, rfl, PB.err e2 e3 e4⟩))
     | true =>
      obtain ⟨u1, u2, u3, u4, u5, u6, u7, u8, u9, u10, u11, u12⟩ := U
      obtain ⟨v1, v2, v3, v4, v5, v6, v7, v8, v9, v10, v11, v12⟩ := U'
      have e5 : RelD k ⟨u1, u2, u3, u4, u5, u6, u7, u8, u9, u10, T.nilm, u12⟩ ⟨v1, v2, v3, v4, v5, v6, v7, v8, v9, v10, T.nilm, v12⟩ := e5 rfl
      cases e5 with
      | mk g1 g2 g3 g4 g5 =>
       refine aW_ (fun _ => aB_ (st_t g1 g2 g3) fun y y' hy => ?_) fun w => absurd rfl w
       rcases hy with ⟨d1, d2⟩ | ⟨rfl, rfl, a1, a2⟩
       ·exact fC_ (by rw [d1]; rfl) (cl_ fun _ => .inl ⟨_, rfl, fun _ => .inl ⟨rfl, d2⟩⟩)
       ·refine aW_ (fun w => by cases w) fun _ => au_ (.inr (.inl ⟨_, _, rfl, rfl, ?_⟩))
        have a1 : u4 + 1 ≤ u3 := a1
        have a2 : v4 + 1 ≤ v3 := a2
        have q1 : 0 ≤ u4 + 1 ∧ u4 + 1 ≤ u3 ∧ u3 ≤ 20000 := by omega
        have q2 : 0 ≤ v4 + 1 ∧ v4 + 1 ≤ v3 ∧ v3 ≤ 20000 := by omega
        have q3 : 0 ≤ k ∧ u3 - (u4 + 1) + k ≤ v3 - (v4 + 1) := by omega
        exact ⟨_, _, .mk q1 q2 q3 g4 g5, rfl, rfl⟩
  ·refine rc_t nw cd _ co mt h4 (e := fun n => w4 (n + (cd.l.length : Int))) ?_ ?_ (fun q hq => aS_ (by omega) (by omega))
   ·exact fun q => aW_ (fun w => by cases w) fun _ => au_ (PB.err rfl rfl nilCaps)
   ·exact fun q hq => aW_ (fun _ => aB_ (hΦ _ _ _ (.mk q1 q2 q3 hq h5)) fun r r' h => au_ h) fun w => absurd rfl w
  ·exact cM_ fun i => aW_ (fun _ => au_ (PB.err rfl rfl nilCaps)) fun _ => cM_ fun q => aB_ (hR _ _ _ _ _ _ hr hΦ) fun r r' h => au_ h
end
theorem hY_ {α β : Type} {o : Option β} {P : α → β → Prop} : Gt (none : Option α) o P := fun r r' h => by cases h
theorem h1_ {α β : Type} {o : Option α} {P : α → β → Prop} : Gt o (none : Option β) P := fun r r' _ h => by cases h
theorem pm_ (k : Int) : ∀ n m, BR k (BG_impl_search_match n).1 (BG_impl_search_match m).1 ∧ BR k (BG_impl_search_match n).2 (BG_impl_search_match m).2
 | 0, _ => ⟨fun _ _ _ _ _ _ _ _ => hY_, fun _ _ _ _ _ _ _ _ => hY_⟩
 | n + 1, 0 => ⟨fun _ _ _ _ _ _ _ _ => h1_, fun _ _ _ _ _ _ _ _ => h1_⟩
 | n + 1, m + 1 => ⟨p1_ (pm_ k n m).1 (pm_ k n m).2, sS_ (pm_ k n m).1⟩
end Go.Am
end
