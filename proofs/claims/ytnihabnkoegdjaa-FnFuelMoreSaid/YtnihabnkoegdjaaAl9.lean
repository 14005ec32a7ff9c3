/- The law. -/
import Derived.Test.YtnihabnkoegdjaaAg1
import Derived.Test.YtnihabnkoegdjaaAg2
import Derived.Test.YtnihabnkoegdjaaAl8
section
set_option maxRecDepth 100000
set_option maxHeartbeats 4000000
set_option linter.unusedVariables false
set_option linter.unusedSimpArgs false
namespace Go.Am
inductive RelF (f f' : Int) (me : Bool) : aa_ → aa_ → Prop
 | mk {env : Sl DNamed} {s : ByteArray} {st mo t : Int} {nw cd : Sl DCapture} {mt mt' : Sl DMatch} (h : 0 ≤ t ∧ t ≤ f ∧ t ≤ f') : RelF f f' me ⟨env, s, f, t, st, nw, cd, mt, mo, true, T.nilm, 0⟩ ⟨env, s, f', t, st, nw, cd, mt', 0, me, T.nilm, 0⟩
def PF (f f' : Int) (me : Bool) (r r' : Bool × aa_) : Prop := Bad r ∨ (Dead r' ∧ LQ f f' r) ∨ (me = false ∧ r'.1 = false ∧ r'.2.code_ = 6) ∨ (r.1 = r'.1 ∧ RelF f f' me (NS r.2) (NS r'.2))
def PhiF (f f' : Int) (me : Bool) (Φ Φ' : PhiT) : Prop := LPhi f f' Φ ∧ ∀ e S S', RelF f f' me S S' → Gt (Φ e S) (Φ' e S') (PF f f' me)
def FR (f f' : Int) (me : Bool) (R R' : MTy) : Prop := ∀ S S' p c Φ Φ', RelF f f' me S S' → PhiF f f' me Φ Φ' → Gt (R S p c Φ) (R' S' p c Φ') (PF f f' me)
section
variable {α β : Type}
theorem dy_ {o : Option α} {y : β} {P : α → β → Prop} (h : Gv o (fun x => P x y)) : Gt o (some y) P := fun r r' hr hr' => by injection hr' with hr'; subst hr'; exact h r hr
theorem jn_ {o : Option α} {o' : Option β} {P1 : α → Prop} {P2 : β → Prop} {P : α → β → Prop} (h : Gv o P1) (h' : Gv o' P2) (k : ∀ x y, P1 x → P2 y → P x y) : Gt o o' P := fun r r' hr hr' => k r r' (h r hr) (h' r' hr')
theorem lC_ {c : Prop} [Decidable c] {a a' : Option α} {o : Option β} {P : α → β → Prop} (h : ¬ c) (k : Gt a' o P) : Gt (if c then a else a') o P := by rw [if_neg h]; exact k
theorem gp_ {c : Prop} [Decidable c] {o : Option α} {a a' : Option β} {P : α → β → Prop} (h : ¬ c) (k : Gt o a' P) : Gt o (if c then a else a') P := by rw [if_neg h]; exact k
end
theorem hU_ {S T R R' : Type} {b : S → Option (S ⊕ R)} {b' : T → Option (T ⊕ R')} {s : S} {t : T} (I : S → T → Prop) (J : S → Prop) {Q : R → R' → Prop} (K : R → Prop) (D : R' → Prop) (h0 : I s t)
  (hm : ∀ s, J s → Gv (b s) (fun x => Sum.elim J K x)) (hQ : ∀ r r', K r → D r' → Q r r')
  (h : ∀ s t, I s t → Gt (b s) (b' t) (fun x x' => (∃ r, x = .inr r ∧ ∀ r', Q r r') ∨ (∃ a', x' = .inr a' ∧ ∀ r, Q r a') ∨ (∃ a', x' = .inr a' ∧ D a' ∧ Sum.elim J K x) ∨ (∃ a a', x = .inl a ∧ x' = .inl a' ∧ I a a') ∨ (∃ a a', x = .inr a ∧ x' = .inr a' ∧ Q a a'))) : Gt (aF_ b s) (aF_ b' t) Q := fun r r' hr hr' => by
 obtain ⟨n, hn⟩ := bK_.1 hr
 clear hr
 induction n generalizing s t with
 | zero => cases hn
 | succ n ih =>
  simp only [iter] at hn
  cases hb : b s with
  | none => rw [hb] at hn; cases hn
  | some x =>
   rw [hb] at hn
   obtain ⟨n', hn'⟩ := bK_.1 hr'
   cases n' with
   | zero => cases hn'
   | succ n' =>
    simp only [iter] at hn'
    cases hb' : b' t with
    | none => rw [hb'] at hn'; cases hn'
    | some x' =>
     rw [hb'] at hn'
     rcases h s t h0 x x' hb hb' with ⟨a, rfl, k⟩ | ⟨a, rfl, k⟩ | ⟨a, rfl, k, k2⟩ | ⟨a, a', rfl, rfl, k⟩ | ⟨a, a', rfl, rfl, k⟩
     ·injection hn with hn; subst hn; exact k r'
     ·injection hn' with hn'; subst hn'; exact k r
     ·injection hn' with hn'; subst hn'
      refine hQ _ _ ?_ k
      cases x with
      | inr y => injection hn with hn; subst hn; exact k2
      | inl y => exact g9_ J (P := K) k2 hm r (bK_.2 ⟨n, hn⟩)
     ·exact ih k (bK_.2 ⟨n', hn'⟩) hn
     ·injection hn with hn; injection hn' with hn'; subst hn hn'; exact k
section
variable {f f' : Int} {me : Bool}
theorem PF.rel {S S' : aa_} (b : Bool) (h : RelF f f' me S S') : PF f f' me (b, S) (b, S') := .inr (.inr (.inr (by cases h with | mk h => exact ⟨rfl, .mk h⟩)))
theorem PF.no {b b' : Bool} {S S' : aa_} (h : PF f f' me (b, S) (b', S')) : PF f f' me (false, S) (false, S') := by
 rcases h with h | ⟨h, h'⟩ | h | ⟨h1, h2⟩
 ·exact .inl ⟨rfl, h.2⟩
 ·exact .inr (.inl ⟨⟨rfl, h.2⟩, h'.no⟩)
 ·exact .inr (.inr (.inl ⟨h.1, rfl, h.2.2⟩))
 ·exact .inr (.inr (.inr ⟨rfl, h2⟩))
theorem RelF.late {S S' : aa_} (h : RelF f f' me S S') (hd : S'.steps_ = S'.fuel_) : Late f (f' - 1) S := by
 cases h with
 | @mk env s st mo t nw cd mt mt' h => have hd : t = f' := hd; exact ⟨rfl, rfl, by show f' - 1 < t; omega, h.2.1⟩
theorem st_f {t co co' : Int} {mt mt' : Sl DMatch} (hf : f ≤ 20000 ∧ f' ≤ 20000) (h : 0 ≤ t ∧ t ≤ f ∧ t ≤ f') :
  Gt ((if (decide (t = f)) = true then (some (false, t, 7, (⟨true, []⟩ : Sl DMatch))) else (some (true, (w4 (t + 1)), co, mt))) : Option (Bool × Int × Int × (Sl DMatch))) ((if (decide (t = f')) = true then (some (false, t, 7, (⟨true, []⟩ : Sl DMatch))) else (some (true, (w4 (t + 1)), co', mt'))) : Option (Bool × Int × Int × (Sl DMatch)))
   (fun y y' => (y.1 = false ∧ y.2.2.1 = 7) ∨ (y = (true, t + 1, co, mt) ∧ y'.1 = false ∧ y'.2.2.1 = 7 ∧ f' < t + 1 ∧ t + 1 ≤ f) ∨ (y = (true, t + 1, co, mt) ∧ y' = (true, t + 1, co', mt') ∧ t + 1 ≤ f ∧ t + 1 ≤ f')) := by
 by_cases h1 : t = f
 ·rw [if_pos (by simpa using h1)]; exact cl_ fun y => .inl ⟨rfl, rfl⟩
 ·rw [if_neg (by simpa using h1), aS_ (by omega) (by omega)]
  by_cases h2 : t = f'
  ·rw [if_pos (by simpa using h2)]; exact au_ (.inr (.inl ⟨rfl, rfl, rfl, by omega, by omega⟩))
  ·rw [if_neg (by simpa using h2)]; exact au_ (.inr (.inr ⟨rfl, rfl, by omega, by omega⟩))
theorem st_g {t co co' : Int} {mt mt' : Sl DMatch} (hf : f ≤ 20000 ∧ f' ≤ 20000) (h : 0 ≤ t ∧ t ≤ f ∧ t ≤ f') (hd : ¬ t = f') :
  Gt ((if (decide (t = f)) = true then (some (false, t, 7, (⟨true, []⟩ : Sl DMatch))) else (some (true, (w4 (t + 1)), co, mt))) : Option (Bool × Int × Int × (Sl DMatch))) ((if (decide (t = f')) = true then (some (false, t, 7, (⟨true, []⟩ : Sl DMatch))) else (some (true, (w4 (t + 1)), co', mt'))) : Option (Bool × Int × Int × (Sl DMatch)))
   (fun y y' => (y.1 = false ∧ y.2.2.1 = 7) ∨ (y = (true, t + 1, co, mt) ∧ y' = (true, t + 1, co', mt') ∧ 0 ≤ t + 1 ∧ t + 1 ≤ f ∧ t + 1 ≤ f')) := fun r r' hr hr' => by
 rcases st_f hf h r r' hr hr' with h1 | ⟨h1, h2, h3, h4, h5⟩ | ⟨h1, h2, h3, h4⟩
 ·exact .inl h1
 ·exact absurd h4 (by omega)
 ·exact .inr ⟨h1, h2, by omega, h3, h4⟩
theorem bad7 {b : Bool} {S : aa_} (h1 : b = false) (h2 : S.code_ = 7) : Bad (b, S) := ⟨h1, by show S.code_ ≠ 0; rw [h2]; decide⟩
theorem rc_f {γ δ : Type} {P : γ → δ → Prop} (o : Option (Sl DCapture)) (c : Sl DCapture → Bool) (co co' : Int) (mt mt' : Sl DMatch) {g : (Bool × Int × Sl DCapture × Sl DMatch) → Option γ} {g' : (Bool × Int × Sl DCapture × Sl DMatch) → Option δ}
  (k1 : ∀ y, Gt (g (false, 6, y, ⟨true, []⟩)) (g' (false, 6, y, ⟨true, []⟩)) P) (k2 : ∀ y, Gt (g (true, co, y, mt)) (g' (true, co', y, mt')) P) :
  Gt ((o.bind fun y3 => (if c y3 = true then (some (false, (6 : Int), y3, (⟨true, []⟩ : Sl DMatch))) else (some (true, co, y3, mt)))).bind g) ((o.bind fun y3 => (if c y3 = true then (some (false, (6 : Int), y3, (⟨true, []⟩ : Sl DMatch))) else (some (true, co', y3, mt')))).bind g') P := by
 cases o with
 | none => intro r r' hr; cases hr
 | some q =>
  rw [Option.bind_some, Option.bind_some]
  by_cases h : c q = true
  ·rw [if_pos h, if_pos h]; exact k1 q
  ·rw [if_neg h, if_neg h]; exact k2 q
theorem m4_ {e : Int} {S' : aa_} (hd : S'.steps_ = S'.fuel_) : Gv (ak_ S' e) Dead := by
 unfold ak_
 refine bc_ (fun _ => az_ (Q := fun y => y.1 = false ∧ y.2.2.1 = 7) (by rw [if_pos (by simpa using hd)]; exact ap_ ⟨rfl, rfl⟩) fun y hy => ap_ ⟨hy.1, hy.2⟩) fun _ => az_ (Q := fun y => y.1 = false ∧ y.2.2.1 = 7) (by rw [if_pos (by simpa using hd)]; exact ap_ ⟨rfl, rfl⟩) fun y hy => bc_ (fun _ => ap_ ⟨rfl, hy.2⟩) fun w => absurd (by rw [hy.1]; rfl) w
theorem i6_ {R R2 : MTy} {S' : aa_} {p : DPattern} {c : Int} {Φ : PhiT} (hd : S'.steps_ = S'.fuel_) : Gv (ac_ R R2 S' p c Φ) Dead := by
 unfold ac_
 exact az_ (Q := fun y => y.1 = false ∧ y.2.2.1 = 7) (by rw [if_pos (by simpa using hd)]; exact ap_ ⟨rfl, rfl⟩) fun y hy => bc_ (fun _ => ap_ ⟨rfl, hy.2⟩) fun w => absurd (by rw [hy.1]; rfl) w
theorem q5_ (hf : f ≤ 20000 ∧ f' ≤ 20000) (h0 : 0 ≤ f') : PhiF f f' me (fun e (S : aa_) => ak_ S e) (fun e (S : aa_) => ak_ S e) := ⟨oq_ ⟨hf.1, h0⟩, fun e S S' hr => by
 by_cases hd : S'.steps_ = S'.fuel_
 ·exact jn_ (lN_ (k := f') ⟨hf.1, h0⟩ (hr.late hd)) (m4_ hd) fun x y hx hy => .inr (.inl ⟨hy, hx⟩)
 cases hr with
 | @mk env s st mo t nw cd mt mt' h =>
  have hd : ¬ t = f' := hd
  unfold ak_
  refine fC_ rfl ?_
  cases me with
  | true =>
   refine gJ_ rfl (aB_ (st_g hf h hd) fun y y' hy => ?_)
   rcases hy with ⟨d1, d2⟩ | ⟨rfl, rfl, a⟩
   ·exact cl_ fun _ => .inl (bad7 d1 d2)
   ·exact au_ (PF.rel true (.mk a))
  | false =>
   refine gp_ (fun w => by cases w) (aB_ (st_g hf h hd) fun y y' hy => ?_)
   rcases hy with ⟨d1, d2⟩ | ⟨rfl, rfl, a⟩
   ·exact cl_ fun _ => .inl (bad7 d1 d2)
   ·refine gp_ (fun w => by cases w) ?_
    by_cases h6 : (mt'.l.length : Int) = 60
    ·exact gJ_ (by simpa using h6) (dy_ (ap_ (.inr (.inr (.inl ⟨rfl, rfl, rfl⟩)))))
    ·refine gp_ (by simpa using h6) (jn_ (P1 := fun x => x = (true, (⟨env, s, f, t + 1, st, nw, cd, mt, mo, true, T.nilm, 0⟩ : aa_))) (ap_ rfl) (az_ cr_ fun y _ => az_ app1 fun q hq => ap_ (P := fun z => ∃ q : Sl DMatch, z = (true, (⟨env, s, f', t + 1, st, nw, cd, q, 0, false, T.nilm, 0⟩ : aa_))) ⟨q, ?_⟩) fun x y hx hy => ?_)
     ·have hq : q.l = mt'.l ++ _ := hq
      have : (!decide ((q.l.length : Int) = 0)) = true := by rw [hq]; simp; omega
      show ((!decide ((q.l.length : Int) = 0)), _) = _
      rw [this]
     ·subst hx; obtain ⟨q, rfl⟩ := hy
      exact PF.rel true (.mk a)⟩
variable {R R2 R' R2' : MTy} {p : DPattern} {c : Int} {Φ Φ' : PhiT}
theorem f_k1 (hR : FR f f' me R R') (hL : LRK f f' R) (hΦ : PhiF f f' me Φ Φ') : PhiF f f' me (as_ R R2 p Φ) (as_ R' R2' p Φ') := ⟨l_k1 hL hΦ.1, fun e S S' hr => by
 have hr0 := hr
 cases hr with
 | @mk env s st mo t nw cd mt mt' h =>
  unfold as_
  exact cM_ fun y => aB_ (hR _ _ _ _ _ _ hr0 hΦ) fun r r' h => au_ h⟩
theorem f_k2 (hR : FR f f' me R R') (hL : LRK f f' R) (hΦ : PhiF f f' me Φ Φ') : PhiF f f' me (aq_ R R2 c p Φ) (aq_ R' R2' c p Φ') := ⟨l_k2 hL hΦ.1, fun e S S' hr => by
 have hr0 := hr
 cases hr with
 | @mk env s st mo t nw cd mt mt' h =>
  unfold aq_
  exact aW_ (fun _ => au_ (PF.rel true hr0)) fun _ => aB_ (hR _ _ _ _ _ _ hr0 hΦ) fun r r' h => au_ h⟩
theorem bad6 {S : aa_} (h2 : S.code_ = 6) : Bad (false, S) := ⟨rfl, by show S.code_ ≠ 0; rw [h2]; decide⟩
theorem f_k3 (hΦ : PhiF f f' me Φ Φ') : PhiF f f' me (al_ R R2 p c Φ) (al_ R' R2' p c Φ') := ⟨l_k3 hΦ.1, fun e S S' hr => by
 have hr0 := hr
 cases hr with
 | @mk env s st mo t nw cd mt mt' h =>
  unfold al_
  refine cM_ fun y => aW_ (fun _ => ?_) fun _ => ?_
  ·refine rc_f (appS 48 nw _) (fun y3 => decide (100 < w4 ((y3.l.length : Int) + (cd.l.length : Int)))) _ _ _ _ (fun q => aW_ (fun w => by cases w) fun _ => au_ (.inl (bad6 rfl))) fun q => aW_ (fun _ => aB_ (hΦ.2 _ _ _ (.mk h)) fun r r' h => au_ h) fun w => absurd rfl w
  ·refine aB_ (Q := fun q q' => PF f f' me (q.1, D11 q.2) (q'.1, D11 q'.2)) (rc_f (appS 48 cd _) (fun y3 => decide (100 < w4 ((nw.l.length : Int) + (y3.l.length : Int)))) _ _ _ _ (fun q => aW_ (fun w => by cases w) fun _ => au_ (.inl (bad6 rfl))) fun q => aW_ (fun _ => aB_ (hΦ.2 _ _ _ (.mk h)) fun r r' h => au_ h) fun w => absurd rfl w) fun q q' hq => ?_
   obtain ⟨b, x1, x2, x3, x4, x5, x6, x7, x8, x9, x10, x11⟩ := q
   obtain ⟨b', y1, y2, y3, y4, y5, y6, y7, y8, y9, y10, y11⟩ := q'
   rcases hq with hq | ⟨h1, h2⟩ | hq | ⟨e1, e5⟩
   ·exact rN_ (az_ cr_ fun w _ => ap_ fun _ => .inl ⟨hq.1, hq.2⟩)
   ·refine jn_ (P1 := LQ f f') (P2 := Dead) (az_ cr_ fun w _ => ap_ ?_) (az_ cr_ fun w _ => ap_ ⟨h1.1, h1.2⟩) fun x y hx hy => .inr (.inl ⟨hy, hx⟩)
    rcases h2 with h2 | h2
    ·exact .inl ⟨h2.1, h2.2⟩
    ·exact .inr ⟨h2.u, h2.m, h2.a, h2.b⟩
   ·exact jn_ (P1 := fun _ => True) (P2 := fun r' => me = false ∧ r'.1 = false ∧ r'.2.code_ = 6) cr_ (az_ cr_ fun w _ => ap_ ⟨hq.1, hq.2.1, hq.2.2⟩) fun x y hx hy => .inr (.inr (.inl hy))
   ·have e1 : b = b' := e1
    subst e1
    have e5 : RelF f f' me ⟨x1, x2, x3, x4, x5, x9, x10, x11, x6, x7, T.nilm, x8⟩ ⟨y1, y2, y3, y4, y5, y9, y10, y11, y6, y7, T.nilm, y8⟩ := e5
    cases e5 with
    | mk g => exact cM_ fun w => au_ (PF.rel b (.mk g))⟩
theorem si_ (hR : FR f f' me R R') (hL : LRK f f' R) : FR f f' me (aj_ R R2) (aj_ R' R2') := fun S S' p c Φ Φ' hr hΦ => by
 have hr0 := hr
 cases hr with
 | @mk env s st mo t nw cd mt mt' h =>
  unfold aj_
  refine cM_ fun q => aW_ (fun _ => aB_ (hR _ _ _ _ _ _ hr0 hΦ) fun r r' h => ?_) fun _ => aW_ (fun _ => aB_ (hR _ _ _ _ _ _ hr0 (f_k1 hR hL hΦ)) fun r r' h => au_ h) fun _ => aW_ (fun _ => aB_ (hΦ.2 _ _ _ hr0) fun r r' h => ?_) fun _ => aB_ (hR _ _ _ _ _ _ hr0 (f_k3 hΦ)) fun r r' h => au_ h
  all_goals
   obtain ⟨b, T1⟩ := r
   obtain ⟨b', T2⟩ := r'
   rcases h with hq | ⟨⟨h1, h1'⟩, h2⟩ | ⟨hq, hq', hq2⟩ | ⟨e1, e5⟩
   ·obtain ⟨d1, d2⟩ := hq
    have d1 : b = false := d1
    subst d1
    exact lC_ (fun w => by cases w) (cl_ fun _ => .inl ⟨rfl, d2⟩)
   ·have h1 : b' = false := h1
    subst h1
    refine gp_ (fun w => by cases w) (jn_ (P1 := LQ f f') (P2 := Dead) (bc_ (fun hb => ?_) fun _ => ap_ (LQ.no (b := b) h2)) (ap_ ⟨rfl, h1'⟩) fun x y hx hy => .inr (.inl ⟨hy, hx⟩))
    have hl := h2.yes hb
    first
     | exact az_ cr_ fun q2 _ => az_ (hL _ _ _ _ ⟨hl.u, hl.m, hl.a, hl.b⟩ hΦ.1) fun r2 hr2 => ap_ hr2
     | exact az_ (hL _ _ _ _ ⟨hl.u, hl.m, hl.a, hl.b⟩ (l_k2 hL hΦ.1)) fun r2 hr2 => ap_ hr2
   ·have hq' : b' = false := hq'
    subst hq'
    exact gp_ (fun w => by cases w) (dy_ fun _ _ => .inr (.inr (.inl ⟨hq, rfl, hq2⟩)))
   ·have e1 : b = b' := e1
    subst e1
    cases b with
    | false => exact aW_ (fun w => by cases w) fun _ => au_ (PF.rel false e5)
    | true =>
     first
      | exact aW_ (fun _ => cM_ fun q => aB_ (hR _ _ _ _ _ _ e5 hΦ) fun r r' h => au_ h) fun w => absurd rfl w
      | exact aW_ (fun _ => aB_ (hR _ _ _ _ _ _ e5 (f_k2 hR hL hΦ)) fun r r' h => au_ h) fun w => absurd rfl w
theorem p4_ {b : Bool} {x x' : T11 ⊕ (Bool × aa_)} (h : PF f f' me (eA_ b x) (eA_ b x')) : Gt (Sum.elim (fun y => some (b, D11 y)) (fun y => some y) x) (Sum.elim (fun y => some (b, D11 y)) (fun y => some y) x') (PF f f' me) := by
 cases x <;> cases x' <;> exact au_ h
theorem p5_ (hf : f ≤ 20000 ∧ f' ≤ 20000) (h0 : 0 ≤ f') (hR : FR f f' me R R') (hR2 : FR f f' me R2 R2') (hL : LRK f f' R) (hL2 : LRK f f' R2) : FR f f' me (ac_ R R2) (ac_ R' R2') := fun S S' p c Φ Φ' hr hΦ => by
 by_cases hd : S'.steps_ = S'.fuel_
 ·exact jn_ (nR_ (k := f') ⟨hf.1, h0⟩ hL hL2 _ _ _ _ (hr.late hd) hΦ.1) (i6_ hd) fun x y hx hy => .inr (.inl ⟨hy, hx⟩)
 cases hr with
 | @mk env s st mo t nw cd mt mt' h =>
  have hd : ¬ t = f' := hd
  unfold ac_
  refine aB_ (st_g hf h hd) fun y y' hy => ?_
  rcases hy with ⟨d1, d2⟩ | ⟨rfl, rfl, q1⟩
  ·exact fC_ (by rw [d1]; rfl) (cl_ fun _ => .inl (bad7 rfl d2))
  have hr : RelF f f' me ⟨env, s, f, t + 1, st, nw, cd, mt, mo, true, T.nilm, 0⟩ ⟨env, s, f', t + 1, st, nw, cd, mt', 0, me, T.nilm, 0⟩ := .mk q1
  refine aW_ (fun w => by cases w) fun _ => aW_ (fun _ => ?_) fun _ => aW_ (fun _ => cM_ fun v => ?_) fun _ => aW_ (fun _ => aB_ (hΦ.2 _ _ _ hr) fun r r' h => au_ (PF.no (b := r.1) (b' := r'.1) h)) fun _ => aW_ (fun _ => au_ (PF.rel false hr)) fun _ => aW_ (fun _ => au_ (PF.rel true hr)) fun _ => aW_ (fun _ => ?_) fun _ => aW_ (fun _ => ?_) fun _ => aW_ (fun _ => ?_) fun _ => aW_ (fun _ => aB_ (hR2 _ _ _ _ _ _ hr hΦ) fun r r' h => au_ h) fun _ => cM_ fun e => aW_ (fun _ => au_ (PF.rel true hr)) fun _ => aB_ (hΦ.2 _ _ _ hr) fun r r' h => au_ h
  ·refine aB_ (Q := fun x x' => PF f f' me (eA_ true x) (eA_ true x')) (hU_ (fun (s t : Int × T11) => ∃ j A A', RelF f f' me A A' ∧ s = (j, cu_ A) ∧ t = (j, cu_ A')) (fun st : Int × T11 => Late f f' (D11 st.2)) (fun x => LQ f f' (eA_ true x)) (fun x => Dead (eA_ true x)) ⟨c, _, _, hr, rfl, rfl⟩ (fun st hst => bc_ (fun _ => ?_) fun _ => ap_ (.inr hst)) (fun r r' hr hd => .inr (.inl ⟨hd, hr⟩)) fun s t hs => ?_) fun x x' hx => p4_ hx
   ·refine az_ (hΦ.1 _ _ ⟨hst.u, hst.m, hst.a, hst.b⟩) fun r hr => bc_ (fun _ => ap_ (LQ.no (b := r.1) hr)) fun hb => ap_ ?_
    have hb : r.1 = true := by cases h : r.1 <;> simp [h] at hb ⊢
    exact ⟨(hr.yes hb).u, (hr.yes hb).m, (hr.yes hb).a, (hr.yes hb).b⟩
   obtain ⟨j, A, A', hA, rfl, rfl⟩ := hs
   cases hA with
   | @mk env s st mo t nw cd mt mt' h =>
    have hr : RelF f f' me ⟨env, s, f, t, st, nw, cd, mt, mo, true, T.nilm, 0⟩ ⟨env, s, f', t, st, nw, cd, mt', 0, me, T.nilm, 0⟩ := .mk h
    refine aW_ (fun _ => aB_ (hΦ.2 j _ _ hr) fun r r' h => ?_) fun _ => au_ (.inr (.inr (.inr (.inr ⟨_, _, rfl, rfl, PF.rel true hr⟩))))
    obtain ⟨b, U⟩ := r
    obtain ⟨b', U'⟩ := r'
    rcases h with ⟨d1, d2⟩ | ⟨⟨h1, h1'⟩, h2⟩ | ⟨hq, hq', hq2⟩ | ⟨e1, e5⟩
    ·have d1 : b = false := d1
     subst d1
     exact fC_ rfl (cl_ fun _ => .inl ⟨_, rfl, fun _ => .inl ⟨rfl, d2⟩⟩)
    ·have h1 : b' = false := h1
     subst h1
     refine gJ_ rfl (dy_ (bc_ (fun _ => ap_ (.inr (.inr (.inl ⟨_, rfl, ⟨rfl, h1'⟩, LQ.no (b := b) h2⟩)))) fun hb => ap_ (.inr (.inr (.inl ⟨_, rfl, ⟨rfl, h1'⟩, ?_⟩)))))
     have hb : b = true := by cases b <;> simp at hb ⊢
     have hl := h2.yes hb
     exact ⟨hl.u, hl.m, hl.a, hl.b⟩
    ·have hq' : b' = false := hq'
     subst hq'
     exact gJ_ rfl (dy_ fun _ _ => .inr (.inl ⟨_, rfl, fun _ => .inr (.inr (.inl ⟨hq, rfl, hq2⟩))⟩))
    ·have e1 : b = b' := e1
     subst e1
     cases b with
     | false => exact aW_ (fun _ => au_ (.inr (.inr (.inr (.inr ⟨_, _, rfl, rfl, PF.rel false e5⟩))))) fun w => absurd rfl w
     | true => exact aW_ (fun w => by cases w) fun _ => au_ (.inr (.inr (.inr (.inl ⟨_, _, rfl, rfl, _, _, _, e5, rfl, rfl⟩))))
  ·refine aB_ (Q := fun x x' => PF f f' me (eA_ true x) (eA_ true x')) (hU_ (fun (s t : Int × T11) => ∃ j A A', RelF f f' me A A' ∧ s = (j, cu_ A) ∧ t = (j, cu_ A')) (fun st : Int × T11 => Late f f' (D11 st.2)) (fun x => LQ f f' (eA_ true x)) (fun x => Dead (eA_ true x)) ⟨v, _, _, hr, rfl, rfl⟩ (fun st hst => bc_ (fun _ => ?_) fun _ => ap_ (.inr hst)) (fun r r' hr hd => .inr (.inl ⟨hd, hr⟩)) fun s t hs => ?_) fun x x' hx => p4_ hx
   ·refine az_ (hΦ.1 _ _ ⟨hst.u, hst.m, hst.a, hst.b⟩) fun r hr => bc_ (fun _ => ap_ (LQ.no (b := r.1) hr)) fun hb => az_ cr_ fun v _ => ap_ ?_
    have hb : r.1 = true := by cases h : r.1 <;> simp [h] at hb ⊢
    exact ⟨(hr.yes hb).u, (hr.yes hb).m, (hr.yes hb).a, (hr.yes hb).b⟩
   obtain ⟨j, A, A', hA, rfl, rfl⟩ := hs
   cases hA with
   | @mk env s st mo t nw cd mt mt' h =>
    have hr : RelF f f' me ⟨env, s, f, t, st, nw, cd, mt, mo, true, T.nilm, 0⟩ ⟨env, s, f', t, st, nw, cd, mt', 0, me, T.nilm, 0⟩ := .mk h
    refine aW_ (fun _ => aB_ (hΦ.2 j _ _ hr) fun r r' h => ?_) fun _ => au_ (.inr (.inr (.inr (.inr ⟨_, _, rfl, rfl, PF.rel true hr⟩))))
    obtain ⟨b, U⟩ := r
    obtain ⟨b', U'⟩ := r'
    rcases h with ⟨d1, d2⟩ | ⟨⟨h1, h1'⟩, h2⟩ | ⟨hq, hq', hq2⟩ | ⟨e1, e5⟩
    ·have d1 : b = false := d1
     subst d1
     exact fC_ rfl (cl_ fun _ => .inl ⟨_, rfl, fun _ => .inl ⟨rfl, d2⟩⟩)
    ·have h1 : b' = false := h1
     subst h1
     refine gJ_ rfl (dy_ (bc_ (fun _ => ap_ (.inr (.inr (.inl ⟨_, rfl, ⟨rfl, h1'⟩, LQ.no (b := b) h2⟩)))) fun hb => az_ cr_ fun _ _ => ap_ (.inr (.inr (.inl ⟨_, rfl, ⟨rfl, h1'⟩, ?_⟩)))))
     have hb : b = true := by cases b <;> simp at hb ⊢
     have hl := h2.yes hb
     exact ⟨hl.u, hl.m, hl.a, hl.b⟩
    ·have hq' : b' = false := hq'
     subst hq'
     exact gJ_ rfl (dy_ fun _ _ => .inr (.inl ⟨_, rfl, fun _ => .inr (.inr (.inl ⟨hq, rfl, hq2⟩))⟩))
    ·have e1 : b = b' := e1
     subst e1
     cases b with
     | false => exact aW_ (fun _ => au_ (.inr (.inr (.inr (.inr ⟨_, _, rfl, rfl, PF.rel false e5⟩))))) fun w => absurd rfl w
     | true =>
      obtain ⟨u1, u2, u3, u4, u5, u6, u7, u8, u9, u10, u11, u12⟩ := U
      obtain ⟨v1, v2, v3, v4, v5, v6, v7, v8, v9, v10, v11, v12⟩ := U'
      have e5 : RelF f f' me ⟨u1, u2, u3, u4, u5, u6, u7, u8, u9, u10, T.nilm, u12⟩ ⟨v1, v2, v3, v4, v5, v6, v7, v8, v9, v10, T.nilm, v12⟩ := e5
      cases e5 with
      | mk g => exact aW_ (fun w => by cases w) fun _ => cM_ fun q => au_ (.inr (.inr (.inr (.inl ⟨_, _, rfl, rfl, _, _, _, .mk g, rfl, rfl⟩))))
  ·refine aB_ (Q := fun x x' => PF f f' me (eA_ false x) (eA_ false x')) (hU_ (fun (s t : T11) => ∃ A A', RelF f f' me A A' ∧ s = cu_ A ∧ t = cu_ A') (fun st : T11 => Late f f' (D11 st)) (fun x => LQ f f' (eA_ false x)) (fun x => Dead (eA_ false x)) ⟨_, _, hr, rfl, rfl⟩ (fun st hst => ?_) (fun r r' hr hd => .inr (.inl ⟨hd, hr⟩)) fun s t hs => ?_) fun x x' hx => p4_ hx
   ·refine az_ (hΦ.1 _ _ ⟨hst.u, hst.m, hst.a, hst.b⟩) fun r hr => bc_ (fun hb => ?_) fun hb => ap_ ?_
    ·have hl := hr.yes hb
     refine az_ (st_l ⟨hf.1, h0⟩ hl.u (by have := hl.a; omega) hl.b _ _) fun y hy => ?_
     obtain ⟨b, t, cd, mt⟩ := y
     rcases hy with ⟨rfl, h⟩ | ⟨rfl, ha, hb, h, h'⟩
     ·exact bc_ (fun _ => ap_ (LQ.bad (by show cd ≠ 0; intro w; simp only at h; omega))) fun w => absurd rfl w
     ·exact bc_ (fun w => by cases w) fun _ => ap_ ⟨hl.u, hl.m, ha, hb⟩
    ·exact LQ.no (b := r.1) hr
   obtain ⟨A, A', hA, rfl, rfl⟩ := hs
   cases hA with
   | @mk env s st mo t nw cd mt mt' h =>
    have hr : RelF f f' me ⟨env, s, f, t, st, nw, cd, mt, mo, true, T.nilm, 0⟩ ⟨env, s, f', t, st, nw, cd, mt', 0, me, T.nilm, 0⟩ := .mk h
    refine aB_ (hΦ.2 c _ _ hr) fun r r' h => ?_
    obtain ⟨b, U⟩ := r
    obtain ⟨b', U'⟩ := r'
    rcases h with ⟨d1, d2⟩ | ⟨⟨h1, h1'⟩, h2⟩ | ⟨hq, hq', hq2⟩ | ⟨e1, e5⟩
    ·have d1 : b = false := d1
     subst d1
     exact lC_ (fun w => by cases w) (cl_ fun _ => .inl ⟨_, rfl, fun _ => .inl ⟨rfl, d2⟩⟩)
    ·have h1 : b' = false := h1
     subst h1
     refine gp_ (fun w => by cases w) (dy_ (bc_ (fun hb => ?_) fun _ => ap_ (.inr (.inr (.inl ⟨_, rfl, ⟨rfl, h1'⟩, LQ.no (b := b) h2⟩)))))
     have hl := h2.yes hb
     refine az_ (st_l ⟨hf.1, h0⟩ hl.u (by have := hl.a; omega) hl.b _ _) fun y hy => ?_
     obtain ⟨b, t, cd, mt⟩ := y
     rcases hy with ⟨rfl, h⟩ | ⟨rfl, ha, hb, h, h'⟩
     ·exact bc_ (fun _ => ap_ (.inr (.inr (.inl ⟨_, rfl, ⟨rfl, h1'⟩, LQ.bad (by show cd ≠ 0; intro w; simp only at h; omega)⟩)))) fun w => absurd rfl w
     ·exact bc_ (fun w => by cases w) fun _ => ap_ (.inr (.inr (.inl ⟨_, rfl, ⟨rfl, h1'⟩, ⟨hl.u, hl.m, ha, hb⟩⟩)))
    ·have hq' : b' = false := hq'
     subst hq'
     exact gp_ (fun w => by cases w) (dy_ fun _ _ => .inr (.inl ⟨_, rfl, fun _ => .inr (.inr (.inl ⟨hq, rfl, hq2⟩))⟩))
    ·have e1 : b = b' := e1
     subst e1
     cases b with
     | false => exact aW_ (fun w => by cases w) fun _ => au_ (.inr (.inr (.inr (.inr ⟨_, _, rfl, rfl, PF.rel false e5⟩))))
     | true =>
      obtain ⟨u1, u2, u3, u4, u5, u6, u7, u8, u9, u10, u11, u12⟩ := U
      obtain ⟨v1, v2, v3, v4, v5, v6, v7, v8, v9, v10, v11, v12⟩ := U'
      have e5 : RelF f f' me ⟨u1, u2, u3, u4, u5, u6, u7, u8, u9, u10, T.nilm, u12⟩ ⟨v1, v2, v3, v4, v5, v6, v7, v8, v9, v10, T.nilm, v12⟩ := e5
      cases e5 with
      | mk g =>
       refine aW_ (fun _ => aB_ (st_f hf g) fun y y' hy => ?_) fun w => absurd rfl w
       rcases hy with ⟨d1, d2⟩ | ⟨rfl, d1, d2, d3, d4⟩ | ⟨rfl, rfl, a1, a2⟩
       ·exact fC_ (by rw [d1]; rfl) (cl_ fun _ => .inl ⟨_, rfl, fun _ => .inl (bad7 rfl d2)⟩)
       ·exact lC_ (fun w => by cases w) (gJ_ (by rw [d1]; rfl) (au_ (.inr (.inr (.inl ⟨_, rfl, ⟨rfl, d2⟩, ⟨rfl, rfl, d3, d4⟩⟩)))))
       ·exact aW_ (fun w => by cases w) fun _ => au_ (.inr (.inr (.inr (.inl ⟨_, _, rfl, rfl, _, _, .mk ⟨Int.le_trans g.1 (Int.le_of_lt (Int.lt_add_one_iff.2 (Int.le_refl _))), a1, a2⟩, rfl, rfl⟩))))
  ·refine rc_f (appS 48 nw _) (fun y3 => decide (100 < w4 ((y3.l.length : Int) + (cd.l.length : Int)))) _ _ _ _ (fun q => aW_ (fun w => by cases w) fun _ => au_ (.inl (bad6 rfl))) fun q => aW_ (fun _ => aB_ (hΦ.2 _ _ _ (.mk q1)) fun r r' h => au_ h) fun w => absurd rfl w
  ·exact cM_ fun i => aW_ (fun _ => au_ (.inl ⟨rfl, by show (5 : Int) ≠ 0; decide⟩)) fun _ => cM_ fun q => aB_ (hR _ _ _ _ _ _ hr hΦ) fun r r' h => au_ h
end
theorem pq_ {f f' : Int} {me : Bool} (hf : f ≤ 20000 ∧ f' ≤ 20000) (h0 : 0 ≤ f') : ∀ n m, FR f f' me (BG_impl_search_match n).1 (BG_impl_search_match m).1 ∧ FR f f' me (BG_impl_search_match n).2 (BG_impl_search_match m).2
 | 0, _ => ⟨fun _ _ _ _ _ _ _ _ => hY_, fun _ _ _ _ _ _ _ _ => hY_⟩
 | n + 1, 0 => ⟨fun _ _ _ _ _ _ _ _ => h1_, fun _ _ _ _ _ _ _ _ => h1_⟩
 | n + 1, m + 1 => ⟨p5_ hf h0 (pq_ hf h0 n m).1 (pq_ hf h0 n m).2 (lu_ ⟨hf.1, h0⟩ n).1.kk (lu_ ⟨hf.1, h0⟩ n).2, si_ (pq_ hf h0 n m).1 (lu_ ⟨hf.1, h0⟩ n).1.kk⟩
end Go.Am
end
