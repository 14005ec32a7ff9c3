/- The law. -/
import Derived.Test.YtilalopohkdmdaaGreatAg1
import Derived.Test.YtilalopohkdmdaaGreatAl7
section
set_option maxRecDepth 100000
set_option maxHeartbeats 4000000
set_option linter.unusedVariables false
set_option linter.unusedSimpArgs false
namespace Go.Am
structure Clo (I : aa_ → aa_ → Prop) : Prop where
 same : ∀ {S S'}, I S S' → S'.env_ = S.env_ ∧ S'.subject_ = S.subject_
 upd : ∀ {S S'} (f t nw cd co f' t' nw' cd' co'), I S S' → I ⟨S.env_, S.subject_, f, t, S.start_, nw, cd, S.matches_, S.most_, S.isMere_, T.nilm, co⟩ ⟨S'.env_, S'.subject_, f', t', S'.start_, nw', cd', S'.matches_, S'.most_, S'.isMere_, T.nilm, co'⟩
def Bad (r : Bool × aa_) : Prop := r.1 = false ∧ r.2.code_ ≠ 0
theorem fO_ {α β : Type} {o : Option α} {o' : Option β} {P : α → Prop} {P' : β → Prop} (h : Gv o P) (h' : Gv o' P') : Gt o o' (fun a b => P a ∧ P' b) := fun r r' hr hr' => ⟨h r hr, h' r' hr'⟩
theorem a0_ {α β : Type} {o : Option α} {y : β} {P : α → β → Prop} (h : ∀ x, P x y) : Gt o (some y) P := fun r r' _ hr' => by injection hr' with hr'; subst hr'; exact h r
theorem gH_ {α β : Type} {c : Prop} [Decidable c] {a a' : Option β} {o : Option α} {P : α → β → Prop} (h : c) (k : Gt o a P) : Gt o (if c then a else a') P := by rw [if_pos h]; exact k
theorem gf_ {α β : Type} {c : Prop} [Decidable c] {a a' : Option α} {o : Option β} {P : α → β → Prop} (h : ¬ c) (k : Gt a' o P) : Gt (if c then a else a') o P := by rw [if_neg h]; exact k
theorem fH_ {α β : Type} {c : Prop} [Decidable c] {a a' : Option β} {o : Option α} {P : α → β → Prop} (h : ¬ c) (k : Gt o a' P) : Gt o (if c then a else a') P := by rw [if_neg h]; exact k
theorem ln_ {S T R R' : Type} {b : S → Option (S ⊕ R)} {b' : T → Option (T ⊕ R')} {s : S} {t : T} (I : S → T → Prop) {Q : R → R' → Prop} (h0 : I s t)
  (h : ∀ s t, I s t → Gt (b s) (b' t) (fun x x' => (∃ r, x = .inr r ∧ ∀ r', Q r r') ∨ (∃ r', x' = .inr r' ∧ ∀ r, Q r r') ∨ (∃ a a', x = .inl a ∧ x' = .inl a' ∧ I a a') ∨ (∃ a a', x = .inr a ∧ x' = .inr a' ∧ Q a a'))) : Gt (aD_ b s) (aD_ b' t) Q := fun r r' hr hr' => by
 obtain ⟨n, hn⟩ := bs_.1 hr
 clear hr
 induction n generalizing s t with
 | zero => cases hn
 | succ n ih =>
  simp only [iter] at hn
  cases hb : b s with
  | none => rw [hb] at hn; cases hn
  | some x =>
   rw [hb] at hn
   obtain ⟨n', hn'⟩ := bs_.1 hr'
   cases n' with
   | zero => cases hn'
   | succ n' =>
    simp only [iter] at hn'
    cases hb' : b' t with
    | none => rw [hb'] at hn'; cases hn'
    | some x' =>
     rw [hb'] at hn'
     rcases h s t h0 x x' hb hb' with ⟨a, rfl, k⟩ | ⟨a, rfl, k⟩ | ⟨a, a', rfl, rfl, k⟩ | ⟨a, a', rfl, rfl, k⟩
     ·injection hn with hn; subst hn; exact k r'
     ·injection hn' with hn'; subst hn'; exact k r
     ·exact ih k (bs_.2 ⟨n', hn'⟩) hn
     ·injection hn with hn; injection hn' with hn'; subst hn hn'; exact k
def PJ (I : aa_ → aa_ → Prop) (r r' : Bool × aa_) : Prop := Bad r ∨ Bad r' ∨ (r.1 = r'.1 ∧ I r.2 r'.2 ∧ (r.1 = true → r.2.code_ = 0 ∧ r'.2.code_ = 0))
section
variable {I : aa_ → aa_ → Prop} {R R2 R' R2' : MTy} {p : DPattern} {c : Int} {Φ Φ' : PhiT}
theorem Clo.ns (C : Clo I) {S S' : aa_} (h : I S S') : I (NS S) (NS S') := C.upd _ _ _ _ _ _ _ _ _ _ h
theorem PJ.no {b b' : Bool} {S S' : aa_} (h : PJ I (b, S) (b', S')) : PJ I (false, S) (false, S') := by
 rcases h with h | h | ⟨h1, h2, _⟩
 ·exact .inl ⟨rfl, h.2⟩
 ·exact .inr (.inl ⟨rfl, h.2⟩)
 ·exact .inr (.inr ⟨rfl, h2, fun h => (by cases h)⟩)
theorem PJ.ns (C : Clo I) {r r' : Bool × aa_} (h : PJ I r r') : PJ I (r.1, NS r.2) (r'.1, NS r'.2) := by
 rcases h with h | h | ⟨h1, h2, h3⟩
 ·exact .inl h
 ·exact .inr (.inl h)
 ·exact .inr (.inr ⟨h1, C.ns h2, h3⟩)
def PhiJ (I : aa_ → aa_ → Prop) (Φ Φ' : PhiT) : Prop := ∀ e S S', I S S' → S.code_ = 0 → S'.code_ = 0 → Gt (Φ e S) (Φ' e S') (PJ I)
def BJ (I : aa_ → aa_ → Prop) (R R' : MTy) : Prop := ∀ S S' p c Φ Φ', I S S' → S.code_ = 0 → S'.code_ = 0 → PhiJ I Φ Φ' → Gt (R S p c Φ) (R' S' p c Φ') (PJ I)
theorem j_ok {b : Bool} {S S' : aa_} (h : I S S') (h1 : S.code_ = 0) (h2 : S'.code_ = 0) : PJ I (b, S) (b, S') := .inr (.inr ⟨rfl, h, fun _ => ⟨h1, h2⟩⟩)
theorem j_k1 (C : Clo I) (hR : BJ I R R') (hΦ : PhiJ I Φ Φ') : PhiJ I (ag_ R R2 p Φ) (ag_ R' R2' p Φ') := fun e S S' h h1 h2 => by
 unfold ag_
 exact fC_ fun y => az_ (hR _ _ _ _ _ _ (C.ns h) h1 h2 hΦ) fun r r' h => aE_ (h.ns C)
theorem j_k2 (C : Clo I) (hR : BJ I R R') (hΦ : PhiJ I Φ Φ') : PhiJ I (ar_ R R2 c p Φ) (ar_ R' R2' c p Φ') := fun e S S' h h1 h2 => by
 unfold ar_
 exact bJ_ (fun _ => aE_ (j_ok (C.ns h) h1 h2)) fun _ => az_ (hR _ _ _ _ _ _ (C.ns h) h1 h2 hΦ) fun r r' h => aE_ (h.ns C)
def RcJ (cd : Int) (mt : Sl DMatch) (y : Bool × Int × Sl DCapture × Sl DMatch) : Prop := (y.1 = false ∧ y.2.1 = 6) ∨ (y.1 = true ∧ y.2.1 = cd ∧ y.2.2.2 = mt)
theorem rc_j (a : Sl DCapture) (x : DCapture) (cd : Int) (mt : Sl DMatch) (f : Sl DCapture → Int) : Gv ((appS 48 a (⟨false, [x]⟩ : Sl DCapture)).bind fun y3 => (if ((decide (100 < f y3))) = true then (some (false, (6 : Int), y3, (⟨true, []⟩ : Sl DMatch))) else (some (true, cd, y3, mt)))) (RcJ cd mt) :=
 as_ cE_ fun q _ => aW_ (fun _ => am_ (.inl ⟨rfl, rfl⟩)) fun _ => am_ (.inr ⟨rfl, rfl, rfl⟩)
theorem j_k3 (C : Clo I) (hΦ : PhiJ I Φ Φ') : PhiJ I (ak_ R R2 p c Φ) (ak_ R' R2' p c Φ') := fun e S S' h h1 h2 => by
 obtain ⟨env, s, f, t, st, nw, cd, mt, mo, me, ct, co⟩ := S
 obtain ⟨env', s', f', t', st', nw', cd', mt', mo', me', ct', co'⟩ := S'
 obtain ⟨g1, g2⟩ := C.same h
 simp only at g1 g2 h1 h2
 subst g1 g2 h1 h2
 unfold ak_
 refine fC_ fun y => bJ_ (fun _ => az_ (fO_ (rc_j nw _ 0 mt _) (rc_j nw' _ 0 mt' _)) fun q q' hq => ?_) fun _ => az_ (Q := fun q q' => PJ I (q.1, D11 q.2) (q'.1, D11 q'.2)) (az_ (fO_ (rc_j cd _ 0 mt _) (rc_j cd' _ 0 mt' _)) fun q q' hq => ?_) fun q q' hq => ?_
 ·obtain ⟨b, k, cs, m⟩ := q
  obtain ⟨b', k', cs', m'⟩ := q'
  rcases hq with ⟨⟨rfl, a2⟩ | ⟨rfl, a2, a3⟩, hq'⟩
  ·exact gf_ (by simp) (bn_ fun _ => .inl ⟨rfl, by show k ≠ 0; intro w; simp only at a2; omega⟩)
  rcases hq' with ⟨rfl, a2'⟩ | ⟨rfl, a2', a3'⟩
  ·exact fH_ (by simp) (a0_ fun _ => .inr (.inl ⟨rfl, by show k' ≠ 0; intro w; simp only at a2'; omega⟩))
  simp only at a2 a3 a2' a3'
  subst a2 a3 a2' a3'
  exact bJ_ (fun _ => az_ (hΦ _ _ _ (C.upd _ _ _ _ _ _ _ _ _ _ h) rfl rfl) fun r r' h => aE_ (h.ns C)) fun w => absurd rfl w
 ·obtain ⟨b, k, cs, m⟩ := q
  obtain ⟨b', k', cs', m'⟩ := q'
  rcases hq with ⟨⟨rfl, a2⟩ | ⟨rfl, a2, a3⟩, hq'⟩
  ·exact gf_ (by simp) (bn_ fun _ => .inl ⟨rfl, by show k ≠ 0; intro w; simp only at a2; omega⟩)
  rcases hq' with ⟨rfl, a2'⟩ | ⟨rfl, a2', a3'⟩
  ·exact fH_ (by simp) (a0_ fun _ => .inr (.inl ⟨rfl, by show k' ≠ 0; intro w; simp only at a2'; omega⟩))
  simp only at a2 a3 a2' a3'
  subst a2 a3 a2' a3'
  exact bJ_ (fun _ => az_ (hΦ _ _ _ (C.upd _ _ _ _ _ _ _ _ _ _ h) rfl rfl) fun r r' h => aE_ (h.ns C)) fun w => absurd rfl w
 ·refine az_ (Q := fun _ _ => True) (fun _ _ _ _ => trivial) fun w w' _ => aE_ ?_
  rcases hq with hq | hq | ⟨e1, e2, e3⟩
  ·exact .inl hq
  ·exact .inr (.inl hq)
  ·exact .inr (.inr ⟨e1, C.upd _ _ _ _ _ _ _ _ _ _ e2, e3⟩)
theorem lE_ {α β : Type} {r r' : Bool × aa_} {a b : Option α} {a' b' : Option β} {P : α → β → Prop} (h : PJ I r r') (k1 : Bad r → Gt b b' P) (k1' : Bad r → r'.1 = true → Gt b a' P) (k2 : Bad r' → Gt b b' P) (k2' : Bad r' → r.1 = true → Gt a b' P) (k3 : r.1 = true → r'.1 = true → I r.2 r'.2 → r.2.code_ = 0 → r'.2.code_ = 0 → Gt a a' P) (k4 : r.1 = false → r'.1 = false → I r.2 r'.2 → Gt b b' P) :
  Gt (if r.1 = true then a else b) (if r'.1 = true then a' else b') P := by
 rcases h with h | h | ⟨h1, h2, h3⟩
 ·rw [if_neg (by rw [h.1]; simp)]
  by_cases q : r'.1 = true
  ·rw [if_pos q]; exact k1' h q
  ·rw [if_neg q]; exact k1 h
 ·rw [if_neg (c := r'.1 = true) (by rw [h.1]; simp)]
  by_cases q : r.1 = true
  ·rw [if_pos q]; exact k2' h q
  ·rw [if_neg q]; exact k2 h
 ·by_cases q : r.1 = true
  ·rw [if_pos q, if_pos (h1 ▸ q)]; exact k3 q (h1 ▸ q) h2 (h3 q).1 (h3 q).2
  ·have q1 : r.1 = false := by cases h : r.1 <;> simp [h] at q ⊢
   rw [if_neg q, if_neg (h1 ▸ q)]; exact k4 q1 (h1 ▸ q1) h2
theorem nn_ {α β : Type} {r r' : Bool × aa_} {a b : Option α} {a' b' : Option β} {P : α → β → Prop} (h : PJ I r r') (k1 : Bad r → Gt b b' P) (k1' : Bad r → r'.1 = true → Gt b a' P) (k2 : Bad r' → Gt b b' P) (k2' : Bad r' → r.1 = true → Gt a b' P) (k3 : r.1 = true → r'.1 = true → I r.2 r'.2 → r.2.code_ = 0 → r'.2.code_ = 0 → Gt a a' P) (k4 : r.1 = false → r'.1 = false → I r.2 r'.2 → Gt b b' P) :
  Gt (if (!r.1) = true then b else a) (if (!r'.1) = true then b' else a') P := by
 have e : ∀ {α : Type} (r : Bool × aa_) (a b : Option α), (if (!r.1) = true then b else a) = if r.1 = true then a else b := fun r a b => by cases r.1 <;> rfl
 rw [e, e]
 exact lE_ h k1 k1' k2 k2' k3 k4
theorem sQ_ (C : Clo I) (hR : BJ I R R') : BJ I (aj_ R R2) (aj_ R' R2') := fun S S' p c Φ Φ' h h1 h2 hΦ => by
 unfold aj_
 have hn := C.ns h
 refine fC_ fun q => bJ_ (fun _ => az_ (hR _ _ _ _ _ _ hn h1 h2 hΦ) fun r r' h => ?_) fun _ => bJ_ (fun _ => az_ (hR _ _ _ _ _ _ hn h1 h2 (j_k1 C hR hΦ)) fun r r' h => aE_ (h.ns C)) fun _ => bJ_ (fun _ => az_ (hΦ _ _ _ hn h1 h2) fun r r' h => ?_) fun _ => az_ (hR _ _ _ _ _ _ hn h1 h2 (j_k3 C hΦ)) fun r r' h => aE_ (h.ns C)
 ·exact lE_ h (fun b => bn_ fun _ => .inl ⟨rfl, b.2⟩) (fun b _ => bn_ fun _ => .inl ⟨rfl, b.2⟩) (fun b => a0_ fun _ => .inr (.inl ⟨rfl, b.2⟩)) (fun b _ => a0_ fun _ => .inr (.inl ⟨rfl, b.2⟩)) (fun _ _ hi e1 e2 => fC_ fun q => az_ (hR _ _ _ _ _ _ (C.ns hi) e1 e2 hΦ) fun r r' h => aE_ (h.ns C)) fun _ _ hi => aE_ (.inr (.inr ⟨rfl, C.ns hi, fun h => (by cases h)⟩))
 ·exact lE_ h (fun b => bn_ fun _ => .inl ⟨rfl, b.2⟩) (fun b _ => bn_ fun _ => .inl ⟨rfl, b.2⟩) (fun b => a0_ fun _ => .inr (.inl ⟨rfl, b.2⟩)) (fun b _ => a0_ fun _ => .inr (.inl ⟨rfl, b.2⟩)) (fun _ _ hi e1 e2 => az_ (hR _ _ _ _ _ _ (C.ns hi) e1 e2 (j_k2 C hR hΦ)) fun r r' h => aE_ (h.ns C)) fun _ _ hi => aE_ (.inr (.inr ⟨rfl, C.ns hi, fun h => (by cases h)⟩))
theorem resJ {b : Bool} {x x' : T11 ⊕ (Bool × aa_)} (h : PJ I (ei_ b x) (ei_ b x')) : Gt (Sum.elim (fun y => some (b, D11 y)) (fun y => some y) x) (Sum.elim (fun y => some (b, D11 y)) (fun y => some y) x') (PJ I) := by
 cases x <;> cases x' <;> exact aE_ h
theorem qq_ (C : Clo I) (hR : BJ I R R') (hR2 : BJ I R2 R2') : BJ I (ac_ R R2) (ac_ R' R2') := fun S S' p c Φ Φ' h h1 h2 hΦ => by
 obtain ⟨env, s, f, t, st, nw, cd, mt, mo, me, ct, co⟩ := S
 obtain ⟨env', s', f', t', st', nw', cd', mt', mo', me', ct', co'⟩ := S'
 obtain ⟨g1, g2⟩ := C.same h
 simp only at g1 g2 h1 h2
 subst g1 g2 h1 h2
 unfold ac_
 refine az_ (fO_ (st_q t f 0 mt) (st_q t' f' 0 mt')) fun y y' hy => ?_
 obtain ⟨b, k, cs, m⟩ := y
 obtain ⟨b', k', cs', m'⟩ := y'
 rcases hy with ⟨⟨rfl, a2⟩ | ⟨rfl, a2, a3⟩, hq'⟩
 ·exact gG_ rfl (bn_ fun _ => .inl ⟨rfl, by show cs ≠ 0; intro w; simp only at a2; omega⟩)
 rcases hq' with ⟨rfl, a2'⟩ | ⟨rfl, a2', a3'⟩
 ·exact gH_ rfl (a0_ fun _ => .inr (.inl ⟨rfl, by show cs' ≠ 0; intro w; simp only at a2'; omega⟩))
 simp only at a2 a3 a2' a3'
 subst a2 a3 a2' a3'
 have hr : I ⟨env', s', f, k, st, nw, cd, m, mo, me, T.nilm, 0⟩ ⟨env', s', f', k', st', nw', cd', m', mo', me', T.nilm, 0⟩ := C.upd f k nw cd 0 f' k' nw' cd' 0 h
 refine bJ_ (fun w => by cases w) fun _ => bJ_ (fun _ => ?_) fun _ => bJ_ (fun _ => fC_ fun v => ?_) fun _ => bJ_ (fun _ => az_ (hΦ _ _ _ hr rfl rfl) fun r r' h => aE_ (PJ.no (b := r.1) (b' := r'.1) (h.ns C))) fun _ => bJ_ (fun _ => aE_ (j_ok hr rfl rfl)) fun _ => bJ_ (fun _ => aE_ (j_ok hr rfl rfl)) fun _ => bJ_ (fun _ => ?_) fun _ => bJ_ (fun _ => ?_) fun _ => bJ_ (fun _ => ?_) fun _ => bJ_ (fun _ => az_ (hR2 _ _ _ _ _ _ hr rfl rfl hΦ) fun r r' h => aE_ (h.ns C)) fun _ => fC_ fun e => bJ_ (fun _ => aE_ (j_ok hr rfl rfl)) fun _ => az_ (hΦ _ _ _ hr rfl rfl) fun r r' h => aE_ (h.ns C)
 ·refine az_ (Q := fun x x' => PJ I (ei_ true x) (ei_ true x')) (ln_ (fun (s t : Int × T11) => ∃ j A A', I A A' ∧ A.code_ = 0 ∧ A'.code_ = 0 ∧ s = (j, fD_ A) ∧ t = (j, fD_ A')) ⟨c, _, _, hr, rfl, rfl, rfl, rfl⟩ fun s t hs => ?_) fun x x' hx => resJ hx
  obtain ⟨j, A, A', hA, z1, z2, rfl, rfl⟩ := hs
  obtain ⟨env, s, f, t, st, nw, cd, mt, mo, me, ct, co⟩ := A
  obtain ⟨env', s', f', t', st', nw', cd', mt', mo', me', ct', co'⟩ := A'
  obtain ⟨g1, g2⟩ := C.same hA
  simp only at g1 g2 z1 z2
  subst g1 g2 z1 z2
  have hr := C.ns hA
  refine bJ_ (fun _ => az_ (hΦ j _ _ hr rfl rfl) fun r r' h => nn_ h (fun b => bn_ fun _ => .inl ⟨_, rfl, fun _ => .inl ⟨rfl, b.2⟩⟩) (fun b _ => bn_ fun _ => .inl ⟨_, rfl, fun _ => .inl ⟨rfl, b.2⟩⟩) (fun b => a0_ fun _ => .inr (.inl ⟨_, rfl, fun _ => .inr (.inl ⟨rfl, b.2⟩)⟩)) (fun b _ => a0_ fun _ => .inr (.inl ⟨_, rfl, fun _ => .inr (.inl ⟨rfl, b.2⟩)⟩)) (fun _ _ hi e1 e2 => aE_ (.inr (.inr (.inl ⟨_, _, rfl, rfl, _, _, _, C.ns hi, e1, e2, rfl, rfl⟩)))) fun _ _ hi => aE_ (.inr (.inr (.inr ⟨_, _, rfl, rfl, .inr (.inr ⟨rfl, C.ns hi, fun h => (by cases h)⟩)⟩)))) fun _ => aE_ (.inr (.inr (.inr ⟨_, _, rfl, rfl, j_ok hr rfl rfl⟩)))
 ·refine az_ (Q := fun x x' => PJ I (ei_ true x) (ei_ true x')) (ln_ (fun (s t : Int × T11) => ∃ j A A', I A A' ∧ A.code_ = 0 ∧ A'.code_ = 0 ∧ s = (j, fD_ A) ∧ t = (j, fD_ A')) ⟨v, _, _, hr, rfl, rfl, rfl, rfl⟩ fun s t hs => ?_) fun x x' hx => resJ hx
  obtain ⟨j, A, A', hA, z1, z2, rfl, rfl⟩ := hs
  have hr := C.ns hA
  refine bJ_ (fun _ => az_ (hΦ j _ _ hr z1 z2) fun r r' h => nn_ h (fun b => bn_ fun _ => .inl ⟨_, rfl, fun _ => .inl ⟨rfl, b.2⟩⟩) (fun b _ => bn_ fun _ => .inl ⟨_, rfl, fun _ => .inl ⟨rfl, b.2⟩⟩) (fun b => a0_ fun _ => .inr (.inl ⟨_, rfl, fun _ => .inr (.inl ⟨rfl, b.2⟩)⟩)) (fun b _ => a0_ fun _ => .inr (.inl ⟨_, rfl, fun _ => .inr (.inl ⟨rfl, b.2⟩)⟩)) (fun _ _ hi e1 e2 => ?_) fun _ _ hi => aE_ (.inr (.inr (.inr ⟨_, _, rfl, rfl, .inr (.inr ⟨rfl, C.ns hi, fun h => (by cases h)⟩)⟩)))) fun _ => aE_ (.inr (.inr (.inr ⟨_, _, rfl, rfl, j_ok hr z1 z2⟩)))
  refine az_ (Q := fun a b => a = b) (fun x y hx hy => ?_) fun a b hab => ?_
  ·have hx : a2_ _ c j = some x := hx
   have hy : a2_ _ c j = some y := hy
   rw [(C.same hi).2] at hy
   rw [hx] at hy
   injection hy
  ·subst hab
   exact aE_ (.inr (.inr (.inl ⟨_, _, rfl, rfl, _, _, _, C.ns hi, e1, e2, rfl, rfl⟩)))
 ·refine az_ (Q := fun x x' => PJ I (ei_ false x) (ei_ false x')) (ln_ (fun (s t : T11) => ∃ A A', I A A' ∧ A.code_ = 0 ∧ A'.code_ = 0 ∧ s = fD_ A ∧ t = fD_ A') ⟨_, _, hr, rfl, rfl, rfl, rfl⟩ fun s t hs => ?_) fun x x' hx => resJ hx
  obtain ⟨A, A', hA, z1, z2, rfl, rfl⟩ := hs
  have hr := C.ns hA
  refine az_ (hΦ c _ _ hr z1 z2) fun r r' h => lE_ h (fun b => bn_ fun _ => .inl ⟨_, rfl, fun _ => .inl ⟨rfl, b.2⟩⟩) (fun b _ => bn_ fun _ => .inl ⟨_, rfl, fun _ => .inl ⟨rfl, b.2⟩⟩) (fun b => a0_ fun _ => .inr (.inl ⟨_, rfl, fun _ => .inr (.inl ⟨rfl, b.2⟩)⟩)) (fun b _ => a0_ fun _ => .inr (.inl ⟨_, rfl, fun _ => .inr (.inl ⟨rfl, b.2⟩)⟩)) (fun _ _ hi e1 e2 => az_ (fO_ (st_q _ _ _ _) (st_q _ _ _ _)) fun y y' hy => ?_) fun _ _ hi => aE_ (.inr (.inr (.inr ⟨_, _, rfl, rfl, .inr (.inr ⟨rfl, C.ns hi, fun h => (by cases h)⟩)⟩)))
  obtain ⟨b, k, cs, m⟩ := y
  obtain ⟨b', k', cs', m'⟩ := y'
  rcases hy with ⟨⟨rfl, a2⟩ | ⟨rfl, a2, a3⟩, hq'⟩
  ·exact gG_ rfl (bn_ fun _ => .inl ⟨_, rfl, fun _ => .inl ⟨rfl, by show cs ≠ 0; intro w; simp only at a2; omega⟩⟩)
  rcases hq' with ⟨rfl, a2'⟩ | ⟨rfl, a2', a3'⟩
  ·exact gH_ rfl (a0_ fun _ => .inr (.inl ⟨_, rfl, fun _ => .inr (.inl ⟨rfl, by show cs' ≠ 0; intro w; simp only at a2'; omega⟩)⟩))
  simp only at a2 a3 a2' a3'
  subst a2 a3 a2' a3'
  exact bJ_ (fun w => by cases w) fun _ => aE_ (.inr (.inr (.inl ⟨_, _, rfl, rfl, ⟨r.2.env_, r.2.subject_, r.2.fuel_, k, r.2.start_, r.2.now_, r.2.conds_, r.2.matches_, r.2.most_, r.2.isMere_, T.nilm, r.2.code_⟩, ⟨r'.2.env_, r'.2.subject_, r'.2.fuel_, k', r'.2.start_, r'.2.now_, r'.2.conds_, r'.2.matches_, r'.2.most_, r'.2.isMere_, T.nilm, r'.2.code_⟩, C.upd _ _ _ _ _ _ _ _ _ _ hi, e1, e2, rfl, rfl⟩)))
 ·refine az_ (fO_ (rc_j nw _ 0 m _) (rc_j nw' _ 0 m' _)) fun q q' hq => ?_
  obtain ⟨b, kk, cs, mm⟩ := q
  obtain ⟨b', kk', cs', mm'⟩ := q'
  rcases hq with ⟨⟨rfl, a2⟩ | ⟨rfl, a2, a3⟩, hq'⟩
  ·exact gf_ (by simp) (bn_ fun _ => .inl ⟨rfl, by show kk ≠ 0; intro w; simp only at a2; omega⟩)
  rcases hq' with ⟨rfl, a2'⟩ | ⟨rfl, a2', a3'⟩
  ·exact fH_ (by simp) (a0_ fun _ => .inr (.inl ⟨rfl, by show kk' ≠ 0; intro w; simp only at a2'; omega⟩))
  simp only at a2 a3 a2' a3'
  subst a2 a3 a2' a3'
  exact bJ_ (fun _ => az_ (hΦ _ _ _ (C.upd _ _ _ _ _ _ _ _ _ _ h) rfl rfl) fun r r' h => aE_ (h.ns C)) fun w => absurd rfl w
 ·exact fC_ fun i => bJ_ (fun _ => bn_ fun _ => .inl ⟨rfl, by show (5 : Int) ≠ 0; decide⟩) fun _ => fC_ fun q => az_ (hR _ _ _ _ _ _ hr rfl rfl hΦ) fun r r' h => aE_ (h.ns C)
theorem nS_ (C : Clo I) : ∀ n m, BJ I (BG_impl_search_match n).1 (BG_impl_search_match m).1 ∧ BJ I (BG_impl_search_match n).2 (BG_impl_search_match m).2
 | 0, _ => ⟨fun _ _ _ _ _ _ _ _ _ _ => hK_, fun _ _ _ _ _ _ _ _ _ _ => hK_⟩
 | n + 1, 0 => ⟨fun _ _ _ _ _ _ _ _ _ _ => hN_, fun _ _ _ _ _ _ _ _ _ _ => hN_⟩
 | n + 1, m + 1 => ⟨qq_ C (nS_ C n m).1 (nS_ C n m).2, sQ_ C (nS_ C n m).1⟩
end
end Go.Am
end
