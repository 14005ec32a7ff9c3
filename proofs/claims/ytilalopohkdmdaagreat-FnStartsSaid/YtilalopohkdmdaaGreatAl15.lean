/- The law. -/
import Derived.Test.YtilalopohkdmdaaGreatAg1
import Derived.Test.YtilalopohkdmdaaGreatAl14
section
set_option maxRecDepth 100000
set_option maxHeartbeats 4000000
set_option linter.unusedVariables false
set_option linter.unusedSimpArgs false
namespace Go.Am
structure Clo (I : aa_ → aa_ → Prop) : Prop where
 same : ∀ {S S'}, I S S' → S'.env_ = S.env_ ∧ S'.subject_ = S.subject_
 upd : ∀ {S S'} (f t nw cd co f' t' nw' cd' co'), I S S' → I ⟨S.env_, S.subject_, f, t, S.start_, nw, cd, S.matches_, S.most_, S.isMere_, T.nilm, co⟩ ⟨S'.env_, S'.subject_, f', t', S'.start_, nw', cd', S'.matches_, S'.most_, S'.isMere_, T.nilm, co'⟩
def Bad (r : Bool × aa_) : Prop := r.1 = false ∧ r.2.code_ ≠ 0
theorem gH_ {α β : Type} {o : Option α} {o' : Option β} {P : α → Prop} {P' : β → Prop} (h : Gv o P) (h' : Gv o' P') : Gt o o' (fun a b => P a ∧ P' b) := fun r r' hr hr' => ⟨h r hr, h' r' hr'⟩
theorem bo_ {α β : Type} {o : Option α} {y : β} {P : α → β → Prop} (h : ∀ x, P x y) : Gt o (some y) P := fun r r' _ hr' => by injection hr' with hr'; subst hr'; exact h r
theorem l6_ {α β : Type} {c : Prop} [Decidable c] {a a' : Option β} {o : Option α} {P : α → β → Prop} (h : c) (k : Gt o a P) : Gt o (if c then a else a') P := by rw [if_pos h]; exact k
theorem hV_ {α β : Type} {c : Prop} [Decidable c] {a a' : Option α} {o : Option β} {P : α → β → Prop} (h : ¬ c) (k : Gt a' o P) : Gt (if c then a else a') o P := by rw [if_neg h]; exact k
theorem jI_ {α β : Type} {c : Prop} [Decidable c] {a a' : Option β} {o : Option α} {P : α → β → Prop} (h : ¬ c) (k : Gt o a' P) : Gt o (if c then a else a') P := by rw [if_neg h]; exact k
theorem li_ {S T R R' : Type} {b : S → Option (S ⊕ R)} {b' : T → Option (T ⊕ R')} {s : S} {t : T} (I : S → T → Prop) {Q : R → R' → Prop} (h0 : I s t)
  (h : ∀ s t, I s t → Gt (b s) (b' t) (fun x x' => (∃ r, x = .inr r ∧ ∀ r', Q r r') ∨ (∃ r', x' = .inr r' ∧ ∀ r, Q r r') ∨ (∃ a a', x = .inl a ∧ x' = .inl a' ∧ I a a') ∨ (∃ a a', x = .inr a ∧ x' = .inr a' ∧ Q a a'))) : Gt (aD_ b s) (aD_ b' t) Q := fun r r' hr hr' => by
 obtain ⟨n, hn⟩ := bD_.1 hr
 clear hr
 induction n generalizing s t with
 | zero => cases hn
 | succ n ih =>
  simp only [iter] at hn
  cases hb : b s with
  | none => rw [hb] at hn; cases hn
  | some x =>
   rw [hb] at hn
   obtain ⟨n', hn'⟩ := bD_.1 hr'
   cases n' with
   | zero => cases hn'
   | succ n' =>
    simp only [iter] at hn'
    cases hb' : b' t with
    | none => rw [hb'] at hn'; cases hn'
    | some x' =>
     rw [hb'] at hn'
     rcases h s t h0 x x' hb hb' with ⟨a, rfl, k⟩ | ⟨a, rfl, k⟩ | ⟨a, a', rfl, rfl, k⟩ | ⟨a, a', rfl, rfl, k⟩
     ·injection hn with hn; subst hn; exact k r'
     ·injection hn' with hn'; subst hn'; exact k r
     ·exact ih k (bD_.2 ⟨n', hn'⟩) hn
     ·injection hn with hn; injection hn' with hn'; subst hn hn'; exact k
def PJ (I : aa_ → aa_ → Prop) (r r' : Bool × aa_) : Prop := Bad r ∨ Bad r' ∨ (r.1 = r'.1 ∧ I r.2 r'.2 ∧ (r.1 = true → r.2.code_ = 0 ∧ r'.2.code_ = 0))
section
variable {I : aa_ → aa_ → Prop} {R R2 R' R2' : MTy} {p : DPattern} {c : Int} {Φ Φ' : PhiT}
theorem Clo.ns (C : Clo I) {S S' : aa_} (h : I S S') : I (NS S) (NS S') := C.upd _ _ _ _ _ _ _ _ _ _ h
theorem PJ.no {b b' : Bool} {S S' : aa_} (h : PJ I (b, S) (b', S')) : PJ I (false, S) (false, S') := by
 rcases h with h | h | ⟨h1, h2, _⟩
 ·exact .inl ⟨rfl, h.2⟩
 ·exact .inr (.inl ⟨rfl, h.2⟩)
 ·exact .inr (.inr ⟨rfl, h2, fun h => (by cases h)⟩)
theorem PJ.ns (C : Clo I) {r r' : Bool × aa_} (h : PJ I r r') : PJ I (r.1, NS r.2) (r'.1, NS r'.2) := by
 rcases h with h | h | ⟨h1, h2, h3⟩
 ·exact .inl h
 ·exact .inr (.inl h)
 ·exact .inr (.inr ⟨h1, C.ns h2, h3⟩)
def PhiJ (I : aa_ → aa_ → Prop) (Φ Φ' : PhiT) : Prop := ∀ e S S', I S S' → S.code_ = 0 → S'.code_ = 0 → Gt (Φ e S) (Φ' e S') (PJ I)
def BJ (I : aa_ → aa_ → Prop) (R R' : MTy) : Prop := ∀ S S' p c Φ Φ', I S S' → S.code_ = 0 → S'.code_ = 0 → PhiJ I Φ Φ' → Gt (R S p c Φ) (R' S' p c Φ') (PJ I)
theorem j_ok {b : Bool} {S S' : aa_} (h : I S S') (h1 : S.code_ = 0) (h2 : S'.code_ = 0) : PJ I (b, S) (b, S') := .inr (.inr ⟨rfl, h, fun _ => ⟨h1, h2⟩⟩)
theorem j_k1 (C : Clo I) (hR : BJ I R R') (hΦ : PhiJ I Φ Φ') : PhiJ I (aq_ R R2 p Φ) (aq_ R' R2' p Φ') := fun e S S' h h1 h2 => by
 unfold aq_
 exact dA_ fun y => ay_ (hR _ _ _ _ _ _ (C.ns h) h1 h2 hΦ) fun r r' h => aA_ (h.ns C)
theorem j_k2 (C : Clo I) (hR : BJ I R R') (hΦ : PhiJ I Φ Φ') : PhiJ I (an_ R R2 c p Φ) (an_ R' R2' c p Φ') := fun e S S' h h1 h2 => by
 unfold an_
 exact bu_ (fun _ => aA_ (j_ok (C.ns h) h1 h2)) fun _ => ay_ (hR _ _ _ _ _ _ (C.ns h) h1 h2 hΦ) fun r r' h => aA_ (h.ns C)
def RcJ (cd : Int) (mt : Sl DMatch) (y : Bool × Int × Sl DCapture × Sl DMatch) : Prop := (y.1 = false ∧ y.2.1 = 6) ∨ (y.1 = true ∧ y.2.1 = cd ∧ y.2.2.2 = mt)
theorem rc_j (a : Sl DCapture) (x : DCapture) (cd : Int) (mt : Sl DMatch) (f : Sl DCapture → Int) : Gv ((appS 48 a (⟨false, [x]⟩ : Sl DCapture)).bind fun y3 => (if ((decide (100 < f y3))) = true then (some (false, (6 : Int), y3, (⟨true, []⟩ : Sl DMatch))) else (some (true, cd, y3, mt)))) (RcJ cd mt) :=
 au_ dd_ fun q _ => aZ_ (fun _ => ar_ (.inl ⟨rfl, rfl⟩)) fun _ => ar_ (.inr ⟨rfl, rfl, rfl⟩)
theorem j_k3 (C : Clo I) (hΦ : PhiJ I Φ Φ') : PhiJ I (aj_ R R2 p c Φ) (aj_ R' R2' p c Φ') := fun e S S' h h1 h2 => by
 obtain ⟨env, s, f, t, st, nw, cd, mt, mo, me, ct, co⟩ := S
 obtain ⟨env', s', f', t', st', nw', cd', mt', mo', me', ct', co'⟩ := S'
 obtain ⟨g1, g2⟩ := C.same h
 simp only at g1 g2 h1 h2
 subst g1 g2 h1 h2
 unfold aj_
 refine dA_ fun y => bu_ (fun _ => ay_ (gH_ (rc_j nw _ 0 mt _) (rc_j nw' _ 0 mt' _)) fun q q' hq => ?_) fun _ => ay_ (Q := fun q q' => PJ I (q.1, D11 q.2) (q'.1, D11 q'.2)) (ay_ (gH_ (rc_j cd _ 0 mt _) (rc_j cd' _ 0 mt' _)) fun q q' hq => ?_) fun q q' hq => ?_
 ·obtain ⟨b, k, cs, m⟩ := q
  obtain ⟨b', k', cs', m'⟩ := q'
  rcases hq with ⟨⟨rfl, a2⟩ | ⟨rfl, a2, a3⟩, hq'⟩
  ·exact hV_ (by simp) (a3_ fun _ => .inl ⟨rfl, by show k ≠ 0; intro w; simp only at a2; omega⟩)
  rcases hq' with ⟨rfl, a2'⟩ | ⟨rfl, a2', a3'⟩
  ·exact jI_ (by simp) (bo_ fun _ => .inr (.inl ⟨rfl, by show k' ≠ 0; intro w; simp only at a2'; omega⟩))
  simp only at a2 a3 a2' a3'
  subst a2 a3 a2' a3'
  exact bu_ (fun _ => ay_ (hΦ _ _ _ (C.upd _ _ _ _ _ _ _ _ _ _ h) rfl rfl) fun r r' h => aA_ (h.ns C)) fun w => absurd rfl w
 ·obtain ⟨b, k, cs, m⟩ := q
  obtain ⟨b', k', cs', m'⟩ := q'
  rcases hq with ⟨⟨rfl, a2⟩ | ⟨rfl, a2, a3⟩, hq'⟩
  ·exact hV_ (by simp) (a3_ fun _ => .inl ⟨rfl, by show k ≠ 0; intro w; simp only at a2; omega⟩)
  rcases hq' with ⟨rfl, a2'⟩ | ⟨rfl, a2', a3'⟩
  ·exact jI_ (by simp) (bo_ fun _ => .inr (.inl ⟨rfl, by show k' ≠ 0; intro w; simp only at a2'; omega⟩))
  simp only at a2 a3 a2' a3'
  subst a2 a3 a2' a3'
  exact bu_ (fun _ => ay_ (hΦ _ _ _ (C.upd _ _ _ _ _ _ _ _ _ _ h) rfl rfl) fun r r' h => aA_ (h.ns C)) fun w => absurd rfl w
 ·refine ay_ (Q := fun _ _ => True) (fun _ _ _ _ => trivial) fun w w' _ => aA_ ?_
  rcases hq with hq | hq | ⟨e1, e2, e3⟩
  ·exact .inl hq
  ·exact .inr (.inl hq)
  ·exact .inr (.inr ⟨e1, C.upd _ _ _ _ _ _ _ _ _ _ e2, e3⟩)
theorem lH_ {α β : Type} {r r' : Bool × aa_} {a b : Option α} {a' b' : Option β} {P : α → β → Prop} (h : PJ I r r') (k1 : Bad r → Gt b b' P) (k1' : Bad r → r'.1 = true → Gt b a' P) (k2 : Bad r' → Gt b b' P) (k2' : Bad r' → r.1 = true → Gt a b' P) (k3 : r.1 = true → r'.1 = true → I r.2 r'.2 → r.2.code_ = 0 → r'.2.code_ = 0 → Gt a a' P) (k4 : r.1 = false → r'.1 = false → I r.2 r'.2 → Gt b b' P) :
  Gt (if r.1 = true then a else b) (if r'.1 = true then a' else b') P := by
 rcases h with h | h | ⟨h1, h2, h3⟩
 ·rw [if_neg (by rw [h.1]; simp)]
  by_cases q : r'.1 = true
  ·rw [if_pos q]; exact k1' h q
  ·rw [if_neg q]; exact k1 h
 ·rw [if_neg (c := r'.1 = true) (by rw [h.1]; simp)]
  by_cases q : r.1 = true
  ·rw [if_pos q]; exact k2' h q
  ·rw [if_neg q]; exact k2 h
 ·by_cases q : r.1 = true
  ·rw [if_pos q, if_pos (h1 ▸ q)]; exact k3 q (h1 ▸ q) h2 (h3 q).1 (h3 q).2
  ·have q1 : r.1 = false := by cases h : r.1 <;> simp [h] at q ⊢
   rw [if_neg q, if_neg (h1 ▸ q)]; exact k4 q1 (h1 ▸ q1) h2
theorem no_ {α β : Type} {r r' : Bool × aa_} {a b : Option α} {a' b' : Option β} {P : α → β → Prop} (h : PJ I r r') (k1 : Bad r → Gt b b' P) (k1' : Bad r → r'.1 = true → Gt b a' P) (k2 : Bad r' → Gt b b' P) (k2' : Bad r' → r.1 = true → Gt a b' P) (k3 : r.1 = true → r'.1 = true → I r.2 r'.2 → r.2.code_ = 0 → r'.2.code_ = 0 → Gt a a' P) (k4 : r.1 = false → r'.1 = false → I r.2 r'.2 → Gt b b' P) :
  Gt (if (!r.1) = true then b else a) (if (!r'.1) = true then b' else a') P := by
 have e : ∀ {α : Type} (r : Bool × aa_) (a b : Option α), (if (!r.1) = true then b else a) = if r.1 = true then a else b := fun r a b => by cases r.1 <;> rfl
 rw [e, e]
 exact lH_ h k1 k1' k2 k2' k3 k4
theorem sO_ (C : Clo I) (hR : BJ I R R') : BJ I (ai_ R R2) (ai_ R' R2') := fun S S' p c Φ Φ' h h1 h2 hΦ => by
 unfold ai_
 have hn := C.ns h
 refine dA_ fun q => bu_ (fun _ => ay_ (hR _ _ _ _ _ _ hn h1 h2 hΦ) fun r r' h => ?_) fun _ => bu_ (fun _ => ay_ (hR _ _ _ _ _ _ hn h1 h2 (j_k1 C hR hΦ)) fun r r' h => aA_ (h.ns C)) fun _ => bu_ (fun _ => ay_ (hΦ _ _ _ hn h1 h2) fun r r' h => ?_) fun _ => ay_ (hR _ _ _ _ _ _ hn h1 h2 (j_k3 C hΦ)) fun r r' h => aA_ (h.ns C)
 ·exact lH_ h (fun b => a3_ fun _ => .inl ⟨rfl, b.2⟩) (fun b _ => a3_ fun _ => .inl ⟨rfl, b.2⟩) (fun b => bo_ fun _ => .inr (.inl ⟨rfl, b.2⟩)) (fun b _ => bo_ fun _ => .inr (.inl ⟨rfl, b.2⟩)) (fun _ _ hi e1 e2 => dA_ fun q => ay_ (hR _ _ _ _ _ _ (C.ns hi) e1 e2 hΦ) fun r r' h => aA_ (h.ns C)) fun _ _ hi => aA_ (.inr (.inr ⟨rfl, C.ns hi, fun h => (by cases h)⟩))
 ·exact lH_ h (fun b => a3_ fun _ => .inl ⟨rfl, b.2⟩) (fun b _ => a3_ fun _ => .inl ⟨rfl, b.2⟩) (fun b => bo_ fun _ => .inr (.inl ⟨rfl, b.2⟩)) (fun b _ => bo_ fun _ => .inr (.inl ⟨rfl, b.2⟩)) (fun _ _ hi e1 e2 => ay_ (hR _ _ _ _ _ _ (C.ns hi) e1 e2 (j_k2 C hR hΦ)) fun r r' h => aA_ (h.ns C)) fun _ _ hi => aA_ (.inr (.inr ⟨rfl, C.ns hi, fun h => (by cases h)⟩))
theorem resJ {b : Bool} {x x' : T11 ⊕ (Bool × aa_)} (h : PJ I (fB_ b x) (fB_ b x')) : Gt (Sum.elim (fun y => some (b, D11 y)) (fun y => some y) x) (Sum.elim (fun y => some (b, D11 y)) (fun y => some y) x') (PJ I) := by
 cases x <;> cases x' <;> exact aA_ h
theorem qL_ (C : Clo I) (hR : BJ I R R') (hR2 : BJ I R2 R2') : BJ I (ac_ R R2) (ac_ R' R2') := fun S S' p c Φ Φ' h h1 h2 hΦ => by
 obtain ⟨env, s, f, t, st, nw, cd, mt, mo, me, ct, co⟩ := S
 obtain ⟨env', s', f', t', st', nw', cd', mt', mo', me', ct', co'⟩ := S'
 obtain ⟨g1, g2⟩ := C.same h
 simp only at g1 g2 h1 h2
 subst g1 g2 h1 h2
 unfold ac_
 refine ay_ (gH_ (st_q t f 0 mt) (st_q t' f' 0 mt')) fun y y' hy => ?_
 obtain ⟨b, k, cs, m⟩ := y
 obtain ⟨b', k', cs', m'⟩ := y'
 rcases hy with ⟨⟨rfl, a2⟩ | ⟨rfl, a2, a3⟩, hq'⟩
 ·exact hm_ rfl (a3_ fun _ => .inl ⟨rfl, by show cs ≠ 0; intro w; simp only at a2; omega⟩)
 rcases hq' with ⟨rfl, a2'⟩ | ⟨rfl, a2', a3'⟩
 ·exact l6_ rfl (bo_ fun _ => .inr (.inl ⟨rfl, by show cs' ≠ 0; intro w; simp only at a2'; omega⟩))
 simp only at a2 a3 a2' a3'
 subst a2 a3 a2' a3'
 have hr : I ⟨env', s', f, k, st, nw, cd, m, mo, me, T.nilm, 0⟩ ⟨env', s', f', k', st', nw', cd', m', mo', me', T.nilm, 0⟩ := C.upd f k nw cd 0 f' k' nw' cd' 0 h
 refine bu_ (fun w => by cases w) fun _ => bu_ (fun _ => ?_) fun _ => bu_ (fun _ => dA_ fun v => ?_) fun _ => bu_ (fun _ => ay_ (hΦ _ _ _ hr rfl rfl) fun r r' h => aA_ (PJ.no (b := r.1) (b' := r'.1) (h.ns C))) fun _ => bu_ (fun _ => aA_ (j_ok hr rfl rfl)) fun _ => bu_ (fun _ => aA_ (j_ok hr rfl rfl)) fun _ => bu_ (fun _ => ?_) fun _ => bu_ (fun _ => ?_) fun _ => bu_ (fun _ => ?_) fun _ => bu_ (fun _ => ay_ (hR2 _ _ _ _ _ _ hr rfl rfl hΦ) fun r r' h => aA_ (h.ns C)) fun _ => dA_ fun e => bu_ (fun _ => aA_ (j_ok hr rfl rfl)) fun _ => ay_ (hΦ _ _ _ hr rfl rfl) fun r r' h => aA_ (h.ns C)
 ·refine ay_ (Q := fun x x' => PJ I (fB_ true x) (fB_ true x')) (li_ (fun (s t : Int × T11) => ∃ j A A', I A A' ∧ A.code_ = 0 ∧ A'.code_ = 0 ∧ s = (j, fC_ A) ∧ t = (j, fC_ A')) ⟨c, _, _, hr, rfl, rfl, rfl, rfl⟩ fun s t hs => ?_) fun x x' hx => resJ hx
  obtain ⟨j, A, A', hA, z1, z2, rfl, rfl⟩ := hs
  obtain ⟨env, s, f, t, st, nw, cd, mt, mo, me, ct, co⟩ := A
  obtain ⟨env', s', f', t', st', nw', cd', mt', mo', me', ct', co'⟩ := A'
  obtain ⟨g1, g2⟩ := C.same hA
  simp only at g1 g2 z1 z2
  subst g1 g2 z1 z2
  have hr := C.ns hA
  refine bu_ (fun _ => ay_ (hΦ j _ _ hr rfl rfl) fun r r' h => no_ h (fun b => a3_ fun _ => .inl ⟨_, rfl, fun _ => .inl ⟨rfl, b.2⟩⟩) (fun b _ => a3_ fun _ => .inl ⟨_, rfl, fun _ => .inl ⟨rfl, b.2⟩⟩) (fun b => bo_ fun _ => .inr (.inl ⟨_, rfl, fun _ => .inr (.inl ⟨rfl, b.2⟩)⟩)) (fun b _ => bo_ fun _ => .inr (.inl ⟨_, rfl, fun _ => .inr (.inl ⟨rfl, b.2⟩)⟩)) (fun _ _ hi e1 e2 => aA_ (.inr (.inr (.inl ⟨_, _, rfl, rfl, _, _, _, C.ns hi, e1, e2, rfl, rfl⟩)))) fun _ _ hi => aA_ (.inr (.inr (.inr ⟨_, _, rfl, rfl, .inr (.inr ⟨rfl, C.ns hi, fun h => (by cases h)⟩)⟩)))) fun _ => aA_ (.inr (.inr (.inr ⟨_, _, rfl, rfl, j_ok hr rfl rfl⟩)))
 ·refine ay_ (Q := fun x x' => PJ I (fB_ true x) (fB_ true x')) (li_ (fun (s t : Int × T11) => ∃ j A A', I A A' ∧ A.code_ = 0 ∧ A'.code_ = 0 ∧ s = (j, fC_ A) ∧ t = (j, fC_ A')) ⟨v, _, _, hr, rfl, rfl, rfl, rfl⟩ fun s t hs => ?_) fun x x' hx => resJ hx
  obtain ⟨j, A, A', hA, z1, z2, rfl, rfl⟩ := hs
  have hr := C.ns hA
  refine bu_ (fun _ => ay_ (hΦ j _ _ hr z1 z2) fun r r' h => no_ h (fun b => a3_ fun _ => .inl ⟨_, rfl, fun _ => .inl ⟨rfl, b.2⟩⟩) (fun b _ => a3_ fun _ => .inl ⟨_, rfl, fun _ => .inl ⟨rfl, b.2⟩⟩) (fun b => bo_ fun _ => .inr (.inl ⟨_, rfl, fun _ => .inr (.inl ⟨rfl, b.2⟩)⟩)) (fun b _ => bo_ fun _ => .inr (.inl ⟨_, rfl, fun _ => .inr (.inl ⟨rfl, b.2⟩)⟩)) (fun _ _ hi e1 e2 => ?_) fun _ _ hi => aA_ (.inr (.inr (.inr ⟨_, _, rfl, rfl, .inr (.inr ⟨rfl, C.ns hi, fun h => (by cases h)⟩)⟩)))) fun _ => aA_ (.inr (.inr (.inr ⟨_, _, rfl, rfl, j_ok hr z1 z2⟩)))
  refine ay_ (Q := fun a b => a = b) (fun x y hx hy => ?_) fun a b hab => ?_
  ·have hx : bb_ _ c j = some x := hx
   have hy : bb_ _ c j = some y := hy
   rw [(C.same hi).2] at hy
   rw [hx] at hy
   injection hy
  ·subst hab
   exact aA_ (.inr (.inr (.inl ⟨_, _, rfl, rfl, _, _, _, C.ns hi, e1, e2, rfl, rfl⟩)))
 ·refine ay_ (Q := fun x x' => PJ I (fB_ false x) (fB_ false x')) (li_ (fun (s t : T11) => ∃ A A', I A A' ∧ A.code_ = 0 ∧ A'.code_ = 0 ∧ s = fC_ A ∧ t = fC_ A') ⟨_, _, hr, rfl, rfl, rfl, rfl⟩ fun s t hs => ?_) fun x x' hx => resJ hx
  obtain ⟨A, A', hA, z1, z2, rfl, rfl⟩ := hs
  have hr := C.ns hA
  refine ay_ (hΦ c _ _ hr z1 z2) fun r r' h => lH_ h (fun b => a3_ fun _ => .inl ⟨_, rfl, fun _ => .inl ⟨rfl, b.2⟩⟩) (fun b _ => a3_ fun _ => .inl ⟨_, rfl, fun _ => .inl ⟨rfl, b.2⟩⟩) (fun b => bo_ fun _ => .inr (.inl ⟨_, rfl, fun _ => .inr (.inl ⟨rfl, b.2⟩)⟩)) (fun b _ => bo_ fun _ => .inr (.inl ⟨_, rfl, fun _ => .inr (.inl ⟨rfl, b.2⟩)⟩)) (fun _ _ hi e1 e2 => ay_ (gH_ (st_q _ _ _ _) (st_q _ _ _ _)) fun y y' hy => ?_) fun _ _ hi => aA_ (.inr (.inr (.inr ⟨_, _, rfl, rfl, .inr (.inr ⟨rfl, C.ns hi, fun h => (by cases h)⟩)⟩)))
  obtain ⟨b, k, cs, m⟩ := y
  obtain ⟨b', k', cs', m'⟩ := y'
  rcases hy with ⟨⟨rfl, a2⟩ | ⟨rfl, a2, a3⟩, hq'⟩
  ·exact hm_ rfl (a3_ fun _ => .inl ⟨_, rfl, fun _ => .inl ⟨rfl, by show cs ≠ 0; intro w; simp only at a2; omega⟩⟩)
  rcases hq' with ⟨rfl, a2'⟩ | ⟨rfl, a2', a3'⟩
  ·exact l6_ rfl (bo_ fun _ => .inr (.inl ⟨_, rfl, fun _ => .inr (.inl ⟨rfl, by show cs' ≠ 0; intro w; simp only at a2'; omega⟩)⟩))
  simp only at a2 a3 a2' a3'
  subst a2 a3 a2' a3'
  exact bu_ (fun w => by cases w) fun _ => aA_ (.inr (.inr (.inl ⟨_, _, rfl, rfl, ⟨r.2.env_, r.2.subject_, r.2.fuel_, k, r.2.start_, r.2.now_, r.2.conds_, r.2.matches_, r.2.most_, r.2.isMere_, T.nilm, r.2.code_⟩, ⟨r'.2.env_, r'.2.subject_, r'.2.fuel_, k', r'.2.start_, r'.2.now_, r'.2.conds_, r'.2.matches_, r'.2.most_, r'.2.isMere_, T.nilm, r'.2.code_⟩, C.upd _ _ _ _ _ _ _ _ _ _ hi, e1, e2, rfl, rfl⟩)))
 ·refine ay_ (gH_ (rc_j nw _ 0 m _) (rc_j nw' _ 0 m' _)) fun q q' hq => ?_
  obtain ⟨b, kk, cs, mm⟩ := q
  obtain ⟨b', kk', cs', mm'⟩ := q'
  rcases hq with ⟨⟨rfl, a2⟩ | ⟨rfl, a2, a3⟩, hq'⟩
  ·exact hV_ (by simp) (a3_ fun _ => .inl ⟨rfl, by show kk ≠ 0; intro w; simp only at a2; omega⟩)
  rcases hq' with ⟨rfl, a2'⟩ | ⟨rfl, a2', a3'⟩
  ·exact jI_ (by simp) (bo_ fun _ => .inr (.inl ⟨rfl, by show kk' ≠ 0; intro w; simp only at a2'; omega⟩))
  simp only at a2 a3 a2' a3'
  subst a2 a3 a2' a3'
  exact bu_ (fun _ => ay_ (hΦ _ _ _ (C.upd _ _ _ _ _ _ _ _ _ _ h) rfl rfl) fun r r' h => aA_ (h.ns C)) fun w => absurd rfl w
 ·exact dA_ fun i => bu_ (fun _ => a3_ fun _ => .inl ⟨rfl, by show (5 : Int) ≠ 0; decide⟩) fun _ => dA_ fun q => ay_ (hR _ _ _ _ _ _ hr rfl rfl hΦ) fun r r' h => aA_ (h.ns C)
theorem n4_ (C : Clo I) : ∀ n m, BJ I (BG_impl_search_match n).1 (BG_impl_search_match m).1 ∧ BJ I (BG_impl_search_match n).2 (BG_impl_search_match m).2
 | 0, _ => ⟨fun _ _ _ _ _ _ _ _ _ _ => hD_, fun _ _ _ _ _ _ _ _ _ _ => hD_⟩
 | n + 1, 0 => ⟨fun _ _ _ _ _ _ _ _ _ _ => hJ_, fun _ _ _ _ _ _ _ _ _ _ => hJ_⟩
 | n + 1, m + 1 => ⟨qL_ C (n4_ C n m).1 (n4_ C n m).2, sO_ C (n4_ C n m).1⟩
end
end Go.Am
end
