/- The law. -/
import Derived.Test.YtilalopohkdmdaaGreatAg1
import Derived.Test.YtilalopohkdmdaaGreatAg2
import Derived.Test.YtilalopohkdmdaaGreatAl19
section
set_option maxRecDepth 100000
set_option maxHeartbeats 4000000
set_option linter.unusedVariables false
set_option linter.unusedSimpArgs false
namespace Go.Am
def ExtE (S T : aa_) : Prop := T.code_ = 0 → S.code_ = 0 ∧ ∃ y, ends T = ends S ++ y
theorem ExtE.refl (S : aa_) : ExtE S S := fun h => ⟨h, [], by simp⟩
theorem ExtE.trans {S T U : aa_} (h : ExtE S T) (k : ExtE T U) : ExtE S U := fun hc => by
 obtain ⟨k1, y, k2⟩ := k hc
 obtain ⟨h1, x, h2⟩ := h k1
 exact ⟨h1, x ++ y, by rw [k2, h2, List.append_assoc]⟩
def EPhi (Φ : PhiT) : Prop := ∀ e S, Gv (Φ e S) (fun r => ExtE S r.2)
def ER (R : MTy) : Prop := ∀ S p c Φ, EPhi Φ → Gv (R S p c Φ) (fun r => ExtE S r.2)
theorem fN_ {S T : aa_} (h : T.code_ ≠ 0) : ExtE S T := fun hc => absurd hc h
theorem e_found : EPhi FOUND := fun e S => by
 show Gv (ao_ S e) _
 unfold ao_
 refine aW_ (fun _ => as_ (st_q _ _ _ _) fun y hy => ?_) fun _ => as_ (st_q _ _ _ _) fun y hy => ?_
 ·obtain ⟨b, t, cd, mt⟩ := y
  rcases hy with ⟨rfl, h⟩ | ⟨rfl, h, h'⟩
  ·exact am_ (fN_ (by show cd ≠ 0; intro w; simp only at h; omega))
  ·simp only at h h'; subst h h'
   exact am_ (fun hc => ⟨hc, [], by simp⟩)
 ·obtain ⟨b, t, cd, mt⟩ := y
  rcases hy with ⟨rfl, h⟩ | ⟨rfl, h, h'⟩
  ·exact aW_ (fun _ => am_ (fN_ (by show cd ≠ 0; intro w; simp only at h; omega))) fun w => absurd rfl w
  ·simp only at h h'; subst h h'
   refine aW_ (fun w => by cases w) fun _ => aW_ (fun _ => am_ (fN_ (by show (6 : Int) ≠ 0; decide))) fun _ => as_ cE_ fun y _ => as_ app1 fun q hq => am_ fun hc => ⟨hc, [e], ?_⟩
   have hq : q.l = S.matches_.l ++ [⟨S.start_, e, y⟩] := hq
   show q.l.map _ = _
   rw [hq, List.map_append]; rfl
section
variable {R1 R2 : MTy} {p : DPattern} {c : Int} {Φ : PhiT}
theorem e_k1 (h1 : ER R1) (hΦ : EPhi Φ) : EPhi (ag_ R1 R2 p Φ) := fun e S => by
 unfold ag_
 exact as_ cE_ fun y _ => as_ (h1 _ _ _ _ hΦ) fun r hr => am_ hr
theorem e_k2 (h1 : ER R1) (hΦ : EPhi Φ) : EPhi (ar_ R1 R2 c p Φ) := fun e S => by
 unfold ar_
 exact aW_ (fun _ => am_ fun hc => ⟨hc, [], by simp⟩) fun _ => as_ (h1 _ _ _ _ hΦ) fun r hr => am_ hr
theorem e_k3 (hΦ : EPhi Φ) : EPhi (ak_ R1 R2 p c Φ) := fun e S => by
 unfold ak_
 refine as_ cE_ fun y _ => aW_ (fun _ => as_ (rc_j S.now_ _ S.code_ S.matches_ _) fun q hq => ?_) fun _ => as_ (Q := fun q => ExtE S (D11 q.2)) (as_ (rc_j S.conds_ _ S.code_ S.matches_ _) fun q hq => ?_) fun q hq => as_ cE_ fun w _ => am_ hq
 all_goals
  obtain ⟨b, cd, cs, mt⟩ := q
  rcases hq with ⟨rfl, h⟩ | ⟨rfl, h, h'⟩
  ·exact aW_ (fun w => by cases w) fun _ => am_ (fN_ (by show cd ≠ 0; intro w; simp only at h; omega))
  ·simp only at h h'; subst h h'
   exact aW_ (fun _ => as_ (hΦ _ _) fun r hr => am_ hr) fun w => absurd rfl w
theorem rC_ (h1 : ER R1) : ER (aj_ R1 R2) := fun S p c Φ hΦ => by
 unfold aj_
 refine as_ cE_ fun q _ => aW_ (fun _ => ?_) fun _ => aW_ (fun _ => as_ (h1 _ _ _ _ (e_k1 h1 hΦ)) fun r hr => am_ hr) fun _ => aW_ (fun _ => ?_) fun _ => as_ (h1 _ _ _ _ (e_k3 hΦ)) fun r hr => am_ hr
 ·exact as_ (h1 _ _ _ _ hΦ) fun r hr => aW_ (fun hb => as_ cE_ fun q2 _ => as_ (h1 _ _ _ _ hΦ) fun r2 hr2 => am_ (ExtE.trans (T := NS r.2) hr hr2)) fun w => am_ hr
 ·exact as_ (hΦ _ _) fun r hr => aW_ (fun hb => as_ (h1 _ _ _ _ (e_k2 h1 hΦ)) fun r2 hr2 => am_ (ExtE.trans (T := NS r.2) hr hr2)) fun w => am_ hr
theorem pN_ (h1 : ER R1) (h2 : ER R2) : ER (ac_ R1 R2) := fun S p c Φ hΦ => by
 unfold ac_
 refine as_ (st_q _ _ _ _) fun y hy => ?_
 obtain ⟨b, t, cd, mt⟩ := y
 rcases hy with ⟨rfl, h⟩ | ⟨rfl, h, h'⟩
 ·exact aW_ (fun _ => am_ (fN_ (by show cd ≠ 0; intro w; simp only at h; omega))) fun w => absurd rfl w
 simp only at h h'; subst h h'
 have rf : ExtE S ⟨S.env_, S.subject_, S.fuel_, t, S.start_, S.now_, S.conds_, S.matches_, S.most_, S.isMere_, T.nilm, S.code_⟩ := fun hc => ⟨hc, [], by simp⟩
 refine aW_ (fun w => by cases w) fun _ => aW_ (fun _ => ?_) fun _ => aW_ (fun _ => as_ cE_ fun y4 _ => ?_) fun _ => aW_ (fun _ => as_ (hΦ _ _) fun r hr => am_ hr) fun _ => aW_ (fun _ => am_ rf) fun _ => aW_ (fun _ => am_ rf) fun _ => aW_ (fun _ => ?_) fun _ => aW_ (fun _ => ?_) fun _ => aW_ (fun _ => ?_) fun _ => aW_ (fun _ => as_ (h2 _ _ _ _ hΦ) fun r hr => am_ hr) fun _ => as_ cE_ fun e _ => aW_ (fun _ => am_ rf) fun _ => as_ (hΦ _ _) fun r hr => am_ hr
 ·refine as_ (Q := fun x => ExtE S (ei_ true x).2) (gw_ (fun st : Int × T11 => ExtE S (D11 st.2)) rf fun st hst => aW_ (fun _ => as_ (hΦ _ _) fun r hr => aW_ (fun w => am_ (hst.trans hr)) fun w => am_ (hst.trans hr)) fun _ => am_ hst) fun x hx => ?_
  cases x with
  | inl y => exact am_ hx
  | inr r => exact am_ hx
 ·refine as_ (Q := fun x => ExtE S (ei_ true x).2) (gw_ (fun st : Int × T11 => ExtE S (D11 st.2)) rf fun st hst => aW_ (fun _ => as_ (hΦ _ _) fun r hr => aW_ (fun w => am_ (hst.trans hr)) fun w => as_ cE_ fun v _ => am_ (hst.trans hr)) fun _ => am_ hst) fun x hx => ?_
  cases x with
  | inl y => exact am_ hx
  | inr r => exact am_ hx
 ·refine as_ (Q := fun x => ExtE S (ei_ false x).2) (gw_ (fun st : T11 => ExtE S (D11 st)) rf fun st hst => as_ (hΦ _ _) fun r hr => aW_ (fun _ => as_ (st_q _ _ _ _) fun y hy => ?_) fun _ => am_ (hst.trans hr)) fun x hx => ?_
  ·obtain ⟨b, t, cd, mt⟩ := y
   rcases hy with ⟨rfl, h⟩ | ⟨rfl, h, h'⟩
   ·exact aW_ (fun _ => am_ (fN_ (by show cd ≠ 0; intro w; simp only at h; omega))) fun w => absurd rfl w
   ·simp only at h h'; subst h h'
    exact aW_ (fun w => by cases w) fun _ => am_ (hst.trans hr)
  ·cases x with
   | inl y => exact am_ hx
   | inr r => exact am_ hx
 ·refine as_ (rc_j S.now_ _ S.code_ S.matches_ _) fun q hq => ?_
  obtain ⟨b, cd, cs, mt⟩ := q
  rcases hq with ⟨rfl, h⟩ | ⟨rfl, h, h'⟩
  ·exact aW_ (fun w => by cases w) fun _ => am_ (fN_ (by show cd ≠ 0; intro w; simp only at h; omega))
  ·simp only at h h'; subst h h'
   exact aW_ (fun _ => as_ (hΦ _ _) fun r hr => am_ hr) fun w => absurd rfl w
 ·exact as_ cE_ fun i _ => aW_ (fun _ => am_ (fN_ (by show (5 : Int) ≠ 0; decide))) fun _ => as_ cE_ fun q _ => as_ (h1 _ _ _ _ hΦ) fun r hr => am_ hr
theorem e_all : ∀ n, ER (BG_impl_search_match n).1 ∧ ER (BG_impl_search_match n).2
 | 0 => ⟨fun _ _ _ _ _ => j2_, fun _ _ _ _ _ => j2_⟩
 | n + 1 => ⟨pN_ (e_all n).1 (e_all n).2, rC_ (e_all n).1⟩
end
structure I1 (env : Sl DNamed) (s : ByteArray) (S S' : aa_) : Prop where
 e : S.env_ = env ∧ S'.env_ = env
 s : S.subject_ = s ∧ S'.subject_ = s
 m : S.most_ = 0 ∧ S'.most_ = 0
 r : S.isMere_ = false ∧ S'.isMere_ = false
 l : ends S = [] ∧ ends S' = []
 c : S.code_ = 0 ∧ S'.code_ = 0
def PK (env : Sl DNamed) (s : ByteArray) (Z : Int → List Int → Prop) (r r' : Bool × aa_) : Prop :=
 Bad r ∨ Bad r' ∨ (r.1 = true ∧ r'.1 = true ∧ I1 env s r.2 r'.2) ∨ (r'.1 = false ∧ ∃ e0, Z e0 (ends r'.2) ∧ (r.2.code_ = 0 → ∃ y, ends r.2 = e0 :: y))
section
variable {env : Sl DNamed} {s : ByteArray} {Z : Int → List Int → Prop} {R R2 R' R2' : MTy} {p : DPattern} {c : Int} {Φ Φ' : PhiT}
theorem I1.ns {S S' : aa_} (h : I1 env s S S') : I1 env s (NS S) (NS S') := ⟨h.e, h.s, h.m, h.r, h.l, h.c⟩
theorem PK.ns {r r' : Bool × aa_} (h : PK env s Z r r') : PK env s Z (r.1, NS r.2) (r'.1, NS r'.2) := by
 rcases h with h | h | ⟨h1, h2, h3⟩ | h
 ·exact .inl h
 ·exact .inr (.inl h)
 ·exact .inr (.inr (.inl ⟨h1, h2, h3.ns⟩))
 ·exact .inr (.inr (.inr h))
theorem nu_ {S S' : aa_} (h : I1 env s S S') : PK env s Z (true, S) (true, S') := .inr (.inr (.inl ⟨rfl, rfl, h⟩))
theorem hl_ {r : Bool × aa_} {S' : aa_} {T : aa_} (h : ∃ e0, Z e0 (ends S') ∧ (T.code_ = 0 → ∃ y, ends T = e0 :: y)) (hx : ExtE T r.2) : PK env s Z r (false, S') := .inr (.inr (.inr ⟨rfl, by
 obtain ⟨e0, h1, h2⟩ := h
 refine ⟨e0, h1, fun hc => ?_⟩
 obtain ⟨k1, y, k2⟩ := hx hc
 obtain ⟨z, k3⟩ := h2 k1
 exact ⟨z ++ y, by rw [k2, k3]; rfl⟩⟩))
def PhiK (env : Sl DNamed) (s : ByteArray) (Z : Int → List Int → Prop) (Φ Φ' : PhiT) : Prop := ∀ e S S', I1 env s S S' → Gt (Φ e S) (Φ' e S') (PK env s Z)
def BK (env : Sl DNamed) (s : ByteArray) (Z : Int → List Int → Prop) (R R' : MTy) : Prop := ∀ S S' p c Φ Φ', CalmP p → I1 env s S S' → EPhi Φ → PhiK env s Z Φ Φ' → Gt (R S p c Φ) (R' S' p c Φ') (PK env s Z)
theorem pn_ {r r' : Bool × aa_} {a : Option (Bool × aa_)} {a' : Option (Bool × aa_)} (h : PK env s Z r r') (ha : Gv a (fun x => ExtE r.2 x.2)) (k3 : I1 env s r.2 r'.2 → Gt a a' (PK env s Z)) :
  Gt (if r.1 = true then a else some (false, NS r.2)) (if r'.1 = true then a' else some (false, NS r'.2)) (PK env s Z) := by
 rcases h with h | h | ⟨h1, h2, h3⟩ | ⟨h1, h2⟩
 ·rw [if_neg (c := r.1 = true) (by rw [h.1]; simp)]; exact bn_ fun _ => .inl ⟨rfl, h.2⟩
 ·rw [if_neg (c := r'.1 = true) (by rw [h.1]; simp)]; exact a0_ fun _ => .inr (.inl ⟨rfl, h.2⟩)
 ·rw [if_pos h1, if_pos h2]; exact k3 h3
 ·rw [if_neg (c := r'.1 = true) (by rw [h1]; simp)]
  by_cases q : r.1 = true
  ·rw [if_pos q]
   intro x y hx hy
   injection hy with hy; subst hy
   exact hl_ (S' := NS r'.2) h2 (ha x hx)
  ·rw [if_neg q]; exact aE_ (hl_ (S' := NS r'.2) h2 (ExtE.refl r.2))
theorem jT_ {α : Type} {a : Sl α} {j : Int} : Gt (elt a j) (elt a j) (fun x y => x = y ∧ x ∈ a.l) := fun r r' h h' => ⟨by rw [h] at h'; injection h', im_ r h⟩
theorem rH_ {α β : Type} {c d : Bool} {a a' : Option α} {b b' : Option β} {P : α → β → Prop} (e : c = d) (h1 : c = true → Gt a b P) (h2 : ¬ c = true → Gt a' b' P) : Gt (if c = true then a else a') (if d = true then b else b') P := by
 subst e; exact bJ_ h1 h2
theorem k_k1 (hR : BK env s Z R R') (hp : CalmP p) (hE : EPhi Φ) (hΦ : PhiK env s Z Φ Φ') : PhiK env s Z (ag_ R R2 p Φ) (ag_ R' R2' p Φ') := fun e S S' h => by
 unfold ag_
 refine az_ jT_ fun y y' hy => ?_
 obtain ⟨rfl, hy⟩ := hy
 exact az_ (hR _ _ _ _ _ _ (hp.kid hy) h.ns hE hΦ) fun r r' h => aE_ h.ns
theorem k_k2 (hR : BK env s Z R R') (hp : CalmP p) (hE : EPhi Φ) (hΦ : PhiK env s Z Φ Φ') : PhiK env s Z (ar_ R R2 c p Φ) (ar_ R' R2' c p Φ') := fun e S S' h => by
 unfold ar_
 exact bJ_ (fun _ => aE_ (nu_ h.ns)) fun _ => az_ (hR _ _ _ _ _ _ hp h.ns hE hΦ) fun r r' h => aE_ h.ns
theorem k_k3 (hE : EPhi Φ) (hΦ : PhiK env s Z Φ Φ') : PhiK env s Z (ak_ R R2 p c Φ) (ak_ R' R2' p c Φ') := fun e S S' h => by
 obtain ⟨env1, s1, f, t, st, nw, cd, mt, mo, me, ct, co⟩ := S
 obtain ⟨env', s', f', t', st', nw', cd', mt', mo', me', ct', co'⟩ := S'
 obtain ⟨⟨g1, g1'⟩, ⟨g2, g2'⟩, ⟨g3, g3'⟩, ⟨g4, g4'⟩, ⟨g5, g5'⟩, ⟨g6, g6'⟩⟩ := h
 simp only at g1 g1' g2 g2' g3 g3' g4 g4' g6 g6'
 subst g1 g1' g2 g2' g3 g3' g4 g4' g6 g6'
 unfold ak_
 have hn : ∀ f t st nw cd f' t' st' nw' cd', I1 env' s' ⟨env', s', f, t, st, nw, cd, mt, 0, false, T.nilm, 0⟩ ⟨env', s', f', t', st', nw', cd', mt', 0, false, T.nilm, 0⟩ := fun f t st nw cd f' t' st' nw' cd' => ⟨⟨rfl, rfl⟩, ⟨rfl, rfl⟩, ⟨rfl, rfl⟩, ⟨rfl, rfl⟩, ⟨g5, g5'⟩, ⟨rfl, rfl⟩⟩
 refine fC_ fun y => bJ_ (fun _ => az_ (fO_ (rc_j nw _ 0 mt _) (rc_j nw' _ 0 mt' _)) fun q q' hq => ?_) fun _ => az_ (Q := fun q q' => PK env' s' Z (q.1, D11 q.2) (q'.1, D11 q'.2)) (az_ (fO_ (rc_j cd _ 0 mt _) (rc_j cd' _ 0 mt' _)) fun q q' hq => ?_) fun q q' hq => ?_
 ·obtain ⟨b, k, cs, m⟩ := q
  obtain ⟨b', k', cs', m'⟩ := q'
  rcases hq with ⟨⟨rfl, a2⟩ | ⟨rfl, a2, a3⟩, hq'⟩
  ·exact gf_ (by simp) (bn_ fun _ => .inl ⟨rfl, by show k ≠ 0; intro w; simp only at a2; omega⟩)
  rcases hq' with ⟨rfl, a2'⟩ | ⟨rfl, a2', a3'⟩
  ·exact fH_ (by simp) (a0_ fun _ => .inr (.inl ⟨rfl, by show k' ≠ 0; intro w; simp only at a2'; omega⟩))
  simp only at a2 a3 a2' a3'
  subst a2 a3 a2' a3'
  exact bJ_ (fun _ => az_ (hΦ _ _ _ (hn _ _ _ _ _ _ _ _ _ _)) fun r r' h => aE_ h.ns) fun w => absurd rfl w
 ·obtain ⟨b, k, cs, m⟩ := q
  obtain ⟨b', k', cs', m'⟩ := q'
  rcases hq with ⟨⟨rfl, a2⟩ | ⟨rfl, a2, a3⟩, hq'⟩
  ·exact gf_ (by simp) (bn_ fun _ => .inl ⟨rfl, by show k ≠ 0; intro w; simp only at a2; omega⟩)
  rcases hq' with ⟨rfl, a2'⟩ | ⟨rfl, a2', a3'⟩
  ·exact fH_ (by simp) (a0_ fun _ => .inr (.inl ⟨rfl, by show k' ≠ 0; intro w; simp only at a2'; omega⟩))
  simp only at a2 a3 a2' a3'
  subst a2 a3 a2' a3'
  exact bJ_ (fun _ => az_ (hΦ _ _ _ (hn _ _ _ _ _ _ _ _ _ _)) fun r r' h => aE_ h.ns) fun w => absurd rfl w
 ·refine az_ (Q := fun _ _ => True) (fun _ _ _ _ => trivial) fun w w' _ => aE_ ?_
  rcases hq with hq | hq | ⟨e1, e2, e3⟩ | hq
  ·exact .inl hq
  ·exact .inr (.inl hq)
  ·exact .inr (.inr (.inl ⟨e1, e2, ⟨e3.e, e3.s, e3.m, e3.r, e3.l, e3.c⟩⟩))
  ·exact .inr (.inr (.inr hq))
theorem r4_ (h1 : ER R) (hR : BK env s Z R R') : BK env s Z (aj_ R R2) (aj_ R' R2') := fun S S' p c Φ Φ' hp h hE hΦ => by
 unfold aj_
 have hn := h.ns
 refine az_ jT_ fun q q' hq => ?_
 obtain ⟨rfl, hq⟩ := hq
 refine bJ_ (fun _ => az_ (hR _ _ _ _ _ _ (hp.kid hq) hn hE hΦ) fun r r' h => ?_) fun _ => bJ_ (fun _ => az_ (hR _ _ _ _ _ _ (hp.kid hq) hn (e_k1 h1 hE) (k_k1 hR hp hE hΦ)) fun r r' h => aE_ h.ns) fun _ => bJ_ (fun _ => az_ (hΦ _ _ _ hn) fun r r' h => ?_) fun _ => az_ (hR _ _ _ _ _ _ (hp.kid hq) hn (e_k3 hE) (k_k3 hE hΦ)) fun r r' h => aE_ h.ns
 ·exact pn_ h (as_ cE_ fun q2 _ => as_ (h1 _ _ _ _ hE) fun r2 hr2 => am_ hr2) fun hi => az_ jT_ fun q q' hq => by
   obtain ⟨rfl, hq⟩ := hq
   exact az_ (hR _ _ _ _ _ _ (hp.kid hq) hi.ns hE hΦ) fun r r' h => aE_ h.ns
 ·exact pn_ h (as_ (h1 _ _ _ _ (e_k2 h1 hE)) fun r2 hr2 => am_ hr2) fun hi => az_ (hR _ _ _ _ _ _ (hp.kid hq) hi.ns (e_k2 h1 hE) (k_k2 hR hp hE hΦ)) fun r r' h => aE_ h.ns
theorem of_ {S T R R' : Type} {b : S → Option (S ⊕ R)} {b' : T → Option (T ⊕ R')} {s : S} {t : T} (I : S → T → Prop) {Q : R → R' → Prop} (h0 : I s t)
  (h : ∀ s t, I s t → Gt (b s) (b' t) (fun x x' => (∃ r, x = .inr r ∧ ∀ r', Q r r') ∨ (∃ r', x' = .inr r' ∧ ∀ r, Q r r') ∨ (∃ a a', x = .inl a ∧ x' = .inl a' ∧ I a a') ∨ (∃ a a', x = .inr a ∧ x' = .inr a' ∧ Q a a') ∨ (∃ a r', x = .inl a ∧ x' = .inr r' ∧ Gv (aD_ b a) (fun r => Q r r')))) : Gt (aD_ b s) (aD_ b' t) Q := fun r r' hr hr' => by
 obtain ⟨n, hn⟩ := bs_.1 hr
 clear hr
 induction n generalizing s t with
 | zero => cases hn
 | succ n ih =>
  simp only [iter] at hn
  cases hb : b s with
  | none => rw [hb] at hn; cases hn
  | some x =>
   rw [hb] at hn
   obtain ⟨n', hn'⟩ := bs_.1 hr'
   cases n' with
   | zero => cases hn'
   | succ n' =>
    simp only [iter] at hn'
    cases hb' : b' t with
    | none => rw [hb'] at hn'; cases hn'
    | some x' =>
     rw [hb'] at hn'
     rcases h s t h0 x x' hb hb' with ⟨a, rfl, k⟩ | ⟨a, rfl, k⟩ | ⟨a, a', rfl, rfl, k⟩ | ⟨a, a', rfl, rfl, k⟩ | ⟨a, a', rfl, rfl, k⟩
     ·injection hn with hn; subst hn; exact k r'
     ·injection hn' with hn'; subst hn'; exact k r
     ·exact ih k (bs_.2 ⟨n', hn'⟩) hn
     ·injection hn with hn; injection hn' with hn'; subst hn hn'; exact k
     ·injection hn' with hn'; subst hn'; exact k r (bs_.2 ⟨n, hn⟩)
theorem resK {b : Bool} {x x' : T11 ⊕ (Bool × aa_)} (h : PK env s Z (ei_ b x) (ei_ b x')) : Gt (Sum.elim (fun y => some (b, D11 y)) (fun y => some y) x) (Sum.elim (fun y => some (b, D11 y)) (fun y => some y) x') (PK env s Z) := by
 cases x <;> cases x' <;> exact aE_ h
theorem pH_ (h1 : ER R) (h2 : ER R2) (hCE : iH_ env) (hR : BK env s Z R R') (hR2 : BK env s Z R2 R2') : BK env s Z (ac_ R R2) (ac_ R' R2') := fun S S' p c Φ Φ' hp h hE hΦ => by
 obtain ⟨env1, s1, f, t, st, nw, cd, mt, mo, me, ct, co⟩ := S
 obtain ⟨env', s', f', t', st', nw', cd', mt', mo', me', ct', co'⟩ := S'
 obtain ⟨⟨g1, g1'⟩, ⟨g2, g2'⟩, ⟨g3, g3'⟩, ⟨g4, g4'⟩, ⟨g5, g5'⟩, ⟨g6, g6'⟩⟩ := h
 simp only at g1 g1' g2 g2' g3 g3' g4 g4' g6 g6'
 subst g1 g1' g2 g2' g3 g3' g4 g4' g6 g6'
 unfold ac_
 refine az_ (fO_ (st_q t f 0 mt) (st_q t' f' 0 mt')) fun y y' hy => ?_
 obtain ⟨b, k, cs, m⟩ := y
 obtain ⟨b', k', cs', m'⟩ := y'
 rcases hy with ⟨⟨rfl, a2⟩ | ⟨rfl, a2, a3⟩, hq'⟩
 ·exact gG_ rfl (bn_ fun _ => .inl ⟨rfl, by show cs ≠ 0; intro w; simp only at a2; omega⟩)
 rcases hq' with ⟨rfl, a2'⟩ | ⟨rfl, a2', a3'⟩
 ·exact gH_ rfl (a0_ fun _ => .inr (.inl ⟨rfl, by show cs' ≠ 0; intro w; simp only at a2'; omega⟩))
 simp only at a2 a3 a2' a3'
 subst a2 a3 a2' a3'
 have hn : ∀ nw cd nw' cd', I1 env' s' ⟨env', s', f, k, st, nw, cd, m, 0, false, T.nilm, 0⟩ ⟨env', s', f', k', st', nw', cd', m', 0, false, T.nilm, 0⟩ := fun nw cd nw' cd' => ⟨⟨rfl, rfl⟩, ⟨rfl, rfl⟩, ⟨rfl, rfl⟩, ⟨rfl, rfl⟩, ⟨g5, g5'⟩, ⟨rfl, rfl⟩⟩
 have hr := hn nw cd nw' cd'
 have kd := hp.kind
 refine bJ_ (fun w => by cases w) fun _ => bJ_ (fun _ => ?_) fun _ => bJ_ (fun _ => fC_ fun v => ?_) fun _ => bJ_ (fun w => absurd (of_decide_eq_true w) kd.1) fun _ => bJ_ (fun w => absurd (of_decide_eq_true w) kd.2.1) fun _ => bJ_ (fun _ => aE_ (nu_ hr)) fun _ => bJ_ (fun w => absurd (of_decide_eq_true w) kd.2.2) fun _ => bJ_ (fun _ => ?_) fun _ => bJ_ (fun _ => ?_) fun _ => bJ_ (fun _ => az_ (hR2 _ _ _ _ _ _ hp hr hE hΦ) fun r r' h => aE_ h.ns) fun _ => fC_ fun e => bJ_ (fun _ => aE_ (nu_ hr)) fun _ => az_ (hΦ _ _ _ hr) fun r r' h => aE_ h.ns
 ·refine az_ (Q := fun x x' => PK env' s' Z (ei_ true x) (ei_ true x')) (of_ (fun (s t : Int × T11) => ∃ j A A', I1 env' s' A A' ∧ s = (j, fD_ A) ∧ t = (j, fD_ A')) ⟨c, _, _, hr, rfl, rfl⟩ fun s t hs => ?_) fun x x' hx => resK hx
  obtain ⟨j, A, A', hA, rfl, rfl⟩ := hs
  have hrA := hA.ns
  have es : (fD_ A).2.1 = (fD_ A').2.1 := hA.s.1.trans hA.s.2.symm
  refine rH_ (by show decide (j ≤ (A.subject_.size : Int)) = decide (j ≤ (A'.subject_.size : Int)); rw [hA.s.1, hA.s.2]) (fun _ => az_ (hΦ j _ _ hrA) fun r r' h => ?_) fun _ => aE_ (.inr (.inr (.inr (.inl ⟨_, _, rfl, rfl, nu_ hrA⟩))))
  rcases h with h | h | ⟨e1, e2, e3⟩ | ⟨e1, e2⟩
  ·exact gG_ (by rw [h.1]; rfl) (bn_ fun _ => .inl ⟨_, rfl, fun _ => .inl ⟨rfl, h.2⟩⟩)
  ·exact gH_ (by rw [h.1]; rfl) (a0_ fun _ => .inr (.inl ⟨_, rfl, fun _ => .inr (.inl ⟨rfl, h.2⟩)⟩))
  ·exact gf_ (by rw [e1]; simp) (fH_ (by rw [e2]; simp) (aE_ (.inr (.inr (.inl ⟨_, _, rfl, rfl, _, _, _, e3.ns, rfl, rfl⟩)))))
  ·refine gH_ (by rw [e1]; rfl) ?_
   by_cases q : r.1 = true
   ·refine gf_ (by rw [q]; simp) (aE_ (.inr (.inr (.inr (.inr ⟨_, _, rfl, rfl, ?_⟩)))))
    refine fun x hx => ?_
    have hg : ExtE r.2 (ei_ true x).2 := by
     refine gw_ (P := fun x => ExtE r.2 (ei_ true x).2) (fun st : Int × T11 => ExtE r.2 (D11 st.2)) (ExtE.refl r.2) ?_ x hx
     exact fun st hst => aW_ (fun _ => as_ (hE _ _) fun r hr => aW_ (fun w => am_ (hst.trans hr)) fun w => am_ (hst.trans hr)) fun _ => am_ hst
    exact hl_ (S' := NS r'.2) e2 hg
   ·exact gG_ (by cases h : r.1 <;> simp [h] at q ⊢) (aE_ (.inr (.inr (.inr (.inl ⟨_, _, rfl, rfl, hl_ (S' := NS r'.2) e2 (ExtE.refl r.2)⟩)))))
 ·refine az_ (Q := fun x x' => PK env' s' Z (ei_ true x) (ei_ true x')) (of_ (fun (s t : Int × T11) => ∃ j A A', I1 env' s' A A' ∧ s = (j, fD_ A) ∧ t = (j, fD_ A')) ⟨v, _, _, hr, rfl, rfl⟩ fun s t hs => ?_) fun x x' hx => resK hx
  obtain ⟨j, A, A', hA, rfl, rfl⟩ := hs
  have hrA := hA.ns
  refine bJ_ (fun _ => az_ (hΦ j _ _ hrA) fun r r' h => ?_) fun _ => aE_ (.inr (.inr (.inr (.inl ⟨_, _, rfl, rfl, nu_ hrA⟩))))
  rcases h with h | h | ⟨e1, e2, e3⟩ | ⟨e1, e2⟩
  ·exact gG_ (by rw [h.1]; rfl) (bn_ fun _ => .inl ⟨_, rfl, fun _ => .inl ⟨rfl, h.2⟩⟩)
  ·exact gH_ (by rw [h.1]; rfl) (a0_ fun _ => .inr (.inl ⟨_, rfl, fun _ => .inr (.inl ⟨rfl, h.2⟩)⟩))
  ·refine gf_ (by rw [e1]; simp) (fH_ (by rw [e2]; simp) (az_ (Q := fun a b => a = b) (fun x y hx hy => ?_) fun a b hab => ?_))
   ·have hx : a2_ r.2.subject_ c j = some x := hx
    have hy : a2_ r'.2.subject_ c j = some y := hy
    rw [e3.s.1] at hx
    rw [e3.s.2, hx] at hy
    injection hy
   ·subst hab
    exact aE_ (.inr (.inr (.inl ⟨_, _, rfl, rfl, _, _, _, e3.ns, rfl, rfl⟩)))
  ·refine gH_ (by rw [e1]; rfl) ?_
   by_cases q : r.1 = true
   ·refine gf_ (by rw [q]; simp) (fun x y hx hy => ?_)
    obtain ⟨v2, _, hx⟩ := Option.bind_eq_some_iff.1 hx
    injection hx with hx; injection hy with hy
    subst hx hy
    refine .inr (.inr (.inr (.inr ⟨_, _, rfl, rfl, fun x hx => ?_⟩)))
    have hg : ExtE r.2 (ei_ true x).2 := by
     refine gw_ (P := fun x => ExtE r.2 (ei_ true x).2) (fun st : Int × T11 => ExtE r.2 (D11 st.2)) (ExtE.refl r.2) ?_ x hx
     exact fun st hst => aW_ (fun _ => as_ (hE _ _) fun r hr => aW_ (fun w => am_ (hst.trans hr)) fun w => as_ cE_ fun v _ => am_ (hst.trans hr)) fun _ => am_ hst
    exact hl_ (S' := NS r'.2) e2 hg
   ·exact gG_ (by cases h : r.1 <;> simp [h] at q ⊢) (aE_ (.inr (.inr (.inr (.inl ⟨_, _, rfl, rfl, hl_ (S' := NS r'.2) e2 (ExtE.refl r.2)⟩)))))
 ·refine az_ (fO_ (rc_j nw _ 0 m _) (rc_j nw' _ 0 m' _)) fun q q' hq => ?_
  obtain ⟨b, kk, cs, mm⟩ := q
  obtain ⟨b', kk', cs', mm'⟩ := q'
  rcases hq with ⟨⟨rfl, a2⟩ | ⟨rfl, a2, a3⟩, hq'⟩
  ·exact gf_ (by simp) (bn_ fun _ => .inl ⟨rfl, by show kk ≠ 0; intro w; simp only at a2; omega⟩)
  rcases hq' with ⟨rfl, a2'⟩ | ⟨rfl, a2', a3'⟩
  ·exact fH_ (by simp) (a0_ fun _ => .inr (.inl ⟨rfl, by show kk' ≠ 0; intro w; simp only at a2'; omega⟩))
  simp only at a2 a3 a2' a3'
  subst a2 a3 a2' a3'
  exact bJ_ (fun _ => az_ (hΦ _ _ _ (hn _ _ _ _)) fun r r' h => aE_ h.ns) fun w => absurd rfl w
 ·exact fC_ fun i => bJ_ (fun _ => bn_ fun _ => .inl ⟨rfl, by show (5 : Int) ≠ 0; decide⟩) fun _ => az_ jT_ fun q q' hq => by
   obtain ⟨rfl, hq⟩ := hq
   exact az_ (hR _ _ _ _ _ _ (hCE q hq) hr hE hΦ) fun r r' h => aE_ h.ns
theorem or_ (hCE : iH_ env) : ∀ n m, BK env s Z (BG_impl_search_match n).1 (BG_impl_search_match m).1 ∧ BK env s Z (BG_impl_search_match n).2 (BG_impl_search_match m).2
 | 0, _ => ⟨fun _ _ _ _ _ _ _ _ _ _ => hK_, fun _ _ _ _ _ _ _ _ _ _ => hK_⟩
 | n + 1, 0 => ⟨fun _ _ _ _ _ _ _ _ _ _ => hN_, fun _ _ _ _ _ _ _ _ _ _ => hN_⟩
 | n + 1, m + 1 => ⟨pH_ (e_all n).1 (e_all n).2 hCE (or_ hCE n m).1 (or_ hCE n m).2, r4_ (e_all n).1 (or_ hCE n m).1⟩
end
end Go.Am
end
