/- The abstract machine. -/
import Derived.Test.YtohkcdkmpencnaaGreatDoorAm5
section
set_option linter.unusedVariables false
set_option linter.unusedSimpArgs false
namespace Go.Am
theorem elt_lt {α : Type} {s : Sl α} {i : Nat} (h : i < s.l.length) : elt s (i : Int) = some s.l[i] := elt_nat (List.getElem?_eq_getElem h)
theorem elt_set {α : Type} {s : Sl α} {i : Nat} {x : α} (h : i < s.l.length) : elt (setS s (i : Int) x) (i : Int) = some x := by
  refine elt_nat ?_; simp [setS, h]
theorem set_set' {α : Type} {s : Sl α} {i : Int} {x y : α} : setS (setS s i x) i y = setS s i y := by simp [setS, List.set_set]
@[simp] theorem set_len {α : Type} {s : Sl α} {i : Int} {x : α} : (setS s i x).l.length = s.l.length := by simp [setS]
theorem wrapB {n : Int} (h0 : 0 ≤ n) (h1 : n ≤ 4611686018427387904) : IntKind.i64.wrap n = n := wrap_id (by omega) (by omega)
theorem maxLen_eq : maxLen = 9223372036854775807 := by decide
theorem loop_map {α β : Type} (f : α → β) {a : Sl α} {by_ : Nat} {z : β} {body : Int × Sl β → Option ((Int × Sl β) ⊕ Sl β)} (hn : a.l.length ≤ 1048576) (hb : 1048576 * by_ ≤ 1099511627776)
    (h1 : ∀ (i : Nat) x (s : Sl β), x ∈ a.l → i < a.l.length → i < s.l.length → elt a (i : Int) = some x → body (i, s) = some (.inl ((i : Int) + 1, setS s i (f x))))
    (h2 : ∀ s, body ((a.l.length : Int), s) = some (.inr s)) :
    ((mkS by_ z (a.l.length : Int) (a.l.length : Int)).bind fun y1 => (loopO body (0, y1)).bind fun y2 => some y2) = some ⟨false, a.l.map f⟩ := by
  have hm : mkS by_ z (a.l.length : Int) (a.l.length : Int) = some ⟨false, List.replicate a.l.length z⟩ := by
    have : a.l.length * by_ ≤ 1048576 * by_ := Nat.mul_le_mul_right _ hn
    unfold mkS
    rw [if_pos]
    · simp
    · refine ⟨by omega, by omega, ?_, by omega, fun h => h⟩
      have : ((a.l.length * by_ : Nat) : Int) ≤ 1099511627776 := by omega
      simpa using this
  rw [hm]
  suffices H : ∀ (k i : Nat), i + k = a.l.length → ∀ s : Sl β, s.z = false → s.l.length = a.l.length → (∀ j, j < i → s.l[j]? = (a.l.map f)[j]?) → loopO body ((i : Int), s) = some ⟨false, a.l.map f⟩ by
    have q := H a.l.length 0 (by simp) ⟨false, List.replicate a.l.length z⟩ rfl (by simp) (by intro j h; omega)
    have q : loopO body (0, ⟨false, List.replicate a.l.length z⟩) = _ := q
    show (loopO body (0, ⟨false, List.replicate a.l.length z⟩)).bind _ = _
    rw [q]; rfl
  intro k
  induction k with
  | zero =>
    intro i hi s hz hs hP
    have : i = a.l.length := by omega
    subst this
    rw [loopO_stop (h2 s)]
    obtain ⟨sz, sl⟩ := s
    simp only at hz hs hP
    subst hz
    congr 2
    refine List.ext_getElem? fun j => ?_
    by_cases hj : j < a.l.length
    · exact hP j hj
    · rw [List.getElem?_eq_none (by omega), List.getElem?_eq_none (by simp; omega)]
  | succ k ih =>
    intro i hi s hz hs hP
    have ha : i < a.l.length := by omega
    have hi' : i < s.l.length := by omega
    have q1 := h1 i a.l[i] s (List.getElem_mem ha) ha hi' (elt_lt ha)
    have p1 := ih (i + 1) (by omega) (setS s i (f a.l[i])) hz (by simp [hs]) (by
      intro j hj
      simp only [setS, Int.toNat_natCast, List.getElem?_set]
      by_cases hij : i = j
      · subst hij; simp [hi', ha]
      · rw [if_neg hij]; exact hP j (by omega))
    have hc : ((i + 1 : Nat) : Int) = (i : Int) + 1 := by simp
    rw [hc] at p1
    exact loopO_go q1 p1
theorem loop_all {n : Nat} {R : Type} {p : Nat → Prop} {bd : Int → Option (Int ⊕ R)} {x y : R} (j0 : Nat) (hn : n < 9223372036854775807) (h1 : ∀ i : Nat, j0 ≤ i → i < n → p i → bd i = some (.inl (IntKind.i64.wrap ((i : Int) + 1)))) (h2 : ∀ i : Nat, j0 ≤ i → i < n → ¬ p i → bd i = some (.inr y)) :
    ((∀ i, j0 ≤ i → i < n → p i) → loopO (fun st1 : Int => if decide (st1 < (n : Int)) = true then bd st1 else some (.inr x)) (j0 : Int) = some x) ∧
    (¬ (∀ i, j0 ≤ i → i < n → p i) → loopO (fun st1 : Int => if decide (st1 < (n : Int)) = true then bd st1 else some (.inr x)) (j0 : Int) = some y) := by
  suffices H : ∀ k i0, j0 ≤ i0 → n - i0 = k → ((∀ i, i0 ≤ i → i < n → p i) → loopO (fun st1 : Int => if decide (st1 < (n : Int)) = true then bd st1 else some (.inr x)) (i0 : Int) = some x) ∧
    (¬ (∀ i, i0 ≤ i → i < n → p i) → loopO (fun st1 : Int => if decide (st1 < (n : Int)) = true then bd st1 else some (.inr x)) (i0 : Int) = some y) from H _ j0 (Nat.le_refl _) rfl
  intro k
  induction k with
  | zero =>
    intro i0 _ hk
    refine ⟨fun _ => loopO_stop (by rw [if_neg (by simp; omega)]), fun h => absurd (fun i h1 h2 => by omega) h⟩
  | succ k ih =>
    intro i0 hj hk
    have hlt : i0 < n := by omega
    obtain ⟨q1, q2⟩ := ih (i0 + 1) (by omega) (by omega)
    have hc : ((i0 + 1 : Nat) : Int) = (i0 : Int) + 1 := by simp
    rw [hc] at q1 q2
    by_cases hp : p i0
    · have hb := h1 i0 hj hlt hp
      rw [wrap_id (by omega) (by omega)] at hb
      refine ⟨fun h => loopO_go (by rw [if_pos (by simp; omega)]; exact hb) (q1 fun i hi hn => h i (by omega) hn), fun h => loopO_go (by rw [if_pos (by simp; omega)]; exact hb) (q2 fun w => h fun i hi hn => ?_)⟩
      by_cases e : i = i0
      · subst e; exact hp
      · exact w i (by omega) hn
    · refine ⟨fun h => absurd (h i0 (Nat.le_refl _) hlt) hp, fun _ => loopO_stop (by rw [if_pos (by simp; omega)]; exact h2 i0 hj hlt hp)⟩
theorem loop_find {n : Nat} {p : Nat → Prop} {bd : Int → Option (Int ⊕ Int)} (hn : n < 9223372036854775807) (h1 : ∀ i : Nat, i < n → p i → bd i = some (.inl (IntKind.i64.wrap ((i : Int) + 1)))) (h2 : ∀ i : Nat, i < n → ¬ p i → bd i = some (.inr (i : Int))) :
    ∃ r : Nat, r ≤ n ∧ loopO (fun st1 : Int => if decide (st1 < (n : Int)) = true then bd st1 else some (.inr st1)) 0 = some (r : Int) ∧ (r = n ↔ ∀ i, i < n → p i) := by
  suffices H : ∀ k i0, n - i0 = k → i0 ≤ n → (∀ i, i < i0 → p i) → ∃ r : Nat, r ≤ n ∧ loopO (fun st1 : Int => if decide (st1 < (n : Int)) = true then bd st1 else some (.inr st1)) (i0 : Int) = some (r : Int) ∧ (r = n ↔ ∀ i, i < n → p i) from H n 0 (by omega) (by omega) (by intro i h; omega)
  intro k
  induction k with
  | zero =>
    intro i0 hk hle hp
    have : i0 = n := by omega
    subst this
    exact ⟨i0, Nat.le_refl _, loopO_stop (by rw [if_neg (by simp)]), by simpa using hp⟩
  | succ k ih =>
    intro i0 hk hle hp
    have hlt : i0 < n := by omega
    by_cases hq : p i0
    · obtain ⟨r, r1, r2, r3⟩ := ih (i0 + 1) (by omega) (by omega) fun i hi => by
        by_cases e : i = i0
        · subst e; exact hq
        · exact hp i (by omega)
      have hb := h1 i0 hlt hq
      rw [wrap_id (by omega) (by omega)] at hb
      have hc : ((i0 + 1 : Nat) : Int) = (i0 : Int) + 1 := by simp
      rw [hc] at r2
      exact ⟨r, r1, loopO_go (by rw [if_pos (by simp; omega)]; exact hb) r2, r3⟩
    · exact ⟨i0, hle, loopO_stop (by rw [if_pos (by simp; omega)]; exact h2 i0 hlt hq), ⟨fun e => by omega, fun w => absurd (w i0 hlt) hq⟩⟩
noncomputable def says (p : Prop) : Bool := @decide p (Classical.propDecidable p)
theorem says_iff' {p q : Prop} (h : p ↔ q) : says p = says q := by rw [propext h]
theorem says_t {p : Prop} (h : p) : says p = true := by simp [says, h]
theorem says_f {p : Prop} (h : ¬ p) : says p = false := by simp [says, h]
theorem s_and {c p : Prop} [Decidable c] {K : Option Bool} (h : c → K = some (says p)) : (if decide c = true then K else some false) = some (says (c ∧ p)) := by
  by_cases hc : c
  · rw [if_pos (by simp [hc]), h hc]; congr 1; exact says_iff' ⟨fun w => ⟨hc, w⟩, fun w => w.2⟩
  · rw [if_neg (by simp [hc]), says_f fun w => hc w.1]
theorem s_gt {a b : Int} {p : Prop} {K : Option Bool} (h : b ≤ a → K = some (says p)) : (if decide (a < b) = true then some false else K) = some (says (b ≤ a ∧ p)) := by
  by_cases hc : a < b
  · rw [if_pos (by simp [hc]), says_f fun w => by omega]
  · rw [if_neg (by simp [hc]), h (by omega)]; congr 1; exact says_iff' ⟨fun w => ⟨by omega, w⟩, fun w => w.2⟩
theorem s_bindn {c p : Prop} {o K : Option Bool} (ho : o = some (says c)) (h : c → K = some (says p)) : (o.bind fun y => if (!y) = true then some false else K) = some (says (c ∧ p)) := by
  rw [ho, Option.bind_some]
  by_cases hc : c
  · rw [says_t hc, if_neg (by simp), h hc]; congr 1; exact says_iff' ⟨fun w => ⟨hc, w⟩, fun w => w.2⟩
  · rw [says_f hc, if_pos (by simp), says_f fun w => hc w.1]
theorem s_bind {c p : Prop} {o K : Option Bool} (ho : o = some (says c)) (h : c → K = some (says p)) : (o.bind fun y => if y = true then K else some false) = some (says (c ∧ p)) := by
  rw [ho, Option.bind_some]
  by_cases hc : c
  · rw [says_t hc, if_pos rfl, h hc]; congr 1; exact says_iff' ⟨fun w => ⟨hc, w⟩, fun w => w.2⟩
  · rw [says_f hc, if_neg (by simp), says_f fun w => hc w.1]
theorem s_bindor {c p : Prop} {o K : Option Bool} (ho : o = some (says c)) (h : ¬ c → K = some (says p)) : (o.bind fun y => if y = true then some true else K) = some (says (c ∨ p)) := by
  rw [ho, Option.bind_some]
  by_cases hc : c
  · rw [says_t hc, if_pos rfl, says_t (.inl hc)]
  · rw [says_f hc, if_neg (by simp), h hc]; congr 1; exact says_iff' ⟨fun w => .inr w, fun w => w.resolve_left hc⟩
theorem s_or {c p : Prop} [Decidable c] {K : Option Bool} (h : ¬ c → K = some (says p)) : (if decide c = true then some true else K) = some (says (c ∨ p)) := by
  by_cases hc : c
  · rw [if_pos (by simp [hc]), says_t (.inl hc)]
  · rw [if_neg (by simp [hc]), h hc]; congr 1; exact says_iff' ⟨fun w => .inr w, fun w => w.resolve_left hc⟩
theorem s_last {c : Prop} {o : Option Bool} (ho : o = some (says c)) : (o.bind fun y => some y) = some (says c) := by rw [ho]; rfl
theorem s_dec {c : Prop} [Decidable c] : some (decide c) = some (says c) := by by_cases h : c <;> simp [says, h]
theorem s_iff {o : Option Bool} {p q : Prop} (h : o = some (says p)) (hi : p ↔ q) : o = some (says q) := by rw [h, says_iff' hi]
theorem loop_allB {n : Nat} {p : Nat → Prop} {bd : Int → Option (Int ⊕ (Unit ⊕ Bool))} (i0 : Nat) (hn : n < 9223372036854775807) (h1 : ∀ i : Nat, i0 ≤ i → i < n → p i → bd i = some (.inl (IntKind.i64.wrap ((i : Int) + 1)))) (h2 : ∀ i : Nat, i0 ≤ i → i < n → ¬ p i → bd i = some (.inr (.inr false))) :
    ((loopO (S := Int) (R := Unit ⊕ Bool) (fun st1 : Int => if decide (st1 < (n : Int)) = true then bd st1 else some (.inr (.inl ()))) (i0 : Int)).bind fun y => Sum.elim (fun _ => some true) (fun y => some y) y) = some (says (∀ i, i0 ≤ i → i < n → p i)) := by
  obtain ⟨q1, q2⟩ := loop_all (R := Unit ⊕ Bool) (x := .inl ()) (y := .inr false) i0 hn h1 h2
  by_cases h : ∀ i, i0 ≤ i → i < n → p i
  · rw [q1 h, says_t h]; rfl
  · rw [q2 h, says_f h]; rfl
theorem loop_allS {α : Type} {a : Sl α} {p : α → Prop} {bd : Int → Option (Int ⊕ (Unit ⊕ Bool))} (hn : a.l.length < 9223372036854775807) (h : ∀ (i : Nat) x, x ∈ a.l → elt a (i : Int) = some x → (p x → bd i = some (.inl (IntKind.i64.wrap ((i : Int) + 1)))) ∧ (¬ p x → bd i = some (.inr (.inr false)))) :
    ((loopO (S := Int) (R := Unit ⊕ Bool) (fun st1 : Int => if decide (st1 < (a.l.length : Int)) = true then bd st1 else some (.inr (.inl ()))) 0).bind fun y => Sum.elim (fun _ => some true) (fun y => some y) y) = some (says (∀ x ∈ a.l, p x)) := by
  have := loop_allB (p := fun i => ∀ x, a.l[i]? = some x → p x) (bd := bd) 0 hn (fun i _ hi hp => (h i _ (List.getElem_mem hi) (elt_lt hi)).1 (hp _ (List.getElem?_eq_getElem hi))) (fun i _ hi hp => (h i _ (List.getElem_mem hi) (elt_lt hi)).2 fun q => hp fun x hx => by rw [List.getElem?_eq_getElem hi] at hx; injection hx with hx; exact hx ▸ q)
  refine Eq.trans this (congrArg some (says_iff' ⟨fun w x hx => ?_, fun w i _ hi x hx => w x (List.mem_of_getElem? hx)⟩))
  obtain ⟨i, hi, rfl⟩ := List.getElem_of_mem hx
  exact w i (Nat.zero_le _) hi _ (List.getElem?_eq_getElem hi)
theorem loop_refl {α : Type} {a : Sl α} {bd : Int → Option (Int ⊕ (Unit ⊕ Bool))} (hn : a.l.length < 9223372036854775807) (h : ∀ (i : Nat) x, x ∈ a.l → elt a (i : Int) = some x → bd i = some (.inl (IntKind.i64.wrap ((i : Int) + 1)))) :
    (if (!decide ((a.l.length : Int) = (a.l.length : Int))) = true then some false else ((loopO (S := Int) (R := Unit ⊕ Bool) (fun st1 : Int => if decide (st1 < (a.l.length : Int)) = true then bd st1 else some (.inr (.inl ()))) 0).bind fun y => Sum.elim (fun _ => some true) (fun y => some y) y)) = some true := by
  rw [if_neg (by simp), loop_allS (p := fun _ => True) hn fun i x hx he => ⟨fun _ => h i x hx he, fun w => absurd trivial w⟩, says_t (fun _ _ => trivial)]
theorem loop_mh {α : Type} {P : α → Prop} {N : Nat} {mb : Int × Int × Sl α → Option ((Int × Int × Sl α) ⊕ (Int × Sl α))} {hb : Sl α → Int × Int → Option ((Int × Int) ⊕ (Int ⊕ Int))} {s : Sl α} (hs : ∀ x ∈ s.l, P x) {k : Int} (hk : 0 ≤ k) (hN : k + s.l.length * N ≤ 4611686018427387904) (hl : (s.l.length : Int) < 4611686018427387904)
    (hm : ∀ (k : Int) (i : Nat) (t : Sl α) (x : α), elt t (i : Int) = some x → i < t.l.length → t.l.length = s.l.length → P x → 0 ≤ k → k + N ≤ 4611686018427387904 → ∃ k' x', mb (k, i, t) = some (.inl (k', (i : Int) + 1, setS t i x')) ∧ k ≤ k' ∧ k' ≤ k + N ∧ ∀ t' : Sl α, t'.l.length = s.l.length → elt t' (i : Int) = some x' → i < t'.l.length → hb t' (k, i) = some (.inl (k', (i : Int) + 1)))
    (h1 : ∀ k (t : Sl α), mb (k, (t.l.length : Int), t) = some (.inr (k, t))) (h2 : ∀ k (t : Sl α), hb t (k, (t.l.length : Int)) = some (.inr (.inl k))) :
    ∃ k' t', loopO mb (k, 0, s) = some (k', t') ∧ t'.l.length = s.l.length ∧ loopO (hb t') (k, 0) = some (.inl k') ∧ k ≤ k' ∧ k' ≤ k + s.l.length * N := by
  suffices H : ∀ (m i : Nat), i + m = s.l.length → ∀ (k : Int) (t : Sl α), 0 ≤ k → k + m * N ≤ 4611686018427387904 → t.l.length = s.l.length → (∀ j x, i ≤ j → t.l[j]? = some x → P x) →
      ∃ k' t', loopO mb (k, (i : Int), t) = some (k', t') ∧ t'.l.length = s.l.length ∧ (∀ j, j < i → t'.l[j]? = t.l[j]?) ∧ loopO (hb t') (k, (i : Int)) = some (.inl k') ∧ k ≤ k' ∧ k' ≤ k + m * N by
    obtain ⟨k', t', q1, q2, _, q3, q4⟩ := H s.l.length 0 (by simp) k s hk hN rfl fun j x _ hx => hs x (List.mem_of_getElem? hx)
    exact ⟨k', t', q1, q2, q3, q4⟩
  intro m
  induction m with
  | zero =>
    intro i hi k t hk hkN ht _
    have : (i : Int) = (t.l.length : Int) := by omega
    rw [this]
    exact ⟨k, t, loopO_stop (h1 k t), ht, fun _ _ => rfl, loopO_stop (h2 k t), by omega, by simp⟩
  | succ m ih =>
    intro i hi k t hk hkN ht hP
    have hit : i < t.l.length := by omega
    have hmN : ((m + 1 : Nat) : Int) * N = m * N + N := by rw [Int.natCast_add]; simp [Int.add_mul]
    have hmp : (0 : Int) ≤ (m : Int) * N := Int.mul_nonneg (by omega) (by omega)
    rw [hmN] at hkN
    obtain ⟨k1, x', q1, q2, q3, q4⟩ := hm k i t _ (elt_lt hit) hit ht (hP i _ (Nat.le_refl _) (List.getElem?_eq_getElem hit)) hk (by omega)
    obtain ⟨k2, t2, r1, r2, r3, r4, r5, r6⟩ := ih (i + 1) (by omega) k1 (setS t i x') (by omega) (by omega) (by simp [ht]) (fun j x hj hx => by
      simp only [setS, Int.toNat_natCast, List.getElem?_set] at hx
      rw [if_neg (by omega)] at hx
      exact hP j x (by omega) hx)
    have hc : ((i + 1 : Nat) : Int) = (i : Int) + 1 := by simp
    rw [hc] at r1 r4
    have hx : t2.l[i]? = some x' := by rw [r3 i (by omega)]; simp [setS, hit]
    refine ⟨k2, t2, loopO_go q1 r1, r2, fun j hj => ?_, loopO_go (q4 t2 r2 (elt_nat hx) (by omega)) r4, by omega, by rw [hmN]; omega⟩
    rw [r3 j (by omega)]
    simp only [setS, Int.toNat_natCast, List.getElem?_set]
    rw [if_neg (by omega)]
def MH {α : Type} (B : α → Int → Option (Int × α)) (F : α → Int → Option Int) (N : Nat) (x : α) : Prop :=
  ∀ k : Int, 0 ≤ k → k + N ≤ 4611686018427387904 → ∃ k' x', B x k = some (k', x') ∧ F x' k = some k' ∧ k ≤ k' ∧ k' ≤ k + N
theorem MH.mono {α : Type} {B : α → Int → Option (Int × α)} {F : α → Int → Option Int} {N M : Nat} {x : α} (h : MH B F N x) (hm : N ≤ M) : MH B F M x := fun k h0 h1 => by
  obtain ⟨k', x', q1, q2, q3, q4⟩ := h k h0 (by omega)
  exact ⟨k', x', q1, q2, q3, by omega⟩
theorem appS_new {α : Type} {by_ : Nat} {z : Bool} {a : List α} {x : α} (h : (a.length + 1) * by_ ≤ 1099511627776) : appS by_ (⟨z, a⟩ : Sl α) ⟨false, [x]⟩ = some ⟨false, a ++ [x]⟩ := by
  simp only [appS, List.length_singleton]; rw [if_pos h]
theorem appS_all {α : Type} {by_ : Nat} {a : Sl α} (h : a.l.length * by_ ≤ 1099511627776) : appS by_ (⟨false, []⟩ : Sl α) a = some ⟨false, a.l⟩ := by
  obtain ⟨z, l⟩ := a
  cases l with
  | nil => rfl
  | cons x l => simp only [appS, List.length_nil, Nat.zero_add, List.nil_append]; rw [if_pos h]
theorem loop_app {α β : Type} (f : α → β) {a : Sl α} {body : Int × Sl β → Option ((Int × Sl β) ⊕ Sl β)} (hn : a.l.length < 9223372036854775807)
    (h1 : ∀ (i : Nat) x (s : Sl β), x ∈ a.l → i < a.l.length → s.l.length = i → elt a (i : Int) = some x → body (i, s) = some (.inl ((i : Int) + 1, ⟨false, s.l ++ [f x]⟩)))
    (h2 : ∀ s, body ((a.l.length : Int), s) = some (.inr s)) : loopO body (0, ⟨true, []⟩) = some ⟨a.l.isEmpty, a.l.map f⟩ := by
  suffices H : ∀ (k i : Nat), i + k = a.l.length → ∀ s : Sl β, s.l = (a.l.take i).map f → s.z = (a.l.take i).isEmpty → loopO body ((i : Int), s) = some ⟨a.l.isEmpty, a.l.map f⟩ by
    exact H a.l.length 0 (by simp) ⟨true, []⟩ rfl rfl
  intro k
  induction k with
  | zero =>
    intro i hi s hs hz
    have : i = a.l.length := by omega
    subst this
    rw [loopO_stop (h2 s)]
    obtain ⟨sz, sl⟩ := s
    simp only [List.take_length] at hs hz
    rw [hs, hz]
  | succ k ih =>
    intro i hi s hs hz
    have ha : i < a.l.length := by omega
    have q1 := h1 i a.l[i] s (List.getElem_mem ha) ha (by rw [hs]; simp; omega) (elt_lt ha)
    have ht : a.l.take (i + 1) = a.l.take i ++ [a.l[i]] := by rw [List.take_add_one, List.getElem?_eq_getElem ha]; rfl
    have p1 := ih (i + 1) (by omega) ⟨false, s.l ++ [f a.l[i]]⟩ (by rw [ht, List.map_append, hs]; rfl) (by rw [ht]; cases a.l.take i <;> rfl)
    have hc : ((i + 1 : Nat) : Int) = (i : Int) + 1 := by simp
    rw [hc] at p1
    exact loopO_go q1 p1
end Go.Am
end
