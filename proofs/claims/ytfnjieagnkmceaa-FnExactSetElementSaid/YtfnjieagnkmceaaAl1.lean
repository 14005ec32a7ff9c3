/- The law. -/
import Derived.Test.YtfnjieagnkmceaaAl0
import Derived.Test.YtfnjieagnkmceaaAg9
import Derived.Test.YtfnjieagnkmceaaAg8
import Derived.Test.YtfnjieagnkmceaaAg7
import Derived.Test.YtfnjieagnkmceaaAg5
import Derived.Test.YtfnjieagnkmceaaAg4
import Derived.Test.YtfnjieagnkmceaaAg6
section
set_option maxRecDepth 100000
set_option maxHeartbeats 2000000
set_option linter.unusedVariables false
set_option linter.unusedSimpArgs false
namespace Go.Am
/-! names -/
def LetP (x : Int) : Prop := (65 ≤ x ∧ x ≤ 90) ∨ (97 ≤ x ∧ x ≤ 122)
def DigP (x : Int) : Prop := 48 ≤ x ∧ x ≤ 57
def NbP (x : Int) : Prop := LetP x ∨ DigP x ∨ x = 95
def ht_ (s : ByteArray) : Prop := 1 ≤ s.size ∧ s.size ≤ 12 ∧ LetP (bAt s 0) ∧ ∀ i : Nat, i < s.size → NbP (bAt s i)
theorem letB (x : Int) : (if (decide (65 ≤ x)) = true then (if (decide (x ≤ 90)) = true then (some true) else (if (decide (97 ≤ x)) = true then (some (decide (x ≤ 122))) else (some false))) else (if (decide (97 ≤ x)) = true then (some (decide (x ≤ 122))) else (some false))) = some (says (LetP x)) := by
 unfold LetP
 by_cases h1 : 65 ≤ x <;> by_cases h2 : x ≤ 90 <;> by_cases h3 : 97 ≤ x <;> by_cases h4 : x ≤ 122 <;> simp [h1, h2, h3, h4, says]
theorem ls_ (x : Int) : b3_ x = some (says (LetP x)) := h9_ x _ (letB x)
theorem nz_ (x : Int) : c8_ x = some (says (LetP x)) := ik_ x _ (letB x)
theorem digB (x : Int) : (if (decide (48 ≤ x)) = true then (some (decide (x ≤ 57))) else (some false)) = some (says (DigP x)) := by
 unfold DigP
 by_cases h1 : 48 ≤ x <;> by_cases h2 : x ≤ 57 <;> simp [h1, h2, says]
theorem o0_ (x : Int) : dj_ x = some (says (DigP x)) := iT_ x _ (digB x)
theorem rg_ (x : Int) : eV_ x = some (says (DigP x)) := iZ_ x _ (digB x)
theorem nj_ (x : Int) : dp_ x = some (says (NbP x)) := by
 refine hO_ x _ ?_
 unfold ds_
 exact lX_ (nz_ x) fun _ => lX_ (rg_ x) fun _ => ea_
theorem hd_ {s : ByteArray} {i : Nat} (h : i < s.size) : ex_ s (i : Int) = some (bAt s (i : Int)) := by
 unfold ex_; rw [if_pos ⟨by omega, by omega⟩]
theorem ot_ (s : ByteArray) (hs : s.size ≤ 1048576) : c4_ s = some (says (ht_ s)) := by
 refine jS_ s _ ?_
 unfold fl_
 have hm := maxLen_eq
 by_cases h0 : s = (⟨#[]⟩ : ByteArray)
 ·subst h0
  rw [if_neg (by simp), aS_]
  intro w; have := w.1; exact absurd this (by decide)
 ·have hpos : 1 ≤ s.size := by
   refine Nat.pos_of_ne_zero fun e => h0 ?_
   obtain ⟨⟨l⟩⟩ := s
   have e : l.length = 0 := e
   rw [List.length_eq_zero_iff] at e; subst e; rfl
  rw [if_pos (by simp [h0])]
  by_cases h12 : s.size ≤ 12
  ·rw [if_pos (by simp; omega)]
   have key : ∃ r : Int, du_ s 0 = some r ∧ (r = (s.size : Int) ↔ ht_ s) := by
    suffices h : ∃ r : Int, ck_ s 0 = some r ∧ (r = (s.size : Int) ↔ ht_ s) by
     obtain ⟨r, h1, h2⟩ := h; exact ⟨r, hK_ s 0 r h1, h2⟩
    unfold ck_
    rw [if_neg (by rw [decide_eq_true_eq]; omega)]
    have b0 : ex_ s 0 = some (bAt s 0) := hd_ (i := 0) hpos
    rw [b0, Option.bind_some, ls_, Option.bind_some]
    by_cases hl : LetP (bAt s 0)
    ·rw [aZ_ hl, if_neg (by simp)]
     obtain ⟨r, r1, r2, r3⟩ := nJ_ (n := s.size) (p := fun i => NbP (bAt s i)) (bd := fun st1 => ((ex_ s st1).bind fun y4 => ((b3_ y4).bind fun y5 => (if y5 = true then (some (.inl (w4 (st1 + 1)))) else ((ex_ s st1).bind fun y6 => ((dj_ y6).bind fun y7 => (if y7 = true then (some (.inl (w4 (st1 + 1)))) else ((ex_ s st1).bind fun y8 => (if (decide (y8 = 95)) = true then (some (.inl (w4 (st1 + 1)))) else (some (.inr st1)))))))))))
      (by omega) (fun i hi hp => by
       simp only [hd_ hi, Option.bind_some, ls_, o0_]
       by_cases c1 : LetP (bAt s i)
       ·rw [aZ_ c1, if_pos rfl]
       ·rw [aS_ c1, if_neg (by simp)]
        by_cases c2 : DigP (bAt s i)
        ·rw [aZ_ c2, if_pos rfl]
        ·rw [aS_ c2, if_neg (by simp)]
         have := (hp.resolve_left c1).resolve_left c2
         rw [if_pos (by simp [this])]) (fun i hi hp => by
       simp only [hd_ hi, Option.bind_some, ls_, o0_]
       rw [aS_ fun c => hp (.inl c), if_neg (by simp), aS_ fun c => hp (.inr (.inl c)), if_neg (by simp), if_neg (by simp; exact fun c => hp (.inr (.inr c)))])
     refine ⟨r, by rw [r2]; rfl, ?_⟩
     constructor
     ·intro e; exact ⟨hpos, h12, hl, r3.1 (Int.ofNat.inj e)⟩
     ·intro w; rw [r3.2 w.2.2.2]
    ·rw [aS_ hl, if_pos (by simp)]
     exact ⟨0, rfl, ⟨fun e => by have e : (0 : Int) = (s.size : Int) := e; omega, fun w => absurd w.2.2.1 hl⟩⟩
   obtain ⟨r, q1, q2⟩ := key
   rw [q1, Option.bind_some]
   by_cases hr : r = (s.size : Int)
   ·rw [aZ_ (q2.1 hr)]; simp [hr]
   ·rw [aS_ fun w => hr (q2.2 w)]; simp [hr]
  ·rw [if_neg (by simp; omega), aS_ fun w => h12 w.2.1]
theorem pu_ (s : ByteArray) (hs : s.size ≤ 1048576) : de_ s = some (says (ht_ s)) := by
 refine ka_ s _ ?_
 unfold fm_
 have hm := maxLen_eq
 refine gQ_ (p := (1 ≤ (s.size : Int)) ∧ ((s.size : Int) ≤ 12) ∧ LetP (bAt s 0) ∧ ∀ x ∈ (s.data.toList.map fun b => (⟨b.toNat⟩ : Iv .u8)), NbP x.v) (e0_ fun h1 => e0_ fun h2 => ?_) ?_
 ·have b0 : ex_ s 0 = some (bAt s 0) := hd_ (i := 0) (by omega)
  rw [b0, Option.bind_some]
  refine dl_ (nz_ _) fun _ => ?_
  have hb : k1_ s = some ⟨false, s.data.toList.map fun b => ⟨b.toNat⟩⟩ := by unfold k1_; rw [if_pos (by omega)]
  rw [hb, Option.bind_some]
  refine cN_ (g4_ _ _ _ ?_)
  unfold c0_
  refine Eq.trans (if_pos rfl) ?_
  refine gO_ (a := (⟨false, s.data.toList.map fun b => ⟨b.toNat⟩⟩ : Sl (Iv .u8))) (p := fun x : Iv .u8 => NbP x.v) ?_ fun i x hx he => ?_
  ·have : s.data.toList.length = s.size := by rw [Array.length_toList]; rfl
   simp only [List.length_map]; omega
  ·rw [he, Option.bind_some]
   have e : i4_ Go.Proofs.Try.prog md ext E_bool (T.fn 155 [] []) [.int .u8 x.v] = dp_ x.v := rfl
   rw [e, nj_, Option.bind_some]
   exact ⟨fun h => by rw [aZ_ h, if_neg (by simp)], fun h => by rw [aS_ h, if_pos (by simp)]⟩
 ·have hlen : s.data.toList.length = s.size := by rw [Array.length_toList]; rfl
  have hat : ∀ i : Nat, (h : i < s.size) → ((s.data.toList[i]'(by omega)).toNat : Int) = bAt s (i : Int) := fun i h => by
   unfold bAt; rw [dif_pos (by simpa using h)]; rfl
  refine ⟨fun w => ⟨by omega, by omega, w.2.2.1, fun i hi => ?_⟩, fun w => ⟨by have := w.1; omega, by have := w.2.1; omega, w.2.2.1, fun x hx => ?_⟩⟩
  ·rw [← hat i hi]
   exact w.2.2.2 ⟨(s.data.toList[i]'(by omega)).toNat⟩ (List.mem_map.2 ⟨_, List.getElem_mem (by omega), rfl⟩)
  ·obtain ⟨b, hb, rfl⟩ := List.mem_map.1 hx
   obtain ⟨i, hi, rfl⟩ := List.getElem_of_mem hb
   have := w.2.2.2 i (by omega)
   rw [← hat i (by omega)] at this; exact this


theorem in1 (a b c : Int) : a7_ a b c = some (says (b ≤ a ∧ a ≤ c)) := by
 refine kx_ a b c _ ?_
 unfold fU_
 exact e0_ fun _ => ea_
theorem in2 (a b c : Int) : bR_ a b c = some (says (b ≤ a ∧ a ≤ c)) := by
 refine jM_ a b c _ ?_
 unfold fq_
 exact e0_ fun _ => ea_


/-! loops -/
theorem km_ {n : Nat} {p : Nat → Prop} {bd : Int → Option (Int ⊕ (Unit ⊕ Bool))} {K : Option Bool} {q : Prop} (hn : n < 9223372036854775807) (h1 : ∀ i : Nat, i < n → p i → bd i = some (.inl (w4 ((i : Int) + 1)))) (h2 : ∀ i : Nat, i < n → ¬ p i → bd i = some (.inr (.inr false))) (hK : (∀ i, i < n → p i) → K = some (says q)) :
  ((aM_ (S := Int) (R := Unit ⊕ Bool) (fun st1 : Int => if decide (st1 < (n : Int)) = true then bd st1 else some (.inr (.inl ()))) 0).bind fun y => Sum.elim (fun _ => K) (fun y => some y) y) = some (says ((∀ i, i < n → p i) ∧ q)) := by
 obtain ⟨q1, q2⟩ := gX_ (R := Unit ⊕ Bool) (x := .inl ()) (y := .inr false) 0 hn (fun i _ => h1 i) (fun i _ => h2 i)
 have e0 : ((0 : Nat) : Int) = 0 := rfl
 rw [e0] at q1 q2
 by_cases h : ∀ i, i < n → p i
 ·rw [q1 fun i _ => h i]; show K = _; rw [hK h]; congr 1; exact aU_ ⟨fun w => ⟨h, w⟩, fun w => w.2⟩
 ·rw [q2 fun w => h fun i hi => w i (Nat.zero_le _) hi]; rw [aS_ fun w => h w.1]; rfl
theorem kL_ {n : Nat} {p : Nat → Prop} {bd : Int → Option (Int ⊕ (Unit ⊕ Unit))} (hn : n < 9223372036854775807) (h1 : ∀ i : Nat, i < n → p i → bd i = some (.inl (w4 ((i : Int) + 1)))) (h2 : ∀ i : Nat, i < n → ¬ p i → bd i = some (.inr (.inr ()))) :
  ((aM_ (S := Int) (R := Unit ⊕ Unit) (fun st1 : Int => if decide (st1 < (n : Int)) = true then bd st1 else some (.inr (.inl ()))) 0).bind fun y => Sum.elim (fun _ => some true) (fun _ => some false) y) = some (says (∀ i, i < n → p i)) := by
 obtain ⟨q1, q2⟩ := gX_ (R := Unit ⊕ Unit) (x := .inl ()) (y := .inr ()) 0 hn (fun i _ => h1 i) (fun i _ => h2 i)
 have e0 : ((0 : Nat) : Int) = 0 := rfl
 rw [e0] at q1 q2
 by_cases h : ∀ i, i < n → p i
 ·rw [q1 fun i _ => h i, aZ_ h]; rfl
 ·rw [q2 fun w => h fun i hi => w i (Nat.zero_le _) hi, aS_ h]; rfl
/-- The first that fits, or none. -/
theorem j8_ {n : Nat} {p : Nat → Prop} {bd : Int → Option (Int ⊕ (Unit ⊕ Int))} (hn : n < 9223372036854775807) (h1 : ∀ i : Nat, i < n → ¬ p i → bd i = some (.inl (w4 ((i : Int) + 1)))) (h2 : ∀ i : Nat, i < n → p i → bd i = some (.inr (.inr (i : Int)))) :
    (∃ r, r < n ∧ p r ∧ (∀ k, k < r → ¬ p k) ∧ ((aM_ (S := Int) (R := Unit ⊕ Int) (fun st1 : Int => if decide (st1 < (n : Int)) = true then bd st1 else some (.inr (.inl ()))) 0).bind fun y => Sum.elim (fun _ => some (-1)) (fun y => some y) y) = some (r : Int)) ∨
    ((∀ i, i < n → ¬ p i) ∧ ((aM_ (S := Int) (R := Unit ⊕ Int) (fun st1 : Int => if decide (st1 < (n : Int)) = true then bd st1 else some (.inr (.inl ()))) 0).bind fun y => Sum.elim (fun _ => some (-1)) (fun y => some y) y) = some (-1)) := by
  suffices H : ∀ (m i : Nat), i + m = n → (∀ k, k < i → ¬ p k) → (∃ r, r < n ∧ p r ∧ (∀ k, k < r → ¬ p k) ∧ aM_ (S := Int) (R := Unit ⊕ Int) (fun st1 : Int => if decide (st1 < (n : Int)) = true then bd st1 else some (.inr (.inl ()))) (i : Int) = some (.inr (r : Int))) ∨ ((∀ i, i < n → ¬ p i) ∧ aM_ (S := Int) (R := Unit ⊕ Int) (fun st1 : Int => if decide (st1 < (n : Int)) = true then bd st1 else some (.inr (.inl ()))) (i : Int) = some (.inl ())) by
    have e0 : ((0 : Nat) : Int) = 0 := rfl
    have := H n 0 (by omega) (by intro k hk; omega)
    rw [e0] at this
    rcases this with ⟨r, a1, a2, a3, a4⟩ | ⟨a1, a2⟩
    · exact .inl ⟨r, a1, a2, a3, by rw [a4]; rfl⟩
    · exact .inr ⟨a1, by rw [a2]; rfl⟩
  intro m
  induction m with
  | zero =>
    intro i hi hk
    have : i = n := by omega
    subst this
    exact .inr ⟨hk, aL_ (by rw [if_neg (by simp)])⟩
  | succ m ih =>
    intro i hi hk
    by_cases hp : p i
    · exact .inl ⟨i, by omega, hp, hk, aL_ (by rw [if_pos (by simp; omega), h2 i (by omega) hp])⟩
    · have := ih (i + 1) (by omega) (fun k hk' => by by_cases e : k = i; · subst e; exact hp
                                                     · exact hk k (by omega))
      have e1 : ((i + 1 : Nat) : Int) = (i : Int) + 1 := by simp
      rw [e1] at this
      have step : (if decide ((i : Int) < (n : Int)) = true then bd i else some (.inr (.inl ()))) = some (.inl ((i : Int) + 1)) := by
        rw [if_pos (by simp; omega), h1 i (by omega) hp, ew_ (by omega) (by omega)]
      rcases this with ⟨r, a1, a2, a3, a4⟩ | ⟨a1, a2⟩
      · exact .inl ⟨r, a1, a2, a3, a3_ step a4⟩
      · exact .inr ⟨a1, a3_ step a2⟩
theorem iS_ {α : Type} {l : List α} {P : α → Prop} : (∀ i, i < l.length → ∀ x, l[i]? = some x → P x) ↔ ∀ x ∈ l, P x := ⟨fun w x hx => by
 obtain ⟨i, hi, rfl⟩ := List.getElem_of_mem hx
 exact w i hi _ (List.getElem?_eq_getElem hi), fun w i _ x hx => w x (List.mem_of_getElem? hx)⟩

/-! values -/
def ValP (v : ac_) : Prop :=
 (v.Kind = 1 ∧ v.Num = 0 ∧ v.Ref = 0 ∧ v.Text.size ≤ 200) ∨ (v.Kind = 2 ∧ v.Text = (⟨#[]⟩ : ByteArray) ∧ v.Ref = 0 ∧ -1000000000000 ≤ v.Num ∧ v.Num ≤ 1000000000000) ∨ (v.Kind = 3 ∧ v.Num = 0 ∧ v.Ref = 0 ∧ 1 ≤ v.Text.size ∧ v.Text.size ≤ 1200) ∨
 ((v.Kind = 4 ∨ v.Kind = 5 ∨ v.Kind = 6) ∧ v.Num = 0 ∧ v.Text = (⟨#[]⟩ : ByteArray) ∧ 1 ≤ v.Ref ∧ v.Ref ≤ 1000000) ∨ ((v.Kind = 7 ∨ v.Kind = 8) ∧ v.Num = 0 ∧ v.Ref = 0 ∧ ht_ v.Text)
theorem kN_ (v : ac_) (a b c : Bool) : br_ v a b c = some (says ((a = true ∨ v.Num = 0) ∧ (b = true ∨ v.Text = (⟨#[]⟩ : ByteArray)) ∧ (c = true ∨ v.Ref = 0))) := by
 refine iR_ v a b c _ ?_
 unfold ek_
 cases a <;> cases b <;> cases c <;> by_cases h1 : v.Num = 0 <;> by_cases h2 : v.Text = (⟨#[]⟩ : ByteArray) <;> by_cases h3 : v.Ref = 0 <;> simp [h1, h2, h3, says]
theorem s_if {c p q : Prop} [Decidable c] {K K' : Option Bool} (h1 : c → K = some (says p)) (h2 : ¬ c → K' = some (says q)) : (if decide c = true then K else K') = some (says ((c ∧ p) ∨ (¬ c ∧ q))) := by
 by_cases hc : c
 ·rw [if_pos (by simpa using hc), h1 hc]; congr 1; exact aU_ ⟨fun w => .inl ⟨hc, w⟩, fun w => by rcases w with w | w; exact w.2; exact absurd hc w.1⟩
 ·rw [if_neg (by simpa using hc), h2 hc]; congr 1; exact aU_ ⟨fun w => .inr ⟨hc, w⟩, fun w => by rcases w with w | w; exact absurd w.1 hc; exact w.2⟩
theorem if_ {c p q : Prop} {o K K' : Option Bool} (ho : o = some (says c)) (h1 : c → K = some (says p)) (h2 : ¬ c → K' = some (says q)) : (o.bind fun y => if y = true then K else K') = some (says ((c ∧ p) ∨ (¬ c ∧ q))) := by
 subst ho
 rw [Option.bind_some]
 by_cases hc : c
 ·rw [aZ_ hc, if_pos rfl, h1 hc]; congr 1; exact aU_ ⟨fun w => .inl ⟨hc, w⟩, fun w => by rcases w with w | w; exact w.2; exact absurd hc w.1⟩
 ·rw [aS_ hc, if_neg (by simp), h2 hc]; congr 1; exact aU_ ⟨fun w => .inr ⟨hc, w⟩, fun w => by rcases w with w | w; exact absurd w.1 hc; exact w.2⟩
theorem s_no : some false = some (says False) := by rw [aS_ (fun h => h)]
theorem val1 (v : ac_) (h : bg_ v) : bK_ v = some (says (ValP v)) := by
 refine ho_ v _ ?_
 unfold dB_
 refine gQ_ (s_if (fun k1 => dl_ (kN_ v _ _ _) fun _ => ea_) fun k1 => s_if (fun k2 => dl_ (kN_ v _ _ _) fun _ => cN_ (in1 _ _ _)) fun k2 => s_if (fun k3 => dl_ (kN_ v _ _ _) fun _ => cN_ (in1 _ _ _)) fun k3 => if_ (s_if (fun _ => ea_) fun _ => s_if (fun _ => ea_) fun _ => ea_) (fun k4 => dl_ (kN_ v _ _ _) fun _ => cN_ (in1 _ _ _)) fun k4 => if_ (s_if (fun _ => ea_) fun _ => ea_) (fun k7 => dl_ (kN_ v _ _ _) fun _ => cN_ (ot_ _ h)) fun _ => s_no) ?_
 unfold ValP
 by_cases c1 : v.Kind = 1
 ·simp [c1]; omega
 by_cases c2 : v.Kind = 2
 ·simp [c2]; grind
 by_cases c3 : v.Kind = 3
 ·simp [c3]; omega
 by_cases c4 : v.Kind = 4
 ·simp [c4]; grind
 by_cases c5 : v.Kind = 5
 ·simp [c5]; grind
 by_cases c6 : v.Kind = 6
 ·simp [c6]; grind
 by_cases c7 : v.Kind = 7
 ·simp [c7]; grind
 by_cases c8 : v.Kind = 8
 ·simp [c8]; grind
 simp [c1, c2, c3, c4, c5, c6, c7, c8]
theorem id2 (n : Int) : cl_ n = some (says (1 ≤ n ∧ n ≤ 1000000)) := by
 refine hJ_ n _ ?_
 unfold dy_
 exact cN_ (in2 _ _ _)
theorem eF_ {b : Bool} {p : Prop} {K : Option Bool} (h : b = true → K = some (says p)) : (if b = true then K else some false) = some (says (b = true ∧ p)) := by
 by_cases hc : b = true
 ·rw [if_pos hc, h hc]; congr 1; exact aU_ ⟨fun w => ⟨hc, w⟩, fun w => w.2⟩
 ·rw [if_neg hc, aS_ fun w => hc w.1]
theorem val2 (v : ac_) (h : bg_ v) : a9_ v = some (says (ValP v)) := by
 refine hH_ v _ ?_
 unfold dz_
 refine gQ_ (s_if (fun k1 => eF_ fun _ => ea_) fun k1 => s_if (fun k2 => eF_ fun _ => cN_ (in2 _ _ _)) fun k2 => s_if (fun k3 => eF_ fun _ => e0_ fun _ => ea_) fun k3 => if_ (s_if (fun _ => ea_) fun _ => s_if (fun _ => ea_) fun _ => ea_) (fun k4 => eF_ fun _ => cN_ (id2 _)) fun k4 => if_ (s_if (fun _ => ea_) fun _ => ea_) (fun k7 => eF_ fun _ => cN_ (pu_ _ h)) fun _ => s_no) ?_
 unfold ValP
 by_cases c1 : v.Kind = 1
 ·simp [c1]; grind
 by_cases c2 : v.Kind = 2
 ·simp [c2]; grind
 by_cases c3 : v.Kind = 3
 ·simp [c3]; grind
 by_cases c4 : v.Kind = 4
 ·simp [c4]; grind
 by_cases c5 : v.Kind = 5
 ·simp [c5]; grind
 by_cases c6 : v.Kind = 6
 ·simp [c6]; grind
 by_cases c7 : v.Kind = 7
 ·simp [c7]; grind
 by_cases c8 : v.Kind = 8
 ·simp [c8]; grind
 simp [c1, c2, c3, c4, c5, c6, c7, c8]

end Go.Am
end
