/- The law. -/
import Derived.Test.YtkgmfmcpbgffpaaAg1
import Derived.Test.YtkgmfmcpbgffpaaAl29
section
set_option maxRecDepth 100000
set_option maxHeartbeats 4000000
set_option linter.unusedVariables false
set_option linter.unusedSimpArgs false
namespace Go.Am
structure PK (s : ByteArray) (f : Int) (n : Nat) (p a : DPattern) : Prop where
 t1 : T1P s f n p a
 tc : ∀ b q Φ Φ', VP b → tl p + tl b ≤ 200 → CatR a b q → HX s f 0 b Φ Φ' → HX s f 0 q (fun e S => MM n S p e Φ) Φ'
 ta : ∀ b q c Φ Φ' Ψ, Rg s c → VP b → AltR a b q → PhiD s f Φ Φ' → HA s f b c Ψ Φ' → HA s f q c (fun S => TH (MM n S p c Φ) Ψ) Φ'
 el : Emp a → ∀ b Φ' k S S' c K Ψ o', Rg s c → Rd s f k S S' → HA s f b c Ψ Φ' → (∀ S1 Ψ1, Rd s f (k - 2) S1 S' → HA s f b c Ψ1 Φ' → Gt (TH (K c S1) Ψ1) o' (PD s f)) → Gt (TH (MM n S p c K) Ψ) o' (PD s f)
section
variable {s : ByteArray} {f : Int}
theorem mC_ {n : Nat} {x a : DPattern} (va : VP a) (k : a.Kind = 16 ∨ a.Kind = 15) (t1 : T1P s f n x a) {m : Nat} {S S' : aa_} {c : Int} (Φ Φ' : PhiT) (hc : Rg s c) (hr : Rd s f 1 S S') : Gt (MM n S x c Φ) (MM m S' a c Φ') (PD s f) := by
 rw [uj_ va k S' c Φ' fun _ _ => none]
 exact t1 m S S' c Φ _ hc hr fun e S S' he hr => cK_
theorem lH_ {n : Nat} {p a : DPattern} (va : VP a) (k : a.Kind = 16 ∨ a.Kind = 15) (t1 : T1P s f n p a) : ∀ b q Φ Φ', VP b → tl p + tl b ≤ 200 → CatR a b q → HX s f 0 b Φ Φ' → HX s f 0 q (fun e S => MM n S p e Φ) Φ' := fun b q Φ Φ' vb ht hq h => by
 have ea : ¬ Emp a := dR_ (by omega)
 have e : q = a := by
  by_cases eb : Emp b
  ·exact CatR.det va vb hq (.e2 ea eb)
  ·exact CatR.det va vb hq (.e3 ea eb k)
 subst e
 exact ⟨fun w => absurd w ea, fun _ w => by omega, fun u v w => by omega, fun _ _ m e S S' he hr => mC_ va k t1 Φ Φ' he (hr.up (by decide))⟩
theorem lX_ {n : Nat} {p a : DPattern} (hf : f ≤ 800) (va : VP a) (k : a.Kind ≠ 1 ∧ a.Kind ≠ 15 ∧ a.Kind ≠ 16 ∧ a.Kind ≠ 19) (t1 : T1P s f n p a) : ∀ b q Φ Φ', VP b → tl p + tl b ≤ 200 → CatR a b q → HX s f 0 b Φ Φ' → HX s f 0 q (fun e S => MM n S p e Φ) Φ' := fun b q Φ Φ' vb ht hq h => by
 have ea : ¬ Emp a := dR_ k.1
 by_cases eb : Emp b
 ·have e : q = a := CatR.det va vb hq (.e2 ea eb)
  subst e
  exact ⟨fun w => absurd w ea, fun _ w => by omega, fun u v w => by omega, fun _ _ m e S S' he hr => t1 m S S' e Φ Φ' he (hr.up (by decide)) fun e S S' he hr => h.1 eb e S S' he hr⟩
 ·have e : q = catP a b := CatR.det va vb hq (.ot ea eb ⟨k.2.2.1, k.2.1, k.2.2.2⟩ (fun w => k.1 w.1) fun u v _ w => k.1 w.1)
  subst e
  refine ⟨fun w => absurd w (dR_ (by show ¬ (19 : Int) = 1; decide)), fun _ w => absurd w (by show ¬ (19 : Int) = 1; decide), fun u v _ w1 w2 => ?_, fun _ _ m e S S' he hr => ?_⟩
  ·injection w1 with w1 _
   subst w1
   exact absurd w2 k.1
  ·exact qM_ hf (by decide) hr fun m1 S1 _ hr1 => t1 m1 S S1 e Φ _ he (hr1.up (by decide)) fun e S S' he hr => h.kk hf vb eb m1 he hr
theorem gg_ {n : Nat} {p a : DPattern} (hs : s.size ≤ 200) (hf : f ≤ 800) (va : VP a) (k : a.Kind ≠ 18) (t1 : T1P s f n p a) : ∀ b q c Φ Φ' Ψ, Rg s c → VP b → AltR a b q → PhiD s f Φ Φ' → HA s f b c Ψ Φ' → HA s f q c (fun S => TH (MM n S p c Φ) Ψ) Φ' := fun b q c Φ Φ' Ψ hc vb hq hΦ h => by
 by_cases k16 : a.Kind = 16
 ·have e : q = b := AltR.det va vb hq (.f1 k16)
  subst e
  have key : ∀ S S' o', Rd s f 0 S S' → (∀ S1, Rd s f 0 S1 S' → Gt (Ψ S1) o' (PD s f)) → Gt (TH (MM n S p c Φ) Ψ) o' (PD s f) := fun S S' o' hr hk => th_L fun r _ h1 _ => by
   rcases m1_ hs hf va (.inl k16) t1 hc (fun w => absurd w (dR_ (by omega))) hr r h1 with hb | ⟨e1, e5⟩
   ·exact h5_.1 r () hb
   ·unfold TH
    rw [Option.bind_some, if_pos e1]
    exact hk _ (e5.up (by decide))
  exact ⟨fun k S S' hr => key S S' _ hr fun S1 h1 => h.1 k S1 S' h1, fun k m S S' hr => key S S' _ hr fun S1 h1 => h.2 k m S1 S' h1⟩
 by_cases b16 : b.Kind = 16
 ·have e : q = a := AltR.det va vb hq (.f2 k16 b16)
  subst e
  exact ⟨fun w => absurd w k16, fun _ m S S' hr => oR_ (t1 m S S' c Φ Φ' hc (hr.up (by decide)) hΦ) (h.1 b16)⟩
 by_cases k15 : a.Kind = 15
 ·have e : q = a := AltR.det va vb hq (.f3 b16 k15)
  subst e
  refine ⟨fun w => absurd w k16, fun _ m S S' hr r r' h1 h2 => ?_⟩
  have hb := pJ_ va k15 S' c Φ' r' h2
  obtain ⟨y, y1, y2⟩ := Option.bind_eq_some_iff.1 h1
  have hp := mC_ va (.inr k15) t1 Φ Φ' hc (hr.up (by decide)) y r' y1 h2
  have hy : y.1 = false := by
   rcases hp with hp | hp
   ·exact hp.1
   ·rw [hp.1]; exact hb
  rw [if_neg (by rw [hy]; simp)] at y2
  injection y2 with y2
  rw [← y2]
  obtain ⟨b1, Y⟩ := y
  obtain ⟨b2, Y'⟩ := r'
  have hb : b2 = false := hb
  subst hb
  exact PD.no (b := b1) (b' := false) (S := NS Y) hp
 ·have e : q = altP a b := AltR.det va vb hq (.ot b16 ⟨k16, k15, k⟩)
  subst e
  refine ⟨fun w => absurd w (by show ¬ (18 : Int) = 16; decide), fun _ m S S' hr => tn_ hf (by decide) hr fun m1 S1 _ hr1 => ?_⟩
  show Gt (TH _ _) (AA m1 a b S1 c Φ') _
  rw [og_]
  exact aN_ (t1 m1 S S1 c Φ Φ' hc hr1 hΦ) fun r r' hp => lw_ hp (fun b _ => b8_ fun _ => .inl ⟨rfl, b.2⟩) (fun _ _ hi => hx_ (h.2 b16 m1 _ _ hi)) fun _ _ hi => aI_ hi
abbrev QS (p q : DPattern) : Prop := VP p ∧ q = p
theorem vv_ {p q : DPattern} (h : QS p q) : CgP QS p q := by
 obtain ⟨h1, rfl⟩ := h
 exact ⟨h1, rfl, rfl, rfl, rfl, fun i x y hx hy => ⟨h1.kid (List.mem_of_getElem? hx), by rw [hx] at hy; injection hy with hy; exact hy.symm⟩⟩
theorem mo_ (hs : s.size ≤ 200) (hf : f ≤ 800) : ∀ n m, BD s f 1 QS (BG_impl_search_match n).1 (BG_impl_search_match m).1 ∧ BD s f 0 (fun p q => CgP QS p q ∧ QS p q) (BG_impl_search_match n).2 (BG_impl_search_match m).2
 | 0, _ => ⟨fun _ _ _ _ _ _ _ _ _ _ _ => b2_, fun _ _ _ _ _ _ _ _ _ _ _ => b2_⟩
 | n + 1, 0 => ⟨fun _ _ _ _ _ _ _ _ _ _ _ => cK_, fun _ _ _ _ _ _ _ _ _ _ _ => cK_⟩
 | n + 1, m + 1 => ⟨fun S S' p q c Φ Φ' hq hc hr hΦ => o0_ hs hf ⟨fun h => h.1, fun h => ⟨h, rfl⟩⟩ (mo_ hs hf n m).1 (mo_ hs hf n m).2 S S' p q c Φ Φ' ⟨vv_ hq, hq⟩ hc hr hΦ, qT_ (mo_ hs hf n m).1⟩
abbrev QR (p q : DPattern) : Prop := VP p ∧ (q = p ∨ (SR p q ∧ tl p ≤ 200))
theorem sM_ (hs : s.size ≤ 200) (hf : f ≤ 800) {n : Nat} (ih : ∀ n1, n1 < n → ∀ p a, SR p a → VP p → tl p ≤ 200 → T1P s f n1 p a) {p a : DPattern} (h : CgP QR p a) (hq : QR p a) : T1P s f n p a := by
 have hB : ∀ n1, n1 < n → ∀ m1, BD s f 1 QR (BG_impl_search_match n1).1 (BG_impl_search_match m1).1 := fun n1 hn m1 S S' p q c Φ Φ' hq hc hr hΦ => by
  obtain ⟨vp, rfl | ⟨h1, h2⟩⟩ := hq
  ·exact (mo_ hs hf n1 m1).1 S S' _ _ c Φ Φ' ⟨vp, rfl⟩ hc hr hΦ
  ·exact ih n1 hn p q h1 vp h2 m1 S S' c Φ Φ' hc hr hΦ
 have hK : ∀ n1, n1 < n → ∀ m1, BD s f 0 (fun p q => CgP QR p q ∧ QR p q) (BG_impl_search_match n1).2 (BG_impl_search_match m1).2 := fun n1 hn m1 => by
  cases n1 with
  | zero => exact fun _ _ _ _ _ _ _ _ _ _ _ => b2_
  | succ n1 =>
   cases m1 with
   | zero => exact fun _ _ _ _ _ _ _ _ _ _ _ => cK_
   | succ m1 => exact qT_ (hB n1 (by omega) m1)
 intro m S S' c Φ Φ' hc hr hΦ
 cases n with
 | zero => exact b2_
 | succ n =>
  cases m with
  | zero => exact cK_
  | succ m => exact o0_ hs hf ⟨fun h => h.1, fun h => ⟨h, .inl rfl⟩⟩ (hB n (by omega) m) (hK n (by omega) m) S S' p a c Φ Φ' ⟨h, hq⟩ hc hr hΦ
theorem on_ (hs : s.size ≤ 200) (hf : f ≤ 800) {n : Nat} {p a : DPattern} (va : VP a) (ea : Emp a) (h : ∀ e S S' Φ Φ', PhiD s f Φ Φ' → Rg s e → Rd s f 2 S S' → Gt (MM n S p e Φ) (Φ' e S') (PD s f)) : T1P s f n p a := fun m S S' c Φ Φ' hc hr hΦ => by
 obtain ⟨z, hz⟩ := oo_ va ea.1
 rw [ea.2] at hz
 rw [hz]
 exact ov_ hf (by decide) hr fun m1 S1 _ hr1 => by rw [oH_ hs hc]; exact h c S S1 Φ Φ' hΦ hc (hr1.up (by decide))
theorem ox_ {Φ Φ' : PhiT} (h : PhiD s f Φ Φ') : HX s f 0 emptyP Φ Φ' := ⟨fun _ e S S' he hr => h e S S' he hr, fun w => absurd ⟨rfl, rfl⟩ w, fun u v w => absurd w (by show ¬ (1 : Int) = 19; decide), fun w => absurd rfl w⟩
theorem vE_ {a b q : DPattern} (h : CatR a b q) (na : NF a) (k : q.Kind = 18) : (Emp a ∧ q = b) ∨ (¬ Emp a ∧ Emp b ∧ q = a) := by
 cases h with
 | e1 h => exact .inl ⟨h, rfl⟩
 | e2 h hb => exact .inr ⟨h, hb, rfl⟩
 | e3 _ _ hk => omega
 | @cat _ _ x y u _ hb hk hx h1 h2 =>
  obtain ⟨c1, c2, c3, c4, c5, _⟩ := na.cat hx hk
  have hu := h1.ne (.inr hb)
  cases h2 with
  | e1 h => exact absurd h c1
  | e2 _ h => exact absurd h hu
  | e3 _ _ h => omega
  | cat _ h => omega
  | ss => exact absurd k (by show ¬ (1 : Int) = 18; decide)
  | sc => exact absurd k (by show ¬ (19 : Int) = 18; decide)
  | ot => exact absurd k (by show ¬ (19 : Int) = 18; decide)
 | ss => exact absurd k (by show ¬ (1 : Int) = 18; decide)
 | sc => exact absurd k (by show ¬ (19 : Int) = 18; decide)
 | ot => exact absurd k (by show ¬ (19 : Int) = 18; decide)
theorem ux_ {a b q : DPattern} (h : AltR a b q) (na : NF a) : (a.Kind = 16 ∧ q = b) ∨ (a.Kind ≠ 16 ∧ b.Kind = 16 ∧ q = a) ∨ (a.Kind = 15 ∧ q = a) ∨ q.Kind = 18 := by
 cases h with
 | f1 h => exact .inl ⟨h, rfl⟩
 | f2 h hb => exact .inr (.inl ⟨h, hb, rfl⟩)
 | f3 _ hk => exact .inr (.inr (.inl ⟨hk, rfl⟩))
 | @alt _ _ x y u _ hb hk hx h1 h2 =>
  obtain ⟨c1, c2, c3, c4⟩ := na.alt hx hk
  have hu := h1.ne (.inr hb)
  cases h2 with
  | f1 h => omega
  | f2 _ h => omega
  | f3 _ h => omega
  | alt _ h => omega
  | ot => exact .inr (.inr (.inr rfl))
 | ot => exact .inr (.inr (.inr rfl))
end
end Go.Am
end
