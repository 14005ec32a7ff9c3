/- The law. -/
import Derived.Test.YtnihabnkoegdjaaAg1
import Derived.Test.YtnihabnkoegdjaaAg2
import Derived.Test.YtnihabnkoegdjaaAl6
import Derived.Test.YtnihabnkoegdjaaAl7
section
set_option maxRecDepth 100000
set_option maxHeartbeats 4000000
set_option linter.unusedVariables false
set_option linter.unusedSimpArgs false
namespace Go.Am
abbrev Late (f k : Int) (S : aa_) : Prop := S.fuel_ = f ∧ S.isMere_ = true ∧ k < S.steps_ ∧ S.steps_ ≤ f
theorem Late.u {f k : Int} {S : aa_} (h : Late f k S) : S.fuel_ = f := h.1
theorem Late.m {f k : Int} {S : aa_} (h : Late f k S) : S.isMere_ = true := h.2.1
theorem Late.a {f k : Int} {S : aa_} (h : Late f k S) : k < S.steps_ := h.2.2.1
theorem Late.b {f k : Int} {S : aa_} (h : Late f k S) : S.steps_ ≤ f := h.2.2.2
def LQ (f k : Int) (r : Bool × aa_) : Prop := Bad r ∨ Late f k r.2
def LPhi (f k : Int) (Φ : PhiT) : Prop := ∀ e S, Late f k S → Gv (Φ e S) (LQ f k)
def LR (f k : Int) (R : MTy) : Prop := ∀ S p c Φ, Late f (k - 1) S → LPhi f k Φ → Gv (R S p c Φ) (LQ f k)
def LRK (f k : Int) (R : MTy) : Prop := ∀ S p c Φ, Late f k S → LPhi f k Φ → Gv (R S p c Φ) (LQ f k)
section
variable {f k : Int}
theorem Late.off {S : aa_} (h : Late f k S) : Late f (k - 1) S := ⟨h.u, h.m, by have := h.a; omega, h.b⟩
theorem LQ.yes {r : Bool × aa_} (h : LQ f k r) (hb : r.1 = true) : Late f k r.2 := by
 rcases h with h | h
 ·rw [h.1] at hb; cases hb
 ·exact h
theorem LQ.no {b : Bool} {S : aa_} (h : LQ f k (b, S)) : LQ f k (false, S) := by
 rcases h with h | h
 ·exact .inl ⟨rfl, h.2⟩
 ·exact .inr h
theorem LQ.bad {S : aa_} (h : S.code_ ≠ 0) : LQ f k (false, S) := .inl ⟨rfl, h⟩
def StL (f k : Int) (cd : Int) (mt : Sl DMatch) (y : Bool × Int × Int × Sl DMatch) : Prop := (y.1 = false ∧ y.2.2.1 = 7) ∨ (y.1 = true ∧ k < y.2.1 ∧ y.2.1 ≤ f ∧ y.2.2.1 = cd ∧ y.2.2.2 = mt)
theorem st_l (hf : f ≤ 20000 ∧ 0 ≤ k) {a b : Int} (hb : b = f) (h1 : k ≤ a) (h2 : a ≤ f) (cd : Int) (mt : Sl DMatch) : Gv ((if (decide (a = b)) = true then (some (false, a, 7, (⟨true, []⟩ : Sl DMatch))) else (some (true, (w4 (a + 1)), cd, mt))) : Option (Bool × Int × Int × (Sl DMatch))) (StL f k cd mt) :=
 bc_ (fun _ => ap_ (.inl ⟨rfl, rfl⟩)) fun h => by
  have : a ≠ b := by simpa using h
  rw [aS_ (by omega) (by omega)]
  exact ap_ (.inr ⟨rfl, by show k < a + 1; omega, by show a + 1 ≤ f; omega, rfl, rfl⟩)
theorem lN_ (hf : f ≤ 20000 ∧ 0 ≤ k) {e : Int} {S : aa_} (h : Late f (k - 1) S) : Gv (ak_ S e) (LQ f k) := by
 unfold ak_
 rw [if_pos h.m]
 refine az_ (st_l hf h.u (by have := h.a; omega) h.b _ _) fun y hy => ?_
 obtain ⟨b, t, cd, mt⟩ := y
 rcases hy with ⟨rfl, h1⟩ | ⟨rfl, h1, h2, h3, h4⟩
 ·exact ap_ (LQ.bad (by show cd ≠ 0; intro w; simp only at h1; omega))
 ·exact ap_ (.inr ⟨h.u, h.m, h1, h2⟩)
theorem oq_ (hf : f ≤ 20000 ∧ 0 ≤ k) : LPhi f k (fun e (S : aa_) => ak_ S e) := fun e S h => lN_ hf h.off
theorem rc_l (o : Option (Sl DCapture)) (c : Sl DCapture → Bool) (cd : Int) (mt : Sl DMatch) : Gv (o.bind fun y3 => (if c y3 = true then (some (false, (6 : Int), y3, (⟨true, []⟩ : Sl DMatch))) else (some (true, cd, y3, mt)))) (fun y => (y.1 = false ∧ y.2.1 = 6) ∨ y.1 = true) :=
 az_ cr_ fun y _ => bc_ (fun _ => ap_ (.inl ⟨rfl, rfl⟩)) fun _ => ap_ (.inr rfl)
theorem l_k1 {R1 R2 : MTy} (h1 : LRK f k R1) {p : DPattern} {Φ : PhiT} (hΦ : LPhi f k Φ) : LPhi f k (as_ R1 R2 p Φ) := fun e S h0 => by
 unfold as_
 exact az_ cr_ fun y _ => az_ (h1 _ _ _ _ ⟨h0.u, h0.m, h0.a, h0.b⟩ hΦ) fun r hr => ap_ hr
theorem l_k2 {R1 R2 : MTy} (h1 : LRK f k R1) {p : DPattern} {c : Int} {Φ : PhiT} (hΦ : LPhi f k Φ) : LPhi f k (aq_ R1 R2 c p Φ) := fun e S h0 => by
 unfold aq_
 exact bc_ (fun _ => ap_ (.inr ⟨h0.u, h0.m, h0.a, h0.b⟩)) fun _ => az_ (h1 _ _ _ _ ⟨h0.u, h0.m, h0.a, h0.b⟩ hΦ) fun r hr => ap_ hr
theorem l_k3 {R1 R2 : MTy} {p : DPattern} {c : Int} {Φ : PhiT} (hΦ : LPhi f k Φ) : LPhi f k (al_ R1 R2 p c Φ) := fun e S h0 => by
 unfold al_
 refine az_ cr_ fun y _ => bc_ (fun _ => az_ (rc_l _ _ S.code_ S.matches_) fun q hq => ?_) fun _ => az_ (Q := fun q => LQ f k (q.1, D11 q.2)) (az_ (rc_l _ _ S.code_ S.matches_) fun q hq => ?_) fun q hq => az_ cr_ fun w hw => ap_ ?_
 ·obtain ⟨b, cd, cs, mt⟩ := q
  rcases hq with ⟨rfl, h⟩ | rfl
  ·exact bc_ (fun w => by cases w) fun _ => ap_ (LQ.bad (by show cd ≠ 0; intro w; simp only at h; omega))
  ·exact bc_ (fun _ => az_ (hΦ _ _ ⟨h0.u, h0.m, h0.a, h0.b⟩) fun r hr => ap_ hr) fun w => absurd rfl w
 ·obtain ⟨b, cd, cs, mt⟩ := q
  rcases hq with ⟨rfl, h⟩ | rfl
  ·exact bc_ (fun w => by cases w) fun _ => ap_ (LQ.bad (by show cd ≠ 0; intro w; simp only at h; omega))
  ·exact bc_ (fun _ => az_ (hΦ _ _ ⟨h0.u, h0.m, h0.a, h0.b⟩) fun r hr => ap_ hr) fun w => absurd rfl w
 ·rcases hq with hq | hq
  ·exact .inl ⟨hq.1, hq.2⟩
  ·exact .inr ⟨hq.u, hq.m, hq.a, hq.b⟩
theorem tg_ {R1 R2 : MTy} (h1 : LRK f k R1) : LRK f k (aj_ R1 R2) := fun S p c Φ h0 hΦ => by
 unfold aj_
 refine az_ cr_ fun q _ => bc_ (fun _ => ?_) fun _ => bc_ (fun _ => az_ (h1 _ _ _ _ ⟨h0.u, h0.m, h0.a, h0.b⟩ (l_k1 h1 hΦ)) fun r hr => ap_ hr) fun _ => bc_ (fun _ => ?_) fun _ => az_ (h1 _ _ _ _ ⟨h0.u, h0.m, h0.a, h0.b⟩ (l_k3 hΦ)) fun r hr => ap_ hr
 ·refine az_ (h1 _ _ _ _ ⟨h0.u, h0.m, h0.a, h0.b⟩ hΦ) fun r hr => bc_ (fun hb => az_ cr_ fun q2 _ => az_ (h1 _ _ _ _ ?_ hΦ) fun r2 hr2 => ap_ hr2) fun _ => ap_ (LQ.no (b := r.1) hr)
  exact ⟨(hr.yes hb).u, (hr.yes hb).m, (hr.yes hb).a, (hr.yes hb).b⟩
 ·refine az_ (hΦ _ _ ⟨h0.u, h0.m, h0.a, h0.b⟩) fun r hr => bc_ (fun hb => az_ (h1 _ _ _ _ ?_ (l_k2 h1 hΦ)) fun r2 hr2 => ap_ hr2) fun _ => ap_ (LQ.no (b := r.1) hr)
  exact ⟨(hr.yes hb).u, (hr.yes hb).m, (hr.yes hb).a, (hr.yes hb).b⟩
theorem nR_ (hf : f ≤ 20000 ∧ 0 ≤ k) {R1 R2 : MTy} (h1 : LRK f k R1) (h2 : LRK f k R2) : LR f k (ac_ R1 R2) := fun S p c Φ h0 hΦ => by
 unfold ac_
 refine az_ (st_l hf h0.u (by have := h0.a; omega) h0.b _ _) fun y hy => ?_
 obtain ⟨b, t, cd, mt⟩ := y
 rcases hy with ⟨rfl, h⟩ | ⟨rfl, ha, hb, h, h'⟩
 ·exact bc_ (fun _ => ap_ (LQ.bad (by show cd ≠ 0; intro w; simp only at h; omega))) fun w => absurd rfl w
 simp only at ha hb
 refine bc_ (fun w => by cases w) fun _ => bc_ (fun _ => ?_) fun _ => bc_ (fun _ => az_ cr_ fun y4 _ => ?_) fun _ => bc_ (fun _ => az_ (hΦ _ _ ⟨h0.u, h0.m, ha, hb⟩) fun r hr => ap_ (LQ.no (b := r.1) hr)) fun _ => bc_ (fun _ => ap_ (.inr ⟨h0.u, h0.m, ha, hb⟩)) fun _ => bc_ (fun _ => ap_ (.inr ⟨h0.u, h0.m, ha, hb⟩)) fun _ => bc_ (fun _ => ?_) fun _ => bc_ (fun _ => ?_) fun _ => bc_ (fun _ => ?_) fun _ => bc_ (fun _ => az_ (h2 _ _ _ _ ⟨h0.u, h0.m, ha, hb⟩ hΦ) fun r hr => ap_ hr) fun _ => az_ cr_ fun e _ => bc_ (fun _ => ap_ (.inr ⟨h0.u, h0.m, ha, hb⟩)) fun _ => az_ (hΦ _ _ ⟨h0.u, h0.m, ha, hb⟩) fun r hr => ap_ hr
 ·refine az_ (Q := fun x => Sum.elim (fun y => Late f k (D11 y)) (fun r => LQ f k r) x) (g9_ (fun st : Int × T11 => Late f k (D11 st.2)) ⟨h0.u, h0.m, ha, hb⟩ fun st hst => bc_ (fun _ => ?_) fun _ => ap_ hst) fun x hx => ?_
  ·refine az_ (hΦ _ _ ⟨hst.u, hst.m, hst.a, hst.b⟩) fun r hr => bc_ (fun _ => ap_ (LQ.no (b := r.1) hr)) fun hb => ap_ ?_
   have hb : r.1 = true := by cases h : r.1 <;> simp [h] at hb ⊢
   exact ⟨(hr.yes hb).u, (hr.yes hb).m, (hr.yes hb).a, (hr.yes hb).b⟩
  ·cases x with
   | inl y => exact ap_ (.inr hx)
   | inr r => exact ap_ hx
 ·refine az_ (Q := fun x => Sum.elim (fun y => Late f k (D11 y)) (fun r => LQ f k r) x) (g9_ (fun st : Int × T11 => Late f k (D11 st.2)) ⟨h0.u, h0.m, ha, hb⟩ fun st hst => bc_ (fun _ => ?_) fun _ => ap_ hst) fun x hx => ?_
  ·refine az_ (hΦ _ _ ⟨hst.u, hst.m, hst.a, hst.b⟩) fun r hr => bc_ (fun _ => ap_ (LQ.no (b := r.1) hr)) fun hb => az_ cr_ fun v _ => ap_ ?_
   have hb : r.1 = true := by cases h : r.1 <;> simp [h] at hb ⊢
   exact ⟨(hr.yes hb).u, (hr.yes hb).m, (hr.yes hb).a, (hr.yes hb).b⟩
  ·cases x with
   | inl y => exact ap_ (.inr hx)
   | inr r => exact ap_ hx
 ·refine az_ (Q := fun x => Sum.elim (fun y => LQ f k (false, D11 y)) (fun r => LQ f k r) x) (g9_ (fun st : T11 => Late f k (D11 st)) ⟨h0.u, h0.m, ha, hb⟩ fun st hst => ?_) fun x hx => ?_
  ·refine az_ (hΦ _ _ ⟨hst.u, hst.m, hst.a, hst.b⟩) fun r hr => bc_ (fun hb => ?_) fun hb => ap_ ?_
   ·have hl := hr.yes hb
    refine az_ (st_l hf hl.u (by have := hl.a; omega) hl.b _ _) fun y hy => ?_
    obtain ⟨b, t, cd, mt⟩ := y
    rcases hy with ⟨rfl, h⟩ | ⟨rfl, ha, hb, h, h'⟩
    ·exact bc_ (fun _ => ap_ (LQ.bad (by show cd ≠ 0; intro w; simp only at h; omega))) fun w => absurd rfl w
    ·exact bc_ (fun w => by cases w) fun _ => ap_ ⟨hl.u, hl.m, ha, hb⟩
   ·exact LQ.no (b := r.1) hr
  ·cases x with
   | inl y => exact ap_ hx
   | inr r => exact ap_ hx
 ·refine az_ (rc_l _ _ _ _) fun q hq => ?_
  obtain ⟨b, cd, cs, mt⟩ := q
  rcases hq with ⟨rfl, h⟩ | rfl
  ·exact bc_ (fun w => by cases w) fun _ => ap_ (LQ.bad (by show cd ≠ 0; intro w; simp only at h; omega))
  ·exact bc_ (fun _ => az_ (hΦ _ _ ⟨h0.u, h0.m, ha, hb⟩) fun r hr => ap_ hr) fun w => absurd rfl w
 ·exact az_ cr_ fun i _ => bc_ (fun _ => ap_ (LQ.bad (by show (5 : Int) ≠ 0; decide))) fun _ => az_ cr_ fun q _ => az_ (h1 _ _ _ _ ⟨h0.u, h0.m, ha, hb⟩ hΦ) fun r hr => ap_ hr
theorem LR.kk {R : MTy} (h : LR f k R) : LRK f k R := fun S p c Φ h0 hΦ => h S p c Φ h0.off hΦ
theorem lu_ (hf : f ≤ 20000 ∧ 0 ≤ k) : ∀ n, LR f k (BG_impl_search_match n).1 ∧ LRK f k (BG_impl_search_match n).2
 | 0 => ⟨fun _ _ _ _ _ _ => oz_, fun _ _ _ _ _ _ => oz_⟩
 | n + 1 => ⟨nR_ hf (lu_ hf n).1.kk (lu_ hf n).2, tg_ (lu_ hf n).1.kk⟩
end
end Go.Am
end
