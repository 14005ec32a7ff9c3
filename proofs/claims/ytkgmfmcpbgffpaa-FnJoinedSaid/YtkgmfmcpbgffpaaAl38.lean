/- The law. -/
import Derived.Test.YtkgmfmcpbgffpaaAg2
import Derived.Test.YtkgmfmcpbgffpaaAg1
import Derived.Test.YtkgmfmcpbgffpaaAl12
import Derived.Test.YtkgmfmcpbgffpaaAl18
import Derived.Test.YtkgmfmcpbgffpaaAl15
import Derived.Test.YtkgmfmcpbgffpaaAl33
section
set_option maxRecDepth 100000
set_option maxHeartbeats 4000000
set_option linter.unusedVariables false
set_option linter.unusedSimpArgs false
namespace Go.Am
namespace Te
def ExO {α : Type} (o : Option α) (P : α → Prop) : Prop := ∃ r, o = some r ∧ P r
section
variable {α β : Type}
theorem ba_ {o : Option α} {g : α → Option β} {Q : α → Prop} {P : β → Prop} (h : ExO o Q) (k : ∀ y, Q y → ExO (g y) P) : ExO (o.bind g) P := by
 obtain ⟨y, h1, h2⟩ := h
 rw [h1]; exact k y h2
theorem aQ_ {x : α} {P : α → Prop} (h : P x) : ExO (some x) P := ⟨x, rfl, h⟩
theorem ch_ {c : Prop} [Decidable c] {a b : Option α} {P : α → Prop} (h1 : c → ExO a P) (h2 : ¬ c → ExO b P) : ExO (if c then a else b) P := by
 by_cases h : c
 ·rw [if_pos h]; exact h1 h
 ·rw [if_neg h]; exact h2 h
theorem iF_ {o : Option α} {P Q : α → Prop} (h : ExO o P) (k : ∀ x, P x → Q x) : ExO o Q := by
 obtain ⟨r, h1, h2⟩ := h; exact ⟨r, h1, k r h2⟩
end
theorem km_ {S R : Type} {b : S → Option (S ⊕ R)} (I : S → Prop) (μ : S → Nat) {P : R → Prop} (h : ∀ s, I s → ExO (b s) (fun x => Sum.elim (fun s' => I s' ∧ μ s' < μ s) P x)) : ∀ s, I s → ExO (az_ b s) P := by
 suffices H : ∀ n s, μ s < n → I s → ExO (az_ b s) P from fun s hs => H (μ s + 1) s (by omega) hs
 intro n
 induction n with
 | zero => intro s h0; omega
 | succ n ih =>
  intro s h0 hs
  obtain ⟨x, h1, h2⟩ := h s hs
  cases x with
  | inl s' =>
   obtain ⟨r, r1, r2⟩ := ih s' (by have := h2.2; omega) h2.1
   exact ⟨r, au_ h1 r1, r2⟩
  | inr r => exact ⟨r, aj_ h1, h2⟩
inductive Wf (s : ByteArray) (env : Sl DNamed) (f t0 : Int) (m : Nat) : aa_ → Prop
 | mk {st mo t : Int} {nw cd : Sl DCapture} {mt : Sl DMatch} {me : Bool} (h4 : nw.l.length + cd.l.length ≤ 100) (h6 : mt.l.length ≤ 60) (ht : t0 ≤ t ∧ t ≤ f) (hm : m ≤ cd.l.length) : Wf s env f t0 m ⟨env, s, f, t, st, nw, cd, mt, mo, me, T.nilm, 0⟩
section
variable {s : ByteArray} {env : Sl DNamed} {f : Int}
def PX (s : ByteArray) (env : Sl DNamed) (f t : Int) (m : Nat) (r : Bool × aa_) : Prop := r.2.matches_.l.length ≤ 60 ∧ m ≤ r.2.conds_.l.length ∧ (r.1 = true → Wf s env f t m (NS r.2))
def Rn (s : ByteArray) (c e : Int) : Prop := c ≤ e ∧ e ≤ (s.size : Int)
def PhiX (s : ByteArray) (env : Sl DNamed) (f t0 c : Int) (Φ : PhiT) : Prop := ∀ e S t m, t0 ≤ t → Rn s c e → Wf s env f t m S → ExO (Φ e S) (PX s env f t m)
def XR (s : ByteArray) (env : Sl DNamed) (f t0 : Int) (R : MTy) : Prop := ∀ S p c Φ t m, t0 ≤ t → VP p → Rn s 0 c → Wf s env f t m S → PhiX s env f t0 c Φ → ExO (R S p c Φ) (PX s env f t m)
def XK (s : ByteArray) (env : Sl DNamed) (f t0 : Int) (R : MTy) : Prop := ∀ S p c Φ t m, t0 ≤ t → VP p → 0 < p.Kids.l.length → Rn s 0 c → Wf s env f t m S → PhiX s env f t0 c Φ → ExO (R S p c Φ) (PX s env f t m)
theorem Wf.le {t t' : Int} {m m' : Nat} {S : aa_} (h : Wf s env f t m S) (ht : t' ≤ t) (hm : m' ≤ m) : Wf s env f t' m' S := by cases h with | mk h4 h6 h1 h2 => exact .mk h4 h6 ⟨by omega, h1.2⟩ (by omega)
theorem PX.le {t t' : Int} {m m' : Nat} {r : Bool × aa_} (h : PX s env f t m r) (ht : t' ≤ t) (hm : m' ≤ m) : PX s env f t' m' r := ⟨h.1, by have := h.2.1; omega, fun w => (h.2.2 w).le ht hm⟩
theorem Wf.ns {t : Int} {m : Nat} {S : aa_} (h : Wf s env f t m S) : Wf s env f t m (NS S) := by cases h with | mk h4 h6 h1 h2 => exact .mk h4 h6 h1 h2
theorem PX.ok {t : Int} {m : Nat} {S : aa_} (b : Bool) (h : Wf s env f t m S) : PX s env f t m (b, NS S) := by
 cases h with | mk h4 h6 h1 h2 => exact ⟨h6, h2, fun _ => .mk h4 h6 h1 h2⟩
theorem PhiX.le {t0 t1 c c' : Int} {Φ : PhiT} (h : PhiX s env f t0 c Φ) (ht : t0 ≤ t1) (hc : c ≤ c') : PhiX s env f t1 c' Φ := fun e S t m h1 h2 h3 => h e S t m (by omega) ⟨by have := h2.1; omega, h2.2⟩ h3
theorem el_ {o : Option (Bool × aa_)} {t : Int} {m : Nat} (h : ExO o (PX s env f t m)) : ExO (o.bind fun y => some (y.1, NS y.2)) (PX s env f t m) := ba_ h fun y hy => aQ_ hy
theorem qc_ {t : Int} {mt : Sl DMatch} (hf : f ≤ 20000) (h : 0 ≤ t ∧ t ≤ f) :
  ExO ((if (decide (t = f)) = true then (some (false, t, 7, (⟨true, []⟩ : Sl DMatch))) else (some (true, (w4 (t + 1)), 0, mt))) : Option (Bool × Int × Int × (Sl DMatch))) (fun y => (y = (false, t, 7, ⟨true, []⟩)) ∨ (y = (true, t + 1, 0, mt) ∧ t + 1 ≤ f)) := by
 by_cases h1 : t = f
 ·rw [if_pos (by simpa using h1)]; exact aQ_ (.inl rfl)
 ·rw [if_neg (by simpa using h1), a4_ (by omega) (by omega)]; exact aQ_ (.inr ⟨rfl, by omega⟩)
theorem os_ (a b : Sl DCapture) (x : DCapture) (mt : Sl DMatch) (h : a.l.length + b.l.length ≤ 100) {e : Int → Int} (he : ∀ y : Sl DCapture, y.l.length ≤ 101 → e (y.l.length : Int) = (y.l.length : Int) + (b.l.length : Int)) :
  ExO ((appS 48 a (⟨false, [x]⟩ : Sl DCapture)).bind fun y3 => (if ((decide (100 < e (y3.l.length : Int)))) = true then (some (false, (6 : Int), y3, (⟨true, []⟩ : Sl DMatch))) else (some (true, 0, y3, mt)))) (fun y => (y.2.2.1.l.length = a.l.length + 1) ∧ ((∃ q, y = (false, 6, q, ⟨true, []⟩)) ∨ ∃ q, y = (true, 0, q, mt) ∧ q.l.length + b.l.length ≤ 100)) := by
 obtain ⟨z, l⟩ := a
 have h : l.length + b.l.length ≤ 100 := h
 rw [dH_ (by omega), Option.bind_some]
 have hl : ((⟨false, l ++ [x]⟩ : Sl DCapture).l.length : Int) = (l.length : Int) + 1 := by simp
 have hee := he ⟨false, l ++ [x]⟩ (by simp; omega)
 rw [hee, hl]
 by_cases hq : 100 < (l.length : Int) + 1 + (b.l.length : Int)
 ·rw [if_pos (by simpa using hq)]; exact aQ_ ⟨by simp, .inl ⟨_, rfl⟩⟩
 ·rw [if_neg (by simpa using hq)]; exact aQ_ ⟨by simp, .inr ⟨_, rfl, by simp; omega⟩⟩
variable {R R2 : MTy} {p : DPattern} {c t0 : Int} {Φ : PhiT}
theorem rf_ (hf : f ≤ 20000) (h0 : 0 ≤ t0) : PhiX s env f t0 c (fun e (S : aa_) => aK_ S e) := fun e S t m ht hc hw => by
 cases hw with
 | @mk st mo t' nw cd mt me h4 h6 h1 hm =>
  unfold aK_
  have hs1 : t ≤ t' + 1 := by omega
  have hs0 : 0 ≤ t' := by omega
  refine ch_ (fun _ => ba_ (qc_ hf ⟨hs0, h1.2⟩) fun y hy => ?_) fun _ => ba_ (qc_ hf ⟨hs0, h1.2⟩) fun y hy => ?_
  ·rcases hy with rfl | ⟨rfl, q⟩
   ·exact aQ_ ⟨Nat.zero_le _, hm, fun w => by cases w⟩
   ·exact aQ_ ⟨h6, hm, fun _ => .mk h4 h6 ⟨hs1, q⟩ hm⟩
  ·rcases hy with rfl | ⟨rfl, q⟩
   ·exact ch_ (fun _ => aQ_ ⟨Nat.zero_le _, hm, fun w => by cases w⟩) fun w => absurd rfl w
   ·refine ch_ (fun w => by cases w) fun _ => ch_ (fun _ => aQ_ ⟨h6, hm, fun w => by cases w⟩) fun h60 => ba_ (Q := fun _ => True) ?_ fun y _ => ba_ (Q := fun q => q.l.length ≤ 60) ?_ fun y hy => aQ_ ⟨hy, hm, fun _ => .mk h4 hy ⟨hs1, q⟩ hm⟩
    ·obtain ⟨y, y1, y2⟩ := kO_ nw cd h4
     exact ⟨y, y1, trivial⟩
    ·obtain ⟨z, l⟩ := mt
     have h6 : l.length ≤ 60 := h6
     have h60 : ¬ (l.length : Int) = 60 := by simpa using h60
     exact ⟨_, dH_ (by omega), by show (l ++ [_]).length ≤ 60; simp; omega⟩
theorem x_k1 {y : DPattern} (he : elt p.Kids 1 = some y) (vy : VP y) (hc : 0 ≤ c) (hR : XR s env f t0 R) (hΦ : PhiX s env f t0 c Φ) : PhiX s env f t0 c (aC_ R R2 p Φ) := fun e S t m ht hr hw => by
 unfold aC_
 rw [he, Option.bind_some]
 exact el_ (hR _ _ _ _ t m ht vy ⟨by have := hr.1; omega, hr.2⟩ hw.ns (hΦ.le (Int.le_refl _) hr.1))
theorem x_k2 (vp : VP p) (hc : 0 ≤ c) (hR : XR s env f t0 R) (hΦ : PhiX s env f t0 c Φ) : PhiX s env f t0 c (al_ R R2 c p Φ) := fun e S t m ht hr hw => by
 unfold al_
 exact ch_ (fun _ => aQ_ (PX.ok true hw)) fun _ => el_ (hR _ _ _ _ t m ht vp ⟨by have := hr.1; omega, hr.2⟩ hw.ns (hΦ.le (Int.le_refl _) hr.1))
theorem x_k3 (hc : 0 ≤ c) (hΦ : PhiX s env f t0 c Φ) : PhiX s env f t0 c (aq_ R R2 p c Φ) := fun e S t m ht hr hw => by
 cases hw with
 | @mk st mo t' nw cd mt me h4 h6 h1 hm =>
  unfold aq_
  refine ba_ (Q := fun _ => True) ⟨_, by unfold subB; rw [if_pos ⟨hc, hr.1, hr.2⟩], trivial⟩ fun y _ => ch_ (fun _ => ?_) fun _ => ?_
  ·refine ba_ (os_ nw cd _ mt h4 (e := fun n => w4 (n + (cd.l.length : Int))) (fun q hq => a4_ (by omega) (by omega))) fun y hy => ?_
   rcases hy.2 with ⟨q, rfl⟩ | ⟨q, rfl, hq⟩
   ·exact ch_ (fun w => by cases w) fun _ => aQ_ ⟨Nat.zero_le _, hm, fun w => by cases w⟩
   ·exact ch_ (fun _ => el_ (hΦ _ _ t m ht hr (.mk hq h6 h1 hm))) fun w => absurd rfl w
  ·refine ba_ (Q := fun q => PX s env f t (cd.l.length + 1) (q.1, D11 q.2)) (ba_ (os_ cd nw _ mt (by omega) (e := fun n => w4 ((nw.l.length : Int) + n)) (fun q hq => (a4_ (by omega) (by omega)).trans (Int.add_comm _ _))) fun y hy => ?_) fun q hq => ?_
   ·obtain ⟨hl, hy⟩ := hy
    rcases hy with ⟨q, rfl⟩ | ⟨q, rfl, hq⟩
    ·exact ch_ (fun w => by cases w) fun _ => aQ_ ⟨Nat.zero_le _, by show cd.l.length + 1 ≤ q.l.length; have hl : q.l.length = cd.l.length + 1 := hl; omega, fun w => by cases w⟩
    ·have hl : q.l.length = cd.l.length + 1 := hl
     exact ch_ (fun _ => ba_ (hΦ _ _ t (cd.l.length + 1) ht hr (.mk (by show nw.l.length + q.l.length ≤ 100; omega) h6 h1 (by omega))) fun r hr => aQ_ hr) fun w => absurd rfl w
   ·obtain ⟨b, x1, x2, x3, x4, x5, x6, x7, x8, x9, x10, x11⟩ := q
    obtain ⟨g1, g2, g3⟩ := hq
    have g1 : x11.l.length ≤ 60 := g1
    have g2 : cd.l.length + 1 ≤ x10.l.length := g2
    refine ba_ (Q := fun w => w.l.length = cd.l.length) ⟨⟨false, x10.l.take cd.l.length⟩, ?_, by show (x10.l.take cd.l.length).length = _; rw [List.length_take]; omega⟩ fun w hw => ?_
    ·show cutS x10 (cd.l.length : Int) = _
     unfold cutS
     rw [if_pos ⟨by omega, by omega, by omega⟩]
     simp
    ·refine aQ_ ⟨g1, by show m ≤ w.l.length; omega, fun hb => ?_⟩
     have g3 : Wf s env f t (cd.l.length + 1) ⟨x1, x2, x3, x4, x5, x9, x10, x11, x6, x7, T.nilm, x8⟩ := g3 hb
     cases g3 with
     | mk k4 k6 k1 km => exact .mk (by show x9.l.length + w.l.length ≤ 100; omega) k6 k1 (show m ≤ w.l.length by omega)
theorem ur_ (hR : XR s env f t0 R) : XK s env f t0 (ai_ R R2) := fun S p c Φ t m ht vp hk hc hw hΦ => by
 have e0 : elt p.Kids 0 = some (p.Kids.l[0]'hk) := bm_ (s := p.Kids) (i := 0) hk
 have v0 : VP (p.Kids.l[0]'hk) := vp.kid (List.getElem_mem hk)
 have c0 := hc.1
 unfold ai_
 rw [e0, Option.bind_some]
 have e1 : p.Kind = 18 ∨ p.Kind = 19 → ∃ y, elt p.Kids 1 = some y ∧ VP y := fun h => by
  have n := vp.node.2.1
  unfold kidN at n
  rw [if_pos h] at n
  have h1 : 1 < p.Kids.l.length := by omega
  exact ⟨_, bm_ (s := p.Kids) (i := 1) h1, vp.kid (List.getElem_mem h1)⟩
 refine ch_ (fun k => ba_ (hR _ _ _ _ t m ht v0 hc hw.ns hΦ) fun r hr => ?_) fun _ => ch_ (fun k => ?_) fun _ => ch_ (fun _ => ba_ (hΦ c _ t m ht ⟨Int.le_refl _, hc.2⟩ hw.ns) fun r hr => ?_) fun _ => el_ (hR _ _ _ _ t m ht v0 hc hw.ns (x_k3 c0 hΦ))
 ·obtain ⟨y, y1, y2⟩ := e1 (.inl (by simpa using k))
  refine ch_ (fun hb => ?_) fun _ => aQ_ ⟨hr.1, hr.2.1, fun w => by cases w⟩
  rw [y1, Option.bind_some]
  exact el_ (hR _ _ _ _ t m ht y2 hc (hr.2.2 hb) hΦ)
 ·obtain ⟨y, y1, y2⟩ := e1 (.inr (by simpa using k))
  exact el_ (hR _ _ _ _ t m ht v0 hc hw.ns (x_k1 y1 y2 c0 hR hΦ))
 ·exact ch_ (fun hb => el_ (hR _ _ _ _ t m ht v0 hc (hr.2.2 hb) (x_k2 vp c0 hR hΦ))) fun _ => aQ_ ⟨hr.1, hr.2.1, fun w => by cases w⟩
theorem ot_ {b : Bool} {t : Int} {m : Nat} {x : T11 ⊕ (Bool × aa_)} (h : PX s env f t m (h1_ b x)) : ExO (Sum.elim (fun y => some (b, D11 y)) (fun y => some y) x) (PX s env f t m) := by
 cases x <;> exact aQ_ h
theorem n3_ (hl : env.l.length ≤ 40) (tx : ByteArray) : ∀ (m i : Nat), i + m = env.l.length → ExO (az_ (S := Int) (R := (Unit ⊕ Int)) (fun st4 => (if (decide (st4 < (env.l.length : Int))) = true then ((elt env st4).bind fun y17 => (if (decide (y17.Name = tx)) = true then (some (.inr (.inr st4))) else (some (.inl (w4 (st4 + 1)))))) else (some (.inr (.inl ()))))) (i : Int)) (fun x => x = .inl () ∨ ∃ j : Nat, j < env.l.length ∧ x = .inr (j : Int))
 | 0, i, hi => ⟨_, aj_ (if_neg (by simp; omega)), .inl rfl⟩
 | m + 1, i, hi => by
  have hlt : i < env.l.length := by omega
  by_cases hn : env.l[i].Name = tx
  ·exact ⟨_, aj_ (r := .inr (i : Int)) (by rw [if_pos (by simpa using hlt), bm_ hlt, Option.bind_some, if_pos (by simpa using hn)]), .inr ⟨i, hlt, rfl⟩⟩
  ·obtain ⟨r, r1, r2⟩ := n3_ hl tx m (i + 1) (by omega)
   have ec : ((i + 1 : Nat) : Int) = (i : Int) + 1 := by simp
   rw [ec] at r1
   exact ⟨r, au_ (s' := (i : Int) + 1) (by rw [if_pos (by simpa using hlt), bm_ hlt, Option.bind_some, if_neg (by simpa using hn), a4_ (by omega) (by omega)]) r1, r2⟩
theorem q5_ (hs : s.size ≤ 200) (hE : ∀ x ∈ env.l, VP x.Pattern) (hl : env.l.length ≤ 40) (hf : f ≤ 20000) (h0 : 0 ≤ t0) (hR : t0 + 1 ≤ f → XR s env f (t0 + 1) R) (hR2 : t0 + 1 ≤ f → XK s env f (t0 + 1) R2) : XR s env f t0 (ac_ R R2) := fun S p c Φ t m ht vp hc hw hΦ => by
 obtain ⟨k, n, tx, K⟩ := p
 cases hw with
 | @mk st mo t' nw cd mt me h4 h6 h1 hm =>
  unfold ac_
  have hs0 : 0 ≤ t' := by omega
  have hs1 : t ≤ t' + 1 := by omega
  have hs2 : t + 1 ≤ t' + 1 := by omega
  refine ba_ (qc_ hf ⟨hs0, h1.2⟩) fun y hy => ?_
  rcases hy with rfl | ⟨rfl, q1⟩
  ·exact ch_ (fun _ => aQ_ ⟨Nat.zero_le _, hm, fun w => by cases w⟩) fun w => absurd rfl w
  have q1 : t' + 1 ≤ f := q1
  have hr : Wf s env f (t + 1) m ⟨env, s, f, t' + 1, st, nw, cd, mt, mo, me, T.nilm, 0⟩ := .mk h4 h6 ⟨hs2, q1⟩ hm
  have hR := hR (by omega)
  have hR2 := hR2 (by omega)
  have hΦ1 : PhiX s env f (t0 + 1) c Φ := hΦ.le (by omega) (Int.le_refl _)
  have dn : ∀ {r : Bool × aa_}, PX s env f (t + 1) m r → PX s env f t m r := fun h => h.le (by omega) (Nat.le_refl _)
  have call : ∀ e, Rn s c e → ExO (Φ e ⟨env, s, f, t' + 1, st, nw, cd, mt, mo, me, T.nilm, 0⟩) (PX s env f t m) := fun e he => iF_ (hΦ e _ (t + 1) m (by omega) he hr) fun x hx => dn hx
  have ok : ∀ b, PX s env f t m (b, ⟨env, s, f, t' + 1, st, nw, cd, mt, mo, me, T.nilm, 0⟩) := fun b => ⟨h6, hm, fun _ => .mk h4 h6 ⟨hs1, q1⟩ hm⟩
  refine ch_ (fun w => by cases w) fun _ => ch_ (fun _ => ?_) fun k12 => ch_ (fun _ => ?_) fun k13 => ch_ (fun _ => ba_ (call c ⟨Int.le_refl _, hc.2⟩) fun r hr => aQ_ ⟨hr.1, hr.2.1, fun w => by cases w⟩) fun k14 => ch_ (fun _ => aQ_ (ok false)) fun k15 => ch_ (fun _ => aQ_ (ok true)) fun k16 => ch_ (fun _ => ?_) fun k17 => ch_ (fun _ => ?_) fun k23 => ch_ (fun _ => ?_) fun k24 => ch_ (fun kk => el_ (iF_ (hR2 _ _ _ _ (t + 1) m (by omega) vp (by simpa using kk) hc hr hΦ1) fun x hx => dn hx)) fun kk => ?_
  ·refine ba_ (Q := fun x => PX s env f t m (h1_ true x)) (km_ (fun st : Int × T11 => ∃ j A, c ≤ j ∧ Wf s env f (t + 1) m A ∧ st = (j, hF_ A)) (fun st => ((s.size : Int) + 1 - st.1).toNat) (fun st hst => ?_) _ ⟨c, _, Int.le_refl _, hr, rfl⟩) fun x hx => ot_ hx
   obtain ⟨j, A, hj, hA, rfl⟩ := hst
   cases hA with
   | @mk st mo t2 nw cd mt me g4 g6 g1 gm =>
    have hA : Wf s env f (t + 1) m ⟨env, s, f, t2, st, nw, cd, mt, mo, me, T.nilm, 0⟩ := .mk g4 g6 g1 gm
    refine ch_ (fun hjs => ba_ (hΦ j _ (t + 1) m (by omega) ⟨hj, of_decide_eq_true hjs⟩ hA) fun r hr => ch_ (fun _ => aQ_ (dn ⟨hr.1, hr.2.1, fun w => by cases w⟩)) fun hb => aQ_ ⟨⟨_, NS r.2, ?_, hr.2.2 (by cases h : r.1 <;> simp [h] at hb ⊢), rfl⟩, ?_⟩) fun _ => aQ_ (dn ⟨g6, gm, fun _ => hA⟩)
    ·have hjs : j ≤ (s.size : Int) := of_decide_eq_true hjs
     have := hc.1
     show c ≤ w4 (j + 1)
     rw [a4_ (by omega) (by omega)]; omega
    ·have hjs : j ≤ (s.size : Int) := of_decide_eq_true hjs
     have := hc.1
     show ((s.size : Int) + 1 - w4 (j + 1)).toNat < ((s.size : Int) + 1 - j).toNat
     rw [a4_ (by omega) (by omega)]; omega
  ·obtain ⟨cn, rfl⟩ : ∃ n : Nat, c = n := ⟨c.toNat, by have := hc.1; omega⟩
   have hcn : cn ≤ s.size := by have := hc.2; omega
   have hbal : ∀ e : Int, ExO (aU_ s (cn : Int) e) (fun v => v < 0 ∨ (e < v ∧ (cn : Int) ≤ v ∧ v ≤ s.size)) := fun e => by
    obtain ⟨v, _, v2, v3⟩ := rL_ (s := s) cn e hs hcn
    exact ⟨v, v2, v3⟩
   refine ba_ (hbal _) fun v hv => ba_ (Q := fun x => PX s env f t m (h1_ true x)) (km_ (fun st : Int × T11 => ∃ j A, (j < 0 ∨ ((cn : Int) ≤ j ∧ j ≤ s.size)) ∧ Wf s env f (t + 1) m A ∧ st = (j, hF_ A)) (fun st => if st.1 < 0 then 0 else ((s.size : Int) + 1 - st.1).toNat) (fun st hst => ?_) _ ⟨v, _, by omega, hr, rfl⟩) fun x hx => ot_ hx
   obtain ⟨j, A, hj, hA, rfl⟩ := hst
   cases hA with
   | @mk st mo t2 nw cd mt me g4 g6 g1 gm =>
    have hA : Wf s env f (t + 1) m ⟨env, s, f, t2, st, nw, cd, mt, mo, me, T.nilm, 0⟩ := .mk g4 g6 g1 gm
    refine ch_ (fun hjs => ?_) fun _ => aQ_ (dn ⟨g6, gm, fun _ => hA⟩)
    have hjs : 0 ≤ j := of_decide_eq_true hjs
    refine ba_ (hΦ j _ (t + 1) m (by omega) ⟨by omega, by omega⟩ hA) fun r hr => ch_ (fun _ => aQ_ (dn ⟨hr.1, hr.2.1, fun w => by cases w⟩)) fun hb => ?_
    have hW := hr.2.2 (by cases h : r.1 <;> simp [h] at hb ⊢)
    have hsub : r.2.subject_ = s := by
     generalize hX : NS r.2 = X at hW
     cases hW
     exact congrArg aa_.subject_ hX
    have hb2 : ExO (aU_ r.2.subject_ (cn : Int) j) (fun v => v < 0 ∨ (j < v ∧ (cn : Int) ≤ v ∧ v ≤ s.size)) := by rw [hsub]; exact hbal j
    refine ba_ hb2 fun v hv => aQ_ ⟨⟨v, NS r.2, by omega, hW, rfl⟩, ?_⟩
    show (if v < 0 then 0 else ((s.size : Int) + 1 - v).toNat) < (if j < 0 then 0 else ((s.size : Int) + 1 - j).toNat)
    rw [if_neg (show ¬ j < 0 by omega)]
    split <;> omega
  ·refine ba_ (Q := fun x => PX s env f t m (h1_ false x)) (km_ (fun st : T11 => ∃ A, Wf s env f (t + 1) m A ∧ st = hF_ A) (fun st => (f - (D11 st).steps_).toNat) (fun st hst => ?_) _ ⟨_, hr, rfl⟩) fun x hx => ot_ hx
   obtain ⟨A, hA, rfl⟩ := hst
   refine ba_ (Q := fun r => PX s env f A.steps_ m r ∧ t + 1 ≤ A.steps_ ∧ A.steps_ ≤ f) ?_ fun r hr => ch_ (fun hb => ?_) fun hb => aQ_ (dn ⟨hr.1.1, hr.1.2.1, fun w => by cases w⟩)
   ·cases hA with
    | @mk st mo t2 nw cd mt me g4 g6 g1 gm => exact iF_ (hΦ c _ t2 m (by omega) ⟨Int.le_refl _, hc.2⟩ (.mk g4 g6 ⟨Int.le_refl _, g1.2⟩ gm)) fun x hx => ⟨hx, g1⟩
   ·obtain ⟨hr, g1⟩ := hr
    have hW := hr.2.2 hb
    obtain ⟨b, U⟩ := r
    obtain ⟨u1, u2, u3, u4, u5, u6, u7, u8, u9, u10, u11, u12⟩ := U
    have hW : Wf s env f A.steps_ m ⟨u1, u2, u3, u4, u5, u6, u7, u8, u9, u10, T.nilm, u12⟩ := hW
    cases hW with
    | mk k4 k6 k1 km =>
     have k1 : A.steps_ ≤ u4 ∧ u4 ≤ f := k1
     have k0 : 0 ≤ u4 := by omega
     have k3 : t + 1 ≤ u4 + 1 := by omega
     refine ba_ (qc_ hf ⟨k0, k1.2⟩) fun y hy => ?_
     rcases hy with rfl | ⟨rfl, q⟩
     ·exact ch_ (fun _ => aQ_ ⟨Nat.zero_le _, km, fun w => by cases w⟩) fun w => absurd rfl w
     ·refine ch_ (fun w => by cases w) fun _ => aQ_ ⟨⟨_, .mk k4 k6 ⟨k3, q⟩ km, rfl⟩, ?_⟩
      show (f - (u4 + 1)).toNat < (f - A.steps_).toNat
      have q : u4 + 1 ≤ f := q
      omega
  ·refine ba_ (os_ nw cd _ mt h4 (e := fun n => w4 (n + (cd.l.length : Int))) (fun q hq => a4_ (by omega) (by omega))) fun y hy => ?_
   rcases hy.2 with ⟨q, rfl⟩ | ⟨q, rfl, hq⟩
   ·exact ch_ (fun w => by cases w) fun _ => aQ_ ⟨Nat.zero_le _, hm, fun w => by cases w⟩
   ·exact ch_ (fun _ => el_ (iF_ (hΦ _ _ (t + 1) m (by omega) ⟨Int.le_refl _, hc.2⟩ (.mk hq h6 ⟨hs2, q1⟩ hm)) fun x hx => dn hx)) fun w => absurd rfl w
  ·refine ba_ (Q := fun i : Int => i < 0 ∨ ∃ j : Nat, j < env.l.length ∧ i = j) (ba_ (by have := n3_ hl tx env.l.length 0 (by omega); rw [show ((0 : Nat) : Int) = 0 from rfl] at this; exact this) fun x hx => ?_) fun i hi => ch_ (fun _ => aQ_ ⟨Nat.zero_le _, hm, fun w => by cases w⟩) fun hn => ?_
   ·rcases hx with rfl | ⟨j, hj, rfl⟩
    ·exact aQ_ (.inl (by decide))
    ·exact aQ_ (.inr ⟨j, hj, rfl⟩)
   ·rcases hi with hi | ⟨j, hj, rfl⟩
    ·exact absurd hi (by simpa using hn)
    ·rw [bm_ hj, Option.bind_some]
     exact el_ (iF_ (hR _ _ _ _ (t + 1) m (by omega) (hE _ (List.getElem_mem hj)) hc hr hΦ1) fun x hx => dn hx)
  ·obtain ⟨cn, rfl⟩ : ∃ n : Nat, c = n := ⟨c.toNat, by have := hc.1; omega⟩
   have hcn : cn ≤ s.size := by have := hc.2; omega
   have hk : 1 ≤ k ∧ k ≤ 11 := by
    have k0 : ¬ (0 < (K.l.length : Int)) := fun w => kk (by simpa using w)
    have n2 : (K.l.length : Int) = kidN k := vp.node.2.1
    have n1 : 1 ≤ k ∧ k ≤ 24 := vp.node.1
    unfold kidN at n2
    simp only [decide_eq_true_eq] at k12 k13 k14 k15 k16 k17 k23 k24
    split at n2
    ·omega
    ·split at n2 <;> omega
   obtain ⟨e, _, e2, e3⟩ := uz_ ⟨k, n, tx, K⟩ s cn hs hcn hk vp.node.2.2
   have e2 : aL_ k n tx s (cn : Int) = some e := e2
   refine ba_ (Q := fun v => v = e) ⟨e, e2, rfl⟩ fun v hv => ?_
   subst hv
   refine ch_ (fun _ => aQ_ (ok true)) fun hn => el_ (call v ?_)
   have hv : ¬ v < 0 := by simpa using hn
   exact ⟨by omega, by omega⟩
theorem rH_ (hs : s.size ≤ 200) (hE : ∀ x ∈ env.l, VP x.Pattern) (hl : env.l.length ≤ 40) (hf : f ≤ 20000) : ∀ (n : Nat) (t0 : Int), 0 ≤ t0 → 2 * (f - t0) + 3 ≤ n → 3 ≤ n → XR s env f t0 (BG_impl_search_match n).1
 | 0, _, _, _, h => by omega
 | 1, _, _, _, h => by omega
 | n + 2, t0, h0, hn, h3 => by
  have IH := rH_ hs hE hl hf n (t0 + 1) (by omega)
  have IH1 := rH_ hs hE hl hf (n + 1) (t0 + 1) (by omega)
  exact q5_ hs hE hl hf h0 (fun h => IH1 (by omega) (by omega)) (fun h => ur_ (IH (by omega) (by omega)))
theorem from_ex (hs : s.size ≤ 200) (hE : ∀ x ∈ env.l, VP x.Pattern) (hl : env.l.length ≤ 40) (hf : 0 ≤ f ∧ f ≤ 20000) {p : DPattern} (vp : VP p) {w : Sl (Iv .i64)} (hw : ∀ x ∈ w.l, 0 ≤ x.v ∧ x.v ≤ (s.size : Int)) (hwl : w.l.length ≤ 1000) :
  ∃ x : T11, IMF p w (0, env, s, f, 0, 0, 0, false, 0, ⟨true, []⟩, ⟨true, []⟩, ⟨true, []⟩) = some x ∧ cx_ env p s w f = some (x.2.2.2.2.2.2.2.2.2.2, x.2.2.2.2.2.2.2.1) ∧ x.2.2.2.2.2.2.2.2.2.2.l.length ≤ 60 := by
 have hb : bigN = 100000000000 := rfl
 have H : ExO (IMF p w (0, env, s, f, 0, 0, 0, false, 0, ⟨true, []⟩, ⟨true, []⟩, ⟨true, []⟩)) (fun x => x.2.2.2.2.2.2.2.2.2.2.l.length ≤ 60) := by
  unfold IMF
  refine km_ (fun st : Int × T11 => ∃ (j : Nat) (A : aa_), Wf s env f 0 0 A ∧ st = ((j : Int), hF_ A)) (fun st => ((w.l.length : Int) - st.1).toNat) (fun st hst => ?_) _ ⟨0, ⟨env, s, f, 0, 0, ⟨true, []⟩, ⟨true, []⟩, ⟨true, []⟩, 0, false, T.nilm, 0⟩, .mk (by simp) (by simp) ⟨Int.le_refl _, hf.1⟩ (Nat.zero_le _), rfl⟩
  obtain ⟨j, A, hA, rfl⟩ := hst
  cases hA with
  | @mk st mo t nw cd mt me g4 g6 g1 gm =>
   refine ch_ (fun hj => ?_) fun _ => aQ_ g6
   have hj : j < w.l.length := by simpa using hj
   rw [show elt w ((j : Int), hF_ (⟨env, s, f, t, st, nw, cd, mt, mo, me, T.nilm, 0⟩ : aa_)).1 = some w.l[j] from bm_ hj, Option.bind_some]
   have hv := hw _ (List.getElem_mem hj)
   refine ba_ (rH_ hs hE hl hf.2 bigN 0 (Int.le_refl _) (by rw [hb]; omega) (by rw [hb]; omega) _ p _ _ 0 0 (Int.le_refl _) vp ⟨hv.1, hv.2⟩ (.mk (st := w.l[j].v) g4 g6 g1 gm) (rf_ hf.2 (Int.le_refl _))) fun r hr => ch_ (fun _ => aQ_ hr.1) fun hb => aQ_ ⟨⟨j + 1, NS r.2, hr.2.2 (by cases h : r.1 <;> simp [h] at hb ⊢), ?_⟩, ?_⟩
   ·show (w4 ((j : Int) + 1), _) = (((j + 1 : Nat) : Int), _)
    rw [a4_ (by omega) (by omega)]; rfl
   ·show ((w.l.length : Int) - w4 ((j : Int) + 1)).toNat < ((w.l.length : Int) - (j : Int)).toNat
    rw [a4_ (by omega) (by omega)]; omega
 obtain ⟨x, x1, x2⟩ := H
 refine ⟨x, x1, gZ_ _ _ _ _ _ _ ?_, x2⟩
 unfold db_
 unfold IMF at x1
 rw [x1]; rfl
end
end Te
end Go.Am
end
