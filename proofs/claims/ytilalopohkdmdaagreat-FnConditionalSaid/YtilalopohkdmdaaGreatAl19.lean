/- The law. -/
import Derived.Test.YtilalopohkdmdaaGreatAg1
import Derived.Test.YtilalopohkdmdaaGreatAl18
section
set_option maxRecDepth 100000
set_option maxHeartbeats 2000000
set_option linter.unusedVariables false
set_option linter.unusedSimpArgs false
namespace Go.Am
def iF_ (s : ByteArray) (st e : Int) (x : DCapture) : Prop := ∃ a b : Nat, st ≤ a ∧ a ≤ b ∧ (b : Int) ≤ e ∧ b ≤ s.size ∧ x.Cursor = b ∧ x.Text = s.extract a b
theorem iF_.mono {s : ByteArray} {st e e' : Int} {x : DCapture} (h : iF_ s st e x) (he : e ≤ e') : iF_ s st e' x := by
 obtain ⟨a, b, h1, h2, h3, h4, h5, h6⟩ := h; exact ⟨a, b, h1, h2, by omega, h4, h5, h6⟩
structure Cap (s : ByteArray) (st e : Int) (nw cd : List DCapture) : Prop where
 len : nw.length + cd.length ≤ 100
 kn : ∀ x ∈ nw, x.Kind ≠ 1
 kc : ∀ x ∈ cd, x.Kind = 1 ∧ iF_ s st e x
 so : cd.Pairwise fun x y => x.Cursor ≤ y.Cursor
theorem Cap.mono {s : ByteArray} {st e e' : Int} {nw cd : List DCapture} (h : Cap s st e nw cd) (he : e ≤ e') : Cap s st e' nw cd := ⟨h.len, h.kn, fun x hx => ⟨(h.kc x hx).1, (h.kc x hx).2.mono he⟩, h.so⟩
structure Cs (s : ByteArray) (st e : Int) (S : aa_) : Prop where
 sub : S.subject_ = s
 sta : S.start_ = st
 env : ∀ x ∈ S.env_.l, VP x.Pattern
 co : S.code_ = 0
 cap : Cap s st e S.now_.l S.conds_.l
theorem Cs.mono {s : ByteArray} {st e e' : Int} {S : aa_} (h : Cs s st e S) (he : e ≤ e') : Cs s st e' S := ⟨h.sub, h.sta, h.env, h.co, h.cap.mono he⟩
structure Uc (P : DMatch → Prop) (S : aa_) (r : Bool × aa_) : Prop where
 k : r.2.start_ = S.start_ ∧ r.2.env_ = S.env_ ∧ r.2.subject_ = S.subject_
 y : r.1 = true → r.2.code_ = 0 ∧ r.2.now_.l.length + r.2.conds_.l.length ≤ 100 ∧ (∀ x ∈ r.2.now_.l, x.Kind ≠ 1) ∧ r.2.conds_.l = S.conds_.l
 m : r.2.code_ = 0 → ∃ x, r.2.matches_.l = S.matches_.l ++ x ∧ ∀ m ∈ x, P m
section
variable {P : DMatch → Prop} {s : ByteArray} {st c : Int} {S : aa_}
theorem Uc.cs {r : Bool × aa_} (h : Uc P S r) (hb : r.1 = true) (h0 : Cs s st c S) : Cs s st c r.2 := by
 obtain ⟨y1, y2, y3, y4⟩ := h.y hb
 exact ⟨h.k.2.2.trans h0.sub, h.k.1.trans h0.sta, h.k.2.1 ▸ h0.env, y1, ⟨y2, y3, y4 ▸ h0.cap.kc, y4 ▸ h0.cap.so⟩⟩
theorem Uc.same {b : Bool} (h : Cs s st c S) : Uc P S (b, S) := ⟨⟨rfl, rfl, rfl⟩, fun _ => ⟨h.co, h.cap.len, h.cap.kn, rfl⟩, fun _ => ⟨[], by simp, fun m hm => by simp at hm⟩⟩
theorem Uc.off {S' : aa_} (h1 : S'.start_ = S.start_ ∧ S'.env_ = S.env_ ∧ S'.subject_ = S.subject_) (h2 : S'.code_ ≠ 0) : Uc P S (false, S') := ⟨h1, fun h => (by cases h), fun h => absurd h h2⟩
theorem Uc.no {S' : aa_} {b : Bool} (h : Uc P S (b, S')) : Uc P S (false, S') := ⟨h.k, fun h => (by cases h), h.m⟩
theorem Uc.tr {S1 : aa_} {b : Bool} {r : Bool × aa_} (h : Uc P S (b, S1)) (hb : b = true) (k : Uc P S1 r) : Uc P S r := by
 obtain ⟨y1, y2, y3, y4⟩ := h.y hb
 obtain ⟨x, x1, x2⟩ := h.m y1
 refine ⟨⟨k.k.1.trans h.k.1, k.k.2.1.trans h.k.2.1, k.k.2.2.trans h.k.2.2⟩, fun hr => ?_, fun hc => ?_⟩
 ·obtain ⟨z1, z2, z3, z4⟩ := k.y hr
  exact ⟨z1, z2, z3, z4.trans y4⟩
 ·obtain ⟨y, w1, w2⟩ := k.m hc
  refine ⟨x ++ y, by rw [w1, show S1.matches_.l = S.matches_.l ++ x from x1, List.append_assoc], fun m hm => ?_⟩
  rcases List.mem_append.1 hm with h' | h'
  ·exact x2 m h'
  ·exact w2 m h'
end
def hZ_ (P : DMatch → Prop) (s : ByteArray) (st c : Int) (Φ : PhiT) : Prop := ∀ e S, c ≤ e → e ≤ (s.size : Int) → Cs s st e S → Gv (Φ e S) (Uc P S)
theorem hZ_.mono {P : DMatch → Prop} {s : ByteArray} {st c c' : Int} {Φ : PhiT} (h : hZ_ P s st c Φ) (hc : c ≤ c') : hZ_ P s st c' Φ := fun e S h1 h2 h3 => h e S (Int.le_trans hc h1) h2 h3
def UcR (P : DMatch → Prop) (s : ByteArray) (st : Int) (R : MTy) : Prop := ∀ S p c Φ, VP p → 0 ≤ st → st ≤ c → c ≤ (s.size : Int) → Cs s st c S → hZ_ P s st c Φ → Gv (R S p c Φ) (Uc P S)
def RcW (a : Sl DCapture) (x : DCapture) (m : Nat) (cd : Int) (mt : Sl DMatch) (y : Bool × Int × Sl DCapture × Sl DMatch) : Prop := (y.1 = false ∧ y.2.1 = 6) ∨ (y.1 = true ∧ y.2.1 = cd ∧ y.2.2.2 = mt ∧ y.2.2.1.l = a.l ++ [x] ∧ y.2.2.1.l.length + m ≤ 100)
theorem rc_w (a b : Sl DCapture) (x : DCapture) (cd : Int) (mt : Sl DMatch) (h : a.l.length + b.l.length ≤ 100) : Gv ((appS 48 a (⟨false, [x]⟩ : Sl DCapture)).bind fun y3 => (if ((decide (100 < (w4 ((y3.l.length : Int) + (b.l.length : Int)))))) = true then (some (false, (6 : Int), y3, (⟨true, []⟩ : Sl DMatch))) else (some (true, cd, y3, mt)))) (RcW a x b.l.length cd mt) :=
 aG_ app1 fun q hq => bK_ (fun _ => ax_ (.inl ⟨rfl, rfl⟩)) fun w => ax_ (.inr ⟨rfl, rfl, rfl, hq, by
  have hq : q.l = a.l ++ [x] := hq
  have e : q.l.length = a.l.length + 1 := by rw [hq]; simp
  rw [aQ_ (by omega) (by omega)] at w
  have : ¬ (100 < (q.l.length : Int) + (b.l.length : Int)) := by simpa using w
  show q.l.length + b.l.length ≤ 100
  omega⟩)
theorem t5_ (a b : Sl DCapture) (x : DCapture) (cd : Int) (mt : Sl DMatch) (h : b.l.length + a.l.length ≤ 100) : Gv ((appS 48 a (⟨false, [x]⟩ : Sl DCapture)).bind fun y3 => (if ((decide (100 < (w4 ((b.l.length : Int) + (y3.l.length : Int)))))) = true then (some (false, (6 : Int), y3, (⟨true, []⟩ : Sl DMatch))) else (some (true, cd, y3, mt)))) (RcW a x b.l.length cd mt) :=
 aG_ app1 fun q hq => bK_ (fun _ => ax_ (.inl ⟨rfl, rfl⟩)) fun w => ax_ (.inr ⟨rfl, rfl, rfl, hq, by
  have hq : q.l = a.l ++ [x] := hq
  have e : q.l.length = a.l.length + 1 := by rw [hq]; simp
  rw [aQ_ (by omega) (by omega)] at w
  have : ¬ (100 < (b.l.length : Int) + (q.l.length : Int)) := by simpa using w
  show q.l.length + b.l.length ≤ 100
  omega⟩)
theorem qs_ {α : Type} {a : Sl α} {m : Int} : Gv (cutS a m) (fun q => q.l = a.l.take m.toNat) := fun q hq => by
 unfold cutS at hq
 split at hq
 ·injection hq with hq; rw [← hq]
 ·cases hq
theorem ql_ {s : ByteArray} {a b : Int} : Gv (subB s a b) (fun q => q = s.extract a.toNat b.toNat) := fun q hq => by
 unfold subB at hq
 split at hq
 ·injection hq with hq; exact hq.symm
 ·cases hq
section
variable {P : DMatch → Prop} {s : ByteArray} {st c : Int} {R1 R2 : MTy} {p : DPattern} {Φ : PhiT}
theorem tK_ (h1 : UcR P s st R1) (hv : VP p) (h0 : 0 ≤ st ∧ st ≤ c) (hΦ : hZ_ P s st c Φ) : hZ_ P s st c (aN_ R1 R2 p Φ) := fun e S he hes hs => by
 unfold aN_
 exact aG_ il_ fun y hy => aG_ (h1 _ _ _ _ (hv.kid hy) h0.1 (by omega) hes ⟨hs.sub, hs.sta, hs.env, hs.co, hs.cap⟩ (hΦ.mono he)) fun r hr => ax_ ⟨hr.k, hr.y, hr.m⟩
theorem tP_ (h1 : UcR P s st R1) (hv : VP p) (h0 : 0 ≤ st ∧ st ≤ c) (hΦ : hZ_ P s st c Φ) : hZ_ P s st c (aC_ R1 R2 c p Φ) := fun e S he hes hs => by
 unfold aC_
 exact bK_ (fun _ => ax_ ⟨⟨rfl, rfl, rfl⟩, fun _ => ⟨hs.co, hs.cap.len, hs.cap.kn, rfl⟩, fun _ => ⟨[], by simp, fun m hm => by simp at hm⟩⟩) fun _ => aG_ (h1 _ _ _ _ hv h0.1 (by omega) hes ⟨hs.sub, hs.sta, hs.env, hs.co, hs.cap⟩ (hΦ.mono he)) fun r hr => ax_ ⟨hr.k, hr.y, hr.m⟩
theorem o5_ (h0 : 0 ≤ st ∧ st ≤ c) (hΦ : ∀ e S, c ≤ e → e ≤ (s.size : Int) → Cs s st e S → (p.Kind ≠ 22 → ∃ l, S.conds_.l = l ++ [⟨p.Text, s.extract c.toNat e.toNat, e, 1⟩]) → Gv (Φ e S) (Uc P S)) : hZ_ P s st c (ap_ R1 R2 p c Φ) := fun e S he hes hs => by
 unfold ap_
 have hlen := hs.cap.len
 refine aG_ ql_ fun y hy => bK_ (fun w22 => aG_ (rc_w S.now_ S.conds_ _ S.code_ S.matches_ hlen) fun q hq => ?_) fun w22 => aG_ (Q := fun q => (q.1 = true → q.2.2.2.2.2.2.2.2.2.2.1.l.take S.conds_.l.length = S.conds_.l) ∧ (q.2.2.2.2.2.1 = S.start_ ∧ q.2.1 = S.env_ ∧ q.2.2.1 = S.subject_) ∧ (q.1 = true → q.2.2.2.2.2.2.2.2.1 = 0 ∧ q.2.2.2.2.2.2.2.2.2.1.l.length + S.conds_.l.length ≤ 100 ∧ (∀ x ∈ q.2.2.2.2.2.2.2.2.2.1.l, x.Kind ≠ 1)) ∧ (q.2.2.2.2.2.2.2.2.1 = 0 → ∃ x, q.2.2.2.2.2.2.2.2.2.2.2.l = S.matches_.l ++ x ∧ ∀ m ∈ x, P m)) (aG_ (t5_ S.conds_ S.now_ _ S.code_ S.matches_ hlen) fun q hq => ?_) fun q hq => aG_ qs_ fun w hw => ax_ ?_
 ·obtain ⟨b, cd, cs, mt⟩ := q
  rcases hq with ⟨rfl, h⟩ | ⟨rfl, h, h', h3, h4⟩
  ·exact bK_ (fun w => by cases w) fun _ => ax_ (Uc.off ⟨rfl, rfl, rfl⟩ (by show cd ≠ 0; intro w; simp only at h; omega))
  ·simp only at h h' h3 h4; subst h h'
   refine bK_ (fun _ => aG_ (hΦ _ _ he hes ⟨hs.sub, hs.sta, hs.env, hs.co, ⟨h4, fun x hx => ?_, hs.cap.kc, hs.cap.so⟩⟩ (fun w => absurd (of_decide_eq_true w22) w)) fun r hr => ax_ ⟨hr.k, hr.y, hr.m⟩) fun w => absurd rfl w
   have hx : x ∈ cs.l := hx
   rw [h3] at hx
   rcases List.mem_append.1 hx with hx | hx
   ·exact hs.cap.kn x hx
   ·rw [List.mem_singleton] at hx; rw [hx]; show (2 : Int) ≠ 1; decide
 ·obtain ⟨b, cd, cs, mt⟩ := q
  rcases hq with ⟨rfl, h⟩ | ⟨rfl, h, h', h3, h4⟩
  ·exact bK_ (fun w => by cases w) fun _ => ax_ ⟨fun h => (by cases h), ⟨rfl, rfl, rfl⟩, fun h => (by cases h), fun hc => absurd hc (by show cd ≠ 0; intro w; simp only at h; omega)⟩
  ·simp only at h h' h3 h4; subst h h'
   refine bK_ (fun _ => aG_ (hΦ _ _ he hes ⟨hs.sub, hs.sta, hs.env, hs.co, ⟨by show S.now_.l.length + cs.l.length ≤ 100; omega, hs.cap.kn, fun x hx => ?_, ?_⟩⟩ (fun _ => ⟨S.conds_.l, by show cs.l = _; rw [h3, hy, hs.sub]⟩)) fun r hr => ax_ ⟨fun hb => ?_, hr.k, fun hb => ?_, hr.m⟩) fun w => absurd rfl w
   ·have hx : x ∈ cs.l := hx
    rw [h3] at hx
    rcases List.mem_append.1 hx with hx | hx
    ·exact hs.cap.kc x hx
    ·rw [List.mem_singleton] at hx; rw [hx]
     refine ⟨rfl, c.toNat, e.toNat, by omega, by omega, by omega, by omega, by show e = _; omega, ?_⟩
     show y = _
     rw [hy, hs.sub]
   ·show cs.l.Pairwise _
    rw [h3, List.pairwise_append]
    refine ⟨hs.cap.so, by simp, fun x hx y hy => ?_⟩
    rw [List.mem_singleton] at hy; rw [hy]
    obtain ⟨a, b, _, _, k3, _, k5, _⟩ := (hs.cap.kc x hx).2
    show x.Cursor ≤ e
    omega
   ·obtain ⟨y1, y2, y3, y4⟩ := hr.y hb
    have y4 : r.2.conds_.l = cs.l := y4
    show r.2.conds_.l.take S.conds_.l.length = _
    rw [y4, h3, List.take_left]
   ·obtain ⟨y1, y2, y3, y4⟩ := hr.y hb
    have y4 : r.2.conds_.l = cs.l := y4
    have hl : cs.l.length = S.conds_.l.length + 1 := by rw [h3]; simp
    exact ⟨y1, by show r.2.now_.l.length + S.conds_.l.length ≤ 100; rw [y4] at y2; omega, y3⟩
 ·obtain ⟨q1, q2, q3, q4⟩ := hq
  have hw : w.l = q.2.2.2.2.2.2.2.2.2.2.1.l.take S.conds_.l.length := by simpa using hw
  exact ⟨q2, fun hb => ⟨(q3 hb).1, by show _ + w.l.length ≤ 100; rw [hw, q1 hb]; exact (q3 hb).2.1, (q3 hb).2.2, by show w.l = _; rw [hw, q1 hb]⟩, q4⟩
theorem t6_ (h0 : 0 ≤ st ∧ st ≤ c) (hΦ : hZ_ P s st c Φ) : hZ_ P s st c (ap_ R1 R2 p c Φ) := o5_ h0 fun e S h1 h2 h3 _ => hΦ e S h1 h2 h3
theorem py_ (h1 : UcR P s st R1) : UcR P s st (an_ R1 R2) := fun S p c Φ hv h0 hc hcs hs hΦ => by
 unfold an_
 have hn : Cs s st c (NS S) := ⟨hs.sub, hs.sta, hs.env, hs.co, hs.cap⟩
 refine aG_ il_ fun q hq => bK_ (fun _ => ?_) fun _ => bK_ (fun _ => aG_ (h1 _ _ _ _ (hv.kid hq) h0 hc hcs hn (tK_ h1 hv ⟨h0, hc⟩ hΦ)) fun r hr => ax_ ⟨hr.k, hr.y, hr.m⟩) fun _ => bK_ (fun _ => ?_) fun _ => aG_ (h1 _ _ _ _ (hv.kid hq) h0 hc hcs hn (t6_ ⟨h0, hc⟩ hΦ)) fun r hr => ax_ ⟨hr.k, hr.y, hr.m⟩
 ·refine aG_ (h1 _ _ _ _ (hv.kid hq) h0 hc hcs hn hΦ) fun r hr => bK_ (fun hb => aG_ il_ fun q2 hq2 => aG_ (h1 _ _ _ _ (hv.kid hq2) h0 hc hcs (show Cs s st c (NS r.2) from ⟨(hr.cs hb hn).sub, (hr.cs hb hn).sta, (hr.cs hb hn).env, (hr.cs hb hn).co, (hr.cs hb hn).cap⟩) hΦ) fun r2 hr2 => ax_ ?_) fun _ => ax_ (Uc.no (b := r.1) ⟨hr.k, hr.y, hr.m⟩)
  have := Uc.tr (S := S) (b := r.1) (S1 := NS r.2) ⟨hr.k, hr.y, hr.m⟩ hb hr2
  exact ⟨this.k, this.y, this.m⟩
 ·refine aG_ (hΦ _ _ (Int.le_refl _) hcs hn) fun r hr => bK_ (fun hb => aG_ (h1 _ _ _ _ (hv.kid hq) h0 hc hcs (show Cs s st c (NS r.2) from ⟨(hr.cs hb hn).sub, (hr.cs hb hn).sta, (hr.cs hb hn).env, (hr.cs hb hn).co, (hr.cs hb hn).cap⟩) (tP_ h1 hv ⟨h0, hc⟩ hΦ)) fun r2 hr2 => ax_ ?_) fun _ => ax_ (Uc.no (b := r.1) ⟨hr.k, hr.y, hr.m⟩)
  have := Uc.tr (S := S) (b := r.1) (S1 := NS r.2) ⟨hr.k, hr.y, hr.m⟩ hb hr2
  exact ⟨this.k, this.y, this.m⟩
theorem ox_ (hsz : s.size ≤ 200) (h1 : UcR P s st R1) (h2 : UcR P s st R2) : UcR P s st (ac_ R1 R2) := fun S p c Φ hv h0 hc hcs hs hΦ => by
 unfold ac_
 refine aG_ (st_q _ _ _ _) fun y hy => ?_
 obtain ⟨b, t, cd, mt⟩ := y
 rcases hy with ⟨rfl, h⟩ | ⟨rfl, h, h'⟩
 ·exact bK_ (fun _ => ax_ (Uc.off ⟨rfl, rfl, rfl⟩ (by show cd ≠ 0; intro w; simp only at h; omega))) fun w => absurd rfl w
 simp only at h h'; subst h h'
 obtain ⟨n, rfl⟩ : ∃ n : Nat, c = n := ⟨c.toNat, by omega⟩
 have hn : ∀ t, Cs s st n ⟨S.env_, S.subject_, S.fuel_, t, S.start_, S.now_, S.conds_, S.matches_, S.most_, S.isMere_, T.nilm, S.code_⟩ := fun t => ⟨hs.sub, hs.sta, hs.env, hs.co, hs.cap⟩
 have le := Int.le_refl (n : Int)
 have so : ∀ (t : Int) (r : Bool × aa_), Uc P ⟨S.env_, S.subject_, S.fuel_, t, S.start_, S.now_, S.conds_, S.matches_, S.most_, S.isMere_, T.nilm, S.code_⟩ r → Uc P S r := fun t r hr => ⟨hr.k, hr.y, hr.m⟩
 have sa : ∀ b, Uc P S (b, ⟨S.env_, S.subject_, S.fuel_, t, S.start_, S.now_, S.conds_, S.matches_, S.most_, S.isMere_, T.nilm, S.code_⟩) := fun b => so t _ (Uc.same (hn t))
 refine bK_ (fun w => by cases w) fun _ => bK_ (fun _ => ?_) fun w12 => bK_ (fun _ => aG_ (Q := fun v => v < 0 ∨ ((n : Int) ≤ v ∧ v ≤ s.size)) (fun v hv => ?_) fun y4 hy4 => ?_) fun w13 => bK_ (fun _ => aG_ (hΦ _ _ le hcs (hn t)) fun r hr => ax_ (Uc.no (b := r.1) ⟨hr.k, hr.y, hr.m⟩)) fun w14 => bK_ (fun _ => ax_ (sa false)) fun w15 => bK_ (fun _ => ax_ (sa true)) fun w16 => bK_ (fun _ => ?_) fun w17 => bK_ (fun _ => ?_) fun w23 => bK_ (fun _ => ?_) fun w24 => bK_ (fun _ => aG_ (h2 _ _ _ _ hv h0 hc hcs (hn t) hΦ) fun r hr => ax_ ⟨hr.k, hr.y, hr.m⟩) fun kk => aG_ (Q := fun v => v < 0 ∨ ((n : Int) ≤ v ∧ v ≤ s.size)) (fun v hv1 => ?_) fun e he => bK_ (fun _ => ax_ (sa true)) fun hn0 => aG_ (hΦ _ _ ((he.resolve_left (by simpa using hn0)).1) ((he.resolve_left (by simpa using hn0)).2) ((hn t).mono ((he.resolve_left (by simpa using hn0)).1))) fun r hr => ax_ ⟨hr.k, hr.y, hr.m⟩
 ·refine aG_ (Q := fun x => Sum.elim (fun y => Uc P S (true, D11 y)) (fun r => Uc P S r) x) (jA_ (fun st1 : Int × T11 => (n : Int) ≤ st1.1 ∧ Uc P S (true, D11 st1.2)) ⟨le, sa true⟩ fun st1 hst => bK_ (fun hj => ?_) fun _ => ax_ hst.2) fun x hx => ?_
  ·have hcs1 := hst.2.cs rfl hs
   have hsub : (D11 st1.2).subject_ = s := hcs1.sub
   have hj' : st1.1 ≤ ((D11 st1.2).subject_.size : Int) := by simpa using hj
   rw [hsub] at hj'
   refine aG_ (hΦ _ _ hst.1 hj' (hcs1.mono hst.1)) fun r hr => ?_
   have hr' := Uc.tr (b := true) hst.2 rfl hr
   refine bK_ (fun _ => ax_ (Uc.no (b := r.1) ⟨hr'.k, hr'.y, hr'.m⟩)) fun hb => ax_ ?_
   have hb : r.1 = true := by cases h : r.1 <;> simp [h] at hb ⊢
   refine ⟨?_, ?_⟩
   ·have h1' := hst.1
    show (n : Int) ≤ w4 (st1.1 + 1)
    rw [aQ_ (by omega) (by omega)]; omega
   ·have : Uc P S (r.1, D11 (r.2.env_, r.2.subject_, r.2.fuel_, r.2.steps_, r.2.start_, r.2.most_, r.2.isMere_, r.2.code_, r.2.now_, r.2.conds_, r.2.matches_)) := ⟨hr'.k, hr'.y, hr'.m⟩
    rw [hb] at this; exact this
  ·cases x with
   | inl y => exact ax_ hx
   | inr r => exact ax_ hx
 ·have hv : a7_ S.subject_ n n = some v := hv
  rw [hs.sub] at hv
  obtain ⟨v', _, v2, v3⟩ := oo_ (s := s) n n hsz (by omega)
  rw [v2] at hv; injection hv with hv; subst hv
  rcases v3 with v3 | v3
  ·exact .inl v3
  ·exact .inr v3.2
 ·refine aG_ (Q := fun x => Sum.elim (fun y => Uc P S (true, D11 y)) (fun r => Uc P S r) x) (jA_ (fun st1 : Int × T11 => (st1.1 < 0 ∨ ((n : Int) ≤ st1.1 ∧ st1.1 ≤ s.size)) ∧ Uc P S (true, D11 st1.2)) ⟨hy4, sa true⟩ fun st1 hst => bK_ (fun hj => ?_) fun _ => ax_ hst.2) fun x hx => ?_
  ·have hcs1 := hst.2.cs rfl hs
   have hj' : 0 ≤ st1.1 := by simpa using hj
   have hr1 := hst.1.resolve_left (by omega)
   refine aG_ (hΦ _ _ hr1.1 hr1.2 (hcs1.mono hr1.1)) fun r hr => ?_
   have hr' := Uc.tr (b := true) hst.2 rfl hr
   refine bK_ (fun _ => ax_ (Uc.no (b := r.1) ⟨hr'.k, hr'.y, hr'.m⟩)) fun hb => aG_ (Q := fun v => v < 0 ∨ ((n : Int) ≤ v ∧ v ≤ s.size)) (fun v hv => ?_) fun v hv => ax_ ⟨hv, ?_⟩
   ·have hv : a7_ r.2.subject_ n st1.1 = some v := hv
    have : r.2.subject_ = s := hr'.k.2.2.trans hs.sub
    rw [this] at hv
    obtain ⟨v', _, v2, v3⟩ := oo_ (s := s) n st1.1 hsz (by omega)
    rw [v2] at hv; injection hv with hv; subst hv
    rcases v3 with v3 | v3
    ·exact .inl v3
    ·exact .inr v3.2
   ·have hb : r.1 = true := by cases h : r.1 <;> simp [h] at hb ⊢
    have : Uc P S (r.1, D11 (r.2.env_, r.2.subject_, r.2.fuel_, r.2.steps_, r.2.start_, r.2.most_, r.2.isMere_, r.2.code_, r.2.now_, r.2.conds_, r.2.matches_)) := ⟨hr'.k, hr'.y, hr'.m⟩
    rw [hb] at this; exact this
  ·cases x with
   | inl y => exact ax_ hx
   | inr r => exact ax_ hx
 ·refine aG_ (Q := fun x => Sum.elim (fun y => Uc P S (false, D11 y)) (fun r => Uc P S r) x) (jA_ (fun st1 : T11 => Uc P S (true, D11 st1)) (sa true) fun st1 hst => ?_) fun x hx => ?_
  ·refine aG_ (hΦ _ _ le hcs (hst.cs rfl hs)) fun r hr => ?_
   have hr' := Uc.tr (b := true) hst rfl hr
   refine bK_ (fun hb => aG_ (st_q _ _ _ _) fun y hy => ?_) fun hb => ax_ (Uc.no (b := r.1) ⟨hr'.k, hr'.y, hr'.m⟩)
   obtain ⟨b, t, cd, mt⟩ := y
   rcases hy with ⟨rfl, h⟩ | ⟨rfl, h, h'⟩
   ·exact bK_ (fun _ => ax_ (Uc.off hr'.k (by show cd ≠ 0; intro w; simp only at h; omega))) fun w => absurd rfl w
   ·simp only at h h'; subst h h'
    refine bK_ (fun w => by cases w) fun _ => ax_ ?_
    have : Uc P S (r.1, D11 (r.2.env_, r.2.subject_, r.2.fuel_, t, r.2.start_, r.2.most_, r.2.isMere_, r.2.code_, r.2.now_, r.2.conds_, r.2.matches_)) := ⟨hr'.k, hr'.y, hr'.m⟩
    rw [hb] at this; exact this
  ·cases x with
   | inl y => exact ax_ hx
   | inr r => exact ax_ hx
 ·refine aG_ (rc_w S.now_ S.conds_ _ S.code_ S.matches_ hs.cap.len) fun q hq => ?_
  obtain ⟨b, cd, cs, mt⟩ := q
  rcases hq with ⟨rfl, h⟩ | ⟨rfl, h, h', h3, h4⟩
  ·exact bK_ (fun w => by cases w) fun _ => ax_ (Uc.off ⟨rfl, rfl, rfl⟩ (by show cd ≠ 0; intro w; simp only at h; omega))
  ·simp only at h h' h3 h4; subst h h'
   refine bK_ (fun _ => aG_ (hΦ _ _ le hcs ⟨hs.sub, hs.sta, hs.env, hs.co, ⟨h4, fun x hx => ?_, hs.cap.kc, hs.cap.so⟩⟩) fun r hr => ax_ ⟨hr.k, hr.y, hr.m⟩) fun w => absurd rfl w
   have hx : x ∈ cs.l := hx
   rw [h3] at hx
   rcases List.mem_append.1 hx with hx | hx
   ·exact hs.cap.kn x hx
   ·rw [List.mem_singleton] at hx; rw [hx]; show (3 : Int) ≠ 1; decide
 ·exact aG_ r5_ fun i _ => bK_ (fun _ => ax_ (Uc.off ⟨rfl, rfl, rfl⟩ (by show (5 : Int) ≠ 0; decide))) fun _ => aG_ il_ fun q hq => aG_ (h1 _ _ _ _ (hs.env q hq) h0 hc hcs (hn t) hΦ) fun r hr => ax_ ⟨hr.k, hr.y, hr.m⟩
 ·have hv1 : c1_ p.Kind p.Num p.Text S.subject_ n = some v := hv1
  rw [hs.sub] at hv1
  have nd := hv.node
  have k0 : ¬ (0 < (p.Kids.l.length : Int)) := fun w => kk (by simpa using w)
  have hk : 1 ≤ p.Kind ∧ p.Kind ≤ 11 := by
   have n2 := nd.2.1
   have n1 := nd.1
   unfold kidN at n2
   simp only [decide_eq_true_eq] at w12 w13 w14 w15 w16 w17 w23 w24
   split at n2
   ·omega
   ·split at n2 <;> omega
  obtain ⟨e, _, e2, e3⟩ := rs_ p s n hsz (by omega) hk nd.2.2
  rw [e2] at hv1; injection hv1 with hv1; subst hv1
  exact e3
theorem lv_ (hsz : s.size ≤ 200) : ∀ n, UcR P s st (BG_impl_search_match n).1 ∧ UcR P s st (BG_impl_search_match n).2
 | 0 => ⟨fun _ _ _ _ _ _ _ _ _ _ => ns_, fun _ _ _ _ _ _ _ _ _ _ => ns_⟩
 | n + 1 => ⟨ox_ hsz (lv_ hsz n).1 (lv_ hsz n).2, py_ (lv_ hsz n).1⟩
end
end Go.Am
end
