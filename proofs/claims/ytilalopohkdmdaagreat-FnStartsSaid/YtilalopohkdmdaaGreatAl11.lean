/- The law. -/
import Derived.Test.YtilalopohkdmdaaGreatAg1
import Derived.Test.YtilalopohkdmdaaGreatAg2
import Derived.Test.YtilalopohkdmdaaGreatAl5
section
set_option maxRecDepth 100000
set_option maxHeartbeats 2000000
set_option linter.unusedVariables false
set_option linter.unusedSimpArgs false
namespace Go.Am
def Gv {α : Type} (o : Option α) (P : α → Prop) : Prop := ∀ r, o = some r → P r
theorem au_ {α β : Type} {o : Option α} {f : α → Option β} {Q : α → Prop} {P : β → Prop} (h : Gv o Q) (k : ∀ y, Q y → Gv (f y) P) : Gv (o.bind f) P := fun r hr => by
 obtain ⟨y, h1, h2⟩ := Option.bind_eq_some_iff.1 hr
 exact k y (h y h1) r h2
theorem ar_ {α : Type} {x : α} {P : α → Prop} (h : P x) : Gv (some x) P := fun r hr => by injection hr with hr; subst hr; exact h
theorem jA_ {α : Type} {P : α → Prop} : Gv none P := fun r hr => by cases hr
theorem dd_ {α : Type} {o : Option α} : Gv o (fun _ => True) := fun _ _ => trivial
theorem aZ_ {α : Type} {c : Prop} [Decidable c] {a b : Option α} {P : α → Prop} (h1 : c → Gv a P) (h2 : ¬ c → Gv b P) : Gv (if c then a else b) P := by
 by_cases h : c
 ·rw [if_pos h]; exact h1 h
 ·rw [if_neg h]; exact h2 h
theorem h0_ {S R : Type} {body : S → Option (S ⊕ R)} {s0 : S} (I : S → Prop) {P : R → Prop} (h0 : I s0) (h : ∀ s, I s → Gv (body s) (fun x => Sum.elim I P x)) : Gv (aD_ body s0) P := fun r hr => by
 obtain ⟨n, hn⟩ := bD_.1 hr
 clear hr
 induction n generalizing s0 with
 | zero => cases hn
 | succ n ih =>
  simp only [iter] at hn
  cases hb : body s0 with
  | none => rw [hb] at hn; cases hn
  | some x =>
   rw [hb] at hn
   have := h s0 h0 x hb
   cases x with
   | inl s1 => exact ih this hn
   | inr r1 => injection hn with hn; subst hn; exact this
def Go0 (S : aa_) : Prop := S.code_ = 0 ∧ S.now_.l.length + S.conds_.l.length ≤ 100
def Up (S : aa_) (r : Bool × aa_) : Prop := (r.2.start_ = S.start_ ∧ r.2.env_ = S.env_) ∧ (r.1 = true → Go0 r.2) ∧ (r.2.code_ = 0 → ∃ x, r.2.matches_.l = S.matches_.l ++ x ∧ ∀ m ∈ x, m.Start = S.start_ ∧ m.Captures.l.length ≤ 100)
theorem Up.same {S : aa_} {b : Bool} (h : Go0 S) : Up S (b, S) := ⟨⟨rfl, rfl⟩, fun _ => h, fun _ => ⟨[], by simp, fun m hm => by simp at hm⟩⟩
theorem Up.off {S S' : aa_} (h1 : S'.start_ = S.start_ ∧ S'.env_ = S.env_) (h2 : S'.code_ ≠ 0) : Up S (false, S') := ⟨h1, fun h => (by cases h), fun h => absurd h h2⟩
theorem Up.no {S S' : aa_} {b : Bool} (h : Up S (b, S')) : Up S (false, S') := ⟨h.1, fun h => (by cases h), h.2.2⟩
theorem Up.yes {S : aa_} {r : Bool × aa_} (h : Up S r) (hb : r.1 = true) : Go0 r.2 := h.2.1 hb
theorem Up.tr {S S1 : aa_} {b : Bool} {r : Bool × aa_} (h : Up S (b, S1)) (h0 : Go0 S1) (k : Up S1 r) : Up S r := by
 obtain ⟨x, x1, x2⟩ := h.2.2 h0.1
 refine ⟨⟨k.1.1.trans h.1.1, k.1.2.trans h.1.2⟩, k.2.1, fun hc => ?_⟩
 obtain ⟨y, y1, y2⟩ := k.2.2 hc
 refine ⟨x ++ y, by rw [y1, show S1.matches_.l = S.matches_.l ++ x from x1, List.append_assoc], fun m hm => ?_⟩
 rcases List.mem_append.1 hm with h' | h'
 ·exact x2 m h'
 ·exact ⟨(y2 m h').1.trans h.1.1, (y2 m h').2⟩
def UPhi (Φ : PhiT) : Prop := ∀ e S, Go0 S → Gv (Φ e S) (Up S)
def UR (R : aa_ → DPattern → Int → PhiT → Option (Bool × aa_)) : Prop := ∀ S p c Φ, Go0 S → UPhi Φ → Gv (R S p c Φ) (Up S)
abbrev T11 := (Sl DNamed) × ByteArray × Int × Int × Int × Int × Bool × Int × (Sl DCapture) × (Sl DCapture) × (Sl DMatch)
abbrev D11 (x : T11) : aa_ := ⟨x.1, x.2.1, x.2.2.1, x.2.2.2.1, x.2.2.2.2.1, x.2.2.2.2.2.2.2.2.1, x.2.2.2.2.2.2.2.2.2.1, x.2.2.2.2.2.2.2.2.2.2, x.2.2.2.2.2.1, x.2.2.2.2.2.2.1, T.nilm, x.2.2.2.2.2.2.2.1⟩
def StQ (cd : Int) (mt : Sl DMatch) (y : Bool × Int × Int × Sl DMatch) : Prop := (y.1 = false ∧ y.2.2.1 = 7) ∨ (y.1 = true ∧ y.2.2.1 = cd ∧ y.2.2.2 = mt)
theorem st_q (a b cd : Int) (mt : Sl DMatch) : Gv ((if (decide (a = b)) = true then (some (false, a, 7, (⟨true, []⟩ : Sl DMatch))) else (some (true, (w4 (a + 1)), cd, mt))) : Option (Bool × Int × Int × (Sl DMatch))) (StQ cd mt) :=
 aZ_ (fun _ => ar_ (.inl ⟨rfl, rfl⟩)) fun _ => ar_ (.inr ⟨rfl, rfl, rfl⟩)
def RcQ (m : Nat) (cd : Int) (mt : Sl DMatch) (y : Bool × Int × Sl DCapture × Sl DMatch) : Prop := (y.1 = false ∧ y.2.1 = 6) ∨ (y.1 = true ∧ y.2.1 = cd ∧ y.2.2.2 = mt ∧ y.2.2.1.l.length + m ≤ 100)
theorem app1 {α : Type} {n : Nat} {a : Sl α} {x : α} : Gv (appS n a ⟨false, [x]⟩) (fun q => q.l = a.l ++ [x]) := fun q hq => by
 unfold appS at hq
 simp only at hq
 split at hq
 ·injection hq with hq; rw [← hq]
 ·cases hq
theorem rc_q (a b : Sl DCapture) (x : DCapture) (cd : Int) (mt : Sl DMatch) (h : a.l.length + b.l.length ≤ 100) : Gv ((appS 48 a (⟨false, [x]⟩ : Sl DCapture)).bind fun y3 => (if ((decide (100 < (w4 ((y3.l.length : Int) + (b.l.length : Int)))))) = true then (some (false, (6 : Int), y3, (⟨true, []⟩ : Sl DMatch))) else (some (true, cd, y3, mt)))) (RcQ b.l.length cd mt) :=
 au_ app1 fun q hq => aZ_ (fun _ => ar_ (.inl ⟨rfl, rfl⟩)) fun w => ar_ (.inr ⟨rfl, rfl, rfl, by
  have hq : q.l = a.l ++ [x] := hq
  have e : q.l.length = a.l.length + 1 := by rw [hq]; simp
  rw [aU_ (by omega) (by omega)] at w
  have : ¬ (100 < (q.l.length : Int) + (b.l.length : Int)) := by simpa using w
  show q.l.length + b.l.length ≤ 100
  omega⟩)
theorem tM_ (a b : Sl DCapture) (x : DCapture) (cd : Int) (mt : Sl DMatch) (h : b.l.length + a.l.length ≤ 100) : Gv ((appS 48 a (⟨false, [x]⟩ : Sl DCapture)).bind fun y3 => (if ((decide (100 < (w4 ((b.l.length : Int) + (y3.l.length : Int)))))) = true then (some (false, (6 : Int), y3, (⟨true, []⟩ : Sl DMatch))) else (some (true, cd, y3, mt)))) (RcQ b.l.length cd mt) :=
 au_ app1 fun q hq => aZ_ (fun _ => ar_ (.inl ⟨rfl, rfl⟩)) fun w => ar_ (.inr ⟨rfl, rfl, rfl, by
  have hq : q.l = a.l ++ [x] := hq
  have e : q.l.length = a.l.length + 1 := by rw [hq]; simp
  rw [aU_ (by omega) (by omega)] at w
  have : ¬ (100 < (b.l.length : Int) + (q.l.length : Int)) := by simpa using w
  show q.l.length + b.l.length ≤ 100
  omega⟩)
theorem qC_ {α : Type} {a : Sl α} {m : Int} : Gv (cutS a m) (fun q => q.l.length ≤ a.l.length) := fun q hq => by
 unfold cutS at hq
 split at hq
 ·injection hq with hq; rw [← hq]; simp <;> omega
 ·cases hq
theorem u_found : UPhi (fun e (S : aa_) => ak_ S e) := fun e S h0 => by
 unfold ak_
 refine aZ_ (fun _ => au_ (st_q _ _ _ _) fun y hy => ?_) fun _ => au_ (st_q _ _ _ _) fun y hy => ?_
 ·obtain ⟨b, t, cd, mt⟩ := y
  rcases hy with ⟨rfl, h⟩ | ⟨rfl, h, h'⟩
  ·exact ar_ (Up.off ⟨rfl, rfl⟩ (by show cd ≠ 0; intro w; simp only at h; omega))
  ·simp only at h h'; subst h h'
   exact ar_ (Up.same (S := S) h0)
 ·obtain ⟨b, t, cd, mt⟩ := y
  rcases hy with ⟨rfl, h⟩ | ⟨rfl, h, h'⟩
  ·exact aZ_ (fun _ => ar_ (Up.off ⟨rfl, rfl⟩ (by show cd ≠ 0; intro w; simp only at h; omega))) fun w => absurd rfl w
  ·simp only at h h'; subst h h'
   refine aZ_ (fun w => by cases w) fun _ => aZ_ (fun _ => ar_ (Up.off ⟨rfl, rfl⟩ (by show (6 : Int) ≠ 0; decide))) fun _ => au_ (Q := fun y => y.l.length ≤ 100) ?_ fun y hy => au_ app1 fun q hq => ar_ ⟨⟨rfl, rfl⟩, fun _ => h0, fun _ => ⟨[⟨S.start_, e, y⟩], hq, fun m hm => by rw [List.mem_singleton] at hm; rw [hm]; exact ⟨rfl, hy⟩⟩⟩
   obtain ⟨y, y1, y2⟩ := kp_ S.now_ S.conds_ h0.2
   intro r hr
   have hr : bw_ ⟨false, [S.now_, S.conds_]⟩ = some r := hr
   rw [y1] at hr
   injection hr with hr
   show r.l.length ≤ 100
   rw [← hr, y2, List.length_append]; exact h0.2
theorem u_k1 {R1 R2 : aa_ → DPattern → Int → PhiT → Option (Bool × aa_)} (h1 : UR R1) {p : DPattern} {Φ : PhiT} (hΦ : UPhi Φ) : UPhi (aq_ R1 R2 p Φ) := fun e S h0 => by
 unfold aq_
 exact au_ dd_ fun y _ => au_ (h1 _ _ _ _ h0 hΦ) fun r hr => ar_ hr
theorem u_k2 {R1 R2 : aa_ → DPattern → Int → PhiT → Option (Bool × aa_)} (h1 : UR R1) {p : DPattern} {c : Int} {Φ : PhiT} (hΦ : UPhi Φ) : UPhi (an_ R1 R2 c p Φ) := fun e S h0 => by
 unfold an_
 exact aZ_ (fun _ => ar_ (Up.same (S := NS S) h0)) fun _ => au_ (h1 _ _ _ _ h0 hΦ) fun r hr => ar_ hr
theorem u_k3 {R1 R2 : aa_ → DPattern → Int → PhiT → Option (Bool × aa_)} {p : DPattern} {c : Int} {Φ : PhiT} (hΦ : UPhi Φ) : UPhi (aj_ R1 R2 p c Φ) := fun e S h0 => by
 unfold aj_
 refine au_ dd_ fun y _ => aZ_ (fun _ => au_ (rc_q S.now_ S.conds_ _ S.code_ S.matches_ h0.2) fun q hq => ?_) fun _ => au_ (Q := fun q => Up S (q.1, D11 q.2)) (au_ (tM_ S.conds_ S.now_ _ S.code_ S.matches_ h0.2) fun q hq => ?_) fun q hq => au_ qC_ fun w hw => ar_ ?_
 ·obtain ⟨b, cd, cs, mt⟩ := q
  rcases hq with ⟨rfl, h⟩ | ⟨rfl, h, h', h3⟩
  ·exact aZ_ (fun w => by cases w) fun _ => ar_ (Up.off ⟨rfl, rfl⟩ (by show cd ≠ 0; intro w; simp only at h; omega))
  ·simp only at h h'; subst h h'
   exact aZ_ (fun _ => au_ (hΦ _ _ ⟨h0.1, h3⟩) fun r hr => ar_ hr) fun w => absurd rfl w
 ·obtain ⟨b, cd, cs, mt⟩ := q
  rcases hq with ⟨rfl, h⟩ | ⟨rfl, h, h', h3⟩
  ·exact aZ_ (fun w => by cases w) fun _ => ar_ (Up.off ⟨rfl, rfl⟩ (by show cd ≠ 0; intro w; simp only at h; omega))
  ·simp only at h h'; subst h h'
   exact aZ_ (fun _ => au_ (hΦ _ _ ⟨h0.1, by show S.now_.l.length + cs.l.length ≤ 100; have h3 : cs.l.length + S.now_.l.length ≤ 100 := h3; omega⟩) fun r hr => ar_ hr) fun w => absurd rfl w
 ·refine ⟨hq.1, fun hb => ⟨(hq.2.1 hb).1, ?_⟩, hq.2.2⟩
  have h2 := (hq.2.1 hb).2
  have hw : w.l.length ≤ q.2.2.2.2.2.2.2.2.2.2.1.l.length := hw
  exact Nat.le_trans (Nat.add_le_add_left hw _) h2
theorem rY_ {R1 R2 : aa_ → DPattern → Int → PhiT → Option (Bool × aa_)} (h1 : UR R1) : UR (ai_ R1 R2) := fun S p c Φ h0 hΦ => by
 unfold ai_
 refine au_ dd_ fun q _ => aZ_ (fun _ => ?_) fun _ => aZ_ (fun _ => au_ (h1 _ _ _ _ h0 (u_k1 h1 hΦ)) fun r hr => ar_ hr) fun _ => aZ_ (fun _ => ?_) fun _ => au_ (h1 _ _ _ _ h0 (u_k3 hΦ)) fun r hr => ar_ hr
 ·refine au_ (h1 _ _ _ _ h0 hΦ) fun r hr => aZ_ (fun hb => au_ dd_ fun q2 _ => au_ (h1 _ _ _ _ (hr.yes hb) hΦ) fun r2 hr2 => ar_ ?_) fun _ => ar_ (Up.no (b := r.1) hr)
  exact Up.tr (b := r.1) hr (hr.yes hb) hr2
 ·refine au_ (hΦ _ _ h0) fun r hr => aZ_ (fun hb => au_ (h1 _ _ _ _ (hr.yes hb) (u_k2 h1 hΦ)) fun r2 hr2 => ar_ ?_) fun _ => ar_ (Up.no (b := r.1) hr)
  exact Up.tr (b := r.1) hr (hr.yes hb) hr2
theorem qc_ {R1 R2 : aa_ → DPattern → Int → PhiT → Option (Bool × aa_)} (h1 : UR R1) (h2 : UR R2) : UR (ac_ R1 R2) := fun S p c Φ h0 hΦ => by
 unfold ac_
 refine au_ (st_q _ _ _ _) fun y hy => ?_
 obtain ⟨b, t, cd, mt⟩ := y
 rcases hy with ⟨rfl, h⟩ | ⟨rfl, h, h'⟩
 ·exact aZ_ (fun _ => ar_ (Up.off ⟨rfl, rfl⟩ (by show cd ≠ 0; intro w; simp only at h; omega))) fun w => absurd rfl w
 simp only at h h'; subst h h'
 refine aZ_ (fun w => by cases w) fun _ => aZ_ (fun _ => ?_) fun _ => aZ_ (fun _ => au_ dd_ fun y4 _ => ?_) fun _ => aZ_ (fun _ => au_ (hΦ _ _ h0) fun r hr => ar_ (Up.no (b := r.1) hr)) fun _ => aZ_ (fun _ => ar_ (Up.same (S := S) h0)) fun _ => aZ_ (fun _ => ar_ (Up.same (S := S) h0)) fun _ => aZ_ (fun _ => ?_) fun _ => aZ_ (fun _ => ?_) fun _ => aZ_ (fun _ => ?_) fun _ => aZ_ (fun _ => au_ (h2 _ _ _ _ h0 hΦ) fun r hr => ar_ hr) fun _ => au_ dd_ fun e _ => aZ_ (fun _ => ar_ (Up.same (S := S) h0)) fun _ => au_ (hΦ _ _ h0) fun r hr => ar_ hr
 ·refine au_ (Q := fun x => Sum.elim (fun y => Up S (true, D11 y)) (fun r => Up S r) x) (h0_ (fun st : Int × T11 => Up S (true, D11 st.2)) (Up.same (S := S) h0) fun st hst => aZ_ (fun _ => ?_) fun _ => ar_ hst) fun x hx => ?_
  ·refine au_ (hΦ _ _ (hst.yes rfl)) fun r hr => ?_
   have hr' := Up.tr (b := true) hst (hst.yes rfl) hr
   refine aZ_ (fun _ => ar_ (Up.no (b := r.1) hr')) fun hb => ar_ ?_
   have hb : r.1 = true := by cases h : r.1 <;> simp [h] at hb ⊢
   have : Up S (r.1, D11 (r.2.env_, r.2.subject_, r.2.fuel_, r.2.steps_, r.2.start_, r.2.most_, r.2.isMere_, r.2.code_, r.2.now_, r.2.conds_, r.2.matches_)) := hr'
   rw [hb] at this; exact this
  ·cases x with
   | inl y => exact ar_ hx
   | inr r => exact ar_ hx
 ·refine au_ (Q := fun x => Sum.elim (fun y => Up S (true, D11 y)) (fun r => Up S r) x) (h0_ (fun st : Int × T11 => Up S (true, D11 st.2)) (Up.same (S := S) h0) fun st hst => aZ_ (fun _ => ?_) fun _ => ar_ hst) fun x hx => ?_
  ·refine au_ (hΦ _ _ (hst.yes rfl)) fun r hr => ?_
   have hr' := Up.tr (b := true) hst (hst.yes rfl) hr
   refine aZ_ (fun _ => ar_ (Up.no (b := r.1) hr')) fun hb => au_ dd_ fun v _ => ar_ ?_
   have hb : r.1 = true := by cases h : r.1 <;> simp [h] at hb ⊢
   have : Up S (r.1, D11 (r.2.env_, r.2.subject_, r.2.fuel_, r.2.steps_, r.2.start_, r.2.most_, r.2.isMere_, r.2.code_, r.2.now_, r.2.conds_, r.2.matches_)) := hr'
   rw [hb] at this; exact this
  ·cases x with
   | inl y => exact ar_ hx
   | inr r => exact ar_ hx
 ·refine au_ (Q := fun x => Sum.elim (fun y => Up S (false, D11 y)) (fun r => Up S r) x) (h0_ (fun st : T11 => Up S (true, D11 st)) (Up.same (S := S) h0) fun st hst => ?_) fun x hx => ?_
  ·refine au_ (hΦ _ _ (hst.yes rfl)) fun r hr => ?_
   have hr' := Up.tr (b := true) hst (hst.yes rfl) hr
   refine aZ_ (fun hb => au_ (st_q _ _ _ _) fun y hy => ?_) fun hb => ar_ (Up.no (b := r.1) hr')
   obtain ⟨b, t, cd, mt⟩ := y
   rcases hy with ⟨rfl, h⟩ | ⟨rfl, h, h'⟩
   ·exact aZ_ (fun _ => ar_ (Up.off hr'.1 (by show cd ≠ 0; intro w; simp only at h; omega))) fun w => absurd rfl w
   ·simp only at h h'; subst h h'
    refine aZ_ (fun w => by cases w) fun _ => ar_ ?_
    have : Up S (r.1, D11 (r.2.env_, r.2.subject_, r.2.fuel_, t, r.2.start_, r.2.most_, r.2.isMere_, r.2.code_, r.2.now_, r.2.conds_, r.2.matches_)) := hr'
    rw [hb] at this; exact this
  ·cases x with
   | inl y => exact ar_ hx
   | inr r => exact ar_ hx
 ·refine au_ (rc_q S.now_ S.conds_ _ S.code_ S.matches_ h0.2) fun q hq => ?_
  obtain ⟨b, cd, cs, mt⟩ := q
  rcases hq with ⟨rfl, h⟩ | ⟨rfl, h, h', h3⟩
  ·exact aZ_ (fun w => by cases w) fun _ => ar_ (Up.off ⟨rfl, rfl⟩ (by show cd ≠ 0; intro w; simp only at h; omega))
  ·simp only at h h'; subst h h'
   exact aZ_ (fun _ => au_ (hΦ _ _ ⟨h0.1, h3⟩) fun r hr => ar_ hr) fun w => absurd rfl w
 ·exact au_ dd_ fun i _ => aZ_ (fun _ => ar_ (Up.off ⟨rfl, rfl⟩ (by show (5 : Int) ≠ 0; decide))) fun _ => au_ dd_ fun q _ => au_ (h1 _ _ _ _ h0 hΦ) fun r hr => ar_ hr
theorem u_all : ∀ n, UR (BG_impl_search_match n).1 ∧ UR (BG_impl_search_match n).2
 | 0 => ⟨fun _ _ _ _ _ _ => jA_, fun _ _ _ _ _ _ => jA_⟩
 | n + 1 => ⟨qc_ (u_all n).1 (u_all n).2, rY_ (u_all n).1⟩
end Go.Am
end
