/- The law. -/
import Derived.Test.YtkgmfmcpbgffpaaAg0
import Derived.Test.YtkgmfmcpbgffpaaAm6
section
set_option maxRecDepth 100000
set_option maxHeartbeats 1000000
set_option linter.unusedVariables false
set_option linter.unusedSimpArgs false
namespace Go.Am
mutual
theorem dn_ {P : DPattern → Prop} (h : ∀ p, (∀ q ∈ p.Kids.l, P q) → P p) : ∀ p, P p
 | ⟨k, n, t, ⟨z, l⟩⟩ => h ⟨k, n, t, ⟨z, l⟩⟩ (jS_ h l)
theorem jS_ {P : DPattern → Prop} (h : ∀ p, (∀ q ∈ p.Kids.l, P q) → P p) : ∀ l : List DPattern, ∀ q ∈ l, P q
 | [], q, hq => by cases hq
 | p :: l, q, hq => by
  rcases List.mem_cons.1 hq with e | e
  ·rw [e]; exact dn_ h p
  ·exact jS_ h l q e
end
mutual
/-- The nodes of a pattern. -/
def nd : DPattern → Nat
 | ⟨_, _, _, ⟨_, l⟩⟩ => 1 + ndL l
def ndL : List DPattern → Nat
 | [] => 0
 | p :: l => nd p + ndL l
end
theorem eA_ (p : DPattern) : nd p = 1 + ndL p.Kids.l := by obtain ⟨k, n, t, ⟨z, l⟩⟩ := p; rw [nd]
theorem ie_ (p : DPattern) : 1 ≤ nd p := by rw [eA_]; omega
theorem ndL_len : ∀ l : List DPattern, l.length ≤ ndL l
 | [] => by simp
 | p :: l => by have := ndL_len l; have := ie_ p; simp only [List.length_cons, ndL]; omega
theorem ndL_mem : ∀ {l : List DPattern} {p : DPattern}, p ∈ l → nd p ≤ ndL l
 | q :: l, p, h => by
  rcases List.mem_cons.1 h with e | e
  ·rw [e, ndL]; omega
  ·have := ndL_mem e; rw [ndL]; omega
inductive FitPt : DPattern → Prop
 | mk {p : DPattern} (h1 : p.Text.size ≤ maxLen) (h2 : p.Kids.l.length ≤ maxLen) (h3 : ∀ q ∈ p.Kids.l, FitPt q) : FitPt p
inductive SmPt : DPattern → Prop
 | mk {p : DPattern} (h1 : p.Text.size ≤ 1048576) (h2 : p.Kids.l.length ≤ 1048576) (h3 : ∀ q ∈ p.Kids.l, SmPt q) : SmPt p
theorem SmPt.kid {p q : DPattern} (h : SmPt p) (hq : q ∈ p.Kids.l) : SmPt q := by cases h with | mk h1 h2 h3 => exact h3 q hq
def SzN (o : Option Int) (l : Int) (n : Nat) (P : Prop) : Prop := o = some (-1) ∨ ∃ l', o = some l' ∧ 0 ≤ l' ∧ l' + n ≤ l ∧ P
theorem k4_ {s : Sl DPattern} {body : Int × Int → Option ((Int × Int) ⊕ (Int ⊕ Int))} (hn : s.l.length ≤ maxLen)
  (h1 : ∀ (i : Nat) x l, s.l[i]? = some x → i < s.l.length → 0 ≤ l → l ≤ 1048576 → body (l, (i : Int)) = some (.inr (.inr (-1))) ∨ ∃ l', body (l, (i : Int)) = some (.inl (l', (i : Int) + 1)) ∧ 0 ≤ l' ∧ l' + (nd x - 1 : Nat) ≤ l ∧ SmPt x)
  (h2 : ∀ l, body (l, (s.l.length : Int)) = some (.inr (.inl l))) : ∀ (m i : Nat), i + m = s.l.length → ∀ l, 0 ≤ l → l ≤ 1048576 →
  au_ body (l, (i : Int)) = some (.inr (-1)) ∨ ∃ l', au_ body (l, (i : Int)) = some (.inl l') ∧ 0 ≤ l' ∧ l' + ((ndL (s.l.drop i) - m : Nat) : Int) ≤ l ∧ ∀ x ∈ s.l.drop i, SmPt x := by
 intro m
 induction m with
 | zero =>
  intro i hi l h0 h3
  have e : i = s.l.length := by omega
  subst e
  exact .inr ⟨l, ao_ (h2 l), h0, by simp [ndL], by simp⟩
 | succ m ih =>
  intro i hi l h0 h3
  have hlt : i < s.l.length := by omega
  have ec : ((i + 1 : Nat) : Int) = (i : Int) + 1 := by simp
  rcases h1 i _ l (List.getElem?_eq_getElem hlt) hlt h0 h3 with h | ⟨l1, h, q1, q2, q3⟩
  ·exact .inl (ao_ h)
  ·rcases ih (i + 1) (by omega) l1 q1 (by omega) with w | ⟨l2, w1, w2, w3, w4⟩
   ·rw [ec] at w; exact .inl (av_ h w)
   ·rw [ec] at w1
    have hd : s.l.drop i = s.l[i] :: s.l.drop (i + 1) := List.drop_eq_getElem_cons hlt
    have hlen := ndL_len (s.l.drop (i + 1))
    have hp := ie_ s.l[i]
    simp only [List.length_drop] at hlen
    refine .inr ⟨l2, av_ h w1, w2, ?_, fun x hx => ?_⟩
    ·rw [hd, ndL]; omega
    ·rw [hd] at hx
     rcases List.mem_cons.1 hx with e | e
     ·rw [e]; exact q3
     ·exact w4 x e
theorem lT_ (s : Sl DPattern) (hn : s.l.length ≤ maxLen) (ih : ∀ q ∈ s.l, ∀ l, 0 ≤ l → l ≤ 1048576 → SzN (a6_ q l) l (nd q - 1) (SmPt q)) (l : Int) (h0 : 0 ≤ l) (h1 : l ≤ 1048576) :
  SzN (be_ s l) l (ndL s.l) (s.l.length ≤ 1048576 ∧ ∀ q ∈ s.l, SmPt q) := by
 have hm := maxLen_eq
 have key : SzN (bg_ s l) l (ndL s.l) (s.l.length ≤ 1048576 ∧ ∀ q ∈ s.l, SmPt q) := by
  unfold bg_
  rw [fs_ (n := l - (s.l.length : Int)) (by omega) (by omega)]
  by_cases hc : l - (s.l.length : Int) < 0
  ·rw [if_pos (by simpa using hc)]; exact .inl rfl
  ·rw [if_neg (by simpa using hc)]
   have := k4_ (s := s) (body := fun st1 => (if (decide (st1.2 < (s.l.length : Int))) = true then ((elt s st1.2).bind fun y2 => ((a6_ y2 st1.1).bind fun y3 => (if (decide (y3 < 0)) = true then (some (.inr (.inr (-1)))) else (some (.inl (y3, (w4 (st1.2 + 1)))))))) else (some (.inr (.inl st1.1))))) hn (fun i x l hx hi a b => by
    show (if (decide ((i : Int) < (s.l.length : Int))) = true then _ else _) = _ ∨ ∃ l', (if (decide ((i : Int) < (s.l.length : Int))) = true then _ else _) = _ ∧ _
    rw [if_pos (by simpa using hi), gr_ hx, Option.bind_some]
    rcases ih x (List.mem_of_getElem? hx) l a b with w | ⟨l', w1, w2, w3, w4⟩
    ·left; rw [w]; rfl
    ·right; rw [w1, Option.bind_some, if_neg (by simp; omega), dp_ (by omega) (by omega)]; exact ⟨l', rfl, w2, w3, w4⟩) (fun l => by
    show (if (decide ((s.l.length : Int) < (s.l.length : Int))) = true then _ else _) = _
    rw [if_neg (by simp)]) s.l.length 0 (by simp) (l - (s.l.length : Int)) (by omega) (by omega)
   rcases this with w | ⟨l', w1, w2, w3, w4⟩
   ·left; rw [show ((0 : Nat) : Int) = 0 from rfl] at w; rw [w]; rfl
   ·right; rw [show ((0 : Nat) : Int) = 0 from rfl] at w1; rw [w1]
    have := ndL_len s.l
    exact ⟨l', rfl, w2, by simp only [List.drop_zero] at w3; omega, by omega, by simpa using w4⟩
 rcases key with w | ⟨l', w1, w2⟩
 ·exact .inl (cQ_ s l _ w)
 ·exact .inr ⟨l', cQ_ s l _ w1, w2⟩
theorem sz_Pt : ∀ p, FitPt p → ∀ l, 0 ≤ l → l ≤ 1048576 → SzN (a6_ p l) l (nd p - 1) (SmPt p) := by
 refine dn_ fun p ih hf l h0 h1 => ?_
 cases hf with | mk f1 f2 f3 =>
 have hm := maxLen_eq
 have key : SzN (bp_ p l) l (nd p - 1) (SmPt p) := by
  unfold bp_
  rw [fs_ (n := l - (p.Text.size : Int)) (by omega) (by omega)]
  by_cases hc : l - (p.Text.size : Int) < 0
  ·rw [if_pos (by simpa using hc)]; exact .inl rfl
  ·rw [if_neg (by simpa using hc)]
   rcases lT_ p.Kids f2 (fun q hq => ih q hq (f3 q hq)) (l - (p.Text.size : Int)) (by omega) (by omega) with w | ⟨l', w1, w2, w3, w4, w5⟩
   ·left; rw [w]; rfl
   ·right; rw [w1, Option.bind_some, if_neg (by simp; omega)]
    exact ⟨l', rfl, w2, by rw [eA_]; omega, .mk (by omega) w4 w5⟩
 rcases key with w | ⟨l', w1, w2⟩
 ·exact .inl (dm_ p l _ w)
 ·exact .inr ⟨l', dm_ p l _ w1, w2⟩
mutual
def cpPt : DPattern → DPattern
 | ⟨k, n, t, ⟨_, l⟩⟩ => ⟨k, n, t, ⟨false, cpPtL l⟩⟩
def cpPtL : List DPattern → List DPattern
 | [] => []
 | p :: l => cpPt p :: cpPtL l
end
theorem cpPtL_eq : ∀ l, cpPtL l = l.map cpPt
 | [] => rfl
 | p :: l => by rw [cpPtL, cpPtL_eq l]; rfl
theorem eF_ (p : DPattern) : cpPt p = ⟨p.Kind, p.Num, p.Text, ⟨false, p.Kids.l.map cpPt⟩⟩ := by
 obtain ⟨k, n, t, ⟨z, l⟩⟩ := p; rw [cpPt, cpPtL_eq]
theorem lE_ (s : Sl DPattern) (hn : s.l.length ≤ 1048576) (ih : ∀ q ∈ s.l, bo_ q = some (cpPt q)) : ay_ s = some ⟨false, s.l.map cpPt⟩ := by
 refine eK_ s _ ?_
 unfold bV_
 refine ly_ cpPt hn (by omega) (fun i x t hx hi hit he => ?_) (fun t => by rw [if_neg (by simp)])
 show (if decide ((i : Int) < (s.l.length : Int)) = true then _ else _) = _
 rw [if_pos (by simpa using hi), he]
 simp only [Option.bind_some]
 rw [ih x hx]
 simp only [Option.bind_some]
 rw [ct_ hit, dp_ (by omega) (by omega)]; rfl
theorem to_Pt : ∀ p, SmPt p → bo_ p = some (cpPt p) := by
 refine dn_ fun p ih hs => ?_
 cases hs with | mk s1 s2 s3 =>
 refine e3_ p _ ?_
 unfold b6_
 rw [lE_ p.Kids s2 fun q hq => ih q hq (s3 q hq), Option.bind_some, eF_]
theorem nd_cp : ∀ p, nd (cpPt p) = nd p := by
 refine dn_ fun p ih => ?_
 rw [eA_, eA_ p, eF_]
 show 1 + ndL (p.Kids.l.map cpPt) = _
 congr 1
 generalize p.Kids.l = l at ih
 induction l with
 | nil => rfl
 | cons q l ih2 => simp only [List.map_cons, ndL]; rw [ih q (by simp), ih2 fun q hq => ih q (by simp [hq])]
theorem Sm_cpPt : ∀ p, SmPt p → SmPt (cpPt p) := by
 refine dn_ fun p ih hs => ?_
 cases hs with | mk s1 s2 s3 =>
 rw [eF_]
 exact .mk s1 (by simpa using s2) fun q hq => by
  simp only [List.mem_map] at hq
  obtain ⟨r, hr, rfl⟩ := hq
  exact ih r hr (s3 r hr)
inductive EqPt : DPattern → DPattern → Prop
 | mk {p q : DPattern} (h1 : p.Kind = q.Kind) (h2 : p.Num = q.Num) (h3 : p.Text = q.Text) (h4 : p.Kids.l.length = q.Kids.l.length) (h5 : ∀ (i : Nat) x y, p.Kids.l[i]? = some x → q.Kids.l[i]? = some y → EqPt x y) : EqPt p q
theorem EqPt.rfl' : ∀ p, EqPt p p := dn_ fun p ih => .mk rfl rfl rfl rfl fun i x y hx hy => by
 rw [hx] at hy; injection hy with hy; subst hy; exact ih x (List.mem_of_getElem? hx)
theorem lQ_ (s t : Sl DPattern) (hl : s.l.length = t.l.length) (hn : s.l.length ≤ 1048577) (h : ∀ (i : Nat) x y, s.l[i]? = some x → t.l[i]? = some y → aC_ x y = some true) : aW_ s t = some true := by
 refine eE_ s t _ ?_
 unfold bS_
 rw [if_neg (by simp [hl])]
 have := (iC_ (R := Unit ⊕ Bool) (n := s.l.length) (p := fun _ => True) (bd := fun st1 => ((elt s st1).bind fun y2 => ((elt t st1).bind fun y3 => ((aC_ y2 y3).bind fun y4 => (if (!y4) = true then (some (.inr (.inr false))) else (some (.inl (w4 (st1 + 1))))))))) (x := .inl ()) (y := .inl ()) 0 (by omega) (fun i _ hi _ => by
  show (elt s (i : Int)).bind _ = _
  rw [ct_ hi, Option.bind_some, ct_ (s := t) (i := i) (by omega), Option.bind_some, h i _ _ (List.getElem?_eq_getElem hi) (List.getElem?_eq_getElem (by omega)), Option.bind_some, if_neg (by simp)]) (fun i _ _ hw => absurd trivial hw)).1 (fun _ _ _ => trivial)
 have e : au_ (S := Int) (R := (Unit ⊕ Bool)) _ 0 = _ := this
 rw [e]; rfl
theorem eq_Pt : ∀ p q, SmPt p → EqPt p q → aC_ p q = some true := by
 refine dn_ fun p ih q hs he => ?_
 cases hs with | mk s1 s2 s3 =>
 cases he with | mk e1 e2 e3 e4 e5 =>
 refine e4_ p q _ ?_
 unfold b8_
 rw [if_neg (by simp [e1]), if_neg (by simp [e2]), if_neg (by simp [e3]), lQ_ p.Kids q.Kids e4 (by omega) fun i x y hx hy => ih x (List.mem_of_getElem? hx) y (s3 x (List.mem_of_getElem? hx)) (e5 i x y hx hy)]
 rfl
theorem hW_ (k : Int) (h0 : 0 ≤ k) (h1 : k ≤ 4611686018427387904) : ∃ t, aE_ k = some t := by
 suffices h : ∃ t, bG_ k = some t from by obtain ⟨t, h⟩ := h; exact ⟨t, fv_ k t h⟩
 unfold bG_
 by_cases hk : k ≤ 0
 ·rw [if_pos (by simpa using hk)]; exact ⟨_, rfl⟩
 ·rw [if_neg (by simpa using hk)]
  suffices H : ∀ (m : Nat) (k : Int) (t : ByteArray), 0 ≤ k → k.toNat ≤ m → k ≤ 4611686018427387904 → t.size + k.toNat ≤ 5000000000000000000 → ∃ r : ByteArray, r.size ≤ 5000000000000000000 ∧ au_ (S := (Int × ByteArray)) (R := ByteArray) (fun st1 => (if (decide (0 < st1.1)) = true then ((strS ((⟨false, [⟨(IntKind.u8.wrap (w4 (48 + (st1.1.tmod 10))))⟩]⟩ : Sl (Iv .u8)))).bind fun y2 => ((catB y2 st1.2).bind fun y3 => (some (.inl ((w4 (st1.1.tdiv 10)), y3))))) else (some (.inr st1.2)))) (k, t) = some r by
   obtain ⟨r, hr, e⟩ := H k.toNat k ⟨#[]⟩ h0 (Nat.le_refl _) h1 (by show 0 + k.toNat ≤ _; omega)
   rw [e, Option.bind_some]
   have : catB ⟨#[109]⟩ r = some (⟨#[109]⟩ ++ r) := by
    unfold catB; rw [if_pos (by show 1 + r.size ≤ _; omega)]
   exact ⟨_, by rw [this]; rfl⟩
  intro m
  induction m with
  | zero =>
   intro k t h0 hm h1 ht
   refine ⟨t, by omega, ao_ ?_⟩
   show (if decide (0 < k) = true then _ else _) = _
   rw [if_neg (by simp; omega)]
  | succ m ih =>
   intro k t h0 hm h1 ht
   by_cases hk : 0 < k
   ·have hd : k.tdiv 10 = k / 10 := by rw [Int.tdiv_eq_ediv_of_nonneg h0]
    have hmod : k.tmod 10 = k % 10 := Int.tmod_eq_emod_of_nonneg h0
    have hq := Int.ediv_lt_self_of_pos_of_ne_one (by omega : 0 < k) (by omega : (10 : Int) ≠ 1)
    have hq0 : 0 ≤ k / 10 := Int.ediv_nonneg h0 (by omega)
    have hw : IntKind.u8.wrap (w4 (48 + k % 10)) = 48 + k % 10 := by
     rw [dp_ (by omega) (by omega)]
     simp only [w4, IntKind.wrap, IntKind.signed, IntKind.bits]; simp; omega
    have hs : strS (⟨false, [⟨48 + k % 10⟩]⟩ : Sl (Iv .u8)) = some ⟨#[UInt8.ofNat (48 + k % 10).toNat]⟩ := by
     simp only [strS, ofIv]; rw [if_pos ⟨by omega, by omega⟩]; rfl
    have hc : catB (⟨#[UInt8.ofNat (48 + k % 10).toNat]⟩ : ByteArray) t = some (⟨#[UInt8.ofNat (48 + k % 10).toNat]⟩ ++ t) := by
     unfold catB; rw [if_pos (by show 1 + t.size ≤ _; omega)]
    have hsz : ((⟨#[UInt8.ofNat (48 + k % 10).toNat]⟩ : ByteArray) ++ t).size = 1 + t.size := by
     rw [ByteArray.size_append]; rfl
    obtain ⟨r, hr, e⟩ := ih (k / 10) (⟨#[UInt8.ofNat (48 + k % 10).toNat]⟩ ++ t) hq0 (by omega) (by omega) (by rw [hsz]; omega)
    refine ⟨r, hr, av_ ?_ e⟩
    show (if decide (0 < k) = true then _ else _) = _
    rw [if_pos (by simpa using hk), hmod, hw, hs, Option.bind_some, hc, Option.bind_some, hd, dp_ hq0 (by omega)]
   ·refine ⟨t, by omega, ao_ ?_⟩
    show (if decide (0 < k) = true then _ else _) = _
    rw [if_neg (by simpa using hk)]
def MHP (n : Nat) (s : Sl DPattern) : Prop := ∀ k : Int, 0 ≤ k → k + 3 * (ndL s.l : Int) ≤ 4611686018427387904 → ∃ k' t', BG_laws_markPatternS n s k = some (k', t') ∧ t'.l.length = s.l.length ∧ ax_ t' k = some k' ∧ k ≤ k' ∧ k' ≤ k + 3 * (ndL s.l : Int)
theorem mh_PtS : ∀ n (s : Sl DPattern), ndL s.l < n → (s.l.length : Int) < 4611686018427387904 → MHP n s := by
 intro n
 induction n with
 | zero => intro s h; omega
 | succ n ihn =>
  intro s hd hl k hk0 hk1
  show ∃ k' t', aG_ (BG_laws_markPatternS n) s k = _ ∧ _
  suffices H : ∀ (m i : Nat), i + m = s.l.length → ∀ (k : Int) (t : Sl DPattern), 0 ≤ k → k + 3 * (ndL (s.l.drop i) : Int) ≤ 4611686018427387904 → t.l.length = s.l.length → t.l.drop i = s.l.drop i →
    ∃ k' t', au_ (S := (Int × Int × (Sl DPattern))) (R := (Int × (Sl DPattern))) (fun st1 => (if (decide (st1.2.1 < (st1.2.2.l.length : Int))) = true then ((elt st1.2.2 st1.2.1).bind fun y2 => ((elt (setS st1.2.2 st1.2.1 ((⟨st1.1, y2.Num, y2.Text, y2.Kids⟩ : DPattern) : DPattern)) st1.2.1).bind fun y3 => ((aE_ (w4 ((w4 (st1.1 + 1)) + 1))).bind fun y4 => ((elt ((setS (setS st1.2.2 st1.2.1 ((⟨st1.1, y2.Num, y2.Text, y2.Kids⟩ : DPattern) : DPattern)) st1.2.1 ((⟨y3.Kind, (w4 (st1.1 + 1)), y3.Text, y3.Kids⟩ : DPattern) : DPattern))) st1.2.1).bind fun y5 => ((elt ((setS ((setS (setS st1.2.2 st1.2.1 ((⟨st1.1, y2.Num, y2.Text, y2.Kids⟩ : DPattern) : DPattern)) st1.2.1 ((⟨y3.Kind, (w4 (st1.1 + 1)), y3.Text, y3.Kids⟩ : DPattern) : DPattern))) st1.2.1 ((⟨y5.Kind, y5.Num, y4, y5.Kids⟩ : DPattern) : DPattern))) st1.2.1).bind fun y6 => (((BG_laws_markPatternS n) y6.Kids (w4 ((w4 ((w4 (st1.1 + 1)) + 1)) + 1))).bind fun y7 => (some (.inl (y7.1, (w4 (st1.2.1 + 1)), (setS ((setS ((setS (setS st1.2.2 st1.2.1 ((⟨st1.1, y2.Num, y2.Text, y2.Kids⟩ : DPattern) : DPattern)) st1.2.1 ((⟨y3.Kind, (w4 (st1.1 + 1)), y3.Text, y3.Kids⟩ : DPattern) : DPattern))) st1.2.1 ((⟨y5.Kind, y5.Num, y4, y5.Kids⟩ : DPattern) : DPattern))) st1.2.1 ((⟨y6.Kind, y6.Num, y6.Text, y7.2⟩ : DPattern) : DPattern))))))))))) else (some (.inr (st1.1, st1.2.2))))) (k, (i : Int), t) = some (k', t') ∧ t'.l.length = s.l.length ∧ (∀ j, j < i → t'.l[j]? = t.l[j]?) ∧ au_ (S := (Int × Int)) (R := (Int ⊕ Int)) (fun st1 => (if (decide (st1.2 < (t'.l.length : Int))) = true then ((elt t' st1.2).bind fun y2 => (if (!decide (y2.Kind = st1.1)) = true then (some (.inr (.inr (-1)))) else ((elt t' st1.2).bind fun y3 => (if (!decide (y3.Num = (w4 (st1.1 + 1)))) = true then (some (.inr (.inr (-1)))) else ((elt t' st1.2).bind fun y4 => ((aE_ (w4 ((w4 (st1.1 + 1)) + 1))).bind fun y5 => (if (!decide (y4.Text = y5)) = true then (some (.inr (.inr (-1)))) else ((elt t' st1.2).bind fun y6 => ((ax_ y6.Kids (w4 ((w4 ((w4 (st1.1 + 1)) + 1)) + 1))).bind fun y7 => (if (decide (y7 < 0)) = true then (some (.inr (.inr (-1)))) else (some (.inl (y7, (w4 (st1.2 + 1))))))))))))))) else (some (.inr (.inl st1.1))))) (k, (i : Int)) = some (.inl k') ∧ k ≤ k' ∧ k' ≤ k + 3 * (ndL (s.l.drop i) : Int) by
   obtain ⟨k', t', q1, q2, _, q4, q5, q6⟩ := H s.l.length 0 (by simp) k s hk0 (by simpa using hk1) rfl rfl
   refine ⟨k', t', ?_, q2, d8_ t' k k' ?_, q5, by simpa using q6⟩
   ·unfold aG_
    have q1 : au_ (S := (Int × Int × (Sl DPattern))) (R := (Int × (Sl DPattern))) (fun st1 => (if (decide (st1.2.1 < (st1.2.2.l.length : Int))) = true then ((elt st1.2.2 st1.2.1).bind fun y2 => ((elt (setS st1.2.2 st1.2.1 ((⟨st1.1, y2.Num, y2.Text, y2.Kids⟩ : DPattern) : DPattern)) st1.2.1).bind fun y3 => ((aE_ (w4 ((w4 (st1.1 + 1)) + 1))).bind fun y4 => ((elt ((setS (setS st1.2.2 st1.2.1 ((⟨st1.1, y2.Num, y2.Text, y2.Kids⟩ : DPattern) : DPattern)) st1.2.1 ((⟨y3.Kind, (w4 (st1.1 + 1)), y3.Text, y3.Kids⟩ : DPattern) : DPattern))) st1.2.1).bind fun y5 => ((elt ((setS ((setS (setS st1.2.2 st1.2.1 ((⟨st1.1, y2.Num, y2.Text, y2.Kids⟩ : DPattern) : DPattern)) st1.2.1 ((⟨y3.Kind, (w4 (st1.1 + 1)), y3.Text, y3.Kids⟩ : DPattern) : DPattern))) st1.2.1 ((⟨y5.Kind, y5.Num, y4, y5.Kids⟩ : DPattern) : DPattern))) st1.2.1).bind fun y6 => (((BG_laws_markPatternS n) y6.Kids (w4 ((w4 ((w4 (st1.1 + 1)) + 1)) + 1))).bind fun y7 => (some (.inl (y7.1, (w4 (st1.2.1 + 1)), (setS ((setS ((setS (setS st1.2.2 st1.2.1 ((⟨st1.1, y2.Num, y2.Text, y2.Kids⟩ : DPattern) : DPattern)) st1.2.1 ((⟨y3.Kind, (w4 (st1.1 + 1)), y3.Text, y3.Kids⟩ : DPattern) : DPattern))) st1.2.1 ((⟨y5.Kind, y5.Num, y4, y5.Kids⟩ : DPattern) : DPattern))) st1.2.1 ((⟨y6.Kind, y6.Num, y6.Text, y7.2⟩ : DPattern) : DPattern))))))))))) else (some (.inr (st1.1, st1.2.2))))) (k, 0, s) = some (k', t') := q1
    rw [q1]; rfl
   ·unfold bq_
    have q4 : au_ (S := (Int × Int)) (R := (Int ⊕ Int)) (fun st1 => (if (decide (st1.2 < (t'.l.length : Int))) = true then ((elt t' st1.2).bind fun y2 => (if (!decide (y2.Kind = st1.1)) = true then (some (.inr (.inr (-1)))) else ((elt t' st1.2).bind fun y3 => (if (!decide (y3.Num = (w4 (st1.1 + 1)))) = true then (some (.inr (.inr (-1)))) else ((elt t' st1.2).bind fun y4 => ((aE_ (w4 ((w4 (st1.1 + 1)) + 1))).bind fun y5 => (if (!decide (y4.Text = y5)) = true then (some (.inr (.inr (-1)))) else ((elt t' st1.2).bind fun y6 => ((ax_ y6.Kids (w4 ((w4 ((w4 (st1.1 + 1)) + 1)) + 1))).bind fun y7 => (if (decide (y7 < 0)) = true then (some (.inr (.inr (-1)))) else (some (.inl (y7, (w4 (st1.2 + 1))))))))))))))) else (some (.inr (.inl st1.1))))) (k, 0) = some (.inl k') := q4
    rw [q4]; rfl
  intro m
  induction m with
  | zero =>
   intro i hi k t h0 h1 ht hdr
   have e : i = s.l.length := by omega
   subst e
   refine ⟨k, t, ao_ ?_, ht, fun _ _ => rfl, ao_ ?_, by omega, by omega⟩
   ·show (if decide ((s.l.length : Int) < (t.l.length : Int)) = true then _ else _) = _
    rw [if_neg (by simp [ht])]
   ·show (if decide ((s.l.length : Int) < (t.l.length : Int)) = true then _ else _) = _
    rw [if_neg (by simp [ht])]
  | succ m ih =>
   intro i hi k t h0 h1 ht hdr
   have his : i < s.l.length := by omega
   have hit : i < t.l.length := by omega
   have hds : s.l.drop i = s.l[i] :: s.l.drop (i + 1) := List.drop_eq_getElem_cons his
   have hdt : t.l.drop i = t.l[i] :: t.l.drop (i + 1) := List.drop_eq_getElem_cons hit
   have hti : t.l[i] = s.l[i] := by rw [hdt, hds] at hdr; injection hdr
   have hdr1 : t.l.drop (i + 1) = s.l.drop (i + 1) := by rw [hdt, hds] at hdr; injection hdr
   rw [hds, ndL, eA_] at h1
   have hx : elt t (i : Int) = some s.l[i] := by rw [ct_ hit, hti]
   generalize hpd : s.l[i] = p at hx h1 hds
   have hpm : p ∈ s.l := by rw [← hpd]; exact List.getElem_mem his
   have hnd : ndL p.Kids.l < n := by have := ndL_mem hpm; rw [eA_] at this; omega
   have hkl := ndL_len p.Kids.l
   obtain ⟨k1, x1, m1, m2, g1, a1, b1⟩ := ihn p.Kids hnd (by omega) (k + 3) (by omega) (by omega)
   obtain ⟨w, hw⟩ := hW_ (k + 2) (by omega) (by omega)
   have W1 : w4 (k + 1) = k + 1 := dp_ (by omega) (by omega)
   have W2 : w4 (k + 1 + 1) = k + 2 := by rw [dp_ (by omega) (by omega)]; omega
   have W3 : w4 (k + 2 + 1) = k + 3 := by rw [dp_ (by omega) (by omega)]; omega
   have WI : w4 ((i : Int) + 1) = (i : Int) + 1 := dp_ (by omega) (by omega)
   obtain ⟨X, hX⟩ : ∃ X : DPattern, X = ⟨k, k + 1, w, x1⟩ := ⟨_, rfl⟩
   obtain ⟨k2, t2, r1, r2, r3, r4, r5, r6⟩ := ih (i + 1) (by omega) k1 (setS t (i : Int) X) (by omega) (by omega) (by simp [ht]) (by
    rw [← hdr1]
    simp only [setS, Int.toNat_natCast]
    rw [List.drop_set_of_lt (by omega)])
   have ec : ((i + 1 : Nat) : Int) = (i : Int) + 1 := by simp
   rw [ec] at r1 r4
   have hx2 : t2.l[i]? = some X := by rw [r3 i (by omega)]; simp [setS, hit]
   refine ⟨k2, t2, av_ (s' := (k1, (i : Int) + 1, setS t (i : Int) X)) ?_ r1, r2, fun j hj => ?_, av_ (s' := (k1, (i : Int) + 1)) ?_ r4, by omega, ?_⟩
   ·show (if decide ((i : Int) < (t.l.length : Int)) = true then _ else _) = _
    rw [if_pos (by simpa using hit)]
    simp only [hx, Option.bind_some, kQ_, mj_ hit, W1, W2, W3, hw, m1, WI, hX]
   ·rw [r3 j (by omega)]
    simp only [setS, Int.toNat_natCast, List.getElem?_set]
    rw [if_neg (by omega)]
   ·show (if decide ((i : Int) < (t2.l.length : Int)) = true then _ else _) = _
    have dd : decide (k1 < 0) = false := by simp; omega
    rw [if_pos (by simp; omega)]
    simp only [gr_ hx2, Option.bind_some, hX, W1, W2, W3, hw, g1, WI, dd, eq_self, decide_true, Bool.not_true, Bool.false_eq_true, if_false]
   ·rw [hds, ndL, eA_]; omega
theorem jl_ {P : Program} {t : TypeId} {d : Nat} {ts : List T} {α : Type} [Enc α] {B : α → Prop} {e : TypeId} (kt : ak_ P t = 4) (he : ad_ P t = some e) (hd : ∀ ts, Shp P d e ts → ∃ x : α, ts = Enc.cells x ∧ B x) (h : Shp P (d + 1) t ts) : ∃ x : Sl α, ts = [Sl.t x] ∧ FitS maxLen B x := by
 rcases h with h | h | h | h | h
 ·rw [kt] at h; exact absurd h.1 (by decide)
 ·simp [b1_, kt] at h
 ·rw [kt] at h; exact absurd h.1 (by decide)
 ·obtain ⟨_, e', h1, h2⟩ := h
  rw [he] at h1
  injection h1 with h1; subst h1
  rcases h2 with rfl | ⟨els, rfl, h2, h3⟩
  ·exact ⟨⟨true, []⟩, rfl, ⟨by simp, by simp⟩⟩
  ·obtain ⟨l, q1, q2, q3⟩ := lS_ (B := B) els (fun el hel => hd el (h3 el hel).2)
   exact ⟨⟨false, l⟩, by simp [Sl.t, q1, q2], ⟨by show l.length ≤ maxLen; omega, q3⟩⟩
 ·rw [kt] at h; exact absurd h.1 (by decide)
theorem fo_ {P : Program} {t : TypeId} {d : Nat} {ts : List T} (kt : ak_ P t = 7) (h : Shp P (d + 1) t ts) : ShpF P (Shp P d) ((br_ P t).map (·.type)) ts := by
 rcases h with h | h | h | h | h
 ·rw [kt] at h; exact absurd h.1 (by decide)
 ·simp [b1_, kt] at h
 ·rw [kt] at h; exact absurd h.1 (by decide)
 ·rw [kt] at h; exact absurd h.1 (by decide)
 ·exact h.2
theorem un_i64 : Go.Proofs.Try.prog.underlying 2 = some (.int .i64) := by kernel_rfl
theorem kH_ {d : Nat} {ts : List T} (h : Shp Go.Proofs.Try.prog d 2 ts) : ∃ n : Int, ts = [.int .i64 n] := md_ un_i64 (by kernel_rfl) h
theorem mI_ {d : Nat} {ts : List T} (h : Shp Go.Proofs.Try.prog d 9 ts) : ∃ x : ByteArray, ts = [.str x] ∧ x.size ≤ maxLen := my_ (by kernel_rfl) h
theorem dec_Pt : ∀ {d : Nat} {ts : List T}, Shp Go.Proofs.Try.prog d 51 ts → ∃ x : DPattern, ts = Enc.cells x ∧ FitPt x
 | 0, ts, h => h.elim
 | 1, ts, h => by
  have g := fo_ (by kernel_rfl) h
  rw [show (br_ Go.Proofs.Try.prog 51).map (·.type) = [2, 2, 9, 35] from by kernel_rfl] at g
  obtain ⟨a0, t0, rfl, -, q0, g⟩ := g
  exact q0.elim
 | d + 2, ts, h => by
  have g := fo_ (by kernel_rfl) h
  rw [show (br_ Go.Proofs.Try.prog 51).map (·.type) = [2, 2, 9, 35] from by kernel_rfl] at g
  obtain ⟨a0, t0, rfl, -, q0, g⟩ := g
  obtain ⟨x0, rfl⟩ := kH_ q0
  obtain ⟨a1, t1, rfl, -, q1, g⟩ := g
  obtain ⟨x1, rfl⟩ := kH_ q1
  obtain ⟨a2, t2, rfl, -, q2, g⟩ := g
  obtain ⟨x2, rfl, b2⟩ := mI_ q2
  obtain ⟨a3, t3, rfl, -, q3, g⟩ := g
  obtain ⟨x3, rfl, b3⟩ := jl_ (kt := by kernel_rfl) (he := by kernel_rfl) (fun ts h => dec_Pt h) q3
  cases g
  exact ⟨⟨x0, x1, x2, x3⟩, by rw [DPattern.enc_eq]; rfl, .mk b2 b3.1 b3.2⟩
end Go.Am
end
