/- The law. -/
import Derived.Test.YtnihabnkoegdjaaAg0
import Derived.Test.YtnihabnkoegdjaaAm6
section
set_option maxRecDepth 100000
set_option maxHeartbeats 1000000
set_option linter.unusedVariables false
set_option linter.unusedSimpArgs false
namespace Go.Am
mutual
theorem gP_ {P : DPattern → Prop} (h : ∀ p, (∀ q ∈ p.Kids.l, P q) → P p) : ∀ p, P p
 | ⟨k, n, t, ⟨z, l⟩⟩ => h ⟨k, n, t, ⟨z, l⟩⟩ (l8_ h l)
theorem l8_ {P : DPattern → Prop} (h : ∀ p, (∀ q ∈ p.Kids.l, P q) → P p) : ∀ l : List DPattern, ∀ q ∈ l, P q
 | [], q, hq => by cases hq
 | p :: l, q, hq => by
  rcases List.mem_cons.1 hq with e | e
  ·rw [e]; exact gP_ h p
  ·exact l8_ h l q e
end
mutual
/-- The nodes of a pattern. -/
def nd : DPattern → Nat
 | ⟨_, _, _, ⟨_, l⟩⟩ => 1 + ndL l
def ndL : List DPattern → Nat
 | [] => 0
 | p :: l => nd p + ndL l
end
theorem ob_ (p : DPattern) : nd p = 1 + ndL p.Kids.l := by obtain ⟨k, n, t, ⟨z, l⟩⟩ := p; rw [nd]
theorem hs_ (p : DPattern) : 1 ≤ nd p := by rw [ob_]; omega
theorem ndL_len : ∀ l : List DPattern, l.length ≤ ndL l
 | [] => by simp
 | p :: l => by have := ndL_len l; have := hs_ p; simp only [List.length_cons, ndL]; omega
inductive FitPt : DPattern → Prop
 | mk {p : DPattern} (h1 : p.Text.size ≤ maxLen) (h2 : p.Kids.l.length ≤ maxLen) (h3 : ∀ q ∈ p.Kids.l, FitPt q) : FitPt p
inductive SmPt : DPattern → Prop
 | mk {p : DPattern} (h1 : p.Text.size ≤ 1048576) (h2 : p.Kids.l.length ≤ 1048576) (h3 : ∀ q ∈ p.Kids.l, SmPt q) : SmPt p
theorem SmPt.kid {p q : DPattern} (h : SmPt p) (hq : q ∈ p.Kids.l) : SmPt q := by cases h with | mk h1 h2 h3 => exact h3 q hq
def SzN (o : Option Int) (l : Int) (n : Nat) (P : Prop) : Prop := o = some (-1) ∨ ∃ l', o = some l' ∧ 0 ≤ l' ∧ l' + n ≤ l ∧ P
theorem nI_ {s : Sl DPattern} {body : Int × Int → Option ((Int × Int) ⊕ (Int ⊕ Int))} (hn : s.l.length ≤ maxLen)
  (h1 : ∀ (i : Nat) x l, s.l[i]? = some x → i < s.l.length → 0 ≤ l → l ≤ 1048576 → body (l, (i : Int)) = some (.inr (.inr (-1))) ∨ ∃ l', body (l, (i : Int)) = some (.inl (l', (i : Int) + 1)) ∧ 0 ≤ l' ∧ l' + (nd x - 1 : Nat) ≤ l ∧ SmPt x)
  (h2 : ∀ l, body (l, (s.l.length : Int)) = some (.inr (.inl l))) : ∀ (m i : Nat), i + m = s.l.length → ∀ l, 0 ≤ l → l ≤ 1048576 →
  aD_ body (l, (i : Int)) = some (.inr (-1)) ∨ ∃ l', aD_ body (l, (i : Int)) = some (.inl l') ∧ 0 ≤ l' ∧ l' + ((ndL (s.l.drop i) - m : Nat) : Int) ≤ l ∧ ∀ x ∈ s.l.drop i, SmPt x := by
 intro m
 induction m with
 | zero =>
  intro i hi l h0 h3
  have e : i = s.l.length := by omega
  subst e
  exact .inr ⟨l, am_ (h2 l), h0, by simp [ndL], by simp⟩
 | succ m ih =>
  intro i hi l h0 h3
  have hlt : i < s.l.length := by omega
  have ec : ((i + 1 : Nat) : Int) = (i : Int) + 1 := by simp
  rcases h1 i _ l (List.getElem?_eq_getElem hlt) hlt h0 h3 with h | ⟨l1, h, q1, q2, q3⟩
  ·exact .inl (am_ h)
  ·rcases ih (i + 1) (by omega) l1 q1 (by omega) with w | ⟨l2, w1, w2, w3, w4⟩
   ·rw [ec] at w; exact .inl (aC_ h w)
   ·rw [ec] at w1
    have hd : s.l.drop i = s.l[i] :: s.l.drop (i + 1) := List.drop_eq_getElem_cons hlt
    have hlen := ndL_len (s.l.drop (i + 1))
    have hp := hs_ s.l[i]
    simp only [List.length_drop] at hlen
    refine .inr ⟨l2, aC_ h w1, w2, ?_, fun x hx => ?_⟩
    ·rw [hd, ndL]; omega
    ·rw [hd] at hx
     rcases List.mem_cons.1 hx with e | e
     ·rw [e]; exact q3
     ·exact w4 x e
theorem qc_ (s : Sl DPattern) (hn : s.l.length ≤ maxLen) (ih : ∀ q ∈ s.l, ∀ l, 0 ≤ l → l ≤ 1048576 → SzN (bc_ q l) l (nd q - 1) (SmPt q)) (l : Int) (h0 : 0 ≤ l) (h1 : l ≤ 1048576) :
  SzN (cV_ s l) l (ndL s.l) (s.l.length ≤ 1048576 ∧ ∀ q ∈ s.l, SmPt q) := by
 have hm := maxLen_eq
 have key : SzN (b3_ s l) l (ndL s.l) (s.l.length ≤ 1048576 ∧ ∀ q ∈ s.l, SmPt q) := by
  unfold b3_
  rw [cc_ (n := l - (s.l.length : Int)) (by omega) (by omega)]
  by_cases hc : l - (s.l.length : Int) < 0
  ·rw [if_pos (by simpa using hc)]; exact .inl rfl
  ·rw [if_neg (by simpa using hc)]
   have := nI_ (s := s) (body := fun st1 => (if (decide (st1.2 < (s.l.length : Int))) = true then ((elt s st1.2).bind fun y2 => ((bc_ y2 st1.1).bind fun y3 => (if (decide (y3 < 0)) = true then (some (.inr (.inr (-1)))) else (some (.inl (y3, (w4 (st1.2 + 1)))))))) else (some (.inr (.inl st1.1))))) hn (fun i x l hx hi a b => by
    show (if (decide ((i : Int) < (s.l.length : Int))) = true then _ else _) = _ ∨ ∃ l', (if (decide ((i : Int) < (s.l.length : Int))) = true then _ else _) = _ ∧ _
    rw [if_pos (by simpa using hi), i9_ hx, Option.bind_some]
    rcases ih x (List.mem_of_getElem? hx) l a b with w | ⟨l', w1, w2, w3, w4⟩
    ·left; rw [w]; rfl
    ·right; rw [w1, Option.bind_some, if_neg (by simp; omega), a9_ (by omega) (by omega)]; exact ⟨l', rfl, w2, w3, w4⟩) (fun l => by
    show (if (decide ((s.l.length : Int) < (s.l.length : Int))) = true then _ else _) = _
    rw [if_neg (by simp)]) s.l.length 0 (by simp) (l - (s.l.length : Int)) (by omega) (by omega)
   rcases this with w | ⟨l', w1, w2, w3, w4⟩
   ·left; rw [show ((0 : Nat) : Int) = 0 from rfl] at w; rw [w]; rfl
   ·right; rw [show ((0 : Nat) : Int) = 0 from rfl] at w1; rw [w1]
    have := ndL_len s.l
    exact ⟨l', rfl, w2, by simp only [List.drop_zero] at w3; omega, by omega, by simpa using w4⟩
 rcases key with w | ⟨l', w1, w2⟩
 ·exact .inl (ex_ s l _ w)
 ·exact .inr ⟨l', ex_ s l _ w1, w2⟩
theorem sz_Pt : ∀ p, FitPt p → ∀ l, 0 ≤ l → l ≤ 1048576 → SzN (bc_ p l) l (nd p - 1) (SmPt p) := by
 refine gP_ fun p ih hf l h0 h1 => ?_
 cases hf with | mk f1 f2 f3 =>
 have hm := maxLen_eq
 have key : SzN (cg_ p l) l (nd p - 1) (SmPt p) := by
  unfold cg_
  rw [cc_ (n := l - (p.Text.size : Int)) (by omega) (by omega)]
  by_cases hc : l - (p.Text.size : Int) < 0
  ·rw [if_pos (by simpa using hc)]; exact .inl rfl
  ·rw [if_neg (by simpa using hc)]
   rcases qc_ p.Kids f2 (fun q hq => ih q hq (f3 q hq)) (l - (p.Text.size : Int)) (by omega) (by omega) with w | ⟨l', w1, w2, w3, w4, w5⟩
   ·left; rw [w]; rfl
   ·right; rw [w1, Option.bind_some, if_neg (by simp; omega)]
    exact ⟨l', rfl, w2, by rw [ob_]; omega, .mk (by omega) w4 w5⟩
 rcases key with w | ⟨l', w1, w2⟩
 ·exact .inl (fc_ p l _ w)
 ·exact .inr ⟨l', fc_ p l _ w1, w2⟩
mutual
def cpPt : DPattern → DPattern
 | ⟨k, n, t, ⟨_, l⟩⟩ => ⟨k, n, t, ⟨false, cpPtL l⟩⟩
def cpPtL : List DPattern → List DPattern
 | [] => []
 | p :: l => cpPt p :: cpPtL l
end
theorem cpPtL_eq : ∀ l, cpPtL l = l.map cpPt
 | [] => rfl
 | p :: l => by rw [cpPtL, cpPtL_eq l]; rfl
theorem mZ_ (p : DPattern) : cpPt p = ⟨p.Kind, p.Num, p.Text, ⟨false, p.Kids.l.map cpPt⟩⟩ := by
 obtain ⟨k, n, t, ⟨z, l⟩⟩ := p; rw [cpPt, cpPtL_eq]
theorem qk_ (s : Sl DPattern) (hn : s.l.length ≤ 1048576) (ih : ∀ q ∈ s.l, a0_ q = some (cpPt q)) : cS_ s = some ⟨false, s.l.map cpPt⟩ := by
 refine gC_ s _ ?_
 unfold c3_
 refine kL_ cpPt hn (by omega) (fun i x t hx hi hit he => ?_) (fun t => by rw [if_neg (by simp)])
 show (if decide ((i : Int) < (s.l.length : Int)) = true then _ else _) = _
 rw [if_pos (by simpa using hi), he]
 simp only [Option.bind_some]
 rw [ih x hx]
 simp only [Option.bind_some]
 rw [bN_ hit, a9_ (by omega) (by omega)]; rfl
theorem to_Pt : ∀ p, SmPt p → a0_ p = some (cpPt p) := by
 refine gP_ fun p ih hs => ?_
 cases hs with | mk s1 s2 s3 =>
 refine g4_ p _ ?_
 unfold dg_
 rw [qk_ p.Kids s2 fun q hq => ih q hq (s3 q hq), Option.bind_some, mZ_]
theorem Sm_cpPt : ∀ p, SmPt p → SmPt (cpPt p) := by
 refine gP_ fun p ih hs => ?_
 cases hs with | mk s1 s2 s3 =>
 rw [mZ_]
 exact .mk s1 (by simpa using s2) fun q hq => by
  simp only [List.mem_map] at hq
  obtain ⟨r, hr, rfl⟩ := hq
  exact ih r hr (s3 r hr)
inductive EqPt : DPattern → DPattern → Prop
 | mk {p q : DPattern} (h1 : p.Kind = q.Kind) (h2 : p.Num = q.Num) (h3 : p.Text = q.Text) (h4 : p.Kids.l.length = q.Kids.l.length) (h5 : ∀ (i : Nat) x y, p.Kids.l[i]? = some x → q.Kids.l[i]? = some y → EqPt x y) : EqPt p q
theorem EqPt.rfl' : ∀ p, EqPt p p := gP_ fun p ih => .mk rfl rfl rfl rfl fun i x y hx hy => by
 rw [hx] at hy; injection hy with hy; subst hy; exact ih x (List.mem_of_getElem? hx)
theorem rT_ (s t : Sl DPattern) (hl : s.l.length = t.l.length) (hn : s.l.length ≤ 1048577) (h : ∀ (i : Nat) x y, s.l[i]? = some x → t.l[i]? = some y → bd_ x y = some true) : cW_ s t = some true := by
 refine gv_ s t _ ?_
 unfold c0_
 rw [if_neg (by simp [hl])]
 have := (g9_ (R := Unit ⊕ Bool) (n := s.l.length) (p := fun _ => True) (bd := fun st1 => ((elt s st1).bind fun y2 => ((elt t st1).bind fun y3 => ((bd_ y2 y3).bind fun y4 => (if (!y4) = true then (some (.inr (.inr false))) else (some (.inl (w4 (st1 + 1))))))))) (x := .inl ()) (y := .inl ()) 0 (by omega) (fun i _ hi _ => by
  show (elt s (i : Int)).bind _ = _
  rw [bN_ hi, Option.bind_some, bN_ (s := t) (i := i) (by omega), Option.bind_some, h i _ _ (List.getElem?_eq_getElem hi) (List.getElem?_eq_getElem (by omega)), Option.bind_some, if_neg (by simp)]) (fun i _ _ hw => absurd trivial hw)).1 (fun _ _ _ => trivial)
 have e : aD_ (S := Int) (R := (Unit ⊕ Bool)) _ 0 = _ := this
 rw [e]; rfl
theorem eq_Pt : ∀ p q, SmPt p → EqPt p q → bd_ p q = some true := by
 refine gP_ fun p ih q hs he => ?_
 cases hs with | mk s1 s2 s3 =>
 cases he with | mk e1 e2 e3 e4 e5 =>
 refine g0_ p q _ ?_
 unfold di_
 rw [if_neg (by simp [e1]), if_neg (by simp [e2]), if_neg (by simp [e3]), rT_ p.Kids q.Kids e4 (by omega) fun i x y hx hy => ih x (List.mem_of_getElem? hx) y (s3 x (List.mem_of_getElem? hx)) (e5 i x y hx hy)]
 rfl
theorem oR_ {P : Program} {t : TypeId} {d : Nat} {ts : List T} {α : Type} [Enc α] {B : α → Prop} {e : TypeId} (kt : aB_ P t = 4) (he : ap_ P t = some e) (hd : ∀ ts, Shp P d e ts → ∃ x : α, ts = Enc.cells x ∧ B x) (h : Shp P (d + 1) t ts) : ∃ x : Sl α, ts = [Sl.t x] ∧ FitS maxLen B x := by
 rcases h with h | h | h | h | h
 ·rw [kt] at h; exact absurd h.1 (by decide)
 ·simp [bo_, kt] at h
 ·rw [kt] at h; exact absurd h.1 (by decide)
 ·obtain ⟨_, e', h1, h2⟩ := h
  rw [he] at h1
  injection h1 with h1; subst h1
  rcases h2 with rfl | ⟨els, rfl, h2, h3⟩
  ·exact ⟨⟨true, []⟩, rfl, ⟨by simp, by simp⟩⟩
  ·obtain ⟨l, q1, q2, q3⟩ := mz_ (B := B) els (fun el hel => hd el (h3 el hel).2)
   exact ⟨⟨false, l⟩, by simp [Sl.t, q1, q2], ⟨by show l.length ≤ maxLen; omega, q3⟩⟩
 ·rw [kt] at h; exact absurd h.1 (by decide)
theorem hi_ {P : Program} {t : TypeId} {d : Nat} {ts : List T} (kt : aB_ P t = 7) (h : Shp P (d + 1) t ts) : ShpF P (Shp P d) ((bU_ P t).map (·.type)) ts := by
 rcases h with h | h | h | h | h
 ·rw [kt] at h; exact absurd h.1 (by decide)
 ·simp [bo_, kt] at h
 ·rw [kt] at h; exact absurd h.1 (by decide)
 ·rw [kt] at h; exact absurd h.1 (by decide)
 ·exact h.2
theorem un_i64 : Go.Proofs.Try.prog.underlying 2 = some (.int .i64) := by kernel_rfl
theorem km_ {d : Nat} {ts : List T} (h : Shp Go.Proofs.Try.prog d 2 ts) : ∃ n : Int, ts = [.int .i64 n] := pu_ un_i64 (by kernel_rfl) h
theorem kK_ {d : Nat} {ts : List T} (h : Shp Go.Proofs.Try.prog d 9 ts) : ∃ x : ByteArray, ts = [.str x] ∧ x.size ≤ maxLen := oI_ (by kernel_rfl) h
theorem dec_Pt : ∀ {d : Nat} {ts : List T}, Shp Go.Proofs.Try.prog d 51 ts → ∃ x : DPattern, ts = Enc.cells x ∧ FitPt x
 | 0, ts, h => h.elim
 | 1, ts, h => by
  have g := hi_ (by kernel_rfl) h
  rw [show (bU_ Go.Proofs.Try.prog 51).map (·.type) = [2, 2, 9, 35] from by kernel_rfl] at g
  obtain ⟨a0, t0, rfl, -, q0, g⟩ := g
  exact q0.elim
 | d + 2, ts, h => by
  have g := hi_ (by kernel_rfl) h
  rw [show (bU_ Go.Proofs.Try.prog 51).map (·.type) = [2, 2, 9, 35] from by kernel_rfl] at g
  obtain ⟨a0, t0, rfl, -, q0, g⟩ := g
  obtain ⟨x0, rfl⟩ := km_ q0
  obtain ⟨a1, t1, rfl, -, q1, g⟩ := g
  obtain ⟨x1, rfl⟩ := km_ q1
  obtain ⟨a2, t2, rfl, -, q2, g⟩ := g
  obtain ⟨x2, rfl, b2⟩ := kK_ q2
  obtain ⟨a3, t3, rfl, -, q3, g⟩ := g
  obtain ⟨x3, rfl, b3⟩ := oR_ (kt := by kernel_rfl) (he := by kernel_rfl) (fun ts h => dec_Pt h) q3
  cases g
  exact ⟨⟨x0, x1, x2, x3⟩, by rw [DPattern.enc_eq]; rfl, .mk b2 b3.1 b3.2⟩
end Go.Am
end
