/- The law. -/
import Derived.Test.YthpmndnnpnojjaaAl8
import Derived.Test.YthpmndnnpnojjaaAl10
import Derived.Test.YthpmndnnpnojjaaAl11
import Derived.Test.YthpmndnnpnojjaaAg3
import Derived.Test.YthpmndnnpnojjaaAg2
import Derived.Test.YthpmndnnpnojjaaAg0
section
set_option maxRecDepth 100000
set_option maxHeartbeats 4000000
set_option linter.unusedVariables false
set_option linter.unusedSimpArgs false
namespace Go.Am
theorem gL_ {R : Type} {b : Int → Option (Int ⊕ R)} {n : Nat} {r : R} (h1 : ∀ i : Nat, i < n → b (i : Int) = some (.inl ((i : Int) + 1))) (h2 : b (n : Int) = some (.inr r)) : aG_ b 0 = some r := by
 suffices H : ∀ m i : Nat, i + m = n → aG_ b (i : Int) = some r from H n 0 (by omega)
 intro m
 induction m with
 | zero => intro i hi; rw [show i = n by omega]; exact am_ h2
 | succ m ih => intro i hi; exact az_ (h1 i (by omega)) (ih (i + 1) (by omega))
theorem m3_ (c d : Sl aa_) (h : c.l = d.l) (hl : c.l.length ≤ 100) : b6_ c d = some true := by
 refine fk_ _ _ _ ?_
 unfold b7_
 rw [if_neg (by simp [h]), gL_ (n := c.l.length) (r := .inl ()) (fun i hi => ?_) (if_neg (by simp))]
 ·rfl
 ·have e1 := bN_ (s := c) hi
  have e2 := bN_ (s := d) (show i < d.l.length by rw [← h]; exact hi)
  rw [if_pos (by simpa using hi), e1, Option.bind_some, e2, Option.bind_some, if_neg (by simp [h]), aZ_ (by omega) (by omega)]
theorem lV_ (m : aj_) (hl : m.Captures.l.length ≤ 100) : dq_ m m = some true := by
 refine g5_ _ _ _ ?_
 unfold du_
 rw [if_pos (by simp), if_pos (by simp), m3_ _ _ rfl hl]; rfl
theorem jo_ (a b : Sl aj_) (h : a.l = b.l) (hl : a.l.length ≤ 60) (hc : ∀ m ∈ a.l, m.Captures.l.length ≤ 100) : cX_ a b = some true := by
 refine gF_ _ _ _ ?_
 unfold cN_
 have e : bP_ a b (T.fn 103 [] []) = some true := by
  refine eI_ _ _ _ _ ?_
  unfold bM_
  rw [if_pos (show flat1 (T.fn 103 [] []) = true from rfl), if_neg (by simp [h]), gL_ (n := a.l.length) (r := .inl ()) (fun i hi => ?_) (if_neg (by simp))]
  ·rfl
  ·have e1 := bN_ (s := a) hi
   have e2 := bN_ (s := b) (show i < b.l.length by rw [← h]; exact hi)
   have e3 : b.l[i]'(by rw [← h]; exact hi) = a.l[i] := by simp [h]
   rw [if_pos (by simpa using hi), e1, Option.bind_some, e2, Option.bind_some, e3]
   have e : hH_ Go.Proofs.Try.prog md ext E_bool (T.fn 103 [] []) [.agg (aj_.cells a.l[i]), .agg (aj_.cells a.l[i])] = dq_ a.l[i] a.l[i] := rfl
   rw [e, lV_ _ (hc _ (List.getElem_mem hi)), Option.bind_some, if_neg (by simp), aZ_ (by omega) (by omega)]
 rw [e]; rfl
theorem od_ (s : ByteArray) : bJ_ s true = some ⟨false, [⟨0⟩]⟩ := by
 refine d8_ s true _ ?_
 unfold cc_
 rw [am_ (r := ⟨false, [⟨0⟩]⟩) ?_]
 ·rfl
 ·by_cases h : (1 : Int) ≤ (s.size : Int)
  ·rw [if_pos (by simpa using h)]; rfl
  ·rw [if_neg (by simpa using h)]
theorem j1_ (s : ByteArray) (hs : s.size ≤ 200) : ∀ (m j : Nat), j + m = s.size + 1 → 1 ≤ j → ∀ st : Sl (Iv .i64), st.l.length ≤ j → (∃ t, st.l = ⟨0⟩ :: t ∧ ∀ x ∈ t, 1 ≤ x.v) → ∃ w : Sl (Iv .i64), aG_ (S := (Int × (Sl (Iv .i64)))) (R := (Sl (Iv .i64))) (fun st1 => (if (decide (st1.1 ≤ (s.size : Int))) = true then (if (!false) = true then ((appS 8 st1.2 (⟨false, [⟨st1.1⟩]⟩ : Sl (Iv .i64))).bind fun y2 => (some (.inl ((w4 (st1.1 + 1)), y2)))) else (some (.inr st1.2))) else (some (.inr st1.2)))) ((j : Int), st) = some w ∧ ∃ t, w.l = ⟨0⟩ :: t ∧ ∀ x ∈ t, 1 ≤ x.v := by
 intro m
 induction m with
 | zero => intro j hj _ st h1 h2; exact ⟨st, am_ (if_neg (by simp; omega)), h2⟩
 | succ m ih =>
  intro j hj hj1 st h1 h2
  obtain ⟨z, l⟩ := st
  have h1 : l.length ≤ j := h1
  obtain ⟨t, t1, t2⟩ := h2
  have t1 : l = ⟨0⟩ :: t := t1
  obtain ⟨w, w1, w2⟩ := ih (j + 1) (by omega) (by omega) ⟨false, l ++ [⟨(j : Int)⟩]⟩ (by simp; omega) ⟨t ++ [⟨(j : Int)⟩], by rw [t1]; rfl, fun x hx => by
   rcases List.mem_append.1 hx with h | h
   ·exact t2 x h
   ·rw [List.mem_singleton] at h; subst h; show 1 ≤ (j : Int); omega⟩
  refine ⟨w, az_ ?_ w1, w2⟩
  show (if decide ((j : Int) ≤ (s.size : Int)) = true then ((appS 8 (⟨z, l⟩ : Sl (Iv .i64)) ⟨false, [⟨(j : Int)⟩]⟩).bind _) else _) = _
  rw [if_pos (by simp; omega), bE_ (by omega), Option.bind_some]
  show some (Sum.inl (w4 ((j : Int) + 1), _)) = _
  rw [aZ_ (by omega) (by omega)]; rfl
theorem n9_ (s : ByteArray) (hs : s.size ≤ 200) : ∃ w, bJ_ s false = some w ∧ ∃ t, w.l = ⟨0⟩ :: t ∧ ∀ x ∈ t, 1 ≤ x.v := by
 obtain ⟨w, h1, h2⟩ := j1_ s hs s.size 1 (by omega) (by omega) ⟨false, [⟨0⟩]⟩ (by simp) ⟨[], rfl, fun x hx => by simp at hx⟩
 rw [show ((1 : Nat) : Int) = 1 from rfl] at h1
 refine ⟨w, d8_ s false w ?_, h2⟩
 unfold cc_; rw [h1]; rfl
theorem jk_ {S R : Type} {body : S → Option (S ⊕ R)} {s : S} {r : R} (h : aG_ body s = some r) : body s = some (.inr r) ∨ ∃ s', body s = some (.inl s') ∧ aG_ body s' = some r := by
 obtain ⟨n, hn⟩ := da_.1 h
 cases n with
 | zero => cases hn
 | succ n =>
  simp only [iter] at hn
  cases hb : body s with
  | none => rw [hb] at hn; cases hn
  | some x =>
   rw [hb] at hn
   cases x with
   | inl s' => exact .inr ⟨s', rfl, da_.2 ⟨n, hn⟩⟩
   | inr r' => injection hn with hn; subst hn; exact .inl rfl
section
variable {env : Sl ak_} {s : ByteArray} {p : DPattern}
abbrev St0 (env : Sl ak_) (s : ByteArray) (f : Int) : Int × T11 := (0, env, s, f, 0, 0, 0, false, 0, ⟨true, []⟩, ⟨true, []⟩, ⟨true, []⟩)
abbrev S00 (env : Sl ak_) (s : ByteArray) (f : Int) : ac_ := ⟨env, s, f, 0, 0, ⟨true, []⟩, ⟨true, []⟩, ⟨true, []⟩, 0, false, T.nilm, 0⟩
theorem q8_ {starts : Sl (Iv .i64)} (hs : s.size ≤ 200) (hE : ∀ x ∈ env.l, VP x.Pattern) (hEl : env.l.length ≤ 40) (hv : VP p) (hst : ∀ x ∈ starts.l, 0 ≤ x.v ∧ x.v ≤ s.size) (hl : starts.l.length ≤ 1000) (f : Int) (hf : 0 ≤ f ∧ f ≤ 20000) :
  ∃ x : T11, IMF p starts (St0 env s f) = some x ∧ b8_ env p s starts f = some (x.2.2.2.2.2.2.2.2.2.2, x.2.2.2.2.2.2.2.1) ∧ x.2.2.2.2.2.2.2.2.2.2.l.length ≤ 60 := by
 obtain ⟨F, rfl⟩ : ∃ F : Nat, f = F := ⟨f.toNat, by omega⟩
 obtain ⟨S', r', h1, h2, h3⟩ := nc_ (F := F) hs hE hEl hv hst hl starts.l.length 0 (by omega) F ⟨true, []⟩ ⟨true, []⟩ ⟨true, []⟩ ⟨true, []⟩ ⟨true, []⟩ ⟨true, []⟩ ⟨true, []⟩ 0 ⟨by omega, Nat.le_refl _, rfl, rfl, by decide, rfl, by decide, by simp; omega⟩
 have e0 : (F : Int) - F = 0 := by omega
 rw [e0, show ((0 : Nat) : Int) = 0 from rfl] at h1
 refine ⟨_, h1, gj_ _ _ _ _ _ _ ?_, ?_⟩
 ·unfold cV_
  unfold IMF at h1
  rw [h1]; rfl
 ·show S'.matches_.l.length ≤ 60
  rcases h3 with (w | w | w) | w
  ·rw [w.2.2]; simp
  ·exact w.2.2.2.2.2
  ·exact w.2.2.2.2.2
  ·exact w.2.2.2.2
theorem m1_ {t : List (Iv .i64)} {z : Bool} {f : Int} {x : T11} (h : IMF p ⟨z, ⟨0⟩ :: t⟩ (St0 env s f) = some x) : ∃ b S1, aY_ (S00 env s f) p 0 (fun e S => aw_ S e) = some (b, S1) ∧ ((b = false ∧ D11 x = NS S1) ∨ (b = true ∧ IMF p ⟨z, ⟨0⟩ :: t⟩ (1, S1.env_, S1.subject_, S1.fuel_, S1.steps_, S1.start_, S1.most_, S1.isMere_, S1.code_, S1.now_, S1.conds_, S1.matches_) = some x)) := by
 have key : ∀ o, (aY_ (S00 env s f) p 0 (fun e S => aw_ S e)).bind (fun y3 => if (!y3.1) = true then (some (.inr (y3.2.env_, y3.2.subject_, y3.2.fuel_, y3.2.steps_, y3.2.start_, y3.2.most_, y3.2.isMere_, y3.2.code_, y3.2.now_, y3.2.conds_, y3.2.matches_)) : Option ((Int × T11) ⊕ T11)) else (some (.inl ((w4 (0 + 1)), y3.2.env_, y3.2.subject_, y3.2.fuel_, y3.2.steps_, y3.2.start_, y3.2.most_, y3.2.isMere_, y3.2.code_, y3.2.now_, y3.2.conds_, y3.2.matches_)))) = some o → ∃ b S1, aY_ (S00 env s f) p 0 (fun e S => aw_ S e) = some (b, S1) ∧ ((b = false ∧ o = .inr (S1.env_, S1.subject_, S1.fuel_, S1.steps_, S1.start_, S1.most_, S1.isMere_, S1.code_, S1.now_, S1.conds_, S1.matches_)) ∨ (b = true ∧ o = .inl (1, S1.env_, S1.subject_, S1.fuel_, S1.steps_, S1.start_, S1.most_, S1.isMere_, S1.code_, S1.now_, S1.conds_, S1.matches_))) := fun o ho => by
  obtain ⟨⟨b, S1⟩, h1, h2⟩ := Option.bind_eq_some_iff.1 ho
  refine ⟨b, S1, h1, ?_⟩
  cases b
  ·simp only [Bool.not_false, if_true] at h2; injection h2 with h2; exact .inl ⟨rfl, h2.symm⟩
  ·simp only [Bool.not_true, Bool.false_eq_true, if_false] at h2; injection h2 with h2; exact .inr ⟨rfl, h2.symm⟩
 unfold IMF at h
 have hd : decide ((0 : Int) < ((⟨0⟩ :: t : List (Iv .i64)).length : Int)) = true := by simp <;> omega
 rcases jk_ h with h | ⟨s', h, h'⟩
 ·obtain ⟨b, S1, k1, k2⟩ := key _ ((if_pos hd).symm.trans h)
  refine ⟨b, S1, k1, .inl ?_⟩
  rcases k2 with ⟨rfl, k⟩ | ⟨_, k⟩
  ·injection k with k; subst k; exact ⟨rfl, rfl⟩
  ·cases k
 ·obtain ⟨b, S1, k1, k2⟩ := key _ ((if_pos hd).symm.trans h)
  refine ⟨b, S1, k1, .inr ?_⟩
  rcases k2 with ⟨_, k⟩ | ⟨rfl, k⟩
  ·cases k
  ·injection k with k; subst k; exact ⟨rfl, h'⟩
theorem nF_ {t : List (Iv .i64)} {z : Bool} {f : Int} {x y : T11} (ht : ∀ v ∈ t, 1 ≤ v.v) (hl : t.length ≤ 1000) (hx : IMF p ⟨false, [⟨0⟩]⟩ (St0 env s f) = some x) (hy : IMF p ⟨z, ⟨0⟩ :: t⟩ (St0 env s f) = some y)
  (h1 : x.2.2.2.2.2.2.2.1 = 0) (h2 : y.2.2.2.2.2.2.2.1 = 0) : ∃ e, y.2.2.2.2.2.2.2.2.2.2.l = x.2.2.2.2.2.2.2.2.2.2.l ++ e ∧ (∀ m ∈ x.2.2.2.2.2.2.2.2.2.2.l, m.Start = 0 ∧ m.Captures.l.length ≤ 100) ∧ ∀ m ∈ e, m.Start ≠ 0 := by
 obtain ⟨b, S1, k1, k2⟩ := m1_ hx
 obtain ⟨b', S1', k1', k3⟩ := m1_ hy
 rw [k1] at k1'
 injection k1' with k1'; injection k1' with k4 k5; subst k4 k5
 have up := (u_all bigN).1 (S00 env s f) p 0 _ ⟨rfl, by show (0 : Nat) + 0 ≤ 100; omega⟩ u_found _ k1
 have e1 : D11 x = NS S1 := by
  rcases k2 with ⟨_, k⟩ | ⟨_, k⟩
  ·exact k
  ·unfold IMF at k
   have hd : ¬ (decide ((1 : Int) < (([⟨0⟩] : List (Iv .i64)).length : Int)) = true) := by simp
   have : aG_ _ _ = some _ := k
   have k' := jk_ k
   rcases k' with k' | ⟨s', k', _⟩
   ·have := (if_neg hd).symm.trans k'
    injection this with this; injection this with this; subst this; rfl
   ·have := (if_neg hd).symm.trans k'
    injection this with this; cases this
 have em : x.2.2.2.2.2.2.2.2.2.2 = S1.matches_ := congrArg ac_.matches_ e1
 have ec : x.2.2.2.2.2.2.2.1 = S1.code_ := congrArg ac_.code_ e1
 obtain ⟨w, w1, w2⟩ := up.2.2 (by rw [← ec]; exact h1)
 have w1 : S1.matches_.l = w := w1
 have A : ∀ m ∈ x.2.2.2.2.2.2.2.2.2.2.l, m.Start = 0 ∧ m.Captures.l.length ≤ 100 := fun m hm => w2 m (by rw [← w1, ← em]; exact hm)
 rcases k3 with ⟨_, k⟩ | ⟨hb, k⟩
 ·have em' : y.2.2.2.2.2.2.2.2.2.2 = S1.matches_ := congrArg ac_.matches_ k
  exact ⟨[], by rw [em, em']; simp, A, fun m hm => by simp at hm⟩
 ·let I : ac_ → Prop := fun S => ∃ e, S.matches_.l = S1.matches_.l ++ e ∧ ∀ m ∈ e, m.Start ≠ 0
  have hg := up.2.1 hb
  have := iT_ (P := fun y : T11 => y.2.2.2.2.2.2.2.1 = 0 → I (D11 y)) (fun st : Int × T11 => 1 ≤ st.1 ∧ st.1 ≤ 2000 ∧ Go0 (D11 st.2) ∧ I (D11 st.2)) (s0 := ((1 : Int), S1.env_, S1.subject_, S1.fuel_, S1.steps_, S1.start_, S1.most_, S1.isMere_, S1.code_, S1.now_, S1.conds_, S1.matches_)) ⟨Int.le_refl _, by omega, hg, [], by simp, fun m hm => by simp at hm⟩ (fun st hst => ?_) y k
  ·obtain ⟨e, e2, e3⟩ := this h2
   exact ⟨e, by rw [em]; exact e2, A, e3⟩
  ·obtain ⟨i, st⟩ := st
   obtain ⟨i1, i2, g, e, e2, e3⟩ := hst
   refine bI_ (fun hi => aN_ (Q := fun v : Iv .i64 => 1 ≤ v.v) (fun v hv => ?_) fun v hv => aN_ ((u_all bigN).1 _ _ _ _ g u_found) fun r hr => ?_) fun _ => aA_ fun _ => ⟨e, e2, e3⟩
   ·obtain ⟨j, rfl⟩ : ∃ j : Nat, i = (j + 1 : Nat) := ⟨(i - 1).toNat, by simp only at i1; omega⟩
    have hj : j < t.length := by simp at hi; omega
    have := bN_ (s := (⟨z, ⟨0⟩ :: t⟩ : Sl (Iv .i64))) (i := j + 1) (by simp; omega)
    have hv : elt (⟨z, ⟨0⟩ :: t⟩ : Sl (Iv .i64)) ((j + 1 : Nat) : Int) = some v := hv
    rw [this] at hv
    injection hv with hv
    rw [← hv]
    exact ht _ (by simp)
   ·have I2 : r.2.code_ = 0 → I r.2 := fun hc => by
     obtain ⟨e', f1, f2⟩ := hr.2.2 hc
     refine ⟨e ++ e', by rw [f1]; show st.2.2.2.2.2.2.2.2.2.2.l ++ e' = _; rw [show st.2.2.2.2.2.2.2.2.2.2.l = S1.matches_.l ++ e from e2, List.append_assoc], fun m hm => ?_⟩
     rcases List.mem_append.1 hm with h' | h'
     ·exact e3 m h'
     ·have : m.Start = v.v := (f2 m h').1
      omega
    refine bI_ (fun _ => aA_ fun hc => I2 hc) fun hb => aA_ ?_
    have hb : r.1 = true := by cases h : r.1 <;> simp [h] at hb ⊢
    have g2 := hr.2.1 hb
    have hi : i < ((⟨0⟩ :: t : List (Iv .i64)).length : Int) := by simpa using hi
    have hi2 : i ≤ 1001 := by simp at hi; omega
    refine ⟨?_, ?_, g2, I2 g2.1⟩
    ·show 1 ≤ w4 (i + 1)
     rw [aZ_ (by simp only at i1; omega) (by omega)]; simp only at i1; omega
    ·show w4 (i + 1) ≤ 2000
     rw [aZ_ (by simp only at i1; omega) (by omega)]; omega
end
theorem iq_ {env : Sl ak_} {s : ByteArray} {p : DPattern} (hE : EnvP env) (hv : VPat p) (hs : s.size ≤ 200) {f : Int} (hf : 0 ≤ f ∧ f ≤ 20000) {b : Bool} {w : Sl (Iv .i64)} (hw : bJ_ s b = some w) {r : Sl aj_ × Int} (hr : b8_ env p s w f = some r) : cx_ env p s b f = some r := by
 refine g9_ _ _ _ _ _ _ ?_
 unfold dz_
 have ha : askV env p s f = 0 := by
  unfold askV
  rw [a5_ (show AskP env p s from ⟨hE, hv, by omega⟩), a5_ hf]; rfl
 rw [(sC_ env p s f (rq_ hE) (sm_vp _ hv.1)).2, Option.bind_some, ha, if_neg (by simp), hw, Option.bind_some, hr]; rfl
theorem jd_ (a : Sl (Iv .u8)) (h : ∀ x ∈ a.l, 0 ≤ x.v ∧ x.v ≤ 255) : eQ_ a = some true := by
 refine gY_ _ _ ?_
 unfold c5_
 by_cases hl : 1048576 < (a.l.length : Int)
 ·rw [if_pos (by simpa using hl)]
 rw [if_neg (by simpa using hl)]
 have hb : Bys a := ⟨h, by omega⟩
 obtain ⟨env, e1, hE, _⟩ := qG_ a hb
 obtain ⟨b1, e2, hb1⟩ := ox_ 1 a h (by omega)
 obtain ⟨p, e3, hp⟩ := lx_ b1 hb1
 obtain ⟨b2, e4, hb2⟩ := ox_ 2 a h (by omega)
 obtain ⟨s, e5, hs⟩ := lA_ b2 hb2
 have hv : ∀ x ∈ env.l, VP x.Pattern := fun x hx => (hE.2.1 x hx).2.1
 obtain ⟨w, s1, t, t1, t2⟩ := n9_ s (by omega)
 obtain ⟨w', _, s2, s3, s4⟩ := nK_ s false (by omega)
 rw [s1] at s2
 injection s2 with s2; subst s2
 obtain ⟨z, l⟩ := w
 have t1 : l = ⟨0⟩ :: t := t1
 subst t1
 obtain ⟨x, x1, x2, x3⟩ := q8_ (env := env) (s := s) (p := p) (starts := ⟨false, [⟨0⟩]⟩) (by omega) hv hE.1 hp.1 (fun v hv => by simp at hv; rw [hv]; simp) (by simp) 2000 (by omega)
 obtain ⟨y, y1, y2, y3⟩ := q8_ (env := env) (s := s) (p := p) (starts := ⟨z, ⟨0⟩ :: t⟩) (by omega) hv hE.1 hp.1 s4 s3 2000 (by omega)
 rw [e1, Option.bind_some, e2, Option.bind_some, e3, Option.bind_some, e4, Option.bind_some, e5, Option.bind_some, iq_ hE hp (by omega) (by omega) (od_ s) x2, Option.bind_some, iq_ hE hp (by omega) (by omega) s1 y2, Option.bind_some]
 by_cases h1 : x.2.2.2.2.2.2.2.1 = 0
 ·by_cases h2 : y.2.2.2.2.2.2.2.1 = 0
  ·rw [if_neg (by simp [h1]), if_neg (by simp [h2])]
   obtain ⟨e, f1, f2, f3⟩ := nF_ t2 (by have : (⟨0⟩ :: t : List (Iv .i64)).length ≤ 1000 := s3; simp at this; omega) x1 y1 h1 h2
   generalize x.2.2.2.2.2.2.2.2.2.2 = A at *
   generalize y.2.2.2.2.2.2.2.2.2.2 = B at *
   simp only
   have hlen : A.l.length ≤ B.l.length := by rw [f1]; simp
   rw [gL_ (n := B.l.length) (r := .inl ()) (fun i hi => ?_) (if_neg (by simp))]
   ·simp only [Option.bind_some, Sum.elim_inl]
    rw [if_pos (by simpa using hlen)]
    have e' : subS B 0 (A.l.length : Int) = some ⟨B.z, A.l⟩ := by
     unfold subS
     rw [if_pos (by omega)]
     congr 2
     rw [f1]; simp
    rw [e', Option.bind_some, jo_ A ⟨B.z, A.l⟩ rfl x3 (fun m hm => (f2 m hm).2)]; rfl
   ·have g := bN_ (s := B) hi
    rw [if_pos (by simpa using hi), g, Option.bind_some, if_neg ?_, aZ_ (by omega) (by omega)]
    by_cases hia : i < A.l.length
    ·have q : B.l[i].Start = 0 := by
      have : B.l[i] = A.l[i] := by simp [f1, List.getElem_append_left hia]
      rw [this]; exact (f2 _ (List.getElem_mem hia)).1
     have d1 : decide (B.l[i].Start = 0) = true := by simp [q]
     have d2 : decide ((i : Int) < (A.l.length : Int)) = true := by simp; omega
     rw [d1, d2]; simp
    ·have q : B.l[i].Start ≠ 0 := by
      have hlen2 : B.l.length = A.l.length + e.length := by rw [f1]; simp
      have hj : i - A.l.length < e.length := by omega
      have : B.l[i] = e[i - A.l.length] := by simp [f1, List.getElem_append_right (Nat.le_of_not_lt hia)]
      rw [this]; exact f3 _ (List.getElem_mem _)
     have d1 : decide (B.l[i].Start = 0) = false := by simp [q]
     have d2 : decide ((i : Int) < (A.l.length : Int)) = false := by simp; omega
     rw [d1, d2]; simp
  ·rw [if_neg (by simp [h1]), if_pos (by simp [h2])]
 ·rw [if_pos (by simp [h1])]
theorem oa_ {P : Program} {t : TypeId} {d : Nat} {ts : List T} {k : IntKind} (hu : P.underlying t = some (.int k)) (kt : aF_ P t = 10) (h : Shp P d t ts) : ∃ n : Int, ts = [.int k n] ∧ (Lit.int k n).wf = true := by
 cases d with
 | zero => exact h.elim
 | succ d =>
  rcases h with h | h | h | h | h
  ·rw [kt] at h; exact absurd h.1 (by decide)
  ·obtain ⟨_, k', n, h1, h2, h3⟩ := h
   rw [hu] at h1
   injection h1 with h1; injection h1 with h1; subst h1
   exact ⟨n, h2, h3⟩
  ·rw [kt] at h; exact absurd h.1 (by decide)
  ·rw [kt] at h; exact absurd h.1 (by decide)
  ·rw [kt] at h; exact absurd h.1 (by decide)
theorem mv_ {d : Nat} {ts : List T} (h : Shp Go.Proofs.Try.prog d 43 ts) : ∃ x : Sl (Iv .u8), ts = [Sl.t x] ∧ FitS maxLen (fun y : Iv .u8 => 0 ≤ y.v ∧ y.v ≤ 255) x :=
 qp_ (e := 5) (kt := by kernel_rfl) (he := by kernel_rfl) (fun d ts h => by
  obtain ⟨n, rfl, h2⟩ := oa_ (k := .u8) (by kernel_rfl) (by kernel_rfl) h
  exact ⟨⟨n⟩, rfl, by have h2 := h2; simp only [Lit.wf, Bool.and_eq_true, decide_eq_true_eq] at h2; exact h2⟩) h
theorem law_FnAnchored {fu0 : Nat} {t0 : T} (h0 : Shp Go.Proofs.Try.prog fu0 43 [t0]) : ∃ σ', run Go.Proofs.Try.prog md ext 13 [t0] St.empty = some (.bool true, σ') := by
 obtain ⟨a, e0, ha⟩ := mv_ h0
 injection e0 with e0; subst e0
 exact ⟨_, gC_ (jd_ a ha.2) St.empty⟩
end Go.Am
end
