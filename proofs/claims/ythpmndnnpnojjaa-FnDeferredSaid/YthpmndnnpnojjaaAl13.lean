/- The law. -/
import Derived.Test.YthpmndnnpnojjaaAl8
import Derived.Test.YthpmndnnpnojjaaAl10
import Derived.Test.YthpmndnnpnojjaaAl12
import Derived.Test.YthpmndnnpnojjaaAg3
import Derived.Test.YthpmndnnpnojjaaAg2
import Derived.Test.YthpmndnnpnojjaaAg0
section
set_option maxRecDepth 100000
set_option maxHeartbeats 4000000
set_option linter.unusedVariables false
set_option linter.unusedSimpArgs false
namespace Go.Am
theorem pZ_ {α β : Type} (f : α → β) {a : Sl α} {z0 : Bool} {body : Int × Sl β → Option ((Int × Sl β) ⊕ Sl β)} (hn : a.l.length < 9223372036854775807)
  (h1 : ∀ (i : Nat) x (s : Sl β), x ∈ a.l → i < a.l.length → s.l.length = i → elt a (i : Int) = some x → body (i, s) = some (.inl ((i : Int) + 1, ⟨false, s.l ++ [f x]⟩)))
  (h2 : ∀ s, body ((a.l.length : Int), s) = some (.inr s)) : aA_ body (0, ⟨z0, []⟩) = some ⟨z0 && a.l.isEmpty, a.l.map f⟩ := by
 suffices H : ∀ (k i : Nat), i + k = a.l.length → ∀ s : Sl β, s.l = (a.l.take i).map f → s.z = (z0 && (a.l.take i).isEmpty) → aA_ body ((i : Int), s) = some ⟨z0 && a.l.isEmpty, a.l.map f⟩ by
  exact H a.l.length 0 (by simp) ⟨z0, []⟩ rfl (by simp)
 intro k
 induction k with
 | zero =>
  intro i hi s hs hz
  have : i = a.l.length := by omega
  subst this
  refine al_ ((h2 s).trans ?_)
  obtain ⟨z, l⟩ := s
  simp only [List.take_length] at hs hz
  rw [hs, hz]
 | succ k ih =>
  intro i hi s hs hz
  have hlt : i < a.l.length := by omega
  have ec : ((i + 1 : Nat) : Int) = (i : Int) + 1 := by simp
  have e := h1 i a.l[i] s (List.getElem_mem hlt) hlt (by rw [hs]; simp; omega) (bp_ hlt)
  have w := ih (i + 1) (by omega) ⟨false, s.l ++ [f a.l[i]]⟩ (by rw [List.take_succ_eq_append_getElem hlt, List.map_append, hs]; rfl) (by rw [List.take_succ_eq_append_getElem hlt]; simp; intro _ hh; rw [hh] at hlt; simp at hlt)
  rw [ec] at w
  exact ay_ e w
theorem copy2 : ∀ p, SmPt p → bG_ p = some (cpPt p) := by
 refine gd_ fun p ih hs => ?_
 have hkl : p.Kids.l.length ≤ 1048576 := by cases hs with | mk h1 h2 h3 => exact h2
 refine fN_ p _ ?_
 unfold ch_
 rw [pZ_ cpPt (a := p.Kids) (z0 := false) (by omega) (fun i x s hx hi hl he => ?_) (fun s => by rw [if_neg (by simp)])]
 ·rw [hN_]; rfl
 ·show (if decide ((i : Int) < (p.Kids.l.length : Int)) = true then _ else _) = _
  rw [if_pos (by simpa using hi), he, Option.bind_some, ih x hx (hs.kid hx), Option.bind_some]
  obtain ⟨z, l⟩ := s
  rw [bK_ (by simp at hl; omega), Option.bind_some, aQ_ (by omega) (by omega)]
theorem fZ_ {R : Type} {b : Int → Option (Int ⊕ R)} {n : Nat} {r : R} (h1 : ∀ i : Nat, i < n → b (i : Int) = some (.inl ((i : Int) + 1))) (h2 : b (n : Int) = some (.inr r)) : aA_ b 0 = some r := by
 suffices H : ∀ m i : Nat, i + m = n → aA_ b (i : Int) = some r from H n 0 (by omega)
 intro m
 induction m with
 | zero => intro i hi; rw [show i = n by omega]; exact al_ h2
 | succ m ih => intro i hi; exact ay_ (h1 i (by omega)) (ih (i + 1) (by omega))
theorem mY_ (c d : Sl DCapture) (h : c.l = d.l) (hl : c.l.length ≤ 100) : cc_ c d = some true := by
 refine fq_ _ _ _ ?_
 unfold cb_
 rw [if_neg (by simp [h]), fZ_ (n := c.l.length) (r := .inl ()) (fun i hi => ?_) (if_neg (by simp))]
 ·rfl
 ·have e1 := bp_ (s := c) hi
  have e2 := bp_ (s := d) (show i < d.l.length by rw [← h]; exact hi)
  rw [if_pos (by simpa using hi), e1, Option.bind_some, e2, Option.bind_some, if_neg (by simp [h]), aQ_ (by omega) (by omega)]
theorem l5_ (m : DMatch) (hl : m.Captures.l.length ≤ 100) : dB_ m m = some true := by
 refine hr_ _ _ _ ?_
 unfold dF_
 rw [if_pos (by simp), if_pos (by simp), mY_ _ _ rfl hl]; rfl
theorem kr_ (a b : Sl DMatch) (h : a.l = b.l) (hl : a.l.length ≤ 60) (hc : ∀ m ∈ a.l, m.Captures.l.length ≤ 100) : cU_ a b = some true := by
 refine gF_ _ _ _ ?_
 unfold cY_
 have e : bQ_ a b (T.fn 103 [] []) = some true := by
  refine eW_ _ _ _ _ ?_
  unfold bR_
  rw [if_pos (show flat1 (T.fn 103 [] []) = true from rfl), if_neg (by simp [h]), fZ_ (n := a.l.length) (r := .inl ()) (fun i hi => ?_) (if_neg (by simp))]
  ·rfl
  ·have e1 := bp_ (s := a) hi
   have e2 := bp_ (s := b) (show i < b.l.length by rw [← h]; exact hi)
   have e3 : b.l[i]'(by rw [← h]; exact hi) = a.l[i] := by simp [h]
   rw [if_pos (by simpa using hi), e1, Option.bind_some, e2, Option.bind_some, e3]
   have e : ha_ Go.Proofs.Try.prog md ext E_bool (T.fn 103 [] []) [.agg (DMatch.cells a.l[i]), .agg (DMatch.cells a.l[i])] = dB_ a.l[i] a.l[i] := rfl
   rw [e, l5_ _ (hc _ (List.getElem_mem hi)), Option.bind_some, if_neg (by simp), aQ_ (by omega) (by omega)]
 rw [e]; rfl
section
variable {env : Sl DNamed} {s : ByteArray} {p : DPattern}
abbrev St0 (env : Sl DNamed) (s : ByteArray) (f : Int) : Int × T11 := (0, env, s, f, 0, 0, 0, false, 0, ⟨true, []⟩, ⟨true, []⟩, ⟨true, []⟩)
abbrev S00 (env : Sl DNamed) (s : ByteArray) (f : Int) : aa_ := ⟨env, s, f, 0, 0, ⟨true, []⟩, ⟨true, []⟩, ⟨true, []⟩, 0, false, T.nilm, 0⟩
theorem sh_ {starts : Sl (Iv .i64)} (hs : s.size ≤ 200) (hE : ∀ x ∈ env.l, VP x.Pattern) (hEl : env.l.length ≤ 40) (hv : VP p) (hst : ∀ x ∈ starts.l, 0 ≤ x.v ∧ x.v ≤ s.size) (hl : starts.l.length ≤ 1000) (f : Int) (hf : 0 ≤ f ∧ f ≤ 20000) :
  ∃ x : T11, IMF p starts (St0 env s f) = some x ∧ ce_ env p s starts f = some (x.2.2.2.2.2.2.2.2.2.2, x.2.2.2.2.2.2.2.1) ∧ x.2.2.2.2.2.2.2.2.2.2.l.length ≤ 60 := by
 obtain ⟨F, rfl⟩ : ∃ F : Nat, f = F := ⟨f.toNat, by omega⟩
 obtain ⟨S', r', h1, h2, h3⟩ := mv_ (F := F) hs hE hEl hv hst hl starts.l.length 0 (by omega) F ⟨true, []⟩ ⟨true, []⟩ ⟨true, []⟩ ⟨true, []⟩ ⟨true, []⟩ ⟨true, []⟩ ⟨true, []⟩ 0 ⟨by omega, Nat.le_refl _, rfl, rfl, by decide, rfl, by decide, by simp; omega⟩
 have e0 : (F : Int) - F = 0 := by omega
 rw [e0, show ((0 : Nat) : Int) = 0 from rfl] at h1
 refine ⟨_, h1, gt_ _ _ _ _ _ _ ?_, ?_⟩
 ·unfold c7_
  unfold IMF at h1
  rw [h1]; rfl
 ·show S'.matches_.l.length ≤ 60
  rcases h3 with (w | w | w) | w
  ·rw [w.2.2]; simp
  ·exact w.2.2.2.2.2
  ·exact w.2.2.2.2.2
  ·exact w.2.2.2.2
end
theorem iL_ {env : Sl DNamed} {s : ByteArray} {p : DPattern} (hE : EnvP env) (hv : VPat p) (hs : s.size ≤ 200) {f : Int} (hf : 0 ≤ f ∧ f ≤ 20000) {b : Bool} {w : Sl (Iv .i64)} (hw : cS_ s b = some w) {r : Sl DMatch × Int} (hr : ce_ env p s w f = some r) : cz_ env p s b f = some r := by
 refine hn_ _ _ _ _ _ _ ?_
 unfold dD_
 have ha : askV env p s f = 0 := by
  unfold askV
  rw [a3_ (show AskP env p s from ⟨hE, hv, by omega⟩), a3_ hf]; rfl
 rw [(tg_ env p s f (oU_ hE) (sm_vp _ hv.1)).2, Option.bind_some, ha, if_neg (by simp), hw, Option.bind_some, hr]; rfl
theorem op_ {P : Program} {t : TypeId} {d : Nat} {ts : List T} {k : IntKind} (hu : P.underlying t = some (.int k)) (kt : aE_ P t = 10) (h : Shp P d t ts) : ∃ n : Int, ts = [.int k n] ∧ (Lit.int k n).wf = true := by
 cases d with
 | zero => exact h.elim
 | succ d =>
  rcases h with h | h | h | h | h
  ·rw [kt] at h; exact absurd h.1 (by decide)
  ·obtain ⟨_, k', n, h1, h2, h3⟩ := h
   rw [hu] at h1
   injection h1 with h1; injection h1 with h1; subst h1
   exact ⟨n, h2, h3⟩
  ·rw [kt] at h; exact absurd h.1 (by decide)
  ·rw [kt] at h; exact absurd h.1 (by decide)
  ·rw [kt] at h; exact absurd h.1 (by decide)
theorem nl_ {d : Nat} {ts : List T} (h : Shp Go.Proofs.Try.prog d 43 ts) : ∃ x : Sl (Iv .u8), ts = [Sl.t x] ∧ FitS maxLen (fun y : Iv .u8 => 0 ≤ y.v ∧ y.v ≤ 255) x :=
 ra_ (e := 5) (kt := by kernel_rfl) (he := by kernel_rfl) (fun d ts h => by
  obtain ⟨n, rfl, h2⟩ := op_ (k := .u8) (by kernel_rfl) (by kernel_rfl) h
  exact ⟨⟨n⟩, rfl, by have h2 := h2; simp only [Lit.wf, Bool.and_eq_true, decide_eq_true_eq] at h2; exact h2⟩) h
theorem same_pt : ∀ p, SmPt p → ∀ q, EqPt p q → cf_ p q = some true := by
 refine gd_ fun p ih hs q hq => ?_
 have hkl : p.Kids.l.length ≤ 1048576 := by cases hs with | mk h1 h2 h3 => exact h2
 cases hq with
 | mk g1 g2 g3 g4 g5 =>
  refine gy_ _ _ _ ?_
  unfold cO_
  rw [if_pos (by simpa using g1), if_pos (by simpa using g2), if_pos (by simpa using g3)]
  have e : bE_ p.Kids q.Kids (T.fn 36 [] []) = some true := by
   refine en_ _ _ _ _ ?_
   unfold bF_
   rw [if_pos (show flat1 (T.fn 36 [] []) = true from rfl), if_neg (by simp [g4]), fZ_ (n := p.Kids.l.length) (r := .inl ()) (fun i hi => ?_) (if_neg (by simp))]
   ·rfl
   ·have hi' : i < q.Kids.l.length := by omega
    have e1 := bp_ (s := p.Kids) hi
    have e2 := bp_ (s := q.Kids) hi'
    rw [if_pos (by simpa using hi), e1, Option.bind_some, e2, Option.bind_some]
    have e : ha_ Go.Proofs.Try.prog md ext E_bool (T.fn 36 [] []) [.agg [i4 p.Kids.l[i].Kind, i4 p.Kids.l[i].Num, .str p.Kids.l[i].Text, p.Kids.l[i].Kids.t], .agg [i4 q.Kids.l[i].Kind, i4 q.Kids.l[i].Num, .str q.Kids.l[i].Text, q.Kids.l[i].Kids.t]] = cf_ p.Kids.l[i] q.Kids.l[i] := rfl
    rw [e, ih _ (List.getElem_mem hi) (hs.kid (List.getElem_mem hi)) _ (g5 i _ _ (List.getElem?_eq_getElem hi) (List.getElem?_eq_getElem hi')), Option.bind_some, if_neg (by simp), aQ_ (by omega) (by omega)]
  rw [e]; rfl
theorem eq_cp : ∀ p, EqPt (cpPt p) p := by
 refine gd_ fun p ih => ?_
 rw [hN_]
 refine .mk rfl rfl rfl (by simp) fun i x y hx hy => ?_
 have hx : (p.Kids.l.map cpPt)[i]? = some x := hx
 rw [List.getElem?_map, hy] at hx
 injection hx with hx
 rw [← hx]; exact ih y (List.mem_of_getElem? hy)
theorem vp_cp : ∀ p, VP p → VP (cpPt p) := by
 refine gd_ fun p ih hv => ?_
 rw [hN_]
 have n := hv.node
 refine .mk ⟨n.1, by show ((p.Kids.l.map cpPt).length : Int) = _; rw [List.length_map]; exact n.2.1, n.2.2⟩ fun q hq => ?_
 have hq : q ∈ p.Kids.l.map cpPt := hq
 obtain ⟨x, hx, rfl⟩ := List.mem_map.1 hq
 exact ih x hx (hv.kid hx)
theorem nc_ {p q : DPattern} (h : EqPt p q) (j : Int) : (elt p.Kids j = none ∧ elt q.Kids j = none) ∨ ∃ x y, elt p.Kids j = some x ∧ elt q.Kids j = some y ∧ EqPt x y := by
 cases h with
 | mk g1 g2 g3 g4 g5 =>
  by_cases hj : 0 ≤ j
  ·obtain ⟨i, rfl⟩ : ∃ i : Nat, j = i := ⟨j.toNat, by omega⟩
   by_cases hi : i < p.Kids.l.length
   ·have hi' : i < q.Kids.l.length := by omega
    exact .inr ⟨_, _, bp_ hi, bp_ hi', g5 i _ _ (List.getElem?_eq_getElem hi) (List.getElem?_eq_getElem hi')⟩
   ·exact .inl ⟨by unfold elt; simp; omega, by unfold elt; simp; omega⟩
  ·exact .inl ⟨by unfold elt; simp; omega, by unfold elt; simp; omega⟩
def ER (R : MTy) : Prop := ∀ S p q c Φ, EqPt p q → R S p c Φ = R S q c Φ
theorem pi_ {R1 R2 : MTy} (h2 : ER R2) : ER (ac_ R1 R2) := fun S p q c Φ h => by
 have h2 := fun S c Φ => h2 S p q c Φ h
 obtain ⟨K, n, t, ⟨z, l⟩⟩ := p
 obtain ⟨K', n', t', ⟨z', l'⟩⟩ := q
 cases h with
 | mk g1 g2 g3 g4 g5 =>
  simp only at g1 g2 g3 g4
  subst g1 g2 g3
  unfold ac_
  simp only [g4, h2]
theorem qL_ {R1 R2 : MTy} (h1 : ER R1) : ER (ak_ R1 R2) := fun S p q c Φ h => by
 have k1 : ap_ R1 R2 p = ap_ R1 R2 q := by
  funext Φ e S
  unfold ap_
  rcases nc_ h 1 with ⟨a, b⟩ | ⟨x, y, a, b, hx⟩
  ·rw [a, b]
  ·simp only [a, b, Option.bind_some, h1 _ x y _ _ hx]
 obtain ⟨K, n, t, kd⟩ := p
 obtain ⟨K', n', t', kd'⟩ := q
 have hh := h
 cases h with
 | mk g1 g2 g3 g4 g5 =>
  simp only at g1 g2 g3
  subst g1 g2 g3
  have k2 : ao_ R1 R2 c ⟨K, n, t, kd⟩ = ao_ R1 R2 c ⟨K, n, t, kd'⟩ := by
   funext Φ e S
   unfold ao_
   simp only [h1 _ _ _ _ _ hh]
  have k3 : ai_ R1 R2 ⟨K, n, t, kd⟩ = ai_ R1 R2 ⟨K, n, t, kd'⟩ := by
   funext c Φ e S
   unfold ai_
   rfl
  unfold ak_
  rw [k1, k2, k3]
  rcases nc_ hh 0 with ⟨a, b⟩ | ⟨x, y, a, b, hx⟩
  ·rw [show elt kd 0 = none from a, show elt kd' 0 = none from b]; rfl
  ·rcases nc_ hh 1 with ⟨a1, b1⟩ | ⟨x1, y1, a1, b1, hx1⟩
   ·simp only [show elt kd 0 = some x from a, show elt kd' 0 = some y from b, show elt kd 1 = none from a1, show elt kd' 1 = none from b1, Option.bind_some, h1 _ x y _ _ hx]
   ·simp only [show elt kd 0 = some x from a, show elt kd' 0 = some y from b, show elt kd 1 = some x1 from a1, show elt kd' 1 = some y1 from b1, Option.bind_some, h1 _ x y _ _ hx, h1 _ x1 y1 _ _ hx1]
theorem e_all : ∀ n, ER (BG_impl_search_match n).1 ∧ ER (BG_impl_search_match n).2
 | 0 => ⟨fun _ _ _ _ _ _ => rfl, fun _ _ _ _ _ _ => rfl⟩
 | n + 1 => ⟨pi_ (e_all n).2, qL_ (e_all n).1⟩
abbrev dfr (N : ByteArray) : DPattern := ⟨24, 0, N, ⟨true, []⟩⟩
theorem oE_ {env : Sl DNamed} {s N : ByteArray} {st mo co f t c : Int} {nw cd : Sl DCapture} {mt : Sl DMatch} {me : Bool} {Φ : PhiT} (n : Nat) (h1 : 0 ≤ t ∧ t < f ∧ f ≤ 20000) {i : Nat} (hi : i < env.l.length)
  (hl : aA_ (S := Int) (R := (Unit ⊕ Int)) (fun st1 => (if (decide (st1 < (env.l.length : Int))) = true then ((elt env st1).bind fun y3 => (if (decide (y3.Name = N)) = true then (some (.inr (.inr st1))) else (some (.inl (w4 (st1 + 1)))))) else (some (.inr (.inl ()))))) 0 = some (.inr (i : Int))) :
  (BG_impl_search_match (n + 1)).1 ⟨env, s, f, t, st, nw, cd, mt, mo, me, T.nilm, co⟩ (dfr N) c Φ = ((BG_impl_search_match n).1 ⟨env, s, f, t + 1, st, nw, cd, mt, mo, me, T.nilm, co⟩ env.l[i].Pattern c Φ).bind fun y => some (y.1, NS y.2) := by
 have w1 : w4 (t + 1) = t + 1 := aQ_ (by omega) (by omega)
 have d1 : decide (t = f) = false := by simp; omega
 have d2 : decide ((i : Int) < 0) = false := by simp <;> omega
 show ac_ _ _ _ _ _ _ = _
 unfold ac_
 simp only [d1, d2, w1, hl, bp_ hi, Sum.elim_inr, Int.reduceEq, decide_true, decide_false, Bool.false_eq_true, Bool.not_true, Bool.not_false, if_true, if_false, Option.bind_some]
theorem n0_ {α β γ : Type} {o : Option α} {o' : Option β} {g : β → γ} {Q : α → β → Prop} {P : α → γ → Prop} (h : Gt o o' Q) (k : ∀ y y', Q y y' → P y (g y')) : Gt o (o'.bind fun y => some (g y)) P := fun r r' hr hr' => by
 obtain ⟨y, h1, h2⟩ := Option.bind_eq_some_iff.1 hr'
 injection h2 with h2
 rw [← h2]; exact k r y (h r y hr h1)
theorem rE_ {α β : Type} {o : Option α} {o' : Option β} {Q : α → β → Prop} {U : β → Prop} (h : Gt o o' Q) (k : Gv o' U) : Gt o o' (fun a b => Q a b ∧ U b) := fun r r' hr hr' => ⟨h r r' hr hr', k r' hr'⟩
theorem mk_ {env : Sl DNamed} {s N : ByteArray} {st mo co f t f' t' c k : Int} {nw cd : Sl DCapture} {mt : Sl DMatch} {me : Bool} (h1 : 0 ≤ t ∧ t ≤ f ∧ f ≤ 20000) (h2 : 0 ≤ t' ∧ t' ≤ f' ∧ f' ≤ 20000) (h3 : 1 ≤ k ∧ f - t + k ≤ f' - t') (h4 : nw.l.length + cd.l.length ≤ 100) (h5 : ∀ m ∈ mt.l, m.Captures.l.length ≤ 100) {i : Nat} (hi : i < env.l.length)
  (hl : aA_ (S := Int) (R := (Unit ⊕ Int)) (fun st1 => (if (decide (st1 < (env.l.length : Int))) = true then ((elt env st1).bind fun y3 => (if (decide (y3.Name = N)) = true then (some (.inr (.inr st1))) else (some (.inl (w4 (st1 + 1)))))) else (some (.inr (.inl ()))))) 0 = some (.inr (i : Int))) :
  Gt (aW_ ⟨env, s, f, t, st, nw, cd, mt, mo, me, T.nilm, co⟩ (cpPt env.l[i].Pattern) c (fun e S => an_ S e)) (aW_ ⟨env, s, f', t', st, nw, cd, mt, mo, me, T.nilm, co⟩ (dfr N) c (fun e S => an_ S e)) (PB (k - 1)) := by
 have e1 : aW_ ⟨env, s, f, t, st, nw, cd, mt, mo, me, T.nilm, co⟩ (cpPt env.l[i].Pattern) c (fun e S => an_ S e) = (BG_impl_search_match bigN).1 ⟨env, s, f, t, st, nw, cd, mt, mo, me, T.nilm, co⟩ env.l[i].Pattern c (fun e S => an_ S e) := (e_all bigN).1 _ _ _ _ _ (eq_cp _)
 have e2 : aW_ ⟨env, s, f', t', st, nw, cd, mt, mo, me, T.nilm, co⟩ (dfr N) c (fun e S => an_ S e) = _ := oE_ (Φ := fun e S => an_ S e) 99999999999 (by omega) hi hl
 rw [e1, e2]
 exact n0_ ((ot_ (k - 1) bigN 99999999999).1 _ _ _ _ _ _ (.mk h1 (by omega) (by omega) h4 h5) (pn_ _)) fun y y' h => h
theorem lock {env : Sl DNamed} {s N : ByteArray} {w : Sl (Iv .i64)} (hw : w.l.length ≤ 90) {i : Nat} (hi : i < env.l.length)
  (hl : aA_ (S := Int) (R := (Unit ⊕ Int)) (fun st1 => (if (decide (st1 < (env.l.length : Int))) = true then ((elt env st1).bind fun y3 => (if (decide (y3.Name = N)) = true then (some (.inr (.inr st1))) else (some (.inl (w4 (st1 + 1)))))) else (some (.inr (.inl ()))))) 0 = some (.inr (i : Int))) :
  Gt (IMF (cpPt env.l[i].Pattern) w (St0 env s 1000)) (IMF (dfr N) w (St0 env s 1100)) (fun x y => x.2.2.2.2.2.2.2.1 = 7 ∨ (x.2.2.2.2.2.2.2.1 = y.2.2.2.2.2.2.2.1 ∧ x.2.2.2.2.2.2.2.2.2.2 = y.2.2.2.2.2.2.2.2.2.2 ∧ ∀ m ∈ x.2.2.2.2.2.2.2.2.2.2.l, m.Captures.l.length ≤ 100)) := by
 unfold IMF
 refine jB_ (fun (s t : Int × T11) => ∃ (j : Nat) (A A' : aa_), RelD (100 - (j : Int)) A A' ∧ Go0 A' ∧ A'.env_ = env ∧ s = ((j : Int), ge_ A) ∧ t = ((j : Int), ge_ A')) ⟨0, S00 env s 1000, S00 env s 1100, .mk (by omega) (by omega) (by omega) (by simp) (fun m hm => by simp at hm), ⟨rfl, by show (0 : Nat) + 0 ≤ 100; omega⟩, rfl, rfl, rfl⟩ fun x y hx => ?_
 obtain ⟨j, A, A', hA, g, he, rfl, rfl⟩ := hx
 cases hA with
 | @mk env' s st mo co f t f' t' nw cd mt me h1 h2 h3 h4 h5 =>
  have he : env' = env := he
  subst he
  refine bS_ (fun hj => gc_ fun v => ?_) fun _ => aT_ (.inr (.inr ⟨_, _, rfl, rfl, .inr ⟨rfl, rfl, h5⟩⟩))
  have hj : (j : Int) < (w.l.length : Int) := by simpa using hj
  refine a6_ (rE_ (mk_ (st := v.v) (c := v.v) (k := 100 - (j : Int)) h1 h2 (by omega) h4 h5 hi hl) ((u_all bigN).1 _ _ _ _ ⟨g.1, g.2⟩ u_found)) fun r r' h => ?_
  obtain ⟨h, up⟩ := h
  obtain ⟨b, U⟩ := r
  obtain ⟨b', U'⟩ := r'
  rcases h with ⟨d1, d2⟩ | ⟨e1, e2, e3, e4, e5⟩
  ·have d1 : b = false := d1
   subst d1
   exact iK_ rfl (fR_ fun _ => .inl ⟨_, rfl, fun _ => .inl d2⟩)
  ·have e1 : b = b' := e1
   subst e1
   cases b with
   | false => exact bS_ (fun _ => aT_ (.inr (.inr ⟨_, _, rfl, rfl, .inr ⟨e2, e3, e4⟩⟩))) fun w => absurd rfl w
   | true =>
    have e5 := e5 rfl
    have w1 : w4 ((j : Int) + 1) = ((j + 1 : Nat) : Int) := by rw [aQ_ (by omega) (by omega)]; simp
    rw [show (100 - (j : Int) - 1) = 100 - ((j + 1 : Nat) : Int) by omega] at e5
    refine bS_ (fun w => by cases w) fun _ => aT_ (.inr (.inl ⟨_, _, rfl, rfl, j + 1, NS U, NS U', e5, up.2.1 rfl, up.1.2, ?_, ?_⟩))
    ·show (w4 ((j : Int) + 1), _) = _
     rw [w1]
    ·show (w4 ((j : Int) + 1), _) = _
     rw [w1]
theorem pz_ (k : Int) (t : ByteArray) (l : Sl DPattern) : eY_ k t l = some ⟨k, 0, t, l⟩ := jo_ _ _ _ _ rfl
theorem mg_ (s : ByteArray) (b : Bool) (hs : s.size ≤ 15) : ∃ w, cS_ s b = some w ∧ w.l.length ≤ 16 ∧ ∀ x ∈ w.l, 0 ≤ x.v ∧ x.v ≤ s.size := by
 obtain ⟨w, h1, h2, h3⟩ := kD_ s b (by omega) s.size 1 (by omega) ⟨false, [⟨0⟩]⟩ (by simp) (fun x hx => by rw [List.mem_singleton] at hx; subst hx; exact ⟨by simp, by simp⟩)
 rw [show ((1 : Nat) : Int) = 1 from rfl] at h1
 refine ⟨w, hJ_ s b w ?_, by omega, h3⟩
 unfold ej_; rw [h1]; rfl
theorem i9_ (a : Sl (Iv .u8)) (h : ∀ x ∈ a.l, 0 ≤ x.v ∧ x.v ≤ 255) : eK_ a = some true := by
 refine g8_ _ _ ?_
 unfold dl_
 by_cases hl : 1048576 < (a.l.length : Int)
 ·rw [if_pos (by simpa using hl)]
 rw [if_neg (by simpa using hl)]
 have hb : Bys a := ⟨h, by omega⟩
 obtain ⟨env, e1, hE, hE5⟩ := q7_ a hb
 obtain ⟨b1, e2, hb1⟩ := rs_ 1 a h (by omega)
 obtain ⟨s, e3, hs⟩ := l2_ b1 hb1
 obtain ⟨q, e4, _⟩ := tj_ a 2 2 hb (by omega) (by omega)
 have hv : ∀ x ∈ env.l, VP x.Pattern := fun x hx => (hE.2.1 x hx).2.1
 rw [e1, Option.bind_some, e2, Option.bind_some, e3, Option.bind_some, e4, Option.bind_some, fZ_ (n := env.l.length) (r := .inl ()) (fun j hj => ?_) (if_neg (by simp))]
 ·rfl
 have g := bp_ (s := env) hj
 obtain ⟨w, s1, s2, s3⟩ := mg_ s (decide (q = 0)) hs
 have hx := hE.2.1 _ (List.getElem_mem hj)
 have idx : ∀ i, (hi : i < env.l.length) → env.l[i].Name = env.l[j].Name → i = j := fun i hi he => by
  have D := hE.2.2
  rcases Nat.lt_trichotomy i j with hlt | heq | hgt
  ·exact absurd he (D j (Nat.zero_le _) hj i hlt _ _ (List.getElem?_eq_getElem hi) (List.getElem?_eq_getElem hj))
  ·exact heq
  ·exact absurd he.symm (D i (Nat.zero_le _) hi j hgt _ _ (List.getElem?_eq_getElem hj) (List.getElem?_eq_getElem hi))
 have lk : c0_ env env.l[j].Name = some (cpPt env.l[j].Pattern, true) := by
  rcases m9_ env env.l[j].Name (by omega) with ⟨i, hi, he, _, k2⟩ | ⟨he, _⟩
  ·have := idx i hi he
   subst this
   refine gE_ _ _ _ ?_
   unfold c6_
   rw [k2, Option.bind_some, if_neg (by simp), env2 env (oU_ hE), Option.bind_some, a3_ hE, if_neg (by simp), copy2 _ (sm_vp _ hx.2.1)]; rfl
  ·exact absurd rfl (he _ (List.getElem_mem hj))
 have fl : aA_ (S := Int) (R := (Unit ⊕ Int)) (fun st1 => (if (decide (st1 < (env.l.length : Int))) = true then ((elt env st1).bind fun y3 => (if (decide (y3.Name = env.l[j].Name)) = true then (some (.inr (.inr st1))) else (some (.inl (w4 (st1 + 1)))))) else (some (.inr (.inl ()))))) 0 = some (.inr (j : Int)) := by
  rcases pU_ env env.l[j].Name (by omega) with ⟨i, hi, he, k2⟩ | ⟨he, _⟩
  ·have := idx i hi he
   subst this
   exact k2
  ·exact absurd rfl (he _ (List.getElem_mem hj))
 have v1 : VPat (cpPt env.l[j].Pattern) := ⟨vp_cp _ hx.2.1, by rw [nd_cp]; exact hx.2.2⟩
 have v2 : VPat (dfr env.l[j].Name) := ⟨.mk ⟨by show 1 ≤ (24 : Int) ∧ (24 : Int) ≤ 24; omega, by simp [kidN], by show ArgP 24 0 _; unfold ArgP; rw [if_neg (by omega), if_neg (by omega), if_pos (by omega)]; exact ⟨rfl, hx.1⟩⟩ (fun q hq => by simp at hq), by rw [ki_]; show ((1 + ndL [] : Nat) : Int) ≤ 60; unfold ndL; omega⟩
 obtain ⟨x, x1, x2, x3⟩ := sh_ (env := env) (s := s) (p := cpPt env.l[j].Pattern) (starts := w) (by omega) hv hE.1 v1.1 s3 (by omega) 1000 (by omega)
 obtain ⟨y, y1, y2, y3⟩ := sh_ (env := env) (s := s) (p := dfr env.l[j].Name) (starts := w) (by omega) hv hE.1 v2.1 s3 (by omega) 1100 (by omega)
 have L := lock (s := s) (show w.l.length ≤ 90 by omega) hj fl _ _ x1 y1
 have wj : w4 ((j : Int) + 1) = (j : Int) + 1 := aQ_ (by omega) (by omega)
 rw [if_pos (by simpa using hj)]
 simp only [g, Option.bind_some, lk, Bool.not_true, Bool.false_eq_true, if_false, same_pt _ (Sm_cpPt _ (sm_vp _ hx.2.1)) _ (eq_cp env.l[j].Pattern), pz_, iL_ hE v1 (show s.size ≤ 200 by omega) (show (0 : Int) ≤ 1000 ∧ (1000 : Int) ≤ 20000 by omega) s1 x2, iL_ hE v2 (show s.size ≤ 200 by omega) (show (0 : Int) ≤ 1100 ∧ (1100 : Int) ≤ 20000 by omega) s1 y2, wj]
 by_cases h7 : x.2.2.2.2.2.2.2.1 = 7
 ·rw [if_neg (by simp [h7])]
 ·rcases L with L | ⟨l1, l2, l3⟩
  ·exact absurd L h7
  rw [if_pos (by simp [h7]), if_neg (by simp [l1]), kr_ _ _ (congrArg Sl.l l2) x3 l3, Option.bind_some, if_neg (by simp)]
theorem law_FnDeferred {fu0 : Nat} {t0 : T} (h0 : Shp Go.Proofs.Try.prog fu0 43 [t0]) : ∃ σ', run Go.Proofs.Try.prog md ext 14 [t0] St.empty = some (.bool true, σ') := by
 obtain ⟨a, e0, ha⟩ := nl_ h0
 injection e0 with e0; subst e0
 exact ⟨_, gv_ (i9_ a ha.2) St.empty⟩
end Go.Am
end
