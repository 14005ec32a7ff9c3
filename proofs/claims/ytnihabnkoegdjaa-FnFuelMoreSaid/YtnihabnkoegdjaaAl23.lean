/- The law. -/
import Derived.Test.YtnihabnkoegdjaaAg0
import Derived.Test.YtnihabnkoegdjaaAg2
import Derived.Test.YtnihabnkoegdjaaAl9
import Derived.Test.YtnihabnkoegdjaaAl10
import Derived.Test.YtnihabnkoegdjaaAl16
import Derived.Test.YtnihabnkoegdjaaAl21
import Derived.Test.YtnihabnkoegdjaaAl22
section
set_option maxRecDepth 100000
set_option maxHeartbeats 2000000
set_option linter.unusedVariables false
set_option linter.unusedSimpArgs false
namespace Go.Am
section
variable {f f' : Int} {me : Bool} {p : DPattern} {w : Sl (Iv .i64)}
def QF (f f' : Int) (me : Bool) (x x' : T11) : Prop := (D11 x).code_ ≠ 0 ∨ ((D11 x').code_ = 7 ∧ ((D11 x).code_ ≠ 0 ∨ Late f f' (D11 x))) ∨ (me = false ∧ (D11 x').code_ = 6) ∨ RelF f f' me (D11 x) (D11 x')
theorem rz_ (hf : f ≤ 20000 ∧ f' ≤ 20000) (h0 : 0 ≤ f') {i : Int} {A A' : aa_} (hA : RelF f f' me A A') : Gt (Nt.IMF p w (i, cu_ A)) (Nt.IMF p w (i, cu_ A')) (QF f f' me) := by
 unfold Nt.IMF
 refine hU_ (fun (s t : Int × T11) => ∃ j A A', RelF f f' me A A' ∧ s = (j, cu_ A) ∧ t = (j, cu_ A')) (fun st : Int × T11 => Late f f' (D11 st.2)) (fun x => (D11 x).code_ ≠ 0 ∨ Late f f' (D11 x)) (fun x => (D11 x).code_ = 7) ⟨i, A, A', hA, rfl, rfl⟩ (fun st hst => bc_ (fun _ => az_ cr_ fun v _ => az_ ((lu_ ⟨hf.1, h0⟩ bigN).1.kk _ _ _ _ ⟨hst.u, hst.m, hst.a, hst.b⟩ (oq_ ⟨hf.1, h0⟩)) fun r hr => bc_ (fun _ => ap_ ?_) fun hb => ap_ ?_) fun _ => ap_ (.inr hst)) (fun r r' hr hd => .inr (.inl ⟨hd, hr⟩)) fun s t hs => ?_
 ·rcases hr with hr | hr
  ·exact .inl hr.2
  ·exact .inr ⟨hr.u, hr.m, hr.a, hr.b⟩
 ·have hb : r.1 = true := by cases h : r.1 <;> simp [h] at hb ⊢
  exact ⟨(hr.yes hb).u, (hr.yes hb).m, (hr.yes hb).a, (hr.yes hb).b⟩
 ·obtain ⟨j, A, A', hA, rfl, rfl⟩ := hs
  cases hA with
  | @mk env s st mo t nw cd mt mt' h =>
   refine aW_ (fun _ => cM_ fun v => ?_) fun _ => au_ (.inr (.inr (.inr (.inr ⟨_, _, rfl, rfl, .inr (.inr (.inr (.mk h)))⟩))))
   refine aB_ ((pq_ (me := me) hf h0 bigN bigN).1 _ _ _ _ _ _ (.mk h) (q5_ hf h0)) fun r r' h => ?_
   obtain ⟨b, U⟩ := r
   obtain ⟨b', U'⟩ := r'
   rcases h with ⟨d1, d2⟩ | ⟨⟨h1, h1'⟩, h2⟩ | ⟨hq, hq', hq2⟩ | ⟨e1, e5⟩
   ·have d1 : b = false := d1
    subst d1
    exact fC_ rfl (cl_ fun _ => .inl ⟨_, rfl, fun _ => .inl d2⟩)
   ·have h1 : b' = false := h1
    subst h1
    refine gJ_ rfl (dy_ (bc_ (fun _ => ap_ (.inr (.inr (.inl ⟨_, rfl, h1', ?_⟩)))) fun hb => ap_ (.inr (.inr (.inl ⟨_, rfl, h1', ?_⟩)))))
    ·rcases h2 with h2 | h2
     ·exact .inl h2.2
     ·exact .inr ⟨h2.u, h2.m, h2.a, h2.b⟩
    ·have hb : b = true := by cases b <;> simp at hb ⊢
     have hl := h2.yes hb
     exact ⟨hl.u, hl.m, hl.a, hl.b⟩
   ·have hq' : b' = false := hq'
    subst hq'
    exact gJ_ rfl (dy_ fun _ _ => .inr (.inl ⟨_, rfl, fun _ => .inr (.inr (.inl ⟨hq, hq2⟩))⟩))
   ·have e1 : b = b' := e1
    subst e1
    cases b with
    | false => exact aW_ (fun _ => au_ (.inr (.inr (.inr (.inr ⟨_, _, rfl, rfl, .inr (.inr (.inr e5))⟩))))) fun w => absurd rfl w
    | true => exact aW_ (fun w => by cases w) fun _ => au_ (.inr (.inr (.inr (.inl ⟨_, _, rfl, rfl, _, NS U, NS U', e5, rfl, rfl⟩))))
theorem rT_ {k : Int} {i : Int} {A A' : aa_} (hA : RelD k A A') : Gt (Nt.IMF p w (i, cu_ A)) (Nt.IMF p w (i, cu_ A')) (fun x y => (D11 x).code_ = 7 ∨ ((D11 x).code_ = (D11 y).code_ ∧ (D11 x).matches_ = (D11 y).matches_ ∧ ∀ m ∈ (D11 x).matches_.l, m.Captures.l.length ≤ 100)) := by
 unfold Nt.IMF
 refine ka_ (fun (s t : Int × T11) => ∃ j A A', RelD k A A' ∧ s = (j, cu_ A) ∧ t = (j, cu_ A')) ⟨i, A, A', hA, rfl, rfl⟩ fun s t hs => ?_
 obtain ⟨j, A, A', hA, rfl, rfl⟩ := hs
 cases hA with
 | @mk env s st mo co f t f' t' nw cd mt me h1 h2 h3 h4 h5 =>
  refine aW_ (fun _ => cM_ fun v => ?_) fun _ => au_ (.inr (.inr ⟨_, _, rfl, rfl, .inr ⟨rfl, rfl, h5⟩⟩))
  refine aB_ ((pm_ k bigN bigN).1 _ _ _ _ _ _ (.mk h1 h2 h3 h4 h5) (qx_ k)) fun r r' h => ?_
  obtain ⟨b, U⟩ := r
  obtain ⟨b', U'⟩ := r'
  rcases h with ⟨d1, d2⟩ | ⟨e1, e2, e3, e4, e5⟩
  ·have d1 : b = false := d1
   subst d1
   exact fC_ rfl (cl_ fun _ => .inl ⟨_, rfl, fun _ => .inl d2⟩)
  ·have e1 : b = b' := e1
   subst e1
   cases b with
   | false => exact aW_ (fun _ => au_ (.inr (.inr ⟨_, _, rfl, rfl, .inr ⟨e2, e3, e4⟩⟩))) fun w => absurd rfl w
   | true => exact aW_ (fun w => by cases w) fun _ => au_ (.inr (.inl ⟨_, _, rfl, rfl, _, NS U, NS U', e5 rfl, rfl, rfl⟩))
theorem n9_ {S : aa_} (hw : 0 < w.l.length) (hd : S.steps_ = S.fuel_) : Gv (Nt.IMF p w (0, cu_ S)) (fun x => (D11 x).code_ = 7) := by
 unfold Nt.IMF
 refine g9_ (fun st => st = (0, cu_ S)) rfl fun st hst => ?_
 subst hst
 exact bc_ (fun _ => az_ cr_ fun v _ => az_ (Q := Dead) (i6_ hd) fun r hr => bc_ (fun _ => ap_ hr.2) fun hb => absurd (by rw [hr.1]; rfl) hb) fun hn => absurd (by simpa using hw) hn
end
theorem mK_ {s : ByteArray} {b : Bool} (hs : s.size ≤ 200) {w : Sl (Iv .i64)} (hw : bm_ s b = some w) : 0 < w.l.length := by
 obtain ⟨w', h1, h2, h3⟩ := Nt.starts_loop s b hs s.size 1 (by omega) ⟨false, [⟨0⟩]⟩ (by simp) (fun x hx => by rw [List.mem_singleton] at hx; subst hx; exact ⟨by simp, by simp⟩)
 rw [show ((1 : Nat) : Int) = 1 from rfl] at h1
 have e : bm_ s b = some w' := by
  refine fS_ s b w' ?_
  unfold c1_; rw [h1]; rfl
 rw [e] at hw; injection hw with hw; subst hw
 refine g9_ (fun st : Int × Sl (Iv .i64) => 0 < st.2.l.length) (P := fun w : Sl (Iv .i64) => 0 < w.l.length) (by show 0 < 1; decide) (fun st hst => ?_) w' h1
 exact bc_ (fun _ => bc_ (fun _ => az_ app1 fun q hq => ap_ (by show 0 < q.l.length; rw [hq]; simp)) fun _ => ap_ (by exact hst)) fun _ => ap_ (by exact hst)
abbrev M0 (env : Sl DNamed) (s : ByteArray) (f : Int) : aa_ := ⟨env, s, f, 0, 0, ⟨true, []⟩, ⟨true, []⟩, ⟨true, []⟩, 0, true, T.nilm, 0⟩
theorem lk_ {env : Sl DNamed} {s : ByteArray} {p : DPattern} (hE : EnvP env) (hv : VPat p) (hs : s.size ≤ 200) (b : Bool) {f : Int} (hf : 0 ≤ f ∧ f ≤ 20000) {w : Sl (Iv .i64)} (hw2 : bm_ s b = some w) (hw3 : w.l.length ≤ 1000) (hw4 : ∀ x ∈ w.l, 0 ≤ x.v ∧ x.v ≤ s.size) :
  ∃ x : T11, Nt.IMF p w (0, cu_ (M0 env s f)) = some x ∧ cF_ env p s b f = some (if (D11 x).code_ = 0 then ((D11 x).steps_, 0) else (0, (D11 x).code_)) := by
 obtain ⟨S', m1, _⟩ := Nt.impl_ends (env := env) (s := s) (p := p) (starts := w) true hs (fun x hx => (hE.2.1 x hx).2.1) hE.1 hv.1 hw4 hw3 hf
 refine ⟨cu_ S', m1, hl_ _ _ _ _ _ _ ?_⟩
 have ha : Nt.askV env p s f = 0 := by
  unfold Nt.askV
  rw [a3_ (show Nt.AskP env p s from ⟨hE, hv, by omega⟩), a3_ hf]; rfl
 unfold ds_
 rw [(Nt.ask12 env p s f (pX_ hE) (sm_vp _ hv.1)).2, Option.bind_some, ha, if_neg (by simp), hw2, Option.bind_some]
 unfold Nt.IMF at m1
 rw [m1]
 show (if (!decide (S'.code_ = 0)) = true then _ else _) = some (if S'.code_ = 0 then (S'.steps_, 0) else (0, S'.code_))
 by_cases hc : S'.code_ = 0
 ·rw [if_neg (by simp [hc]), if_pos hc]
 ·rw [if_pos (by simp [hc]), if_neg hc]
theorem tm_ {env : Sl DNamed} {s : ByteArray} {p : DPattern} (hE : EnvP env) (hv : VPat p) (hs : s.size ≤ 200) (b : Bool) {f : Int} (hf : 0 ≤ f ∧ f ≤ 20000) {w : Sl (Iv .i64)} (hw2 : bm_ s b = some w) (hw3 : w.l.length ≤ 1000) (hw4 : ∀ x ∈ w.l, 0 ≤ x.v ∧ x.v ≤ s.size) :
  ∃ x : T11, Nt.IMF p w (0, env, s, f, 0, 0, 0, false, 0, ⟨true, []⟩, ⟨true, []⟩, ⟨true, []⟩) = some x ∧ cO_ env p s b f = some (x.2.2.2.2.2.2.2.2.2.2, x.2.2.2.2.2.2.2.1) ∧ x.2.2.2.2.2.2.2.2.2.2.l.length ≤ 60 := by
 obtain ⟨S', m1, m2⟩ := Nt.impl_ends (env := env) (s := s) (p := p) (starts := w) false hs (fun x hx => (hE.2.1 x hx).2.1) hE.1 hv.1 hw4 hw3 hf
 refine ⟨cu_ S', m1, hD_ _ _ _ _ _ _ ?_, m2⟩
 have ha : Nt.askV env p s f = 0 := by
  unfold Nt.askV
  rw [a3_ (show Nt.AskP env p s from ⟨hE, hv, by omega⟩), a3_ hf]; rfl
 have hm : db_ env p s w f = some (S'.matches_, S'.code_) := by
  refine gZ_ _ _ _ _ _ _ ?_
  unfold c0_
  unfold Nt.IMF at m1
  rw [m1]; rfl
 unfold dK_
 rw [(Nt.ask12 env p s f (pX_ hE) (sm_vp _ hv.1)).2, Option.bind_some, ha, if_neg (by simp), hw2, Option.bind_some, hm]; rfl
theorem oe_ (a : Sl (Iv .u8)) (h : ∀ x ∈ a.l, 0 ≤ x.v ∧ x.v ≤ 255) : e6_ a = some true := by
 refine hm_ _ _ ?_
 unfold dl_
 by_cases hl : 1048576 < (a.l.length : Int)
 ·rw [if_pos (by simpa using hl)]
 rw [if_neg (by simpa using hl)]
 have hb : Bys a := ⟨h, by omega⟩
 obtain ⟨env, e1, hE, _, hC⟩ := mv_ a hb
 obtain ⟨b1, e2, hb1⟩ := pz_ 1 a h (by omega)
 obtain ⟨p, e3, p1, p2, p3⟩ := n3_ b1 hb1
 obtain ⟨b2, e4, hb2⟩ := pz_ 2 a h (by omega)
 obtain ⟨s, e5, hs⟩ := mM_ b2 hb2
 obtain ⟨c, e6, _⟩ := tv_ a 3 2 hb (by omega) (by omega)
 obtain ⟨g, e7, g1⟩ := tv_ a 4 50 hb (by omega) (by omega)
 have g1 := g1 (by omega)
 have hP : VPat p := ⟨p1, by omega⟩
 obtain ⟨w, s1, s2, s3, s4⟩   := Nt.starts12 s (decide (c = 0)) (by omega)
 have sp := mK_ (by omega) s2
 obtain ⟨M, m1, m2⟩ := lk_ (p := p) hE hP (by omega) (decide (c = 0)) (f := 1500) (by omega) s2 s3 s4
 rw [e1, Option.bind_some, e2, Option.bind_some, e3, Option.bind_some, e4, Option.bind_some, e5, Option.bind_some, e6, Option.bind_some, m2, Option.bind_some]
 by_cases hc : (D11 M).code_ = 0
 rotate_left
 ·rw [if_neg hc, if_pos (by simpa using hc)]
 rw [if_pos hc, if_neg (by simp)]
 generalize hn : (D11 M).steps_ = n
 -- some steps are needed
 have key : ∀ (f' : Int) (me : Bool), 0 ≤ f' → f' ≤ 20000 → ∀ x, Nt.IMF p w (0, cu_ ⟨env, s, f', 0, 0, ⟨true, []⟩, ⟨true, []⟩, ⟨true, []⟩, 0, me, T.nilm, 0⟩) = some x → ((D11 x).code_ = 7 ∧ f' < n ∧ n ≤ 1500) ∨ (me = false ∧ (D11 x).code_ = 6) ∨ ((D11 x).code_ = 0 ∧ 0 ≤ n ∧ n ≤ f' ∧ n ≤ 1500) := by
  intro f' me h0 h1 x hx
  rcases rz_ (f := 1500) (f' := f') (me := me) (p := p) (w := w) (i := 0) (A := M0 env s 1500) ⟨by omega, h1⟩ h0 (.mk ⟨Int.le_refl _, by omega, h0⟩) M x m1 hx with h | ⟨h, h'⟩ | h | h
  ·exact absurd hc h
  ·rcases h' with h' | h'
   ·exact absurd hc h'
   ·exact .inl ⟨h, by have := h'.a; omega, by have := h'.b; omega⟩
  ·exact .inr (.inl h)
  ·refine .inr (.inr ?_)
   generalize hX : D11 x = X at h
   generalize hM : D11 M = N at h hn
   cases h with
   | @mk env' s' st mo t nw cd mt mt' q =>
    have hn : t = n := hn
    exact ⟨rfl, by omega, by omega, by omega⟩
 have hn1 : 0 < n ∧ n ≤ 1500 := by
  obtain ⟨z, z1, _⟩ := lk_ (p := p) hE hP (by omega) (decide (c = 0)) (f := 0) (by omega) s2 s3 s4
  have z7 := n9_ (p := p) (S := M0 env s 0) sp rfl z z1
  rcases key 0 true (by omega) (by omega) z z1 with k | k | k
  ·exact ⟨by omega, k.2.2⟩
  ·exact absurd k.1 (by decide)
  ·rw [z7] at k; exact absurd k.1 (by decide)
 obtain ⟨x, x1, x2, x4⟩ := tm_ (p := p) hE hP (by omega) (decide (c = 0)) (f := n) (by omega) s2 s3 s4
 obtain ⟨y, y1, y2, y4⟩ := tm_ (p := p) hE hP (by omega) (decide (c = 0)) (f := n + g) (by omega) s2 s3 s4
 obtain ⟨z, z1, z2⟩ := lk_ (p := p) hE hP (by omega) (decide (c = 0)) (f := n - 1) (by omega) s2 s3 s4
 have kz : (D11 z).code_ = 7 := by
  rcases key (n - 1) true (by omega) (by omega) z z1 with k | k | k
  ·exact k.1
  ·exact absurd k.1 (by decide)
  ·omega
 have kx : (D11 x).code_ = 6 ∨ (D11 x).code_ = 0 := by
  rcases key n false (by omega) (by omega) x x1 with k | k | k
  ·omega
  ·exact .inl k.2
  ·exact .inr k.1
 obtain ⟨ke, km, x5⟩ : (D11 x).code_ = (D11 y).code_ ∧ (D11 x).matches_ = (D11 y).matches_ ∧ ∀ m ∈ (D11 x).matches_.l, m.Captures.l.length ≤ 100 := by
  rcases rT_ (k := g) (p := p) (w := w) (i := 0) (A := ⟨env, s, n, 0, 0, ⟨true, []⟩, ⟨true, []⟩, ⟨true, []⟩, 0, false, T.nilm, 0⟩) (A' := ⟨env, s, n + g, 0, 0, ⟨true, []⟩, ⟨true, []⟩, ⟨true, []⟩, 0, false, T.nilm, 0⟩) (.mk ⟨Int.le_refl _, by omega, by omega⟩ ⟨Int.le_refl _, by omega, by omega⟩ ⟨g1.1, by omega⟩ (by show (0 : Nat) + 0 ≤ 100; omega) (fun m hm => by simp at hm)) x y x1 y1 with k | k
  ·omega
  ·exact k
 rw [x2, Option.bind_some, e7, Option.bind_some, aS_ (by omega) (by omega), y2, Option.bind_some, aS_ (by omega) (by omega), z2, Option.bind_some, if_neg (show ¬ (D11 z).code_ = 0 by omega)]
 have hsm := Sml.same_matches x.2.2.2.2.2.2.2.2.2.2 y.2.2.2.2.2.2.2.2.2.2 (by have km : x.2.2.2.2.2.2.2.2.2.2 = y.2.2.2.2.2.2.2.2.2.2 := km; rw [km]) x4 x5
 have ke : x.2.2.2.2.2.2.2.1 = y.2.2.2.2.2.2.2.1 := ke
 have kx : x.2.2.2.2.2.2.2.1 = 6 ∨ x.2.2.2.2.2.2.2.1 = 0 := kx
 have kz : z.2.2.2.2.2.2.2.1 = 7 := kz
 rw [if_pos (by simpa using ke)]
 rcases kx with kx | kx
 ·rw [if_neg (by simp [kx]), if_pos (by simp [kx]), hsm, Option.bind_some, if_pos rfl, if_pos (by simp; omega)]
  simp [kz]
 ·rw [if_pos (by simp [kx]), hsm, Option.bind_some, if_pos rfl, if_pos (by simp; omega)]
  simp [kz]
theorem law_FnFuelMore {fu0 : Nat} {t0 : T} (h0 : Shp Go.Proofs.Try.prog fu0 22 [t0]) : ∃ σ', run Go.Proofs.Try.prog md ext 8 [t0] St.empty = some (.bool true, σ') := by
 obtain ⟨a, e0, ha⟩ := mY_ h0
 injection e0 with e0; subst e0
 exact ⟨_, fI_ (oe_ a ha.2) St.empty⟩
end Go.Am
end
