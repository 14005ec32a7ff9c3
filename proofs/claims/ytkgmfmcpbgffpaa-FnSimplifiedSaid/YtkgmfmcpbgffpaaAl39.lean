/- The law. -/
import Derived.Test.YtkgmfmcpbgffpaaAg0
import Derived.Test.YtkgmfmcpbgffpaaAg2
import Derived.Test.YtkgmfmcpbgffpaaAl31
import Derived.Test.YtkgmfmcpbgffpaaAl32
import Derived.Test.YtkgmfmcpbgffpaaAl37
import Derived.Test.YtkgmfmcpbgffpaaAl38
section
set_option maxRecDepth 100000
set_option maxHeartbeats 4000000
set_option linter.unusedVariables false
set_option linter.unusedSimpArgs false
namespace Go.Am
theorem vo_ {env : Sl DNamed} {s : ByteArray} {f : Int} {p q : DPattern} {w : Sl (Iv .i64)} (hf : 0 ≤ f ∧ f ≤ 800) (hE : ∀ x ∈ env.l, VP x.Pattern) (hw : ∀ x ∈ w.l, 0 ≤ x.v ∧ x.v ≤ (s.size : Int)) (h : ∀ n, T1P s f n p q) :
  Gt (IMF p w (0, env, s, f, 0, 0, 0, false, 0, ⟨true, []⟩, ⟨true, []⟩, ⟨true, []⟩)) (IMF q w (0, env, s, 20000, 0, 0, 0, false, 0, ⟨true, []⟩, ⟨true, []⟩, ⟨true, []⟩)) (fun x y => (x.2.2.2.2.2.2.2.1 ≠ 0 ∧ x.2.2.2.2.2.2.2.2.2.2.l = []) ∨ (x.2.2.2.2.2.2.2.1 = y.2.2.2.2.2.2.2.1 ∧ x.2.2.2.2.2.2.2.2.2.2 = y.2.2.2.2.2.2.2.2.2.2 ∧ ∀ m ∈ x.2.2.2.2.2.2.2.2.2.2.l, m.Captures.l.length ≤ 100)) := by
 unfold IMF
 refine j4_ (fun (x1 x2 : Int × T11) => ∃ j A A', Rd s f 0 A A' ∧ x1 = (j, hu_ A) ∧ x2 = (j, hu_ A')) ⟨0, ⟨env, s, f, 0, 0, ⟨true, []⟩, ⟨true, []⟩, ⟨true, []⟩, 0, false, T.nilm, 0⟩, ⟨env, s, 20000, 0, 0, ⟨true, []⟩, ⟨true, []⟩, ⟨true, []⟩, 0, false, T.nilm, 0⟩, .mk hE (by simp) (fun m hm => by simp at hm) ⟨Int.le_refl _, hf.1⟩ ⟨Int.le_refl _, by decide⟩, rfl, rfl⟩ fun x y hx => ?_
 obtain ⟨j, A, A', hA, rfl, rfl⟩ := hx
 cases hA with
 | @mk env' st mo t t' nw cd mt me hE' h4 h5 ht ht' =>
  refine c1_ (fun hj => aM_ qy_ fun v v' hv => ?_) fun _ => aH_ (.inr (.inr (.inr ⟨_, _, rfl, rfl, .inr ⟨rfl, rfl, h5⟩⟩)))
  obtain ⟨rfl, hv⟩ := hv
  have hr : Rd s f 0 ⟨env', s, f, t, v.v, nw, cd, mt, mo, me, T.nilm, 0⟩ ⟨env', s, 20000, t', v.v, nw, cd, mt, mo, me, T.nilm, 0⟩ := .mk hE' h4 h5 ht ht'
  refine aM_ (h bigN bigN _ _ v.v _ _ (hw v hv) (hr.up (by decide)) (rA_ hf.2)) fun r r' hq => lE_ hq (fun b _ => cb_ fun _ => .inl ⟨_, rfl, fun _ => .inl b.2⟩) (fun _ _ hi => aH_ (.inr (.inr (.inl ⟨_, _, rfl, rfl, _, _, _, hi, rfl, rfl⟩)))) fun _ _ hi => aH_ (.inr (.inr (.inr ⟨_, _, rfl, rfl, ?_⟩)))
  rcases hi with k | ⟨k1, k2, k4, k5, k6⟩
  ·exact .inl k.2
  ·exact .inr ⟨k2, k4, k5⟩
theorem qX_ (s : ByteArray) (b : Bool) (hs : s.size ≤ 200) : ∃ w : Sl (Iv .i64), db_ s b = some w ∧ w.l.length ≤ 1000 ∧ ∀ x ∈ w.l, 0 ≤ x.v ∧ x.v ≤ s.size := by
 obtain ⟨w, h1, h2, h3⟩ := lU_ s b hs s.size 1 (by omega) ⟨false, [⟨0⟩]⟩ (by simp) (fun x hx => by rw [List.mem_singleton] at hx; subst hx; exact ⟨by simp, by simp⟩)
 rw [show ((1 : Nat) : Int) = 1 from rfl] at h1
 refine ⟨w, ii_ s b w ?_, by omega, h3⟩
 unfold eu_; rw [h1]; rfl
theorem ms_ {env : Sl DNamed} {s : ByteArray} {p : DPattern} (hE : EnvP env) (hv : VPat p) (hs : s.size ≤ 200) {f : Int} (hf : 0 ≤ f ∧ f ≤ 20000) {b : Bool} {w : Sl (Iv .i64)} (hw : db_ s b = some w) {r : Sl DMatch × Int} (hr : cx_ env p s w f = some r) : b2_ env p s b f = some r := by
 refine hV_ _ _ _ _ _ _ ?_
 unfold dR_
 have hc : du_ env p s f = some 0 := by
  refine hg_ env p s f _ ?_
  unfold dA_
  rw [mq_ (env2 env (tc_ hE)) fun _ => mq_ (q1_ p (sm_vp _ hv.1)) fun _ => fc_ (ou_ s), Option.bind_some, oZ_, Option.bind_some, in2, Option.bind_some, oZ_, Option.bind_some, sW_]
  rw [bs_ (show EnvP env ∧ VPat p ∧ (s.size : Int) ≤ 200 from ⟨hE, hv, by omega⟩), bs_ hf]; rfl
 rw [hc, Option.bind_some, if_neg (by simp), hw, Option.bind_some, hr]; rfl
theorem kG_ {env : Sl DNamed} {s : ByteArray} {p q : DPattern} {f : Int} (hE : EnvP env) (hs : s.size ≤ 200) (b : Bool) (hp : VPat p) (hq : VPat q) (ht : tl p ≤ 200) (h : SR p q) (hf : 0 ≤ f ∧ f ≤ 800) : ∃ x y, b2_ env p s b f = some x ∧ b2_ env q s b 20000 = some y ∧ ((x.2 ≠ 0 ∧ x.1.l = []) ∨ (x.2 = y.2 ∧ bA_ x.1 y.1 = some true)) := by
 have hv : ∀ x ∈ env.l, VP x.Pattern := fun x hx => (hE.2.1 x hx).2.1
 obtain ⟨w, s2, s3, s4⟩ := qX_ s b hs
 obtain ⟨x, x1, x2, x3⟩ := Te.from_ex (env := env) (s := s) (p := p) (w := w) (f := f) hs hv hE.1 (by omega) hp.1 s4 s3
 obtain ⟨y, y1, y2, y3⟩ := Te.from_ex (env := env) (s := s) (p := q) (w := w) (f := 20000) hs hv hE.1 (by omega) hq.1 s4 s3
 refine ⟨_, _, ms_ hE hp hs (by omega) s2 x2, ms_ hE hq hs (by omega) s2 y2, ?_⟩
 rcases vo_ hf hv s4 (fun n => (sv_ hs hf.2 n p q h hp.1 ht).t1) x y x1 y1 with k | ⟨k1, k2, k3⟩
 ·exact .inl k
 ·exact .inr ⟨k1, hP_ _ _ (by rw [k2]) x3 k3⟩
theorem nf_same : ∀ q, VP q → NF q → ∀ q', SR q q' → EqPt q' q := by
 refine gx_ fun q ih vq nq q' h => ?_
 have h6 : ¬ (q.Kind = 6 ∧ q.Num = 0) := by cases nq with | mk h6 => exact h6
 have h20 : ∀ x, q.Kids.l = [x] → (q.Kind = 20 → ¬ (x.Kind = 16 ∨ Emp x)) ∧ (q.Kind ≠ 20 → ¬ (x.Kind = 16 ∨ x.Kind = 15)) := by cases nq with | mk _ _ _ h20 _ => exact h20
 have ha := vq.node.2.2
 cases h with
 | len k hn => exact absurd ⟨k, hn⟩ h6
 | @cat _ x y a b _ k hk h1 h2 h3 =>
  obtain ⟨vx, vy⟩ := cJ_ vq hk
  obtain ⟨nx, ny⟩ := nq.two hk
  have a2 := ih x (by rw [hk]; simp) vx nx a h1
  have b2 := ih y (by rw [hk]; simp) vy ny b h2
  obtain ⟨c1, c2, c3, c4, c5, c6, c7⟩ := nq.cat hk k
  have e := CatR.det (h1.vp vx) (h2.vp vy) h3 (.ot (fun w => c1 (a2.emp.1 w)) (fun w => c2 (b2.emp.1 w)) (by rw [a2.kind]; exact ⟨c3, c4, c5⟩) (by rw [a2.kind, b2.kind, a2.text, b2.text]; exact c6) fun u v e w => (by
   obtain ⟨u', v', e', eu, ev⟩ := b2.two e
   refine c7 u' v' e' ?_
   rw [← a2.kind, ← b2.kind, ← a2.text, ← eu.kind, ← eu.text]; exact w))
  subst e
  obtain ⟨n, t, z, hz⟩ := n0_ k hk
  rw [hz] at ha ⊢
  have ha : ArgP 19 n t := ha
  unfold ArgP at ha
  rw [if_neg (by decide), if_neg (by decide), if_neg (by decide)] at ha
  obtain ⟨rfl, rfl⟩ := ha
  exact eqp2 a2 b2
 | @alt _ x y a b _ k hk h1 h2 h3 =>
  obtain ⟨vx, vy⟩ := cJ_ vq hk
  obtain ⟨nx, ny⟩ := nq.two hk
  have a2 := ih x (by rw [hk]; simp) vx nx a h1
  have b2 := ih y (by rw [hk]; simp) vy ny b h2
  obtain ⟨c1, c2, c3, c4⟩ := nq.alt hk k
  have e := AltR.det (h1.vp vx) (h2.vp vy) h3 (.ot (by rw [b2.kind]; exact c1) (by rw [a2.kind]; exact ⟨c2, c3, c4⟩))
  subst e
  obtain ⟨n, t, z, hz⟩ := n0_ k hk
  rw [hz] at ha ⊢
  have ha : ArgP 18 n t := ha
  unfold ArgP at ha
  rw [if_neg (by decide), if_neg (by decide), if_neg (by decide)] at ha
  obtain ⟨rfl, rfl⟩ := ha
  exact eqp2 a2 b2
 | @arb0 _ x a k hk h1 h2 =>
  have a2 := ih x (by rw [hk]; simp) (hL_ vq hk) (nq.kid (by rw [hk]; simp)) a h1
  exact absurd (by rw [← a2.kind, ← a2.emp]; exact h2) ((h20 x hk).1 k)
 | @cap0 _ x _ k hk h1 h2 =>
  have a2 := ih x (by rw [hk]; simp) (hL_ vq hk) (nq.kid (by rw [hk]; simp)) q' h1
  exact absurd (by rw [← a2.kind]; exact h2) ((h20 x hk).2 (by omega))
 | @one _ x a k hk h1 h2 h3 =>
  have a2 := ih x (by rw [hk]; simp) (hL_ vq hk) (nq.kid (by rw [hk]; simp)) a h1
  obtain ⟨n, t, z, hz⟩ := pP_ rfl hk
  rw [hz]
  exact eqp1 a2
 | leaf hk h h2 => exact .mk rfl rfl rfl (by rw [hk]) fun i x y hx => by simp at hx
theorem o4_ {p : DPattern} (h : VPat p) : a8_ p = some true := by rw [q1_ p (sm_vp p h.1), bs_ h]
theorem jt_ {p : DPattern} (h : VPat p) : ∃ q, SR p q ∧ bT_ p = some q ∧ VPat q ∧ nd q ≤ nd p := by
 obtain ⟨q, h1, h2⟩ := simp_ok p h.1
 refine ⟨q, h1, fN_ _ _ ?_, ⟨h1.vp h.1, by have := h1.nd; have := h.2; omega⟩, h1.nd⟩
 unfold cq_
 rw [o4_ h, Option.bind_some, if_neg (by simp), h2]; rfl
end Go.Am
end
