/- The law. -/
import Derived.Test.YtkgmfmcpbgffpaaAg0
import Derived.Test.YtkgmfmcpbgffpaaAg2
import Derived.Test.YtkgmfmcpbgffpaaAl31
import Derived.Test.YtkgmfmcpbgffpaaAl32
import Derived.Test.YtkgmfmcpbgffpaaAl37
import Derived.Test.YtkgmfmcpbgffpaaAl38
section
set_option maxRecDepth 100000
set_option maxHeartbeats 4000000
set_option linter.unusedVariables false
set_option linter.unusedSimpArgs false
namespace Go.Am
theorem vs_ {env : Sl DNamed} {s : ByteArray} {f : Int} {p q : DPattern} {w : Sl (Iv .i64)} (hf : 0 ≤ f ∧ f ≤ 800) (hE : ∀ x ∈ env.l, VP x.Pattern) (hw : ∀ x ∈ w.l, 0 ≤ x.v ∧ x.v ≤ (s.size : Int)) (h : ∀ n, T1P s f n p q) :
  Gt (IMF p w (0, env, s, f, 0, 0, 0, false, 0, ⟨true, []⟩, ⟨true, []⟩, ⟨true, []⟩)) (IMF q w (0, env, s, 20000, 0, 0, 0, false, 0, ⟨true, []⟩, ⟨true, []⟩, ⟨true, []⟩)) (fun x y => (x.2.2.2.2.2.2.2.1 ≠ 0 ∧ x.2.2.2.2.2.2.2.2.2.2.l = []) ∨ (x.2.2.2.2.2.2.2.1 = y.2.2.2.2.2.2.2.1 ∧ x.2.2.2.2.2.2.2.2.2.2 = y.2.2.2.2.2.2.2.2.2.2 ∧ ∀ m ∈ x.2.2.2.2.2.2.2.2.2.2.l, m.Captures.l.length ≤ 100)) := by
 unfold IMF
 refine jS_ (fun (x1 x2 : Int × T11) => ∃ j A A', Rd s f 0 A A' ∧ x1 = (j, hF_ A) ∧ x2 = (j, hF_ A')) ⟨0, ⟨env, s, f, 0, 0, ⟨true, []⟩, ⟨true, []⟩, ⟨true, []⟩, 0, false, T.nilm, 0⟩, ⟨env, s, 20000, 0, 0, ⟨true, []⟩, ⟨true, []⟩, ⟨true, []⟩, 0, false, T.nilm, 0⟩, .mk hE (by simp) (fun m hm => by simp at hm) ⟨Int.le_refl _, hf.1⟩ ⟨Int.le_refl _, by decide⟩, rfl, rfl⟩ fun x y hx => ?_
 obtain ⟨j, A, A', hA, rfl, rfl⟩ := hx
 cases hA with
 | @mk env' st mo t t' nw cd mt me hE' h4 h5 ht ht' =>
  refine c6_ (fun hj => aN_ qI_ fun v v' hv => ?_) fun _ => aI_ (.inr (.inr (.inr ⟨_, _, rfl, rfl, .inr ⟨rfl, rfl, h5⟩⟩)))
  obtain ⟨rfl, hv⟩ := hv
  have hr : Rd s f 0 ⟨env', s, f, t, v.v, nw, cd, mt, mo, me, T.nilm, 0⟩ ⟨env', s, 20000, t', v.v, nw, cd, mt, mo, me, T.nilm, 0⟩ := .mk hE' h4 h5 ht ht'
  refine aN_ (h bigN bigN _ _ v.v _ _ (hw v hv) (hr.up (by decide)) (rX_ hf.2)) fun r r' hq => l4_ hq (fun b _ => b8_ fun _ => .inl ⟨_, rfl, fun _ => .inl b.2⟩) (fun _ _ hi => aI_ (.inr (.inr (.inl ⟨_, _, rfl, rfl, _, _, _, hi, rfl, rfl⟩)))) fun _ _ hi => aI_ (.inr (.inr (.inr ⟨_, _, rfl, rfl, ?_⟩)))
  rcases hi with k | ⟨k1, k2, k4, k5, k6⟩
  ·exact .inl k.2
  ·exact .inr ⟨k2, k4, k5⟩
theorem q7_ (s : ByteArray) (b : Bool) (hs : s.size ≤ 200) : ∃ w : Sl (Iv .i64), dl_ s b = some w ∧ w.l.length ≤ 1000 ∧ ∀ x ∈ w.l, 0 ≤ x.v ∧ x.v ≤ s.size := by
 obtain ⟨w, h1, h2, h3⟩ := lI_ s b hs s.size 1 (by omega) ⟨false, [⟨0⟩]⟩ (by simp) (fun x hx => by rw [List.mem_singleton] at hx; subst hx; exact ⟨by simp, by simp⟩)
 rw [show ((1 : Nat) : Int) = 1 from rfl] at h1
 refine ⟨w, i3_ s b w ?_, by omega, h3⟩
 unfold eo_; rw [h1]; rfl
theorem m4_ {env : Sl DNamed} {s : ByteArray} {p : DPattern} (hE : EnvP env) (hv : VPat p) (hs : s.size ≤ 200) {f : Int} (hf : 0 ≤ f ∧ f ≤ 20000) {b : Bool} {w : Sl (Iv .i64)} (hw : dl_ s b = some w) {r : Sl DMatch × Int} (hr : cx_ env p s w f = some r) : bg_ env p s b f = some r := by
 refine hW_ _ _ _ _ _ _ ?_
 unfold dS_
 have hc : dC_ env p s f = some 0 := by
  refine hr_ env p s f _ ?_
  unfold dv_
  rw [ms_ (env2 env (uv_ hE)) fun _ => ms_ (rv_ p (sm_vp _ hv.1)) fun _ => ff_ (om_ s), Option.bind_some, oJ_, Option.bind_some, in2, Option.bind_some, oJ_, Option.bind_some, t7_]
  rw [bs_ (show EnvP env ∧ VPat p ∧ (s.size : Int) ≤ 200 from ⟨hE, hv, by omega⟩), bs_ hf]; rfl
 rw [hc, Option.bind_some, if_neg (by simp), hw, Option.bind_some, hr]; rfl
theorem k9_ {env : Sl DNamed} {s : ByteArray} {p q : DPattern} {f : Int} (hE : EnvP env) (hs : s.size ≤ 200) (b : Bool) (hp : VPat p) (hq : VPat q) (ht : tl p ≤ 200) (h : SR p q) (hf : 0 ≤ f ∧ f ≤ 800) : ∃ x y, bg_ env p s b f = some x ∧ bg_ env q s b 20000 = some y ∧ ((x.2 ≠ 0 ∧ x.1.l = []) ∨ (x.2 = y.2 ∧ b4_ x.1 y.1 = some true)) := by
 have hv : ∀ x ∈ env.l, VP x.Pattern := fun x hx => (hE.2.1 x hx).2.1
 obtain ⟨w, s2, s3, s4⟩ := q7_ s b hs
 obtain ⟨x, x1, x2, x3⟩ := Te.from_ex (env := env) (s := s) (p := p) (w := w) (f := f) hs hv hE.1 (by omega) hp.1 s4 s3
 obtain ⟨y, y1, y2, y3⟩ := Te.from_ex (env := env) (s := s) (p := q) (w := w) (f := 20000) hs hv hE.1 (by omega) hq.1 s4 s3
 refine ⟨_, _, m4_ hE hp hs (by omega) s2 x2, m4_ hE hq hs (by omega) s2 y2, ?_⟩
 rcases vs_ hf hv s4 (fun n => (ua_ hs hf.2 n p q h hp.1 ht).t1) x y x1 y1 with k | ⟨k1, k2, k3⟩
 ·exact .inl k
 ·exact .inr ⟨k1, hK_ _ _ (by rw [k2]) x3 k3⟩
theorem nf_same : ∀ q, VP q → NF q → ∀ q', SR q q' → EqPt q' q := by
 refine eL_ fun q ih vq nq q' h => ?_
 have h6 : ¬ (q.Kind = 6 ∧ q.Num = 0) := by cases nq with | mk h6 => exact h6
 have h20 : ∀ x, q.Kids.l = [x] → (q.Kind = 20 → ¬ (x.Kind = 16 ∨ Emp x)) ∧ (q.Kind ≠ 20 → ¬ (x.Kind = 16 ∨ x.Kind = 15)) := by cases nq with | mk _ _ _ h20 _ => exact h20
 have ha := vq.node.2.2
 cases h with
 | len k hn => exact absurd ⟨k, hn⟩ h6
 | @cat _ x y a b _ k hk h1 h2 h3 =>
  obtain ⟨vx, vy⟩ := b1_ vq hk
  obtain ⟨nx, ny⟩ := nq.two hk
  have a2 := ih x (by rw [hk]; simp) vx nx a h1
  have b2 := ih y (by rw [hk]; simp) vy ny b h2
  obtain ⟨c1, c2, c3, c4, c5, c6, c7⟩ := nq.cat hk k
  have e := CatR.det (h1.vp vx) (h2.vp vy) h3 (.ot (fun w => c1 (a2.emp.1 w)) (fun w => c2 (b2.emp.1 w)) (by rw [a2.kind]; exact ⟨c3, c4, c5⟩) (by rw [a2.kind, b2.kind, a2.text, b2.text]; exact c6) fun u v e w => (by
   obtain ⟨u', v', e', eu, ev⟩ := b2.two e
   refine c7 u' v' e' ?_
   rw [← a2.kind, ← b2.kind, ← a2.text, ← eu.kind, ← eu.text]; exact w))
  subst e
  obtain ⟨n, t, z, hz⟩ := oa_ k hk
  rw [hz] at ha ⊢
  have ha : ArgP 19 n t := ha
  unfold ArgP at ha
  rw [if_neg (by decide), if_neg (by decide), if_neg (by decide)] at ha
  obtain ⟨rfl, rfl⟩ := ha
  exact eqp2 a2 b2
 | @alt _ x y a b _ k hk h1 h2 h3 =>
  obtain ⟨vx, vy⟩ := b1_ vq hk
  obtain ⟨nx, ny⟩ := nq.two hk
  have a2 := ih x (by rw [hk]; simp) vx nx a h1
  have b2 := ih y (by rw [hk]; simp) vy ny b h2
  obtain ⟨c1, c2, c3, c4⟩ := nq.alt hk k
  have e := AltR.det (h1.vp vx) (h2.vp vy) h3 (.ot (by rw [b2.kind]; exact c1) (by rw [a2.kind]; exact ⟨c2, c3, c4⟩))
  subst e
  obtain ⟨n, t, z, hz⟩ := oa_ k hk
  rw [hz] at ha ⊢
  have ha : ArgP 18 n t := ha
  unfold ArgP at ha
  rw [if_neg (by decide), if_neg (by decide), if_neg (by decide)] at ha
  obtain ⟨rfl, rfl⟩ := ha
  exact eqp2 a2 b2
 | @arb0 _ x a k hk h1 h2 =>
  have a2 := ih x (by rw [hk]; simp) (eP_ vq hk) (nq.kid (by rw [hk]; simp)) a h1
  exact absurd (by rw [← a2.kind, ← a2.emp]; exact h2) ((h20 x hk).1 k)
 | @cap0 _ x _ k hk h1 h2 =>
  have a2 := ih x (by rw [hk]; simp) (eP_ vq hk) (nq.kid (by rw [hk]; simp)) q' h1
  exact absurd (by rw [← a2.kind]; exact h2) ((h20 x hk).2 (by omega))
 | @one _ x a k hk h1 h2 h3 =>
  have a2 := ih x (by rw [hk]; simp) (eP_ vq hk) (nq.kid (by rw [hk]; simp)) a h1
  obtain ⟨n, t, z, hz⟩ := pL_ rfl hk
  rw [hz]
  exact eqp1 a2
 | leaf hk h h2 => exact .mk rfl rfl rfl (by rw [hk]) fun i x y hx => by simp at hx
theorem SR.det {p q q' : DPattern} (vp : VP p) (h : SR p q) (h' : SR p q') : q = q' := by
 induction h generalizing q' with
 | len k hn => cases h' with
  | len _ _ => rfl
  | cat k' => omega
  | alt k' => omega
  | arb0 k' => omega
  | cap0 k' => omega
  | one k' => omega
  | leaf _ w => exact absurd ⟨k, hn⟩ w
 | cat k hk h1 h2 h3 i1 i2 => cases h' with
  | len k' => omega
  | cat _ hk' g1 g2 g3 =>
   rw [hk] at hk'
   injection hk' with e1 e2
   injection e2 with e2 _
   subst e1 e2
   have w1 := i1 (b1_ vp hk).1 g1
   have w2 := i2 (b1_ vp hk).2 g2
   subst w1 w2
   exact CatR.det (h1.vp (b1_ vp hk).1) (h2.vp (b1_ vp hk).2) h3 g3
  | alt k' => omega
  | arb0 k' => omega
  | cap0 k' => omega
  | one k' => omega
  | leaf _ _ w => omega
 | alt k hk h1 h2 h3 i1 i2 => cases h' with
  | len k' => omega
  | alt _ hk' g1 g2 g3 =>
   rw [hk] at hk'
   injection hk' with e1 e2
   injection e2 with e2 _
   subst e1 e2
   have w1 := i1 (b1_ vp hk).1 g1
   have w2 := i2 (b1_ vp hk).2 g2
   subst w1 w2
   exact AltR.det (h1.vp (b1_ vp hk).1) (h2.vp (b1_ vp hk).2) h3 g3
  | cat k' => omega
  | arb0 k' => omega
  | cap0 k' => omega
  | one k' => omega
  | leaf _ _ w => omega
 | arb0 k hk h1 h2 i1 => cases h' with
  | len k' => omega
  | cat k' => omega
  | alt k' => omega
  | arb0 _ _ _ _ => rfl
  | cap0 k' => omega
  | one _ hk' g1 g2 g3 =>
   rw [hk] at hk'
   injection hk' with e1 _
   subst e1
   have w1 := i1 (eP_ vp hk) g1
   subst w1
   exact absurd h2 (g2 k)
  | leaf _ _ w => omega
 | cap0 k hk h1 h2 i1 => cases h' with
  | len k' => omega
  | cat k' => omega
  | alt k' => omega
  | arb0 k' => omega
  | cap0 _ hk' g1 g2 =>
   rw [hk] at hk'
   injection hk' with e1 _
   subst e1
   exact i1 (eP_ vp hk) g1
  | one _ hk' g1 g2 g3 =>
   rw [hk] at hk'
   injection hk' with e1 _
   subst e1
   have w1 := i1 (eP_ vp hk) g1
   subst w1
   exact absurd h2 (g3 (by omega))
  | leaf _ _ w => omega
 | one k hk h1 h2 h3 i1 => cases h' with
  | len k' => omega
  | cat k' => omega
  | alt k' => omega
  | arb0 k' hk' g1 g2 =>
   rw [hk] at hk'
   injection hk' with e1 _
   subst e1
   have w1 := i1 (eP_ vp hk) g1
   subst w1
   exact absurd g2 (h2 k')
  | cap0 k' hk' g1 g2 =>
   rw [hk] at hk'
   injection hk' with e1 _
   subst e1
   have w1 := i1 (eP_ vp hk) g1
   subst w1
   exact absurd g2 (h3 (by omega))
  | one _ hk' g1 _ _ =>
   rw [hk] at hk'
   injection hk' with e1 _
   subst e1
   have w1 := i1 (eP_ vp hk) g1
   subst w1
   rfl
  | leaf _ _ w => omega
 | leaf hk h h2 => cases h' with
  | len k' hn => exact absurd ⟨k', hn⟩ h
  | cat k' => omega
  | alt k' => omega
  | arb0 k' => omega
  | cap0 k' => omega
  | one k' => omega
  | leaf _ _ _ => rfl
theorem lS_ {p : DPattern} (h : VPat p) : aW_ p = some true := by rw [rv_ p (sm_vp p h.1), bs_ h]
theorem my_ {p q : DPattern} (hp : VPat p) (hq : VPat q) (hn : nd p + nd q + 1 ≤ 60) : ∃ a b r, SR p a ∧ SR q b ∧ CatR a b r ∧ bn_ p q = some (r, true) ∧ VPat r ∧ nd r ≤ 1 + nd p + nd q := by
 obtain ⟨a, a1, a2⟩ := simp_ok p hp.1
 obtain ⟨b, b1, b2⟩ := simp_ok q hq.1
 have va := a1.vp hp.1
 have vb := b1.vp hq.1
 obtain ⟨r, hr⟩ := catR_ex a va b vb
 have n1 := a1.nd
 have n2 := b1.nd
 have n3 := hr.nd
 have vr : VPat r := ⟨hr.vp va vb, by omega⟩
 refine ⟨a, b, r, a1, b1, hr, gI_ _ _ _ ?_, vr, by omega⟩
 unfold cY_
 rw [lS_ hp, Option.bind_some, if_neg (by simp), lS_ hq, Option.bind_some, if_neg (by simp), a2, Option.bind_some, b2, Option.bind_some, hr.F va vb, Option.bind_some, lS_ vr, Option.bind_some, if_neg (by simp)]
end Go.Am
end
