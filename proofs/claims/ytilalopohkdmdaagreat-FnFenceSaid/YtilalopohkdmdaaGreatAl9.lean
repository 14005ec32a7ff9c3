/- The law. -/
import Derived.Test.YtilalopohkdmdaaGreatAg1
import Derived.Test.YtilalopohkdmdaaGreatAg2
import Derived.Test.YtilalopohkdmdaaGreatAl8
section
set_option maxRecDepth 100000
set_option maxHeartbeats 2000000
set_option linter.unusedVariables false
set_option linter.unusedSimpArgs false
namespace Go.Am
inductive CalmP : DPattern → Prop
 | mk {p : DPattern} (h1 : p.Kind ≠ 14 ∧ p.Kind ≠ 15 ∧ p.Kind ≠ 17) (h2 : ∀ q ∈ p.Kids.l, CalmP q) : CalmP p
theorem CalmP.kid {p q : DPattern} (h : CalmP p) (hq : q ∈ p.Kids.l) : CalmP q := by cases h with | mk h1 h2 => exact h2 q hq
theorem CalmP.kind {p : DPattern} (h : CalmP p) : p.Kind ≠ 14 ∧ p.Kind ≠ 15 ∧ p.Kind ≠ 17 := by cases h with | mk h1 h2 => exact h1
def iH_ (env : Sl DNamed) : Prop := ∀ x ∈ env.l, CalmP x.Pattern
structure Cu (env : Sl DNamed) (r : Bool × aa_) : Prop where
 e : r.2.env_ = env
 m : r.2.most_ = 0
 c : r.1 = true ∨ r.2.code_ ≠ 0
def CPhi (env : Sl DNamed) (Φ : PhiT) : Prop := ∀ e S, S.env_ = env → S.most_ = 0 → Gv (Φ e S) (Cu env)
def CR (env : Sl DNamed) (R : MTy) : Prop := ∀ S p c Φ, CalmP p → S.env_ = env → S.most_ = 0 → CPhi env Φ → Gv (R S p c Φ) (Cu env)
theorem qo_ (env : Sl DNamed) : CPhi env (fun e (S : aa_) => ao_ S e) := fun e S h0 hm => by
 unfold ao_
 refine aW_ (fun _ => as_ (st_q _ _ S.code_ S.matches_) fun y hy => ?_) fun _ => as_ (st_q _ _ S.code_ S.matches_) fun y hy => ?_
 ·obtain ⟨b, t, cd, mt⟩ := y
  rcases hy with ⟨rfl, h⟩ | ⟨rfl, h, h'⟩
  ·exact am_ ⟨h0, hm, .inr (by show cd ≠ 0; intro w; simp only at h; omega)⟩
  ·exact am_ ⟨h0, hm, .inl rfl⟩
 ·obtain ⟨b, t, cd, mt⟩ := y
  rcases hy with ⟨rfl, h⟩ | ⟨rfl, h, h'⟩
  ·exact aW_ (fun _ => am_ ⟨h0, hm, .inr (by show cd ≠ 0; intro w; simp only at h; omega)⟩) fun w => absurd rfl w
  ·simp only at h h'; subst h h'
   refine aW_ (fun w => by cases w) fun _ => aW_ (fun _ => am_ ⟨h0, hm, .inr (by show (6 : Int) ≠ 0; decide)⟩) fun _ => as_ cE_ fun y _ => as_ app1 fun q hq => am_ ⟨h0, hm, .inl ?_⟩
   have hq : q.l = S.matches_.l ++ [⟨S.start_, e, y⟩] := hq
   have hm : S.most_ = 0 := hm
   show (!decide ((q.l.length : Int) = S.most_)) = true
   rw [hm, hq]
   simp; omega
section
variable {env : Sl DNamed} {R1 R2 : MTy} {p : DPattern} {c : Int} {Φ : PhiT}
theorem im_ {α : Type} {a : Sl α} {j : Int} : Gv (elt a j) (fun x => x ∈ a.l) := fun r hr => by
 unfold elt at hr
 split at hr
 ·exact List.mem_of_getElem? hr
 ·cases hr
theorem c_k1 (h1 : CR env R1) (hp : CalmP p) (hΦ : CPhi env Φ) : CPhi env (ag_ R1 R2 p Φ) := fun e S h0 hm => by
 unfold ag_
 exact as_ im_ fun y hy => as_ (h1 _ _ _ _ (hp.kid hy) h0 hm hΦ) fun r hr => am_ ⟨hr.e, hr.m, hr.c⟩
theorem c_k2 (h1 : CR env R1) (hp : CalmP p) (hΦ : CPhi env Φ) : CPhi env (ar_ R1 R2 c p Φ) := fun e S h0 hm => by
 unfold ar_
 exact aW_ (fun _ => am_ ⟨h0, hm, .inl rfl⟩) fun _ => as_ (h1 _ _ _ _ hp h0 hm hΦ) fun r hr => am_ ⟨hr.e, hr.m, hr.c⟩
theorem c_k3 (hΦ : CPhi env Φ) : CPhi env (ak_ R1 R2 p c Φ) := fun e S h0 hm => by
 unfold ak_
 refine as_ cE_ fun y _ => aW_ (fun _ => as_ (rc_j S.now_ _ S.code_ S.matches_ _) fun q hq => ?_) fun _ => as_ (Q := fun q => Cu env (q.1, D11 q.2)) (as_ (rc_j S.conds_ _ S.code_ S.matches_ _) fun q hq => ?_) fun q hq => as_ cE_ fun w _ => am_ ⟨hq.e, hq.m, hq.c⟩
 all_goals
  obtain ⟨b, cd, cs, mt⟩ := q
  rcases hq with ⟨rfl, h⟩ | ⟨rfl, h, h'⟩
  ·exact aW_ (fun w => by cases w) fun _ => am_ ⟨h0, hm, .inr (by show cd ≠ 0; intro w; simp only at h; omega)⟩
  ·exact aW_ (fun _ => as_ (hΦ _ _ h0 hm) fun r hr => am_ ⟨hr.e, hr.m, hr.c⟩) fun w => absurd rfl w
theorem rO_ (h1 : CR env R1) : CR env (aj_ R1 R2) := fun S p c Φ hp h0 hm hΦ => by
 unfold aj_
 have fail : ∀ r : Bool × aa_, Cu env r → ¬ r.1 = true → Cu env (false, NS r.2) := fun r hr w => ⟨hr.e, hr.m, .inr (hr.c.resolve_left w)⟩
 refine as_ im_ fun q hq => aW_ (fun _ => ?_) fun _ => aW_ (fun _ => as_ (h1 _ _ _ _ (hp.kid hq) h0 hm (c_k1 h1 hp hΦ)) fun r hr => am_ ⟨hr.e, hr.m, hr.c⟩) fun _ => aW_ (fun _ => ?_) fun _ => as_ (h1 _ _ _ _ (hp.kid hq) h0 hm (c_k3 hΦ)) fun r hr => am_ ⟨hr.e, hr.m, hr.c⟩
 ·exact as_ (h1 _ _ _ _ (hp.kid hq) h0 hm hΦ) fun r hr => aW_ (fun hb => as_ im_ fun q2 hq2 => as_ (h1 _ _ _ _ (hp.kid hq2) hr.e hr.m hΦ) fun r2 hr2 => am_ ⟨hr2.e, hr2.m, hr2.c⟩) fun w => am_ (fail r hr w)
 ·exact as_ (hΦ _ _ h0 hm) fun r hr => aW_ (fun hb => as_ (h1 _ _ _ _ (hp.kid hq) hr.e hr.m (c_k2 h1 hp hΦ)) fun r2 hr2 => am_ ⟨hr2.e, hr2.m, hr2.c⟩) fun w => am_ (fail r hr w)
theorem qm_ (hE : iH_ env) (h1 : CR env R1) (h2 : CR env R2) : CR env (ac_ R1 R2) := fun S p c Φ hp h0 hm hΦ => by
 unfold ac_
 refine as_ (st_q _ _ S.code_ S.matches_) fun y hy => ?_
 obtain ⟨b, t, cd, mt⟩ := y
 rcases hy with ⟨rfl, h⟩ | ⟨rfl, h, h'⟩
 ·exact aW_ (fun _ => am_ ⟨h0, hm, .inr (by show cd ≠ 0; intro w; simp only at h; omega)⟩) fun w => absurd rfl w
 simp only at h h'; subst h h'
 have k := hp.kind
 refine aW_ (fun w => by cases w) fun _ => aW_ (fun _ => ?_) fun _ => aW_ (fun _ => as_ cE_ fun y4 _ => ?_) fun _ => aW_ (fun w => absurd (of_decide_eq_true w) k.1) fun _ => aW_ (fun w => absurd (of_decide_eq_true w) k.2.1) fun _ => aW_ (fun _ => am_ ⟨h0, hm, .inl rfl⟩) fun _ => aW_ (fun w => absurd (of_decide_eq_true w) k.2.2) fun _ => aW_ (fun _ => ?_) fun _ => aW_ (fun _ => ?_) fun _ => aW_ (fun _ => as_ (h2 _ _ _ _ hp h0 hm hΦ) fun r hr => am_ ⟨hr.e, hr.m, hr.c⟩) fun _ => as_ cE_ fun e _ => aW_ (fun _ => am_ ⟨h0, hm, .inl rfl⟩) fun _ => as_ (hΦ _ _ h0 hm) fun r hr => am_ ⟨hr.e, hr.m, hr.c⟩
 ·refine as_ (Q := fun x => Cu env (ei_ true x)) (gw_ (fun st : Int × T11 => st.2.1 = env ∧ st.2.2.2.2.2.2.1 = 0) ⟨h0, hm⟩ fun st hst => aW_ (fun _ => as_ (hΦ _ _ hst.1 hst.2) fun r hr => aW_ (fun w => am_ ⟨hr.e, hr.m, .inr (hr.c.resolve_left (by intro q; rw [q] at w; cases w))⟩) fun w => am_ ⟨hr.e, hr.m⟩) fun _ => am_ ⟨hst.1, hst.2, .inl rfl⟩) fun x hx => ?_
  cases x with
  | inl y => exact am_ hx
  | inr r => exact am_ hx
 ·refine as_ (Q := fun x => Cu env (ei_ true x)) (gw_ (fun st : Int × T11 => st.2.1 = env ∧ st.2.2.2.2.2.2.1 = 0) ⟨h0, hm⟩ fun st hst => aW_ (fun _ => as_ (hΦ _ _ hst.1 hst.2) fun r hr => aW_ (fun w => am_ ⟨hr.e, hr.m, .inr (hr.c.resolve_left (by intro q; rw [q] at w; cases w))⟩) fun w => as_ cE_ fun v _ => am_ ⟨hr.e, hr.m⟩) fun _ => am_ ⟨hst.1, hst.2, .inl rfl⟩) fun x hx => ?_
  cases x with
  | inl y => exact am_ hx
  | inr r => exact am_ hx
 ·refine as_ (rc_j S.now_ _ S.code_ S.matches_ _) fun q hq => ?_
  obtain ⟨b, cd, cs, mt⟩ := q
  rcases hq with ⟨rfl, h⟩ | ⟨rfl, h, h'⟩
  ·exact aW_ (fun w => by cases w) fun _ => am_ ⟨h0, hm, .inr (by show cd ≠ 0; intro w; simp only at h; omega)⟩
  ·exact aW_ (fun _ => as_ (hΦ _ _ h0 hm) fun r hr => am_ ⟨hr.e, hr.m, hr.c⟩) fun w => absurd rfl w
 ·exact as_ cE_ fun i _ => aW_ (fun _ => am_ ⟨h0, hm, .inr (by show (5 : Int) ≠ 0; decide)⟩) fun _ => as_ im_ fun q hq => as_ (h1 _ _ _ _ (hE q (h0 ▸ hq)) h0 hm hΦ) fun r hr => am_ ⟨hr.e, hr.m, hr.c⟩
theorem oC_ (hE : iH_ env) : ∀ n, CR env (BG_impl_search_match n).1 ∧ CR env (BG_impl_search_match n).2
 | 0 => ⟨fun _ _ _ _ _ _ _ _ => j2_, fun _ _ _ _ _ _ _ _ => j2_⟩
 | n + 1 => ⟨qm_ hE (oC_ hE n).1 (oC_ hE n).2, rO_ (oC_ hE n).1⟩
end
end Go.Am
end
