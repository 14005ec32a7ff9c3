/- The law. -/
import Derived.Test.YtkgmfmcpbgffpaaAg1
import Derived.Test.YtkgmfmcpbgffpaaAl30
section
set_option maxRecDepth 100000
set_option maxHeartbeats 4000000
set_option linter.unusedVariables false
set_option linter.unusedSimpArgs false
namespace Go.Am
section
variable {s : ByteArray} {f : Int}
theorem vX_ {R R2 : MTy} {c : Int} {p : DPattern} {Φ : PhiT} (S : aa_) : al_ R R2 c p Φ c S = some (true, NS S) := by
 unfold al_
 rw [if_pos (by simp)]
theorem rD_ (hs : s.size ≤ 200) (hf : f ≤ 800) {n : Nat} (ih : ∀ n1, n1 < n → ∀ p a, SR p a → VP p → tl p ≤ 200 → PK s f n1 p a) {p : DPattern} (vp : VP p) (ht : tl p ≤ 200) (hk : p.Kids.l = []) (h6 : ¬ (p.Kind = 6 ∧ p.Num = 0)) (h2 : p.Kind < 18 ∨ 22 < p.Kind) : PK s f n p ⟨p.Kind, p.Num, p.Text, ⟨false, []⟩⟩ := by
 have hsr : SR p ⟨p.Kind, p.Num, p.Text, ⟨false, []⟩⟩ := .leaf hk h6 h2
 have va := hsr.vp vp
 have hq : QR p ⟨p.Kind, p.Num, p.Text, ⟨false, []⟩⟩ := ⟨vp, .inr ⟨hsr, ht⟩⟩
 have t1 : T1P s f n p ⟨p.Kind, p.Num, p.Text, ⟨false, []⟩⟩ := sM_ hs hf (fun n1 hn p a h1 h2 h3 => (ih n1 hn p a h1 h2 h3).t1) ⟨vp, rfl, rfl, rfl, by rw [hk], fun i x y hx => by rw [hk] at hx; simp at hx⟩ hq
 have hta := gg_ hs hf va (show p.Kind ≠ 18 by omega) t1
 by_cases k1 : p.Kind = 1
 ·obtain ⟨z, hz⟩ := oo_ vp k1
  generalize hT : p.Text = T at hz
  subst hz
  have hTs : T.size ≤ 200 := l7_ vp
  have tlp : tl (⟨1, 0, T, ⟨z, []⟩⟩ : DPattern) = T.size := by rw [gJ_, if_pos rfl]; rfl
  refine ⟨t1, fun b q Φ Φ' vb htb hcr h => ?_, hta, fun ea b Φ' k S S' c K Ψ o' hc hr hA hK => ?_⟩
  ·have hcr : CatR ⟨1, 0, T, ⟨false, []⟩⟩ b q := hcr
   have va : VP ⟨1, 0, T, ⟨false, []⟩⟩ := va
   by_cases ea : Emp (⟨1, 0, T, ⟨false, []⟩⟩ : DPattern)
   ·have e := CatR.det va vb hcr (.e1 ea)
    subst e
    have eT : T = ⟨#[]⟩ := ea.2
    subst eT
    exact (HX.pre (n := n) (Φs := fun _ => Φ) (fun _ _ => h) fun k e S S' o' he hr hk => jH_ gW_ hf hr fun n1 S1 hn hr1 => by rw [oH_ hs he]; exact hk n1 S1 hn hr1).mono (by decide)
   by_cases eb : Emp b
   ·have e := CatR.det va vb hcr (.e2 ea eb)
    subst e
    refine ⟨fun w => absurd w ea, fun _ _ e S S' he hr => jH_ gW_ hf hr fun n1 S1 hn hr1 => ?_, fun u v w => absurd w (by show ¬ (1 : Int) = 19; decide), fun w => absurd rfl w⟩
    exact nW_ (k := 0) hs hTs he (hr1.up (by decide)) fun e he => h.1 eb e S1 S' he (hr1.up (by decide))
   by_cases hss : b.Kind = 1
   ·have hbt := tls hss
    have e := CatR.det va vb hcr (.ss ea eb rfl hss (by show T.size + b.Text.size ≤ 200; omega))
    subst e
    have ha := CatR.ne hcr (.inl ea)
    refine ⟨fun w => absurd w ha, fun _ _ e S S' he hr => jH_ gW_ hf hr fun n1 S1 hn hr1 => ?_, fun u v w => absurd w (by show ¬ (1 : Int) = 19; decide), fun w => absurd rfl w⟩
    exact pd_ (k := 0) hs (by omega) he (hr1.up (by decide)) fun e he => h.2.1 eb hss e S1 S' he (hr1.up (by decide))
   by_cases hsc : ∃ u v, b.Kind = 19 ∧ b.Kids.l = [u, v] ∧ u.Kind = 1
   ·obtain ⟨u, v, k19, ek, ku⟩ := hsc
    have hbt := tls ku
    have hb2 := tl2 ek
    have e := CatR.det va vb hcr (.sc ea rfl k19 ek ku (by show T.size + u.Text.size ≤ 200; omega))
    subst e
    refine ⟨fun w => absurd w.1 (by show ¬ (19 : Int) = 1; decide), fun _ w => absurd w (by show ¬ (19 : Int) = 1; decide), fun u' v' _ w _ m e S S' he hr => jH_ gW_ hf hr fun n1 S1 hn hr1 => ?_, fun _ w => absurd rfl (w _ _ rfl rfl)⟩
    injection w with w1 w2
    injection w2 with w2 _
    subst w1 w2
    exact pd_ (k := 0) hs (by omega) he (hr1.up (by decide)) fun e he => h.2.2.1 u v k19 ek ku m e S1 S' he (hr1.up (by decide))
   ·have e := CatR.det va vb hcr (.ot ea eb ⟨by show ¬ (1 : Int) = 16; decide, by show ¬ (1 : Int) = 15; decide, by show ¬ (1 : Int) = 19; decide⟩ (fun w => hss w.2.1) fun u v e w => hsc ⟨u, v, w.2.1, e, w.2.2.1⟩)
    subst e
    refine ⟨fun w => absurd w.1 (by show ¬ (19 : Int) = 1; decide), fun _ w => absurd w (by show ¬ (19 : Int) = 1; decide), fun u' v' _ w _ m e S S' he hr => jH_ gW_ hf hr fun n1 S1 hn hr1 => ?_, fun _ w => absurd rfl (w _ _ rfl rfl)⟩
    injection w with w1 w2
    injection w2 with w2 _
    subst w1 w2
    exact nW_ (k := 0) hs hTs he (hr1.up (by decide)) fun e he => h.kk hf vb eb m he (hr1.up (by decide))
  ·have eT : T = ⟨#[]⟩ := ea.2
   subst eT
   exact th_L (jH_ h5_ hf hr fun n1 S1 hn hr1 => by rw [oH_ hs hc]; exact th_U (hK S1 Ψ hr1 hA))
 ·refine ⟨t1, ?_, hta, fun ea => absurd ea.1 k1⟩
  by_cases kf : p.Kind = 16 ∨ p.Kind = 15
  ·exact lH_ va kf t1
  ·exact lX_ hf va ⟨k1, fun w => kf (.inr w), fun w => kf (.inl w), show p.Kind ≠ 19 by omega⟩ t1
theorem ua_ (hs : s.size ≤ 200) (hf : f ≤ 800) : ∀ n p a, SR p a → VP p → tl p ≤ 200 → PK s f n p a := by
 intro n
 induction n using Nat.strongRecOn with
 | ind n ih =>
 intro p a h vp ht
 have hsr := h
 have va := h.vp vp
 cases h with
 | leaf hk h6 h2 => exact rD_ hs hf ih vp ht hk h6 h2
 | len k hn =>
  obtain ⟨n', tx, z, hz⟩ := ju_ vp k (by decide)
  have hax : ArgP p.Kind p.Num p.Text := vp.node.2.2
  subst hz
  have hn : n' = 0 := hn
  subst hn
  have htx : tx = ⟨#[]⟩ := by
   have hax : ArgP 6 0 tx := hax
   unfold ArgP at hax
   rw [if_neg (by decide), if_pos (by decide)] at hax
   exact hax.1
  subst htx
  have t1 : T1P s f n ⟨6, 0, ⟨#[]⟩, ⟨z, []⟩⟩ emptyP := on_ hs hf va ⟨rfl, rfl⟩ fun e S S' Φ Φ' hΦ he hr => pe_ gW_ hs he hf hr fun n1 S1 hn hr1 => hΦ e S1 S' he (hr1.up (by decide))
  refine ⟨t1, fun b q Φ Φ' vb htb hcr h => ?_, gg_ hs hf va (by show ¬ (1 : Int) = 18; decide) t1, fun ea b Φ' k S S' c K Ψ o' hc hr hA hK => th_L (pe_ h5_ hs hc hf hr fun n1 S1 hn hr1 => th_U (hK S1 Ψ hr1 hA))⟩
  have e := CatR.det va vb hcr (.e1 ⟨rfl, rfl⟩)
  subst e
  exact (HX.pre (n := n) (Φs := fun _ => Φ) (fun _ _ => h) fun k e S S' o' he hr hk => pe_ gW_ hs he hf hr hk).mono (by decide)
 | @cat _ x y a1 a2 _ k hk h1 h2 h3 =>
  obtain ⟨vx, vy⟩ := b1_ vp hk
  have htl := tl2 hk
  have v1 := h1.vp vx
  have v2 := h2.vp vy
  have l1 := h1.tl
  have l2 := h2.tl
  have n1f := h1.nf
  have n2f := h2.nf
  obtain ⟨kn, tx, z, hz⟩ := oa_ k hk
  have PX : ∀ n1, n1 < n → PK s f n1 x a1 := fun n1 hn => ih n1 hn x a1 h1 vx (by omega)
  have PY : ∀ n1, n1 < n → PK s f n1 y a2 := fun n1 hn => ih n1 hn y a2 h2 vy (by omega)
  have tc2 : ∀ b q Φ Φ', VP b → tl p + tl b ≤ 200 → CatR a b q → HX s f 0 b Φ Φ' → HX s f 2 q (fun e S => MM n S p e Φ) Φ' := fun b q Φ Φ' vb htb hq h => by
   obtain ⟨u, hu⟩ := catR_ex a2 v2 b vb
   have vu := hu.vp v2 vb
   have lu := hu.tl
   obtain ⟨q', hq'⟩ := catR_ex a1 v1 u vu
   have e := qR_ h3 v1 v2 n1f n2f b q u q' vb (by omega) hq hu hq'
   subst e
   refine HX.pre (n := n) (Φs := fun n1 e S => MM n1 S x e (KK n1 y Φ)) (fun n1 hn => ?_) fun k e S S' o' he hr hk => ?_
   ·exact (PX n1 hn).tc u q _ Φ' vu (by omega) hq' (((PY n1 hn).tc b u Φ Φ' vb (by omega) hu h).ns)
   ·rw [hz]
    exact mj_ gW_ hf hr hk
  have t1 : T1P s f n p a := by
   by_cases ea : Emp a
   ·refine on_ hs hf va ea fun e S S' Φ Φ' hΦ he hr => ?_
    exact (tc2 emptyP emptyP Φ Φ' emptyP_vp (by rw [jg_]; exact ht) (.e1 ea) (ox_ hΦ)).1 ⟨rfl, rfl⟩ e S S' he hr
   ·intro m S S' c Φ Φ' hc hr hΦ
    exact (tc2 emptyP a Φ Φ' emptyP_vp (by rw [jg_]; exact ht) (.e2 ea ⟨rfl, rfl⟩) (ox_ hΦ)).full hf va ea (by decide) hc (hr.up (by decide))
  refine ⟨t1, fun b q Φ Φ' vb htb hq h => (tc2 b q Φ Φ' vb htb hq h).mono (by decide), ?_, fun ea b Φ' k S S' c K Ψ o' hc hr hA hK => ?_⟩
  ·by_cases k18 : a.Kind = 18
   ·intro b q c Φ Φ' Ψ hc vb hq hΦ hA
    rcases vE_ h3 n1f k18 with ⟨e1, rfl⟩ | ⟨e1, e2, rfl⟩
    ·have key : ∀ S S' o', Rd s f 0 S S' → (∀ n1, n1 < n → ∀ S1 Ψ1, Rd s f 0 S1 S' → HA s f b c Ψ1 Φ' → Gt (TH (MM n1 S1 y c Φ) Ψ1) o' (PD s f)) → Gt (TH (MM n S p c Φ) Ψ) o' (PD s f) := fun S S' o' hr hkk => by
      rw [hz]
      refine th_L (mj_ h5_ hf hr fun n1 S1 hn hr1 => th_U ((PX n1 hn).el e1 b Φ' _ S1 S' c _ Ψ o' hc hr1 hA fun S2 Ψ1 hr2 hA1 => ?_))
      unfold KK
      rw [ip_]
      exact hkk n1 hn (NS S2) Ψ1 (by
       have := hr2.up (k' := 0) (by decide)
       cases this with
       | mk hE h4 h5 ht ht' => exact .mk hE h4 h5 ht ht') hA1
     exact ⟨fun w S S' hr => key S S' _ hr fun n1 hn S1 Ψ1 hr1 hA1 => ((PY n1 hn).ta b q c Φ Φ' Ψ1 hc vb hq hΦ hA1).1 w S1 S' hr1, fun w m S S' hr => key S S' _ hr fun n1 hn S1 Ψ1 hr1 hA1 => ((PY n1 hn).ta b q c Φ Φ' Ψ1 hc vb hq hΦ hA1).2 w m S1 S' hr1⟩
    ·have hkk : ∀ n1, n1 < n → PhiD s f (KK n1 y Φ) Φ' := fun n1 hn e S S' he hr => by
      have := ((PY n1 hn).tc emptyP emptyP Φ Φ' emptyP_vp (by have : tl emptyP = 0 := jg_ _; omega) (.e1 e2) (ox_ hΦ)).ns
      exact this.1 ⟨rfl, rfl⟩ e S S' he hr
     have key : ∀ S S' o', Rd s f 0 S S' → (∀ n1, n1 < n → ∀ S1, Rd s f 0 S1 S' → Gt (TH (MM n1 S1 x c (KK n1 y Φ)) Ψ) o' (PD s f)) → Gt (TH (MM n S p c Φ) Ψ) o' (PD s f) := fun S S' o' hr hkk => by
      rw [hz]
      exact th_L (mj_ h5_ hf hr fun n1 S1 hn hr1 => th_U (hkk n1 hn S1 (hr1.up (by decide))))
     exact ⟨fun w S S' hr => key S S' _ hr fun n1 hn S1 hr1 => ((PX n1 hn).ta b q c _ Φ' Ψ hc vb hq (hkk n1 hn) hA).1 w S1 S' hr1, fun w m S S' hr => key S S' _ hr fun n1 hn S1 hr1 => ((PX n1 hn).ta b q c _ Φ' Ψ hc vb hq (hkk n1 hn) hA).2 w m S1 S' hr1⟩
   ·exact gg_ hs hf va k18 t1
  ·have e12 : Emp a1 ∧ Emp a2 := by
    by_cases w1 : Emp a1
    ·by_cases w2 : Emp a2
     ·exact ⟨w1, w2⟩
     ·exact absurd ea (h3.ne (.inr w2))
    ·exact absurd ea (h3.ne (.inl w1))
   rw [hz]
   refine th_L (mj_ h5_ hf hr fun n1 S1 hn hr1 => th_U ((PX n1 hn).el e12.1 b Φ' _ S1 S' c _ Ψ o' hc hr1 hA fun S2 Ψ1 hr2 hA1 => ?_))
   unfold KK
   rw [ip_]
   exact (PY n1 hn).el e12.2 b Φ' _ (NS S2) S' c K Ψ1 o' hc (by cases hr2 with | mk hE h4 h5 ht ht' => exact .mk hE h4 h5 ht ht') hA1 fun S3 Ψ3 hr3 hA3 => hK S3 Ψ3 (hr3.up (by omega)) hA3
 | @alt _ x y a1 a2 _ k hk h1 h2 h3 =>
  obtain ⟨vx, vy⟩ := b1_ vp hk
  have htl := tl2 hk
  have v1 := h1.vp vx
  have v2 := h2.vp vy
  have n1f := h1.nf
  obtain ⟨kn, tx, z, hz⟩ := oa_ k hk
  have PX : ∀ n1, n1 < n → PK s f n1 x a1 := fun n1 hn => ih n1 hn x a1 h1 vx (by omega)
  have PY : ∀ n1, n1 < n → PK s f n1 y a2 := fun n1 hn => ih n1 hn y a2 h2 vy (by omega)
  have nopY : ∀ n1, n1 < n → a2.Kind = 16 → ∀ c Φ, Rg s c → NopG s f (fun S => (MM n1 S y c Φ).bind fun y => some (y.1, NS y.2)) := fun n1 hn k2 c Φ hc => tZ_ hs hf v2 (.inl k2) (PY n1 hn).t1 hc fun w => absurd w (dR_ (by omega))
  have t1 : T1P s f n p a := fun m S S' c Φ Φ' hc hr hΦ => by
   have hy : ∀ n1, n1 < n → HA s f a2 c (fun S => (MM n1 S y c Φ).bind fun y => some (y.1, NS y.2)) Φ' := fun n1 hn => ⟨fun w => nopY n1 hn w c Φ hc, fun _ m S S' hr => hp_ ((PY n1 hn).t1 m S S' c Φ Φ' hc (hr.up (by decide)) hΦ)⟩
   have hx : ∀ n1, n1 < n → HA s f a c (fun S => AA n1 x y S c Φ) Φ' := fun n1 hn => (PX n1 hn).ta a2 a c Φ Φ' _ hc v2 h3 hΦ (hy n1 hn)
   rw [hz]
   refine k3_ gW_ hf hr fun n1 S1 hn hr1 => ?_
   by_cases k16 : a.Kind = 16
   ·obtain ⟨kn', tx', z', hz'⟩ := ju_ va k16 (by decide)
    rw [hz']
    exact rT_ hf (by decide) hr1 fun n2 S2 _ hr2 => (hx n1 hn).1 k16 S1 S2 (hr2.up (by decide))
   ·exact (hx n1 hn).2 k16 m S1 S' (hr1.up (by decide))
  refine ⟨t1, ?_, fun b q c Φ Φ' Ψ hc vb hq hΦ hA => ?_, fun ea b Φ' k S S' c K Ψ o' hc hr hA hK => ?_⟩
  ·rcases ux_ h3 n1f with ⟨k16, rfl⟩ | ⟨_, k16, rfl⟩ | ⟨k15, rfl⟩ | k18
   ·intro b q Φ Φ' vb htb hq h
    refine (HX.pre (n := n) (Φs := fun n1 e S => (MM n1 (NS S) y e Φ).bind fun y => some (y.1, NS y.2)) (fun n1 hn => ((PY n1 hn).tc b q Φ Φ' vb (by omega) hq h).ns) fun k e S S' o' he hr hk => ?_).mono (by decide)
    rw [hz]
    refine k3_ gW_ hf hr fun n1 S1 hn hr1 => ?_
    rw [og_]
    refine th_L fun r _ hv _ => ?_
    rcases m1_ hs hf v1 (.inl k16) (PX n1 hn).t1 he (fun w => absurd w (dR_ (by omega))) hr1 r hv with hb | ⟨g1, g2⟩
    ·exact h5_.1 r () hb
    ·unfold TH
     rw [Option.bind_some, if_pos g1]
     exact hk n1 (NS r.2) hn (g2.up (by omega))
   ·intro b q Φ Φ' vb htb hq h
    refine (HX.pre (n := n) (Φs := fun n1 e S => MM n1 S x e Φ) (fun n1 hn => (PX n1 hn).tc b q Φ Φ' vb (by omega) hq h) fun k e S S' o' he hr hk => ?_).mono (by decide)
    rw [hz]
    refine k3_ gW_ hf hr fun n1 S1 hn hr1 => ?_
    rw [og_]
    exact oR_ (hk n1 S1 hn hr1) (nopY n1 hn k16 e Φ he)
   ·exact lH_ va (.inr k15) t1
   ·exact lX_ hf va ⟨by omega, by omega, by omega, by omega⟩ t1
  ·obtain ⟨u, hu⟩ := altR_ex a2 v2 b vb
   have vu := hu.vp v2 vb
   obtain ⟨q', hq'⟩ := altR_ex a1 v1 u vu
   have e := tq_ h3 v1 v2 b q u q' vb hq hu hq'
   subst e
   have hx : ∀ n1, n1 < n → HA s f q c (fun S => TH (MM n1 S x c Φ) (fun S => TH (MM n1 S y c Φ) Ψ)) Φ' := fun n1 hn => (PX n1 hn).ta u q c Φ Φ' _ hc vu hq' hΦ ((PY n1 hn).ta b u c Φ Φ' Ψ hc vb hu hΦ hA)
   have key : ∀ S S' o', Rd s f 0 S S' → (∀ n1, n1 < n → ∀ S1, Rd s f 0 S1 S' → Gt (TH (MM n1 S1 x c Φ) (fun S => TH (MM n1 S y c Φ) Ψ)) o' (PD s f)) → Gt (TH (MM n S p c Φ) Ψ) o' (PD s f) := fun S S' o' hr hkk => by
    rw [hz]
    refine th_L (k3_ h5_ hf hr fun n1 S1 hn hr1 => th_U ?_)
    rw [og_, rl_]
    simp only [ip_]
    exact hkk n1 hn S1 (hr1.up (by decide))
   exact ⟨fun w S S' hr => key S S' _ hr fun n1 hn S1 hr1 => (hx n1 hn).1 w S1 S' hr1, fun w m S S' hr => key S S' _ hr fun n1 hn S1 hr1 => (hx n1 hn).2 w m S1 S' hr1⟩
  ·rw [hz]
   refine th_L (k3_ h5_ hf hr fun n1 S1 hn hr1 => th_U ?_)
   rw [og_, rl_]
   simp only [ip_]
   rcases ux_ h3 n1f with ⟨k16, rfl⟩ | ⟨_, k16, rfl⟩ | ⟨k15, rfl⟩ | k18
   ·refine th_L fun r _ hv _ => ?_
    rcases m1_ hs hf v1 (.inl k16) (PX n1 hn).t1 hc (fun w => absurd w (dR_ (by omega))) hr1 r hv with hb | ⟨g1, g2⟩
    ·exact h5_.1 r () hb
    ·have e : TH (some r) (fun S => TH (MM n1 S y c K) Ψ) = TH (MM n1 (NS r.2) y c K) Ψ := by
      conv => lhs; unfold TH
      rw [Option.bind_some, if_pos g1]
      rfl
     rw [e]
     exact (PY n1 hn).el ea b Φ' _ (NS r.2) S' c K Ψ o' hc g2 hA fun S3 Ψ3 hr3 hA3 => hK S3 Ψ3 (hr3.up (by omega)) hA3
   ·refine (PX n1 hn).el ea b Φ' _ S1 S' c K _ o' hc hr1 ?_ fun S3 Ψ3 hr3 hA3 => hK S3 Ψ3 (hr3.up (by omega)) hA3
    have := q0_ (b := b) (c := c) hA (nopY n1 hn k16 c K hc)
    simp only [ip_] at this
    exact this
   ·exact absurd ea.1 (by omega)
   ·exact absurd ea.1 (by omega)
 | @arb0 _ x a1 k hk h1 h2 =>
  have vx := eP_ vp hk
  have htl := tl1 hk
  have v1 := h1.vp vx
  obtain ⟨kn, tx, z, hz⟩ := pL_ k hk
  have PX : ∀ n1, n1 < n → PK s f n1 x a1 := fun n1 hn => ih n1 hn x a1 h1 vx (by omega)
  have nop : ∀ n1, n1 < n → ∀ c Φ, Rg s c → NopG s f (fun S => (MM n1 S x c (al_ (MM n1) (BG_impl_search_match n1).2 c ⟨20, kn, tx, ⟨z, [x]⟩⟩ Φ)).bind fun y => some (y.1, NS y.2)) := fun n1 hn c Φ hc => tZ_ hs hf v1 h2 (PX n1 hn).t1 hc fun _ S => vX_ S
  have pre : ∀ k e S S' Φ (o' : Option (Bool × aa_)), Rg s e → Rd s f k S S' → (∀ n1 S1, n1 < n → Rd s f (k - 2) S1 S' → Gt (Φ e S1) o' (PD s f)) → Gt (MM n S p e Φ) o' (PD s f) := fun k e S S' Φ o' he hr hk => by
   rw [hz]
   exact qW_ gW_ hf hr fun n1 S1 hn hr1 => oR_ (hk n1 S1 hn hr1) (nop n1 hn e Φ he)
  have t1 : T1P s f n p emptyP := on_ hs hf va ⟨rfl, rfl⟩ fun e S S' Φ Φ' hΦ he hr => pre _ e S S' Φ _ he hr fun n1 S1 hn hr1 => hΦ e S1 S' he (hr1.up (by decide))
  refine ⟨t1, fun b q Φ Φ' vb htb hcr h => ?_, gg_ hs hf va (by show ¬ (1 : Int) = 18; decide) t1, fun ea b Φ' k S S' c K Ψ o' hc hr hA hK => ?_⟩
  ·have e := CatR.det va vb hcr (.e1 ⟨rfl, rfl⟩)
   subst e
   exact (HX.pre (n := n) (Φs := fun _ => Φ) (fun _ _ => h) fun k e S S' o' he hr hk => pre k e S S' Φ o' he hr hk).mono (by decide)
  ·rw [hz]
   refine th_L (qW_ h5_ hf hr fun n1 S1 hn hr1 => th_U ?_)
   have e := rl_ (K c S1) (fun S => (MM n1 S x c (al_ (MM n1) (BG_impl_search_match n1).2 c ⟨20, kn, tx, ⟨z, [x]⟩⟩ K)).bind fun y => some (y.1, NS y.2)) Ψ
   have g := hK S1 _ hr1 (q0_ hA (nop n1 hn c K hc))
   rw [← e] at g
   exact g
 | @cap0 _ x _ k hk h1 h2 =>
  have vx := eP_ vp hk
  have htl := tl1 hk
  have PX : ∀ n1, n1 < n → PK s f n1 x a := fun n1 hn => ih n1 hn x a h1 vx (by omega)
  have t1 : T1P s f n p a := fun m S S' c Φ Φ' hc hr hΦ => by
   rcases k with k | k
   ·obtain ⟨kn, tx, z, hz⟩ := pL_ k hk
    rw [hz]
    exact qi_ gW_ hf hr fun n1 S1 hn hr1 => mC_ va h2 (PX n1 hn).t1 _ Φ' hc (hr1.up (by decide))
   ·obtain ⟨kn, tx, z, hz⟩ := pL_ k hk
    rw [hz]
    exact qe_ gW_ hf hr fun n1 S1 hn hr1 => mC_ va h2 (PX n1 hn).t1 _ Φ' hc (hr1.up (by decide))
  exact ⟨t1, lH_ va h2 t1, gg_ hs hf va (by omega) t1, fun ea => absurd ea.1 (by omega)⟩
 | @one _ x a1 k hk h1 h2 h3 =>
  have vx := eP_ vp hk
  have htl := tl1 hk
  have t1 : T1P s f n p ⟨p.Kind, p.Num, p.Text, ⟨false, [a1]⟩⟩ := sM_ hs hf (fun n1 hn p a g1 g2 g3 => (ih n1 hn p a g1 g2 g3).t1) ⟨vp, rfl, rfl, rfl, by rw [hk]; rfl, fun i x' y' hx hy => by
   rw [hk] at hx
   rcases i with _ | i
   ·injection hx with hx; injection hy with hy; subst hx; subst hy; exact ⟨vx, .inr ⟨h1, by omega⟩⟩
   ·simp at hx⟩ ⟨vp, .inr ⟨hsr, ht⟩⟩
  exact ⟨t1, lX_ hf va ⟨show p.Kind ≠ 1 by omega, show p.Kind ≠ 15 by omega, show p.Kind ≠ 16 by omega, show p.Kind ≠ 19 by omega⟩ t1, gg_ hs hf va (show p.Kind ≠ 18 by omega) t1, fun ea => absurd ea.1 (show p.Kind ≠ 1 by omega)⟩
end
end Go.Am
end
