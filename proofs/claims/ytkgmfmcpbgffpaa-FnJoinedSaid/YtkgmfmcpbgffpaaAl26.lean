/- The law. -/
import Derived.Test.YtkgmfmcpbgffpaaAd0
import Derived.Test.YtkgmfmcpbgffpaaAl25
section
set_option maxRecDepth 100000
set_option maxHeartbeats 1000000
set_option linter.unusedVariables false
set_option linter.unusedSimpArgs false
namespace Go.Am
theorem qZ_ {a u z l be r : DPattern} (va : VP a) (vu : VP u) (vz : VP z) (ka : a.Kind = 1) (ku : u.Kind = 1) (ea : ¬ Emp a) (eu : ¬ Emp u) (ez : ¬ Emp z) (ht : tl a + tl u + tl z ≤ 200)
  (h1 : CatR (strP (a.Text ++ u.Text)) z l) (h2 : CatR u z be) (h3 : CatR a be r) : l = r := by
 have sa := tls ka
 have su := tls ku
 have vau : VP (strP (a.Text ++ u.Text)) := hT_ (by rw [ByteArray.size_append]; omega)
 have eau : ¬ Emp (strP (a.Text ++ u.Text)) := fJ_ fun w => ea ⟨ka, w⟩
 have euz : ∀ t, ¬ Emp (strP (u.Text ++ t)) := fun t => fJ_ fun w => eu ⟨ku, w⟩
 by_cases z1 : z.Kind = 1
 ·have sz := tls z1
  have hb := CatR.det vu vz h2 (.ss eu ez ku z1 (by omega))
  subst hb
  have hl := CatR.det vau vz h1 (.ss eau ez rfl z1 (by show (a.Text ++ u.Text).size + _ ≤ _; rw [ByteArray.size_append]; omega))
  have hr := CatR.det va (hT_ (by rw [ByteArray.size_append]; omega)) h3 (.ss ea (euz _) ka rfl (by show _ + (u.Text ++ z.Text).size ≤ _; rw [ByteArray.size_append]; omega))
  rw [hl, hr]
  show strP ((a.Text ++ u.Text) ++ z.Text) = strP (a.Text ++ (u.Text ++ z.Text))
  rw [ByteArray.append_assoc]
 by_cases z19 : ∃ x y, z.Kind = 19 ∧ z.Kids.l = [x, y] ∧ x.Kind = 1
 ·obtain ⟨x, y, k19, e, k1⟩ := z19
  have sx := tls k1
  have := tl2 e
  obtain ⟨vx, vy⟩ := b1_ vz e
  have hb := CatR.det vu vz h2 (.sc eu ku k19 e k1 (by omega))
  subst hb
  have hl := CatR.det vau vz h1 (.sc eau rfl k19 e k1 (by show (a.Text ++ u.Text).size + _ ≤ _; rw [ByteArray.size_append]; omega))
  have hr := CatR.det va (fw_ (hT_ (by rw [ByteArray.size_append]; omega)) vy) h3 (.sc ea ka rfl rfl rfl (by show _ + (u.Text ++ x.Text).size ≤ _; rw [ByteArray.size_append]; omega))
  rw [hl, hr]
  show catP (strP ((a.Text ++ u.Text) ++ x.Text)) y = catP (strP (a.Text ++ (u.Text ++ x.Text))) y
  rw [ByteArray.append_assoc]
 ·have hb := CatR.det vu vz h2 (.ot eu ez ⟨by omega, by omega, by omega⟩ (fun w => z1 w.2.1) fun x y e w => z19 ⟨x, y, w.2.1, e, w.2.2.1⟩)
  subst hb
  have hl := CatR.det vau vz h1 (.ot eau ez ⟨by show ¬ (1 : Int) = 16; decide, by show ¬ (1 : Int) = 15; decide, by show ¬ (1 : Int) = 19; decide⟩ (fun w => z1 w.2.1) fun x y e w => z19 ⟨x, y, w.2.1, e, w.2.2.1⟩)
  have hr := CatR.det va (fw_ vu vz) h3 (.sc ea ka rfl rfl ku (by omega))
  rw [hl, hr]
theorem qR_ {a b ab : DPattern} (h : CatR a b ab) : VP a → VP b → NF a → NF b → ∀ e l be r, VP e → tl a + tl b + tl e ≤ 200 → CatR ab e l → CatR b e be → CatR a be r → l = r := by
 induction h with
 | e1 h =>
  intro va vb na nb e l be r ve ht h1 h2 h3
  rw [CatR.det vb ve h1 h2, CatR.det va (h2.vp vb ve) h3 (.e1 h)]
 | e2 h hb =>
  intro va vb na nb e l be r ve ht h1 h2 h3
  have := CatR.det vb ve h2 (.e1 hb)
  subst this
  exact CatR.det va ve h1 h3
 | @e3 a b h hb hk =>
  intro va vb na nb e l be r ve ht h1 h2 h3
  have k : ∀ e l, VP e → CatR a e l → l = a := fun e l ve h1 => by
   by_cases w : Emp e
   ·exact CatR.det va ve h1 (.e2 h w)
   ·exact CatR.det va ve h1 (.e3 h w hk)
  rw [k _ _ ve h1, k _ _ (h2.vp vb ve) h3]
 | @cat a b x y u v hb hk hx g1 g2 i1 i2 =>
  intro va vb na nb e l be r ve ht h1 h2 h3
  obtain ⟨vx, vy⟩ := b1_ va hx
  obtain ⟨nx, ny⟩ := na.two hx
  have hbe := h2.ne (.inl hb)
  have vbe := h2.vp vb ve
  have := tl2 hx
  have t1 := g1.tl
  obtain ⟨w, hw⟩ := catR_ex y vy be vbe
  obtain ⟨r', hr'⟩ := catR_ex x vx w (hw.vp vy vbe)
  have e1 := CatR.det va vbe h3 (.cat hbe hk hx hw hr')
  subst e1
  have vu := g1.vp vy vb
  obtain ⟨ue, hue⟩ := catR_ex u vu e ve
  have e2 := i1 vy vb ny nb e ue be w ve (by omega) hue h2 hw
  subst e2
  exact i2 vx vu nx (g1.nf ny nb) e l ue r ve (by omega) h1 hue hr'
 | @ss a b h hb ha1 hb1 hs =>
  intro va vb na nb e l be r ve ht h1 h2 h3
  by_cases w : Emp e
  ·have := CatR.det vb ve h2 (.e2 hb w)
   subst this
   rw [CatR.det va vb h3 (.ss h hb ha1 hb1 hs)]
   exact CatR.det (hT_ (by rw [ByteArray.size_append]; omega)) ve h1 (.e2 (fJ_ fun q => h ⟨ha1, q⟩) w)
  ·exact qZ_ va vb ve ha1 hb1 h hb w ht h1 h2 h3
 | @sc a b u v h ha1 hb1 hv hu hs =>
  intro va vb na nb e l be r ve ht h1 h2 h3
  obtain ⟨vu, vv⟩ := b1_ vb hv
  obtain ⟨c1, c2, _⟩ := nb.cat hv hb1
  have := tl2 hv
  have vau : VP (strP (a.Text ++ u.Text)) := hT_ (by rw [ByteArray.size_append]; omega)
  by_cases w : Emp e
  ·have hb : ¬ Emp b := dR_ (by omega)
   have := CatR.det vb ve h2 (.e2 hb w)
   subst this
   rw [CatR.det va vb h3 (.sc h ha1 hb1 hv hu hs)]
   exact CatR.det (fw_ vau vv) ve h1 (.e2 (dR_ (by show ¬ (19 : Int) = 1; decide)) w)
  ·obtain ⟨z, hz⟩ := catR_ex v vv e ve
   have vz := hz.vp vv ve
   have tz := hz.tl
   obtain ⟨l', hl'⟩ := catR_ex _ vau z vz
   have e1 := CatR.det (fw_ vau vv) ve h1 (.cat w rfl rfl hz hl')
   subst e1
   obtain ⟨be', hbe'⟩ := catR_ex u vu z vz
   have e2 := CatR.det vb ve h2 (.cat w hb1 hv hz hbe')
   subst e2
   exact qZ_ va vu vz ha1 hu h c1 (hz.ne (.inl c2)) (by omega) hl' hbe' h3
 | @ot a b h hb hk hn hn2 =>
  intro va vb na nb e l be r ve ht h1 h2 h3
  by_cases w : Emp e
  ·have := CatR.det vb ve h2 (.e2 hb w)
   subst this
   rw [CatR.det va vb h3 (.ot h hb hk hn hn2)]
   exact CatR.det (fw_ va vb) ve h1 (.e2 (dR_ (by show ¬ (19 : Int) = 1; decide)) w)
  ·exact CatR.det (fw_ va vb) ve h1 (.cat w rfl rfl h2 h3)
theorem AltR.ne {a b q : DPattern} (h : AltR a b q) : a.Kind ≠ 16 ∨ b.Kind ≠ 16 → q.Kind ≠ 16 := by
 induction h with
 | f1 h => exact fun w => w.resolve_left fun w => w h
 | f2 h _ => exact fun _ => h
 | f3 _ hk => exact fun _ => by rw [hk]; decide
 | alt hb hk hx h1 h2 i1 i2 => exact fun _ => i2 (.inr (i1 (.inr hb)))
 | ot _ _ => exact fun _ => by show ¬ (18 : Int) = 16; decide
theorem tq_ {a b ab : DPattern} (h : AltR a b ab) : VP a → VP b → ∀ e l be r, VP e → AltR ab e l → AltR b e be → AltR a be r → l = r := by
 induction h with
 | f1 h =>
  intro va vb e l be r ve h1 h2 h3
  rw [AltR.det vb ve h1 h2, AltR.det va (h2.vp vb ve) h3 (.f1 h)]
 | f2 h hb =>
  intro va vb e l be r ve h1 h2 h3
  have := AltR.det vb ve h2 (.f1 hb)
  subst this
  exact AltR.det va ve h1 h3
 | @f3 a b hb hk =>
  intro va vb e l be r ve h1 h2 h3
  have k : ∀ e l, VP e → AltR a e l → l = a := fun e l ve h1 => by
   by_cases w : e.Kind = 16
   ·exact AltR.det va ve h1 (.f2 (by omega) w)
   ·exact AltR.det va ve h1 (.f3 w hk)
  rw [k _ _ ve h1, k _ _ (h2.vp vb ve) h3]
 | @alt a b x y u v hb hk hx g1 g2 i1 i2 =>
  intro va vb e l be r ve h1 h2 h3
  obtain ⟨vx, vy⟩ := b1_ va hx
  have hbe := h2.ne (.inl hb)
  have vbe := h2.vp vb ve
  obtain ⟨w, hw⟩ := altR_ex y vy be vbe
  obtain ⟨r', hr'⟩ := altR_ex x vx w (hw.vp vy vbe)
  have e1 := AltR.det va vbe h3 (.alt hbe hk hx hw hr')
  subst e1
  have vu := g1.vp vy vb
  obtain ⟨ue, hue⟩ := altR_ex u vu e ve
  have e2 := i1 vy vb e ue be w ve hue h2 hw
  subst e2
  exact i2 vx vu e l ue r ve h1 hue hr'
 | @ot a b hb hk =>
  intro va vb e l be r ve h1 h2 h3
  by_cases w : e.Kind = 16
  ·have := AltR.det vb ve h2 (.f2 hb w)
   subst this
   rw [AltR.det va vb h3 (.ot hb hk)]
   exact AltR.det (l6_ va vb) ve h1 (.f2 (by show ¬ (18 : Int) = 16; decide) w)
  ·exact AltR.det (l6_ va vb) ve h1 (.alt w rfl rfl h2 h3)
theorem EqPt.symm {p q : DPattern} (h : EqPt p q) : EqPt q p := by
 induction h with
 | mk h1 h2 h3 h4 h5 ih => exact .mk h1.symm h2.symm h3.symm h4.symm fun i x y hx hy => ih i y x hy hx
theorem EqPt.trans {p q r : DPattern} (h : EqPt p q) : EqPt q r → EqPt p r := by
 induction h generalizing r with
 | @mk p q h1 h2 h3 h4 h5 ih =>
  intro g
  cases g with
  | mk g1 g2 g3 g4 g5 =>
   exact .mk (h1.trans g1) (h2.trans g2) (h3.trans g3) (h4.trans g4) fun i x y hx hy => by
    have hi : i < p.Kids.l.length := (List.getElem?_eq_some_iff.1 hx).1
    have hi2 : i < q.Kids.l.length := by omega
    exact ih i x _ hx (List.getElem?_eq_getElem hi2) (g5 i _ y (List.getElem?_eq_getElem hi2) hy)
theorem EqPt.kind {p q : DPattern} (h : EqPt p q) : p.Kind = q.Kind := by cases h with | mk h1 => exact h1
theorem EqPt.text {p q : DPattern} (h : EqPt p q) : p.Text = q.Text := by cases h with | mk h1 h2 h3 => exact h3
theorem EqPt.emp {p q : DPattern} (h : EqPt p q) : Emp p ↔ Emp q := by unfold Emp; rw [h.kind, h.text]
theorem EqPt.two {p q x y : DPattern} (h : EqPt p q) (e : p.Kids.l = [x, y]) : ∃ x' y', q.Kids.l = [x', y'] ∧ EqPt x x' ∧ EqPt y y' := by
 cases h with
 | mk h1 h2 h3 h4 h5 =>
  rw [e] at h4 h5
  match e' : q.Kids.l, h4 with
  | [x', y'], _ => rw [e'] at h5; exact ⟨x', y', rfl, h5 0 _ _ rfl rfl, h5 1 _ _ rfl rfl⟩
  | [], n => simp at n
  | [_], n => simp at n
  | _ :: _ :: _ :: _, n => simp at n
theorem eqp2 {k n : Int} {t : ByteArray} {z z' : Bool} {x y x' y' : DPattern} (hx : EqPt x x') (hy : EqPt y y') : EqPt ⟨k, n, t, ⟨z, [x, y]⟩⟩ ⟨k, n, t, ⟨z', [x', y']⟩⟩ := .mk rfl rfl rfl rfl fun i u v hu hv => by
 rcases i with _ | _ | i
 ·injection hu with hu; injection hv with hv; subst hu; subst hv; exact hx
 ·injection hu with hu; injection hv with hv; subst hu; subst hv; exact hy
 ·simp at hu
theorem eqp1 {k n : Int} {t : ByteArray} {z z' : Bool} {x x' : DPattern} (hx : EqPt x x') : EqPt ⟨k, n, t, ⟨z, [x]⟩⟩ ⟨k, n, t, ⟨z', [x']⟩⟩ := .mk rfl rfl rfl rfl fun i u v hu hv => by
 rcases i with _ | i
 ·injection hu with hu; injection hv with hv; subst hu; subst hv; exact hx
 ·simp at hu
theorem CatR.eq {a b q : DPattern} (h : CatR a b q) : ∀ a' b', EqPt a a' → EqPt b b' → ∃ q', CatR a' b' q' ∧ EqPt q q' := by
 induction h with
 | e1 h => exact fun a' b' ha hb => ⟨b', .e1 (ha.emp.1 h), hb⟩
 | e2 h h' => exact fun a' b' ha hb => ⟨a', .e2 (fun w => h (ha.emp.2 w)) (hb.emp.1 h'), ha⟩
 | e3 h h' hk => exact fun a' b' ha hb => ⟨a', .e3 (fun w => h (ha.emp.2 w)) (fun w => h' (hb.emp.2 w)) (by rw [← ha.kind]; exact hk), ha⟩
 | cat hb hk hx h1 h2 i1 i2 =>
  intro a' b' ea eb
  obtain ⟨x', y', e, ex, ey⟩ := ea.two hx
  obtain ⟨u', hu, eu⟩ := i1 y' b' ey eb
  obtain ⟨v', hv, ev⟩ := i2 x' u' ex eu
  exact ⟨v', .cat (fun w => hb (eb.emp.2 w)) (ea.kind ▸ hk) e hu hv, ev⟩
 | @ss a b h h' h1 h2 hs =>
  intro a' b' ea eb
  refine ⟨_, .ss (fun w => h (ea.emp.2 w)) (fun w => h' (eb.emp.2 w)) (ea.kind ▸ h1) (eb.kind ▸ h2) (by rw [← ea.text, ← eb.text]; exact hs), ?_⟩
  rw [← ea.text, ← eb.text]; exact EqPt.rfl' _
 | @sc a b u v h h1 h2 hv hu hs =>
  intro a' b' ea eb
  obtain ⟨u', v', e, eu, ev⟩ := eb.two hv
  refine ⟨_, .sc (fun w => h (ea.emp.2 w)) (ea.kind ▸ h1) (eb.kind ▸ h2) e (eu.kind ▸ hu) (by rw [← ea.text, ← eu.text]; exact hs), ?_⟩
  rw [← ea.text, ← eu.text]; exact eqp2 (EqPt.rfl' _) ev
 | @ot a b h h' hk hn hn2 =>
  intro a' b' ea eb
  refine ⟨_, .ot (fun w => h (ea.emp.2 w)) (fun w => h' (eb.emp.2 w)) (by rw [← ea.kind]; exact hk) (by rw [← ea.kind, ← eb.kind, ← ea.text, ← eb.text]; exact hn) (fun u v e w => ?_), eqp2 ea eb⟩
  obtain ⟨u', v', e', eu, ev⟩ := eb.symm.two e
  refine hn2 u' v' e' ?_
  rw [ea.kind, eb.kind, ea.text, ← eu.kind, ← eu.text]; exact w
end Go.Am
end
