/- The law. -/
import Derived.Test.YtfnjieagnkmceaaAl5
import Derived.Test.YtfnjieagnkmceaaAg2
import Derived.Test.YtfnjieagnkmceaaAg1
section
set_option maxRecDepth 100000
set_option maxHeartbeats 2000000
set_option linter.unusedVariables false
set_option linter.unusedSimpArgs false
namespace Go.Am
theorem jG_ (c : ai_) (v : ac_) (s : ByteArray) (x : ac_) (h : ej_ c) (hz : NzH c) (hv : bs_ v) (hs : s.size ≤ 1048576) (hx : bs_ x) : ∃ w w' : ai_ × Int, eh_ c v s x = some w ∧ c6_ c v s x = some w' ∧ bE_ w'.1 ∧ gj_ w'.1 w.1 ∧ w'.2 = w.2 := by
 suffices key : ∃ w w' : ai_ × Int, cW_ c v s x = some w ∧ cV_ c v s x = some w' ∧ bE_ w'.1 ∧ gj_ w'.1 w.1 ∧ w'.2 = w.2 by
  obtain ⟨w, w', h1, h2, h3⟩ := key
  exact ⟨w, w', h2_ c v s x w h1, in_ c v s x w' h2, h3⟩
 have hl := h.1
 unfold cW_ cV_
 have hlh := d4_ h
 rw [sf_ c _ h (oZ_ hv hx), sE_ c _ h (oZ_ hv hx)]
 by_cases hf : lu_ c ⟨false, [v, x]⟩
 ·rw [a4_ hf]
  have hff : bZ_ c v s = bW_ c v s ∨ True := .inr trivial
  by_cases hk6 : v.Kind = 6
  ·have hr : 4 ≤ v.Kind ∧ v.Kind ≤ 6 := by omega
   obtain ⟨n, hn, f1, f2, hk⟩ := pf_ hl hf.1.2.2.1.2 (hf.2 v (by simp)) hr
   have hzo := hz _ (List.getElem_mem hn)
   have hlo : aN_ c.Objects.l[n] := hA_ (hz_ h hn)
   have hob := (hf.1.2.2.1.1 _ (List.getElem_mem hn)).1
   have hkl : c.Objects.l[n].Keys.l.length = c.Objects.l[n].Vals.l.length := by
    rcases hob.2.2 with w | w | w
    ·rw [hk, hk6] at w; omega
    ·exact w.2.2.2.1
    ·exact w.2.2.2.1
   have hn2 : n < (ownH c).Objects.l.length := by simpa [ownH] using hn
   have hget : (ownH c).Objects.l[n] = ownO c.Objects.l[n] := by simp [ownH]
   obtain ⟨r, k1, k2, kr⟩ := key1 c.Objects.l[n].Keys ⟨1, 0, s, 0⟩ hlo.1.1
   obtain ⟨r', k1', k2', kr'⟩ := key1 (ownO c.Objects.l[n]).Keys ⟨1, 0, s, 0⟩ hlo.1.1
   have hnz : (ownO c.Objects.l[n]).Keys = c.Objects.l[n].Keys := by
    have := hzo.1
    show (⟨false, c.Objects.l[n].Keys.l⟩ : Sl ac_) = _
    rw [← this]
   rw [hnz] at k1'
   have tx : dd_ s = some ⟨1, 0, s, 0⟩ := g3_ _ _ rfl
   have ff : bZ_ c v s = some ((n : Int), r, if decide (0 ≤ r) = true then 0 else 11) := by
    refine ft_ c v s _ ?_
    unfold bW_
    rw [if_neg (by simp [hk6]), ph_ c v _ hr f2, Option.bind_some, aU_ hn, Option.bind_some, tx, Option.bind_some, k2, Option.bind_some, kg_]; rfl
   simp only [Option.bind_some, Bool.not_true, Bool.false_eq_true, if_false, if_true, decide_true, hk6, ff, rj_ c hlh, f1, aU_ hn2, aU_ hn, hget, hnz, k1, nX_ _ hlo hzo]
   rcases kr with ⟨rfl, hneg⟩ | ⟨m, hm, rfl⟩
   ·exact ⟨_, _, rfl, rfl, Len_nilH, dq_, rfl⟩
   ·have d0 : decide ((m : Int) < 0) = false := by simp
    have d1 : decide (0 ≤ (m : Int)) = true := by simp
    have hmv : m < c.Objects.l[n].Vals.l.length := by omega
    have e1 : elt (ownO c.Objects.l[n]).Vals (m : Int) = some c.Objects.l[n].Vals.l[m] := aU_ (s := (ownO c.Objects.l[n]).Vals) hmv
    have hset : setS (ownO c.Objects.l[n]).Vals (m : Int) x = ⟨false, c.Objects.l[n].Vals.l.set m x⟩ := by simp [setS, ownO]
    obtain ⟨y, hy⟩ : ∃ y : aa_, y = ⟨(ownO c.Objects.l[n]).Id, (ownO c.Objects.l[n]).Kind, (ownO c.Objects.l[n]).Name, (ownO c.Objects.l[n]).Low, c.Objects.l[n].Keys, setS (ownO c.Objects.l[n]).Vals (m : Int) x, (ownO c.Objects.l[n]).Default⟩ := ⟨_, rfl⟩
    have hly : aN_ y := by
     rw [hy, hset]
     refine ⟨hlo.1, ⟨by simpa using hlo.2.1.1, fun e he => trivial⟩, trivial⟩
    have hzy : NzO y := by rw [hy, hset]; exact ⟨hzo.1, rfl⟩
    have hoy : ownO y = y := by
     rw [hy, hset]
     have e2 : (⟨false, c.Objects.l[n].Keys.l⟩ : Sl ac_) = c.Objects.l[n].Keys := by rw [← hzo.1]
     simp only [ownO, e2]
    have s2 := set2 c n y hlh hz hn hly hzy
    rw [hoy] at s2
    simp only [d0, d1, if_true, Bool.false_eq_true, if_false, decide_true, Bool.not_true, e1, Option.bind_some, ← hy, s2]
    exact ⟨_, _, rfl, rfl, or_ (f1_ hlh) hly, dq_, rfl⟩
  ·have ff : bZ_ c v s = some (0, 0, 4) := by
    refine ft_ c v s _ ?_
    unfold bW_
    rw [if_pos (by simp [hk6])]
   have dk : decide (v.Kind = 6) = false := by simpa using hk6
   simp only [Option.bind_some, Bool.not_true, Bool.not_false, Bool.false_eq_true, if_false, if_true, decide_true, dk, ff]
   exact ⟨_, _, rfl, rfl, Len_nilH, dq_, rfl⟩
 ·rw [aR_ hf]
  exact ⟨_, _, rfl, rfl, Len_nilH, dq_, rfl⟩
theorem jD_ (a : ai_) (b : ac_) (c : ByteArray) (d : ac_) (fa : k7_ a) (fb : d1_ b) (fd : d1_ d) : dh_ a b c d = some true := by
 refine fv_ a b c d _ ?_
 unfold b3_
 by_cases hsc : 1048576 < (c.size : Int)
 ·rw [if_pos (by simpa using hsc)]
 rw [if_neg (by simpa using hsc)]
 rcases ps_ a fa 1048576 (by omega) (by omega) with ea | ⟨la, ea, h0a, h1a, sa⟩
 ·simp only [ea, Option.bind_some]
  simp
 have na : decide (la < 0) = false := by simp; omega
 rcases hT_ b fb la (by omega) (by omega) with eb | ⟨lb, eb, h0b, h1b, sb⟩
 ·simp only [ea, na, eb, Option.bind_some]
  simp
 have nb : decide (lb < 0) = false := by simp; omega
 rcases hT_ d fd lb (by omega) (by omega) with ed | ⟨ld, ed, h0d, h1d, sd⟩
 ·simp only [ea, na, eb, nb, ed, Option.bind_some]
  simp
 have nd : decide (ld < 0) = false := by simp; omega
 obtain ⟨⟨v1, v2⟩, ⟨w1, w2⟩, r1, r2, hw, hq, he⟩ := jG_ (gW_ a) (e7_ b) c (e7_ d) (iG_ sa) (sJ_ a) (eU_ sb) (by omega) (eU_ sd)
 simp only at he
 subst he
 have q0 := lP_ w1 v1 hw hq
 have qa := pk_ (gW_ a) (d4_ (iG_ sa))
 obtain ⟨ka, za, ma, ua, xa, -⟩ := m6_ (gW_ a) (d4_ (iG_ sa)) 1 (by omega) (by omega)
 have nk : decide (ka < 0) = false := by simp; omega
 obtain ⟨kw, zw, mw, uw, xw, gw⟩ := m6_ w1 hw 1 (by omega) (by omega)
 have nw : decide (kw < 0) = false := by simp; omega
 simp only [ea, na, eb, nb, ed, nd, r1, r2, q0, pi_ a sa, qa, ma, hU_ b sb, hU_ d sd, nk, mw, gw, nw, Option.bind_some]
 simp
theorem law_FnExactSetField {fu0 fu1 fu2 fu3 : Nat} {t0 : List T} {t1 : List T} {t2 : T} {t3 : List T} (h0 : Shp Go.Proofs.Try.prog fu0 24 t0) (h1 : Shp Go.Proofs.Try.prog fu1 43 t1) (h2 : Shp Go.Proofs.Try.prog fu2 9 [t2]) (h3 : Shp Go.Proofs.Try.prog fu3 43 t3) : ∃ σ', run Go.Proofs.Try.prog md ext 7 [.agg t0, .agg t1, t2, .agg t3] St.empty = some (.bool true, σ') := by
 obtain ⟨a, rfl, fa⟩ := oc_ h0
 obtain ⟨b, rfl, fb⟩ := gP_ h1
 obtain ⟨c, e2, fc⟩ := k8_ h2
 injection e2 with e2; subst e2
 obtain ⟨d, rfl, fd⟩ := gP_ h3
 exact ⟨_, gM_ (jD_ a b c d fa fb fd) St.empty⟩
end Go.Am
end
