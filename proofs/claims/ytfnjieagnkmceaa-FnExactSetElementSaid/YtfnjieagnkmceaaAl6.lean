/- The law. -/
import Derived.Test.YtfnjieagnkmceaaAl5
import Derived.Test.YtfnjieagnkmceaaAg2
import Derived.Test.YtfnjieagnkmceaaAg3
import Derived.Test.YtfnjieagnkmceaaAg1
import Derived.Test.YtfnjieagnkmceaaAg7
import Derived.Test.YtfnjieagnkmceaaAg8
section
set_option maxRecDepth 100000
set_option maxHeartbeats 2000000
set_option linter.unusedVariables false
set_option linter.unusedSimpArgs false
namespace Go.Am
theorem mm_ {u v w : ac_} (h0 : bg_ u) (h : bg_ v) (h' : bg_ w) : SmVS ⟨false, [u, v, w]⟩ := ⟨by simp, fun x hx => by simp at hx; rcases hx with rfl | rfl | rfl; exact h0; exact h; exact h'⟩
theorem idx1 (v : ac_) : dr_ v = some (says (v.Kind = 4 ∨ v.Kind = 5)) := by
 refine hM_ v _ ?_
 unfold dx_
 by_cases h : v.Kind = 4
 ·rw [if_pos (by simpa using h), aZ_ (.inl h)]
 ·rw [if_neg (by simpa using h)]; exact gQ_ ea_ ⟨Or.inr, fun w => w.resolve_left h⟩
theorem idx2 (v : ac_) : dN_ v = some (says (v.Kind = 4 ∨ v.Kind = 5)) := by
 refine h3_ v _ ?_
 unfold dR_
 by_cases h : v.Kind = 4
 ·rw [if_pos (by simpa using h), aZ_ (.inl h)]
 ·rw [if_neg (by simpa using h)]; exact gQ_ ea_ ⟨Or.inr, fun w => w.resolve_left h⟩
theorem appV {s : Sl ac_} (hs : s.l.length ≤ 1048577) (o : ac_) : appS 40 s (⟨false, [o]⟩ : Sl ac_) = some ⟨false, s.l ++ [o]⟩ := by
 unfold appS
 show (if (s.l.length + 1) * 40 ≤ 1099511627776 then _ else none) = _
 rw [if_pos (by omega)]
/-- Where an element is, for both. -/
theorem place (o : aa_) (ix : ac_) (ho : ObjP o) (hl : aN_ o) (hk : o.Kind = 1 ∨ o.Kind = 2) (hv : ValP ix) : ∃ r : Int,
  (if decide (o.Kind = 2) = true then (c3_ o.Keys ix).bind fun y7 => some y7 else if (!decide (ix.Kind = 2)) = true then some (-1) else (a7_ ix.Num o.Low (w4 (w4 (o.Low + (o.Vals.l.length : Int)) - 1))).bind fun y8 => if (!y8) = true then some (-1) else some (w4 (ix.Num - o.Low))) = some r ∧
  cf_ o ix = some r ∧ (¬ 0 ≤ r ∨ ∃ m : Nat, m < o.Vals.l.length ∧ r = m) := by
 suffices H : ∃ r : Int, (if decide (o.Kind = 2) = true then (c3_ o.Keys ix).bind fun y7 => some y7 else if (!decide (ix.Kind = 2)) = true then some (-1) else (a7_ ix.Num o.Low (w4 (w4 (o.Low + (o.Vals.l.length : Int)) - 1))).bind fun y8 => if (!y8) = true then some (-1) else some (w4 (ix.Num - o.Low))) = some r ∧
  bz_ o ix = some r ∧ (¬ 0 ≤ r ∨ ∃ m : Nat, m < o.Vals.l.length ∧ r = m) by
  obtain ⟨r, h1, h2, h3⟩ := H; exact ⟨r, h1, f2_ o ix r h2, h3⟩
 unfold bz_
 have hlen := ho.2.1.1
 by_cases h2 : o.Kind = 2
 ·have d : decide (o.Kind = 2) = true := by simpa using h2
  have hkv : o.Keys.l.length = o.Vals.l.length := by
   rcases ho.2.2 with w | w | w
   ·omega
   ·exact w.2.2.2.1
   ·omega
  obtain ⟨r, k1, k2, kr⟩ := key1 o.Keys ix hl.1.1
  simp only [d, if_true, k1, k2, Option.bind_some]
  refine ⟨r, rfl, rfl, ?_⟩
  rcases kr with ⟨rfl, w⟩ | ⟨m, hm, rfl⟩
  ·exact .inl w
  ·exact .inr ⟨m, by omega, rfl⟩
 ·have d : decide (o.Kind = 2) = false := by simpa using h2
  have h1 : o.Kind = 1 := by omega
  have hlow : -1000 ≤ o.Low ∧ o.Low ≤ 1000 := by
   rcases ho.2.2 with w | w | w
   ·exact w.2.2.1
   ·omega
   ·omega
  by_cases hi : ix.Kind = 2
  ·have d2 : decide (ix.Kind = 2) = true := by simpa using hi
   have hnum : -1000000000000 ≤ ix.Num ∧ ix.Num ≤ 1000000000000 := by
    rcases hv with w | w | w | w | w
    ·omega
    ·exact w.2.2.2
    ·omega
    ·omega
    ·omega
   have w1 : w4 (o.Low + (o.Vals.l.length : Int)) = o.Low + (o.Vals.l.length : Int) := ew_ (by omega) (by omega)
   have w2 : w4 (o.Low + (o.Vals.l.length : Int) - 1) = o.Low + (o.Vals.l.length : Int) - 1 := ew_ (by omega) (by omega)
   have w3 : w4 (ix.Num - o.Low) = ix.Num - o.Low := ew_ (by omega) (by omega)
   have is : eZ_ (ix.Num - o.Low) (o.Vals.l.length : Int) = some (says (0 ≤ ix.Num - o.Low ∧ ix.Num - o.Low < (o.Vals.l.length : Int))) := by
    refine i0_ _ _ _ ?_
    unfold eT_
    exact e0_ fun _ => ea_
   simp only [d, d2, Bool.not_true, Bool.false_eq_true, if_false, if_true, w1, w2, w3, in1, is, Option.bind_some]
   by_cases hr : 0 ≤ ix.Num - o.Low ∧ ix.Num - o.Low < (o.Vals.l.length : Int)
   ·rw [aZ_ hr, aZ_ (p := o.Low ≤ ix.Num ∧ _) (by omega)]
    refine ⟨ix.Num - o.Low, by simp, by simp, .inr ⟨(ix.Num - o.Low).toNat, by omega, by omega⟩⟩
   ·rw [aS_ hr, aS_ (p := o.Low ≤ ix.Num ∧ _) (by omega)]
    exact ⟨-1, by simp, by simp, .inl (by omega)⟩
  ·have d2 : decide (ix.Kind = 2) = false := by simpa using hi
   simp only [d, d2, Bool.not_false, Bool.false_eq_true, if_false, if_true]
   exact ⟨-1, rfl, rfl, .inl (by omega)⟩
theorem ij_ (c : aj_) (v : ac_) (ix : ac_) (x : ac_) (h : eD_ c) (hz : NzH c) (hv : bg_ v) (hi : bg_ ix) (hx : bg_ x) : ∃ w w' : aj_ × Bool × Int, dv_ c v ix x = some w ∧ cr_ c v ix x = some w' ∧ bL_ w'.1 ∧ gn_ w'.1 w.1 ∧ w'.2 = w.2 := by
 suffices key : ∃ w w' : aj_ × Bool × Int, cn_ c v ix x = some w ∧ cp_ c v ix x = some w' ∧ bL_ w'.1 ∧ gn_ w'.1 w.1 ∧ w'.2 = w.2 by
  obtain ⟨w, w', h1, h2, h3⟩ := key
  exact ⟨w, w', hq_ c v ix x w h1, hC_ c v ix x w' h2, h3⟩
 have hl := h.1
 unfold cn_ cp_
 have hlh := eg_ h
 rw [sK_ c _ h (mm_ hv hi hx), sX_ c _ h (mm_ hv hi hx), idx1, idx2]
 by_cases hf : me_ c ⟨false, [v, ix, x]⟩
 ·rw [aZ_ hf]
  by_cases hk45 : v.Kind = 4 ∨ v.Kind = 5
  ·rw [aZ_ hk45]
   have hr : 4 ≤ v.Kind ∧ v.Kind ≤ 6 := by omega
   obtain ⟨n, hn, f1, f2, hk⟩ := pO_ hl hf.1.2.2.1.2 (hf.2 v (by simp)) hr
   have hzo := hz _ (List.getElem_mem hn)
   have hlo : aN_ c.Objects.l[n] := hT_ (hP_ h hn)
   have hob := (hf.1.2.2.1.1 _ (List.getElem_mem hn)).1
   have hvx : ValP ix := (hf.2 ix (by simp)).1
   obtain ⟨o, ho⟩ : ∃ o, o = c.Objects.l[n] := ⟨_, rfl⟩
   rw [← ho] at hzo hlo hob hk
   have hn2 : n < (ownH c).Objects.l.length := by simpa [ownH] using hn
   have hown : ownO o = o := by
    obtain ⟨z1, z2⟩ := hzo
    obtain ⟨p1, p2, p3, p4, ⟨a1, a2⟩, ⟨b1, b2⟩, p7⟩ := o
    simp only at z1 z2; subst z1; subst z2; rfl
   have hget : (ownH c).Objects.l[n] = o := by simp only [ownH, List.getElem_map, ← ho, hown]
   have e1 : elt (ownH c).Objects (n : Int) = some o := by rw [aW_ hn2, hget]
   have e2 : elt c.Objects (n : Int) = some o := by rw [aW_ hn, ho]
   have e3 : aR_ o = some o := by rw [os_ o hlo hzo, hown]
   obtain ⟨r, r1, r2, r3⟩ := place o ix hob hlo (by omega) hvx
   have fin : ∀ y : aa_, aN_ y → NzO y → cg_ c (n : Int) y = some ⟨c.Next, setS (ownH c).Objects (n : Int) y⟩ := fun y h1 h2 => by
    have hoy : ownO y = y := by
     obtain ⟨z1, z2⟩ := h2
     obtain ⟨p1, p2, p3, p4, ⟨a1, a2⟩, ⟨b1, b2⟩, p7⟩ := y
     simp only at z1 z2; subst z1; subst z2; rfl
    have := set2 c n y hlh hz hn h1 h2
    rwa [hoy] at this
   have hnx : (ownH c).Next = c.Next := rfl
   simp only [Option.bind_some, Bool.not_true, Bool.false_eq_true, if_false, if_true, gY_, jQ_, decide_true, f1, pE_ c v _ hr f2, qv_ c hlh, e1, e2, e3, r2]
   rw [r1]
   simp only [Option.bind_some]
   rcases r3 with hneg | ⟨m, hm, rfl⟩
   ·have d0 : decide (0 ≤ r) = false := by simpa using hneg
    rw [d0]
    by_cases h1 : o.Kind = 1
    ·have d1 : decide (o.Kind = 1) = true := by simpa using h1
     simp only [d1, if_true, Bool.false_eq_true, if_false, oV_ c hlh hz, Option.bind_some]
     exact ⟨_, _, rfl, rfl, eM_ hlh, ch_, rfl⟩
    ·have d1 : decide (o.Kind = 1) = false := by simpa using h1
     have hkv : o.Keys.l.length = o.Vals.l.length ∧ (o.Vals.l.length : Int) ≤ 30 := by
      refine ⟨?_, hob.2.1.1⟩
      rcases hob.2.2 with w | w | w
      ·exact absurd w.1 h1
      ·exact w.2.2.2.1
      ·exact w.2.2.2.1
     have hlen := hob.2.1.1
     by_cases h30 : (o.Keys.l.length : Int) = 30
     ·have d2 : decide (30 ≤ (o.Keys.l.length : Int)) = true := by simp; omega
      have d3 : decide ((o.Keys.l.length : Int) = 30) = true := by simpa using h30
      simp only [d1, d2, d3, if_true, Bool.false_eq_true, if_false]
      exact ⟨_, _, rfl, rfl, Len_nilH, ch_, rfl⟩
     ·have d2 : decide (30 ≤ (o.Keys.l.length : Int)) = false := by simp; omega
      have d3 : decide ((o.Keys.l.length : Int) = 30) = false := by simpa using h30
      have a1 : appS 40 o.Keys (⟨false, [ix]⟩ : Sl ac_) = some ⟨false, o.Keys.l ++ [ix]⟩ := appV (by omega) ix
      have a2 : appS 40 o.Vals (⟨false, [x]⟩ : Sl ac_) = some ⟨false, o.Vals.l ++ [x]⟩ := appV (by omega) x
      have hly : aN_ ⟨o.Id, o.Kind, o.Name, o.Low, ⟨false, o.Keys.l ++ [ix]⟩, ⟨false, o.Vals.l ++ [x]⟩, o.Default⟩ := ⟨⟨by simp; omega, fun e he => trivial⟩, ⟨by simp; omega, fun e he => trivial⟩, trivial⟩
      simp only [d1, d2, d3, if_true, Bool.false_eq_true, if_false, a1, a2, Option.bind_some, lG_ hn2, jz_, fin _ hly ⟨rfl, rfl⟩, hnx]
      exact ⟨_, _, rfl, rfl, l0_ (eM_ hlh) hly, ch_, rfl⟩
   ·have d0 : decide (0 ≤ (m : Int)) = true := by simp
    have em : elt o.Vals (m : Int) = some o.Vals.l[m] := aW_ hm
    have hset : setS o.Vals (m : Int) x = ⟨false, o.Vals.l.set m x⟩ := by simp [setS, hzo.2]
    have hly : aN_ ⟨o.Id, o.Kind, o.Name, o.Low, o.Keys, setS o.Vals (m : Int) x, o.Default⟩ := ⟨hlo.1, ⟨by rw [hset]; simpa using hlo.2.1.1, fun e he => trivial⟩, trivial⟩
    simp only [d0, if_true, em, Option.bind_some, fin _ hly ⟨hzo.1, by rw [hset]⟩, hnx]
    exact ⟨_, _, rfl, rfl, l0_ (eM_ hlh) hly, ch_, rfl⟩
  ·rw [aS_ hk45]
   simp only [Option.bind_some, Bool.not_true, Bool.not_false, Bool.false_eq_true, if_false, if_true, gY_, jQ_, decide_true]
   exact ⟨_, _, rfl, rfl, Len_nilH, ch_, rfl⟩
 ·rw [aS_ hf]
  simp only [Option.bind_some, Bool.not_true, Bool.not_false, Bool.false_eq_true, if_false, if_true, gY_, jQ_, decide_true]
  exact ⟨_, _, rfl, rfl, Len_nilH, ch_, rfl⟩
theorem iK_ (a : aj_) (b : ac_) (c : ac_) (d : ac_) (fa : ln_ a) (fb : dE_ b) (fc : dE_ c) (fd : dE_ d) : cO_ a b c d = some true := by
 refine e9_ a b c d _ ?_
 unfold bI_
 rcases pD_ a fa 1048576 (by omega) (by omega) with ea | ⟨la, ea, h0a, h1a, sa⟩
 ·simp only [ea, Option.bind_some]
  simp
 have na : decide (la < 0) = false := by simp; omega
 rcases gM_ b fb la (by omega) (by omega) with eb | ⟨lb, eb, h0b, h1b, sb⟩
 ·simp only [ea, na, eb, Option.bind_some]
  simp
 have nb : decide (lb < 0) = false := by simp; omega
 rcases gM_ c fc lb (by omega) (by omega) with ec | ⟨lc, ec, h0c, h1c, sc⟩
 ·simp only [ea, na, eb, nb, ec, Option.bind_some]
  simp
 have nc : decide (lc < 0) = false := by simp; omega
 rcases gM_ d fd lc (by omega) (by omega) with ed | ⟨ld, ed, h0d, h1d, sd⟩
 ·simp only [ea, na, eb, nb, ec, nc, ed, Option.bind_some]
  simp
 have nd : decide (ld < 0) = false := by simp; omega
 obtain ⟨⟨v1, v2, v3⟩, ⟨w1, w2, w3⟩, r1, r2, hw, hq, he⟩ := ij_ (gV_ a) (eW_ b) (eW_ c) (eW_ d) (iw_ sa) (sV_ a) (ef_ sb) (ef_ sc) (ef_ sd)
 simp only [Prod.mk.injEq] at he
 obtain ⟨rfl, rfl⟩ := he
 have q0 := lU_ w1 v1 hw hq
 have qa := pn_ (gV_ a) (eg_ (iw_ sa))
 obtain ⟨ka, za, ma, ua, xa, -⟩ := nV_ (gV_ a) (eg_ (iw_ sa)) 1 (by omega) (by omega)
 have nk : decide (ka < 0) = false := by simp; omega
 obtain ⟨kw, zw, mw, uw, xw, gw⟩ := nV_ w1 hw 1 (by omega) (by omega)
 have nw : decide (kw < 0) = false := by simp; omega
 simp only [ea, na, eb, nb, ec, nc, ed, nd, r1, r2, q0, pq_ a sa, qa, ma, hb_ b sb, hb_ c sc, hb_ d sd, nk, mw, gw, nw, Option.bind_some]
 simp
theorem law_FnExactSetElement {fu0 fu1 fu2 fu3 : Nat} {t0 : List T} {t1 : List T} {t2 : List T} {t3 : List T} (h0 : Shp Go.Proofs.Try.prog fu0 24 t0) (h1 : Shp Go.Proofs.Try.prog fu1 43 t1) (h2 : Shp Go.Proofs.Try.prog fu2 43 t2) (h3 : Shp Go.Proofs.Try.prog fu3 43 t3) : ∃ σ', run Go.Proofs.Try.prog md ext 9 [.agg t0, .agg t1, .agg t2, .agg t3] St.empty = some (.bool true, σ') := by
 obtain ⟨a, rfl, fa⟩ := oB_ h0
 obtain ⟨b, rfl, fb⟩ := fP_ h1
 obtain ⟨c, rfl, fc⟩ := fP_ h2
 obtain ⟨d, rfl, fd⟩ := fP_ h3
 exact ⟨_, g9_ (iK_ a b c d fa fb fc fd) St.empty⟩
end Go.Am
end
