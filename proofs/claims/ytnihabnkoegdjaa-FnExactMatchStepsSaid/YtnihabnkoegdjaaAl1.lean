/- The law. -/
import Derived.Test.YtnihabnkoegdjaaAg0
import Derived.Test.YtnihabnkoegdjaaAg4
import Derived.Test.YtnihabnkoegdjaaAl0
section
set_option maxRecDepth 100000
set_option maxHeartbeats 1000000
set_option linter.unusedVariables false
set_option linter.unusedSimpArgs false
namespace Go.Am
def mI_ (x : ah_) : Prop := x.Name.size ≤ maxLen ∧ FitPt x.Pattern
def SmNm (x : ah_) : Prop := x.Name.size ≤ 1048576 ∧ SmPt x.Pattern
def h3_ (s : Sl ah_) : Prop := s.l.length ≤ 1048576 ∧ ∀ x ∈ s.l, SmNm x
def ndN : List ah_ → Nat
 | [] => 0
 | x :: l => nd x.Pattern + ndN l
theorem ndN_len : ∀ l : List ah_, l.length ≤ ndN l
 | [] => by simp
 | x :: l => by have := ndN_len l; have := hs_ x.Pattern; simp only [List.length_cons, ndN]; omega
theorem ti_ (x : ah_) (h : mI_ x) (l : Int) (h0 : 0 ≤ l) (h1 : l ≤ 1048576) : SzN (bK_ x l) l (nd x.Pattern - 1) (SmNm x) := by
 have hm := maxLen_eq; have hb := h.1
 have key : SzN (db_ x l) l (nd x.Pattern - 1) (SmNm x) := by
  unfold db_
  rw [cc_ (n := l - (x.Name.size : Int)) (by omega) (by omega)]
  by_cases hc : l - (x.Name.size : Int) < 0
  ·rw [if_pos (by simpa using hc)]; exact .inl rfl
  ·rw [if_neg (by simpa using hc)]
   rcases sz_Pt x.Pattern h.2 (l - (x.Name.size : Int)) (by omega) (by omega) with w | ⟨l', w1, w2, w3, w4⟩
   ·left; rw [w]; rfl
   ·right; rw [w1, Option.bind_some, if_neg (by simp; omega)]
    exact ⟨l', rfl, w2, by omega, by omega, w4⟩
 rcases key with w | ⟨l', w1, w2⟩
 ·exact .inl (fS_ x l _ w)
 ·exact .inr ⟨l', fS_ x l _ w1, w2⟩
theorem rx_ (s : Sl ah_) (h : FitS maxLen mI_ s) (l : Int) (h0 : 0 ≤ l) (h1 : l ≤ 1048576) : SzN (dP_ s l) l (ndN s.l) (h3_ s) := by
 have hm := maxLen_eq; have hn := h.1
 have key : SzN (cD_ s l) l (ndN s.l) (h3_ s) := by
  unfold cD_
  rw [cc_ (n := l - (s.l.length : Int)) (by omega) (by omega)]
  by_cases hc : l - (s.l.length : Int) < 0
  ·rw [if_pos (by simpa using hc)]; exact .inl rfl
  ·rw [if_neg (by simpa using hc)]
   suffices H : ∀ (m i : Nat), i + m = s.l.length → ∀ l, 0 ≤ l → l ≤ 1048576 → aD_ (S := (Int × Int)) (R := (Int ⊕ Int)) (fun st1 => (if (decide (st1.2 < (s.l.length : Int))) = true then ((elt s st1.2).bind fun y2 => ((bK_ y2 st1.1).bind fun y3 => (if (decide (y3 < 0)) = true then (some (.inr (.inr (-1)))) else (some (.inl (y3, (w4 (st1.2 + 1)))))))) else (some (.inr (.inl st1.1))))) (l, (i : Int)) = some (.inr (-1)) ∨ ∃ l', aD_ (S := (Int × Int)) (R := (Int ⊕ Int)) (fun st1 => (if (decide (st1.2 < (s.l.length : Int))) = true then ((elt s st1.2).bind fun y2 => ((bK_ y2 st1.1).bind fun y3 => (if (decide (y3 < 0)) = true then (some (.inr (.inr (-1)))) else (some (.inl (y3, (w4 (st1.2 + 1)))))))) else (some (.inr (.inl st1.1))))) (l, (i : Int)) = some (.inl l') ∧ 0 ≤ l' ∧ l' + ((ndN (s.l.drop i) - m : Nat) : Int) ≤ l ∧ ∀ x ∈ s.l.drop i, SmNm x by
    rcases H s.l.length 0 (by simp) (l - (s.l.length : Int)) (by omega) (by omega) with w | ⟨l', w1, w2, w3, w4⟩
    ·left; rw [show ((0 : Nat) : Int) = 0 from rfl] at w; rw [w]; rfl
    ·right; rw [show ((0 : Nat) : Int) = 0 from rfl] at w1; rw [w1]
     have := ndN_len s.l
     exact ⟨l', rfl, w2, by simp only [List.drop_zero] at w3; omega, by omega, by simpa using w4⟩
   intro m
   induction m with
   | zero =>
    intro i hi l h0 h3
    have e : i = s.l.length := by omega
    subst e
    refine .inr ⟨l, am_ ?_, h0, by simp [ndN], by simp⟩
    show (if (decide ((s.l.length : Int) < (s.l.length : Int))) = true then _ else _) = _
    rw [if_neg (by simp)]
   | succ m ih =>
    intro i hi l h0 h3
    have hlt : i < s.l.length := by omega
    have ec : ((i + 1 : Nat) : Int) = (i : Int) + 1 := by simp
    have hd : s.l.drop i = s.l[i] :: s.l.drop (i + 1) := List.drop_eq_getElem_cons hlt
    have hlen := ndN_len (s.l.drop (i + 1))
    have hp := hs_ s.l[i].Pattern
    simp only [List.length_drop] at hlen
    rcases ti_ s.l[i] (h.2 _ (List.getElem_mem hlt)) l h0 h3 with w | ⟨l1, w1, q1, q2, q3⟩
    ·left; refine am_ ?_
     show (if (decide ((i : Int) < (s.l.length : Int))) = true then _ else _) = _
     rw [if_pos (by simpa using hlt), bN_ hlt, Option.bind_some, w]; rfl
    ·have hstep : ((fun st1 => (if (decide (st1.2 < (s.l.length : Int))) = true then ((elt s st1.2).bind fun y2 => ((bK_ y2 st1.1).bind fun y3 => (if (decide (y3 < 0)) = true then (some (.inr (.inr (-1)))) else (some (.inl (y3, (w4 (st1.2 + 1)))))))) else (some (.inr (.inl st1.1))))) : Int × Int → Option ((Int × Int) ⊕ (Int ⊕ Int))) (l, (i : Int)) = some (.inl (l1, (i : Int) + 1)) := by
      show (if (decide ((i : Int) < (s.l.length : Int))) = true then _ else _) = _
      rw [if_pos (by simpa using hlt), bN_ hlt, Option.bind_some, w1, Option.bind_some, if_neg (by simp; omega), a9_ (by omega) (by omega)]
     rcases ih (i + 1) (by omega) l1 q1 (by omega) with w | ⟨l2, v1, v2, v3, v4⟩
     ·rw [ec] at w; exact .inl (aC_ hstep w)
     ·rw [ec] at v1
      refine .inr ⟨l2, aC_ hstep v1, v2, by rw [hd, ndN]; omega, fun x hx => ?_⟩
      rw [hd] at hx
      rcases List.mem_cons.1 hx with e | e
      ·rw [e]; exact q3
      ·exact v4 x e
 rcases key with w | ⟨l', w1, w2⟩
 ·exact .inl (fk_ s l _ w)
 ·exact .inr ⟨l', fk_ s l _ w1, w2⟩
def cpNm (x : ah_) : ah_ := ⟨x.Name, cpPt x.Pattern⟩
def lX_ (s : Sl ah_) : Sl ah_ := ⟨false, s.l.map cpNm⟩
theorem sC_ (x : ah_) (h : SmNm x) : eo_ x = some (cpNm x) := by
 refine h8_ x _ ?_
 unfold en_
 rw [to_Pt _ h.2]; rfl
theorem rS_ (s : Sl ah_) (h : h3_ s) : bW_ s = some (lX_ s) := by
 refine hk_ s _ ?_
 unfold dG_
 have hl := h.1
 refine kL_ cpNm hl (by omega) (fun i x t hx hi hit he => ?_) (fun t => by rw [if_neg (by simp)])
 show (if decide ((i : Int) < (s.l.length : Int)) = true then _ else _) = _
 rw [if_pos (by simpa using hi), he]
 simp only [Option.bind_some]
 rw [sC_ x (h.2 x hx)]
 simp only [Option.bind_some]
 rw [bN_ hit, a9_ (by omega) (by omega)]; rfl
theorem nD_ {s : Sl ah_} (h : h3_ s) : h3_ (lX_ s) := ⟨by simpa [lX_] using h.1, fun x hx => by
 simp only [lX_, List.mem_map] at hx
 obtain ⟨y, hy, rfl⟩ := hx
 exact ⟨(h.2 y hy).1, Sm_cpPt _ (h.2 y hy).2⟩⟩
theorem tp_ (x : ah_) (h : SmNm x) : et_ x x = some true := by
 refine ic_ x x _ ?_
 unfold el_
 rw [if_neg (by simp), eq_Pt _ _ h.2 (EqPt.rfl' _), Option.bind_some, if_neg (by simp)]
theorem p8_ (s : Sl ah_) (h : h3_ s) : dN_ s s = some true := by
 refine hy_ s s _ ?_
 unfold dJ_
 have hl := h.1
 exact mP_ (by omega) fun i x hx he => by
  show (elt s (i : Int)).bind _ = _
  simp only [he, Option.bind_some]
  rw [tp_ x (h.2 x hx), Option.bind_some, if_neg (by simp)]
theorem ra_ {d : Nat} {ts : List T} (h : Shp Go.Proofs.Try.prog d 109 ts) : ∃ x : ah_, ts = ah_.cells x ∧ mI_ x := by
 obtain ⟨d, g⟩ := lF_ (by kernel_rfl) h
 rw [show (bU_ Go.Proofs.Try.prog 109).map (·.type) = [9, 51] from by kernel_rfl] at g
 obtain ⟨a0, t0, rfl, -, q0, g⟩ := g
 obtain ⟨x0, rfl, b0⟩ := kK_ q0
 obtain ⟨a1, t1, rfl, -, q1, g⟩ := g
 obtain ⟨x1, rfl, b1⟩ := dec_Pt q1
 cases g
 exact ⟨⟨x0, x1⟩, by rw [DPattern.enc_eq]; rfl, b0, b1⟩
theorem o4_ {d : Nat} {ts : List T} (h : Shp Go.Proofs.Try.prog d 49 ts) : ∃ x : Sl ah_, ts = [Sl.t x] ∧ FitS maxLen mI_ x :=
 qT_ (kt := by kernel_rfl) (he := by kernel_rfl) (fun d ts h => ra_ h) h
end Go.Am
end
