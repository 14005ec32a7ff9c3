/- The law. -/
import Derived.Test.YtnihabnkoegdjaaAg0
import Derived.Test.YtnihabnkoegdjaaAg2
import Derived.Test.YtnihabnkoegdjaaAg4
import Derived.Test.YtnihabnkoegdjaaAl9
import Derived.Test.YtnihabnkoegdjaaAl18
import Derived.Test.YtnihabnkoegdjaaAl19
section
set_option maxRecDepth 100000
set_option maxHeartbeats 1000000
set_option linter.unusedVariables false
set_option linter.unusedSimpArgs false
namespace Go.Am
open Nt
def rp (u : ByteArray) (k : Nat) : ByteArray := ⟨(Go.Lib.repeatL u.data.toList k).toArray⟩
theorem pT_ (u : ByteArray) (k : Nat) : (rp u k).size = k * u.size := by
 show (Go.Lib.repeatL u.data.toList k).toArray.size = _
 rw [List.size_toArray, Go.Lib.repeatL_length]; rfl
theorem nx_ (u : ByteArray) : rp u 0 = ⟨#[]⟩ := rfl
theorem nX_ (u : ByteArray) (k : Nat) (h : (k + 1) * u.size ≤ 1000) : catB (rp u k) u = some (rp u (k + 1)) := by
 unfold catB
 rw [if_pos (by rw [pT_]; have : (k + 1) * u.size = k * u.size + u.size := Nat.succ_mul _ _; omega)]
 congr 1
 apply ByteArray.ext
 rw [ByteArray.data_append]
 show (Go.Lib.repeatL u.data.toList k).toArray ++ u.data = (Go.Lib.repeatL u.data.toList (k + 1)).toArray
 rw [Go.Lib.repeatL_add]
 apply Array.ext'
 simp [Go.Lib.repeatL]
theorem kn_ (u : ByteArray) (k : Nat) (hk : k ≤ 100) (hu : u.size ≤ 3) : cy_ u (k : Int) = some (rp u k) := by
 refine hm_ u k _ ?_
 unfold fk_ rptB
 have h1 : u.size * k ≤ 3 * 100 := Nat.mul_le_mul hu hk
 rw [if_pos ⟨by omega, by omega, by simp; omega⟩]
 rfl
section
variable {env : Sl DNamed} {p : DPattern} {u : ByteArray} {f : ByteArray → Int × Int} {N : Nat}
theorem h9_ (hf : ∀ s, aR_ env p s false 900 = some (f s)) (hu : u.size ≤ 3) (hN : N ≤ 100) : ∀ (m i : Nat), i + m = N → ∀ acc : Sl (Iv .i64), acc.l.length = i → (∀ j (h : j < acc.l.length), acc.l[j].v = (f (rp u j)).1) → (∀ j, j < i → (f (rp u j)).2 = 0) →
  ∃ res, aA_ (S := (Int × (Sl (Iv .i64)))) (R := ((Sl (Iv .i64)) ⊕ ((Sl (Iv .i64)) × Int))) (fun st1 => (if (decide (st1.1 < (N : Int))) = true then ((cy_ u st1.1).bind fun y4 => ((aR_ env p y4 false 900).bind fun y5 => (if (!decide (y5.2 = 0)) = true then (some (.inr (.inr (⟨true, []⟩, y5.2)))) else ((appS 8 st1.2 (⟨false, [⟨y5.1⟩]⟩ : Sl (Iv .i64))).bind fun y6 => (some (.inl ((w4 (st1.1 + 1)), y6))))))) else (some (.inr (.inl st1.2))))) ((i : Int), acc) = some res ∧
   ((∃ w : Sl (Iv .i64), res = .inl w ∧ w.l.length = N ∧ (∀ j (h : j < w.l.length), w.l[j].v = (f (rp u j)).1) ∧ ∀ j, j < N → (f (rp u j)).2 = 0) ∨ (∃ k, k < N ∧ res = .inr (⟨true, []⟩, (f (rp u k)).2) ∧ (f (rp u k)).2 ≠ 0 ∧ ∀ j, j < k → (f (rp u j)).2 = 0))
 | 0, i, hi, acc, h1, h2, h3 => ⟨.inl acc, al_ (if_neg (by simp; omega)), .inl ⟨acc, rfl, by omega, h2, fun j hj => h3 j (by omega)⟩⟩
 | m + 1, i, hi, acc, h1, h2, h3 => by
  by_cases hc : (f (rp u i)).2 = 0
  ·obtain ⟨z, l⟩ := acc
   have h1 : l.length = i := h1
   obtain ⟨res, r1, r2⟩ := h9_ hf hu hN m (i + 1) (by omega) ⟨false, l ++ [⟨(f (rp u i)).1⟩]⟩ (by simp; omega) (fun j hj => by
    have hj : j < (l ++ [(⟨(f (rp u i)).1⟩ : Iv .i64)]).length := hj
    show (l ++ [(⟨(f (rp u i)).1⟩ : Iv .i64)])[j].v = _
    by_cases e : j < l.length
    ·rw [List.getElem_append_left e]; exact h2 j e
    ·have : j = i := by simp at hj; omega
     subst this
     rw [List.getElem_append_right (by omega)]; simp) (fun j hj => by
    by_cases e : j = i
    ·subst e; exact hc
    ·exact h3 j (by omega))
   refine ⟨res, ax_ ?_ r1, r2⟩
   rw [if_pos (by simp; omega), kn_ u i (by omega) hu, Option.bind_some, hf, Option.bind_some, if_neg (by simp [hc]), bJ_ (by omega), Option.bind_some]
   show some (Sum.inl (w4 ((i : Int) + 1), _)) = _
   rw [aT_ (by omega) (by omega)]; rfl
  ·refine ⟨_, al_ ?_, .inr ⟨i, by omega, rfl, hc, h3⟩⟩
   rw [if_pos (by simp; omega), kn_ u i (by omega) hu, Option.bind_some, hf, Option.bind_some, if_pos (by simp [hc])]
end
theorem kC_ (a : Sl (Iv .u8)) (ha : ∀ x ∈ a.l, 0 ≤ x.v ∧ x.v ≤ 255) : d0_ a = some true := by
 refine gh_ a _ ?_
 unfold cz_
 by_cases hl : 1048576 < (a.l.length : Int)
 ·rw [if_pos (by simpa using hl)]
 rw [if_neg (by simpa using hl)]
 have hb : Bys a := ⟨ha, by omega⟩
 obtain ⟨env, e1, hE, _, _⟩ := mb_ a hb
 obtain ⟨m1, e2, hm1⟩ := oR_ 1 a ha (by omega)
 obtain ⟨p, e3, hv, hcp, hnd⟩ := no_ m1 hm1
 obtain ⟨m2, e4, hm2⟩ := oR_ 2 a ha (by omega)
 obtain ⟨u, e5, hu1, hu2⟩ := mq_ m2 hm2
 obtain ⟨n, e6, hn⟩ := th_ a 3 5 hb (by omega) (by omega)
 obtain ⟨n0, n1⟩ := hn (by omega)
 obtain ⟨N, rfl⟩ : ∃ N : Nat, n = N := ⟨n.toNat, by omega⟩
 have hP : VPat p := ⟨hv, by omega⟩
 have hall : ∀ s, ∃ w, aR_ env p s false 900 = some w := fun s => by
  obtain ⟨w, _, h2⟩ := l4_ env p s false 900 (o4_ hE) (sm_vp p hv)
  exact ⟨w, h2⟩
 obtain ⟨f, hf⟩ : ∃ f : ByteArray → Int × Int, ∀ s, aR_ env p s false 900 = some (f s) := ⟨fun s => Classical.choose (hall s), fun s => Classical.choose_spec (hall s)⟩
 have wN : w4 ((N : Int) + 1) = ((N + 1 : Nat) : Int) := by rw [aT_ (by omega) (by omega)]; simp
 obtain ⟨res, r1, r2⟩ := h9_ (N := N + 1) (u := u) hf hu2 (by omega) (N + 1) 0 (by omega) ⟨false, []⟩ rfl (fun j h => by simp at h) (fun j h => by omega)
 have hS : cm_ env p u (N : Int) 900 = Sum.elim (fun w => some (w, 0)) (fun y => some y) res := by
  have key : ∀ r, bN_ env p u (N : Int) 900 = some r → cm_ env p u (N : Int) 900 = some r := fun r h => gI_ _ _ _ _ _ _ h
  have hB : bN_ env p u (N : Int) 900 = Sum.elim (fun w => some (w, 0)) (fun y => some y) res := by
   have hfu : fh_ 900 = some true := jm_ 900 true (by unfold eR_; rw [in2, Option.bind_some, aW_ (by omega)])
   have hNu : (N : Int) * (u.size : Int) ≤ 4 * 3 := Int.mul_le_mul (by omega) (by omega) (by omega) (by omega)
   have hN0 : 0 ≤ (N : Int) * (u.size : Int) := Int.mul_nonneg (by omega) (by omega)
   unfold bN_
   simp only [hfu, Option.bind_some, if_true, in2, aW_ (show 0 ≤ (N : Int) ∧ (N : Int) ≤ 200 by omega), env2 env (o4_ hE), aW_ hE, pZ_ p (sm_vp p hv), aW_ hP, kR_, o3_]
   rw [aT_ (by omega) (by omega), wN]
   have d1 : decide ((N : Int) * (u.size : Int) ≤ 200) = true := by simp; omega
   rw [d1]
   simp only [if_true, decide_true, Bool.not_true, Bool.false_eq_true, if_false]
   rw [show ((0 : Nat) : Int) = 0 from rfl] at r1
   rw [r1]; rfl
  cases res with
  | inl w => exact key _ hB
  | inr y => exact key _ hB
 rw [e1, Option.bind_some, e2, Option.bind_some, e3, Option.bind_some, e4, Option.bind_some, e5, Option.bind_some, e6, Option.bind_some, hS]
 rcases r2 with ⟨w, rfl, q1, q2, q3⟩ | ⟨k, hk, rfl, q1, q2⟩
 ·have loop : ∀ (m i : Nat), i + m = N + 1 → aA_ (S := (ByteArray × Int)) (R := (Unit ⊕ Bool)) (fun st1 => (if (decide (st1.2 ≤ (N : Int))) = true then ((aR_ env p st1.1 false 900).bind fun y9 => (if (!decide (y9.2 = 0)) = true then (if (decide ((0 : Int) = y9.2)) = true then (some (.inr (.inr (decide ((w.l.length : Int) = 0))))) else (some (.inr (.inr false)))) else (if (decide ((0 : Int) = 0)) = true then (if (decide ((w.l.length : Int) ≤ st1.2)) = true then (some (.inr (.inr false))) else ((elt w st1.2).bind fun y10 => (if (!decide (y10.v = y9.1)) = true then (some (.inr (.inr false))) else ((catB st1.1 u).bind fun y11 => (some (.inl (y11, (w4 (st1.2 + 1))))))))) else ((catB st1.1 u).bind fun y12 => (some (.inl (y12, (w4 (st1.2 + 1))))))))) else (some (.inr (.inl ()))))) (rp u i, (i : Int)) = some (.inl ()) := by
   intro m
   induction m with
   | zero => intro i hi; exact al_ (if_neg (by simp; omega))
   | succ m ih =>
    intro i hi
    refine ax_ ?_ (ih (i + 1) (by omega))
    have hlt : i < w.l.length := by omega
    have hs : (i + 1) * u.size ≤ 1000 := by have := Nat.mul_le_mul (show i + 1 ≤ 5 by omega) hu2; omega
    rw [if_pos (by simp; omega), hf, Option.bind_some, if_neg (by simp [q3 i (by omega)]), if_pos (by simp), if_neg (by simp; omega), bQ_ hlt, Option.bind_some, if_neg (by simp [q2 i hlt]), nX_ u i hs, Option.bind_some, aT_ (by omega) (by omega)]
    simp
  have := loop (N + 1) 0 (by omega)
  rw [nx_] at this
  rw [show ((0 : Nat) : Int) = 0 from rfl] at this
  refine (congrArg (fun o => Option.bind o _) this).trans ?_
  show (if decide ((0 : Int) = 0) = true then some (decide ((w.l.length : Int) = w4 ((N : Int) + 1))) else some false) = _
  rw [if_pos (by simp), wN, q1]
  simp
 ·have loop : ∀ (m i : Nat), i + m = k → aA_ (S := (ByteArray × Int)) (R := (Unit ⊕ Bool)) (fun st1 => (if (decide (st1.2 ≤ (N : Int))) = true then ((aR_ env p st1.1 false 900).bind fun y9 => (if (!decide (y9.2 = 0)) = true then (if (decide ((f (rp u k)).2 = y9.2)) = true then (some (.inr (.inr (decide (((⟨true, []⟩ : Sl (Iv .i64)).l.length : Int) = 0))))) else (some (.inr (.inr false)))) else (if (decide ((f (rp u k)).2 = 0)) = true then (if (decide (((⟨true, []⟩ : Sl (Iv .i64)).l.length : Int) ≤ st1.2)) = true then (some (.inr (.inr false))) else ((elt (⟨true, []⟩ : Sl (Iv .i64)) st1.2).bind fun y10 => (if (!decide (y10.v = y9.1)) = true then (some (.inr (.inr false))) else ((catB st1.1 u).bind fun y11 => (some (.inl (y11, (w4 (st1.2 + 1))))))))) else ((catB st1.1 u).bind fun y12 => (some (.inl (y12, (w4 (st1.2 + 1))))))))) else (some (.inr (.inl ()))))) (rp u i, (i : Int)) = some (.inr true) := by
   intro m
   induction m with
   | zero =>
    intro i hi
    obtain rfl : i = k := by omega
    refine al_ ?_
    rw [if_pos (by simp; omega), hf, Option.bind_some, if_pos (by simp [q1]), if_pos (by simp)]
    rfl
   | succ m ih =>
    intro i hi
    refine ax_ ?_ (ih (i + 1) (by omega))
    have hs : (i + 1) * u.size ≤ 1000 := by have := Nat.mul_le_mul (show i + 1 ≤ 5 by omega) hu2; omega
    rw [if_pos (by simp; omega), hf, Option.bind_some, if_neg (by simp [q2 i (by omega)]), if_neg (by simp [q1]), nX_ u i hs, Option.bind_some, aT_ (by omega) (by omega)]
    simp
  have := loop k 0 (by omega)
  rw [nx_] at this
  rw [show ((0 : Nat) : Int) = 0 from rfl] at this
  exact (congrArg (fun o => Option.bind o _) this).trans rfl
theorem law_FnCostSeries {fu0 : Nat} {t0 : T} (h0 : Shp Go.Proofs.Try.prog fu0 22 [t0]) : ∃ σ', run Go.Proofs.Try.prog md ext 12 [t0] St.empty = some (.bool true, σ') := by
 obtain ⟨a, e0, ha⟩ := mc_ h0
 injection e0 with e0; subst e0
 exact ⟨_, fs_ (kC_ a ha.2) St.empty⟩
end Go.Am
end
