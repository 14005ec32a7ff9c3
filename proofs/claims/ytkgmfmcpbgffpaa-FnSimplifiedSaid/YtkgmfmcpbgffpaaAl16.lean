/- The law. -/
import Derived.Test.YtkgmfmcpbgffpaaAg0
import Derived.Test.YtkgmfmcpbgffpaaAl14
import Derived.Test.YtkgmfmcpbgffpaaAl15
section
set_option maxRecDepth 100000
set_option maxHeartbeats 1000000
set_option linter.unusedVariables false
set_option linter.unusedSimpArgs false
namespace Go.Am
mutual
/-- All names that a pattern defers to, in order, again and again. -/
def ns : DPattern → List ByteArray
 | ⟨k, _, t, ⟨_, l⟩⟩ => (if k = 24 then [t] else []) ++ nsL l
def nsL : List DPattern → List ByteArray
 | [] => []
 | p :: l => ns p ++ nsL l
end
open Classical in
theorem nodes_ok : ∀ p, (nd p : Int) ≤ 1000000 → bO_ p = some (nd p : Int) := by
 refine gx_ fun p ih hp => ?_
 refine hp_ p _ ?_
 unfold dx_
 have hp2 := gb_ p
 have hkl := ndL_len p.Kids.l
 suffices H : ∀ (m i : Nat), i + m = p.Kids.l.length → ∀ c : Int, 0 ≤ c → c + (ndL (p.Kids.l.drop i) : Int) ≤ 1000000 → aE_ (S := (Int × Int)) (R := Int) (fun st1 => (if (decide (st1.2 < (p.Kids.l.length : Int))) = true then ((elt p.Kids st1.2).bind fun y2 => ((bO_ y2).bind fun y3 => (some (.inl ((w4 (st1.1 + y3)), (w4 (st1.2 + 1))))))) else (some (.inr st1.1)))) (c, (i : Int)) = some (c + (ndL (p.Kids.l.drop i) : Int)) by
  have := H p.Kids.l.length 0 (by omega) 1 (by omega) (by simp; omega)
  rw [show ((0 : Nat) : Int) = 0 from rfl] at this
  rw [this, hp2]; simp
 intro m
 induction m with
 | zero =>
  intro i hi c h0 h1
  have e : i = p.Kids.l.length := by omega
  subst e
  refine ai_ ?_
  show (if decide (((p.Kids.l.length : Nat) : Int) < (p.Kids.l.length : Int)) = true then (_ : Option ((Int × Int) ⊕ Int)) else some (Sum.inr c)) = _
  rw [if_neg (by simp)]; simp [ndL]
 | succ m ihm =>
  intro i hi c h0 h1
  have hlt : i < p.Kids.l.length := by omega
  have hd : p.Kids.l.drop i = p.Kids.l[i] :: p.Kids.l.drop (i + 1) := List.drop_eq_getElem_cons hlt
  rw [hd, ndL] at h1 ⊢
  have hq := ih _ (List.getElem_mem hlt) (by omega)
  have hnp := hJ_ p.Kids.l[i]
  have b1 := ihm (i + 1) (by omega) (c + (nd p.Kids.l[i] : Int)) (by omega) (by omega)
  have ec : ((i + 1 : Nat) : Int) = (i : Int) + 1 := by simp
  rw [ec] at b1
  rw [aw_ (s' := (c + (nd p.Kids.l[i] : Int), (i : Int) + 1)) (by
   show (if decide ((i : Int) < (p.Kids.l.length : Int)) = true then _ else _) = _
   rw [if_pos (by simpa using hlt), bH_ hlt, Option.bind_some, hq, Option.bind_some, aT_ (n := c + _) (by omega) (by omega), aT_ (by omega) (by omega)]) b1]
  congr 1; push_cast; omega
theorem same_pat : ∀ p, SmPt p → ∀ q, EqPt p q → cu_ p q = some true := by
 refine gx_ fun p ih hs q hq => ?_
 have hkl : p.Kids.l.length ≤ 1048576 := by cases hs with | mk h1 h2 h3 => exact h2
 cases hq with
 | mk g1 g2 g3 g4 g5 =>
  refine gS_ _ _ _ ?_
  unfold c5_
  rw [if_pos (by simpa using g1), if_pos (by simpa using g2), if_pos (by simpa using g3)]
  have e : b1_ p.Kids q.Kids (T.fn 21 [] []) = some true := by
   refine eB_ _ _ _ _ ?_
   unfold bZ_
   rw [if_pos (show flat1 (T.fn 21 [] []) = true from rfl), if_neg (by simp [g4]), Sml.count_loop (n := p.Kids.l.length) (r := .inl ()) (fun i hi => ?_) (if_neg (by simp))]
   ·rfl
   ·have hi' : i < q.Kids.l.length := by omega
    have e1 := bH_ (s := p.Kids) hi
    have e2 := bH_ (s := q.Kids) hi'
    rw [if_pos (by simpa using hi), e1, Option.bind_some, e2, Option.bind_some]
    have e : g4_ Go.Proofs.Try.prog md ext E_bool (T.fn 21 [] []) [.agg [i4 p.Kids.l[i].Kind, i4 p.Kids.l[i].Num, .str p.Kids.l[i].Text, p.Kids.l[i].Kids.t], .agg [i4 q.Kids.l[i].Kind, i4 q.Kids.l[i].Num, .str q.Kids.l[i].Text, q.Kids.l[i].Kids.t]] = cu_ p.Kids.l[i] q.Kids.l[i] := rfl
    rw [e, ih _ (List.getElem_mem hi) (hs.kid (List.getElem_mem hi)) _ (g5 i _ _ (List.getElem?_eq_getElem hi) (List.getElem?_eq_getElem hi')), Option.bind_some, if_neg (by simp), aT_ (by omega) (by omega)]
  rw [e]; rfl
end Go.Am
end
