/- The law. -/
import Derived.Test.YtkgmfmcpbgffpaaAg0
import Derived.Test.YtkgmfmcpbgffpaaAl14
import Derived.Test.YtkgmfmcpbgffpaaAl15
section
set_option maxRecDepth 100000
set_option maxHeartbeats 1000000
set_option linter.unusedVariables false
set_option linter.unusedSimpArgs false
namespace Go.Am
mutual
/-- All names that a pattern defers to, in order, again and again. -/
def ns : DPattern → List ByteArray
 | ⟨k, _, t, ⟨_, l⟩⟩ => (if k = 24 then [t] else []) ++ nsL l
def nsL : List DPattern → List ByteArray
 | [] => []
 | p :: l => ns p ++ nsL l
end
open Classical in
theorem same_pat : ∀ p, SmPt p → ∀ q, EqPt p q → cw_ p q = some true := by
 refine eL_ fun p ih hs q hq => ?_
 have hkl : p.Kids.l.length ≤ 1048576 := by cases hs with | mk h1 h2 h3 => exact h2
 cases hq with
 | mk g1 g2 g3 g4 g5 =>
  refine hl_ _ _ _ ?_
  unfold df_
  rw [if_pos (by simpa using g1), if_pos (by simpa using g2), if_pos (by simpa using g3)]
  have e : bX_ p.Kids q.Kids (T.fn 21 [] []) = some true := by
   refine eC_ _ _ _ _ ?_
   unfold bW_
   rw [if_pos (show flat1 (T.fn 21 [] []) = true from rfl), if_neg (by simp [g4]), Sml.count_loop (n := p.Kids.l.length) (r := .inl ()) (fun i hi => ?_) (if_neg (by simp))]
   ·rfl
   ·have hi' : i < q.Kids.l.length := by omega
    have e1 := bm_ (s := p.Kids) hi
    have e2 := bm_ (s := q.Kids) hi'
    rw [if_pos (by simpa using hi), e1, Option.bind_some, e2, Option.bind_some]
    have e : g5_ Go.Proofs.Try.prog md ext E_bool (T.fn 21 [] []) [.agg [i4 p.Kids.l[i].Kind, i4 p.Kids.l[i].Num, .str p.Kids.l[i].Text, p.Kids.l[i].Kids.t], .agg [i4 q.Kids.l[i].Kind, i4 q.Kids.l[i].Num, .str q.Kids.l[i].Text, q.Kids.l[i].Kids.t]] = cw_ p.Kids.l[i] q.Kids.l[i] := rfl
    rw [e, ih _ (List.getElem_mem hi) (hs.kid (List.getElem_mem hi)) _ (g5 i _ _ (List.getElem?_eq_getElem hi) (List.getElem?_eq_getElem hi')), Option.bind_some, if_neg (by simp), a4_ (by omega) (by omega)]
  rw [e]; rfl
end Go.Am
end
