/- The law. -/
import Derived.Test.YtkgmfmcpbgffpaaAg0
import Derived.Test.YtkgmfmcpbgffpaaAg2
import Derived.Test.YtkgmfmcpbgffpaaAl4
section
set_option maxRecDepth 100000
set_option maxHeartbeats 2000000
set_option linter.unusedVariables false
set_option linter.unusedSimpArgs false
namespace Go.Am
namespace Sml
theorem count_loop {R : Type} {b : Int → Option (Int ⊕ R)} {n : Nat} {r : R} (h1 : ∀ i : Nat, i < n → b (i : Int) = some (.inl ((i : Int) + 1))) (h2 : b (n : Int) = some (.inr r)) : az_ b 0 = some r := by
 suffices H : ∀ m i : Nat, i + m = n → az_ b (i : Int) = some r from H n 0 (by omega)
 intro m
 induction m with
 | zero => intro i hi; rw [show i = n by omega]; exact aj_ h2
 | succ m ih => intro i hi; exact au_ (h1 i (by omega)) (ih (i + 1) (by omega))
theorem iJ_ (c d : Sl DCapture) (h : c.l = d.l) (hl : c.l.length ≤ 100) : bR_ c d = some true := by
 refine dq_ _ _ _ ?_
 unfold bS_
 rw [if_neg (by simp [h]), count_loop (n := c.l.length) (r := .inl ()) (fun i hi => ?_) (if_neg (by simp))]
 ·rfl
 ·have e1 := bm_ (s := c) hi
  have e2 := bm_ (s := d) (show i < d.l.length by rw [← h]; exact hi)
  rw [if_pos (by simpa using hi), e1, Option.bind_some, e2, Option.bind_some, if_neg (by simp [h]), a4_ (by omega) (by omega)]
theorem hB_ (m : DMatch) (hl : m.Captures.l.length ≤ 100) : cn_ m m = some true := by
 refine fM_ _ _ _ ?_
 unfold cR_
 rw [if_pos (by simp), if_pos (by simp), iJ_ _ _ rfl hl]; rfl
theorem hK_ (a b : Sl DMatch) (h : a.l = b.l) (hl : a.l.length ≤ 60) (hc : ∀ m ∈ a.l, m.Captures.l.length ≤ 100) : b4_ a b = some true := by
 refine eI_ _ _ _ ?_
 unfold cy_
 have e : bz_ a b (T.fn 92 [] []) = some true := by
  refine c3_ _ _ _ _ ?_
  unfold bx_
  rw [if_pos (show flat1 (T.fn 92 [] []) = true from rfl), if_neg (by simp [h]), count_loop (n := a.l.length) (r := .inl ()) (fun i hi => ?_) (if_neg (by simp))]
  ·rfl
  ·have e1 := bm_ (s := a) hi
   have e2 := bm_ (s := b) (show i < b.l.length by rw [← h]; exact hi)
   have e3 : b.l[i]'(by rw [← h]; exact hi) = a.l[i] := by simp [h]
   rw [if_pos (by simpa using hi), e1, Option.bind_some, e2, Option.bind_some, e3]
   have e : g5_ Go.Proofs.Try.prog md ext E_bool (T.fn 92 [] []) [.agg (DMatch.cells a.l[i]), .agg (DMatch.cells a.l[i])] = cn_ a.l[i] a.l[i] := rfl
   rw [e, hB_ _ (hc _ (List.getElem_mem hi)), Option.bind_some, if_neg (by simp), a4_ (by omega) (by omega)]
 rw [e]; rfl
end Sml
end Go.Am
end
