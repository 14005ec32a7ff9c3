/- The law. -/
import Derived.Test.YtnihabnkoegdjaaAg2
import Derived.Test.YtnihabnkoegdjaaAg3
import Derived.Test.YtnihabnkoegdjaaAl4
section
set_option maxRecDepth 100000
set_option maxHeartbeats 2000000
set_option linter.unusedVariables false
set_option linter.unusedSimpArgs false
namespace Go.Am
namespace Sml
theorem i0_ {R : Type} {b : Int → Option (Int ⊕ R)} {n : Nat} {r : R} (h1 : ∀ i : Nat, i < n → b (i : Int) = some (.inl ((i : Int) + 1))) (h2 : b (n : Int) = some (.inr r)) : aF_ b 0 = some r := by
 suffices H : ∀ m i : Nat, i + m = n → aF_ b (i : Int) = some r from H n 0 (by omega)
 intro m
 induction m with
 | zero => intro i hi; rw [show i = n by omega]; exact ao_ h2
 | succ m ih => intro i hi; exact aC_ (h1 i (by omega)) (ih (i + 1) (by omega))
theorem nr_ (c d : Sl DCapture) (h : c.l = d.l) (hl : c.l.length ≤ 100) : cm_ c d = some true := by
 refine fD_ _ _ _ ?_
 unfold ck_
 rw [if_neg (by simp [h]), i0_ (n := c.l.length) (r := .inl ()) (fun i hi => ?_) (if_neg (by simp))]
 ·rfl
 ·have e1 := bI_ (s := c) hi
  have e2 := bI_ (s := d) (show i < d.l.length by rw [← h]; exact hi)
  rw [if_pos (by simpa using hi), e1, Option.bind_some, e2, Option.bind_some, if_neg (by simp [h]), aS_ (by omega) (by omega)]
theorem mN_ (m : DMatch) (hl : m.Captures.l.length ≤ 100) : dE_ m m = some true := by
 refine hI_ _ _ _ ?_
 unfold dT_
 rw [if_pos (by simp), if_pos (by simp), nr_ _ _ rfl hl]; rfl
theorem same_matches (a b : Sl DMatch) (h : a.l = b.l) (hl : a.l.length ≤ 60) (hc : ∀ m ∈ a.l, m.Captures.l.length ≤ 100) : cn_ a b = some true := by
 refine gM_ _ _ _ ?_
 unfold c4_
 have e : bU_ a b (T.fn 85 [] []) = some true := by
  refine e9_ _ _ _ _ ?_
  unfold bV_
  rw [if_pos (show flat1 (T.fn 85 [] []) = true from rfl), if_neg (by simp [h]), i0_ (n := a.l.length) (r := .inl ()) (fun i hi => ?_) (if_neg (by simp))]
  ·rfl
  ·have e1 := bI_ (s := a) hi
   have e2 := bI_ (s := b) (show i < b.l.length by rw [← h]; exact hi)
   have e3 : b.l[i]'(by rw [← h]; exact hi) = a.l[i] := by simp [h]
   rw [if_pos (by simpa using hi), e1, Option.bind_some, e2, Option.bind_some, e3]
   have e : iv_ Go.Proofs.Try.prog md ext E_bool (T.fn 85 [] []) [.agg (DMatch.cells a.l[i]), .agg (DMatch.cells a.l[i])] = dE_ a.l[i] a.l[i] := rfl
   rw [e, mN_ _ (hc _ (List.getElem_mem hi)), Option.bind_some, if_neg (by simp), aS_ (by omega) (by omega)]
 rw [e]; rfl
end Sml
end Go.Am
end
