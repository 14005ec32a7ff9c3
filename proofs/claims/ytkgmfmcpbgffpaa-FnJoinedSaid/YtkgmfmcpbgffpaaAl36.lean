/- The law. -/
import Derived.Test.YtkgmfmcpbgffpaaAg0
import Derived.Test.YtkgmfmcpbgffpaaAg2
import Derived.Test.YtkgmfmcpbgffpaaAg1
import Derived.Test.YtkgmfmcpbgffpaaAl33
import Derived.Test.YtkgmfmcpbgffpaaAl18
import Derived.Test.YtkgmfmcpbgffpaaAl5
section
set_option maxRecDepth 100000
set_option maxHeartbeats 4000000
set_option linter.unusedVariables false
set_option linter.unusedSimpArgs false
namespace Go.Am
theorem count_loop {R : Type} {b : Int → Option (Int ⊕ R)} {n : Nat} {r : R} (h1 : ∀ i : Nat, i < n → b (i : Int) = some (.inl ((i : Int) + 1))) (h2 : b (n : Int) = some (.inr r)) : az_ b 0 = some r := by
 suffices H : ∀ m i : Nat, i + m = n → az_ b (i : Int) = some r from H n 0 (by omega)
 intro m
 induction m with
 | zero => intro i hi; rw [show i = n by omega]; exact aj_ h2
 | succ m ih => intro i hi; exact au_ (h1 i (by omega)) (ih (i + 1) (by omega))
theorem iJ_ (c d : Sl DCapture) (h : c.l = d.l) (hl : c.l.length ≤ 100) : bR_ c d = some true := by
 refine dq_ _ _ _ ?_
 unfold bS_
 rw [if_neg (by simp [h]), count_loop (n := c.l.length) (r := .inl ()) (fun i hi => ?_) (if_neg (by simp))]
 ·rfl
 ·have e1 := bm_ (s := c) hi
  have e2 := bm_ (s := d) (show i < d.l.length by rw [← h]; exact hi)
  rw [if_pos (by simpa using hi), e1, Option.bind_some, e2, Option.bind_some, if_neg (by simp [h]), a4_ (by omega) (by omega)]
theorem hB_ (m : DMatch) (hl : m.Captures.l.length ≤ 100) : cn_ m m = some true := by
 refine fM_ _ _ _ ?_
 unfold cR_
 rw [if_pos (by simp), if_pos (by simp), iJ_ _ _ rfl hl]; rfl
theorem hK_ (a b : Sl DMatch) (h : a.l = b.l) (hl : a.l.length ≤ 60) (hc : ∀ m ∈ a.l, m.Captures.l.length ≤ 100) : b4_ a b = some true := by
 refine eI_ _ _ _ ?_
 unfold cy_
 have e : bz_ a b (T.fn 92 [] []) = some true := by
  refine c3_ _ _ _ _ ?_
  unfold bx_
  rw [if_pos (show flat1 (T.fn 92 [] []) = true from rfl), if_neg (by simp [h]), count_loop (n := a.l.length) (r := .inl ()) (fun i hi => ?_) (if_neg (by simp))]
  ·rfl
  ·have e1 := bm_ (s := a) hi
   have e2 := bm_ (s := b) (show i < b.l.length by rw [← h]; exact hi)
   have e3 : b.l[i]'(by rw [← h]; exact hi) = a.l[i] := by simp [h]
   rw [if_pos (by simpa using hi), e1, Option.bind_some, e2, Option.bind_some, e3]
   have e : g5_ Go.Proofs.Try.prog md ext E_bool (T.fn 92 [] []) [.agg (DMatch.cells a.l[i]), .agg (DMatch.cells a.l[i])] = cn_ a.l[i] a.l[i] := rfl
   rw [e, hB_ _ (hc _ (List.getElem_mem hi)), Option.bind_some, if_neg (by simp), a4_ (by omega) (by omega)]
 rw [e]; rfl
section
variable {env : Sl DNamed} {s : ByteArray} {p : DPattern}
end
theorem qu_ {P : Program} {t : TypeId} {d : Nat} {ts : List T} {k : IntKind} (hu : P.underlying t = some (.int k)) (kt : aD_ P t = 10) (h : Shp P d t ts) : ∃ n : Int, ts = [.int k n] ∧ (Lit.int k n).wf = true := by
 cases d with
 | zero => exact h.elim
 | succ d =>
  rcases h with h | h | h | h | h
  ·rw [kt] at h; exact absurd h.1 (by decide)
  ·obtain ⟨_, k', n, h1, h2, h3⟩ := h
   rw [hu] at h1
   injection h1 with h1; injection h1 with h1; subst h1
   exact ⟨n, h2, h3⟩
  ·rw [kt] at h; exact absurd h.1 (by decide)
  ·rw [kt] at h; exact absurd h.1 (by decide)
  ·rw [kt] at h; exact absurd h.1 (by decide)
theorem pA_ {d : Nat} {ts : List T} (h : Shp Go.Proofs.Try.prog d 22 ts) : ∃ x : Sl (Iv .u8), ts = [Sl.t x] ∧ FitS maxLen (fun y : Iv .u8 => 0 ≤ y.v ∧ y.v ≤ 255) x :=
 sO_ (e := 5) (kt := by kernel_rfl) (he := by kernel_rfl) (fun d ts h => by
  obtain ⟨n, rfl, h2⟩ := qu_ (k := .u8) (by kernel_rfl) (by kernel_rfl) h
  exact ⟨⟨n⟩, rfl, by have h2 := h2; simp only [Lit.wf, Bool.and_eq_true, decide_eq_true_eq] at h2; exact h2⟩) h
end Go.Am
end
