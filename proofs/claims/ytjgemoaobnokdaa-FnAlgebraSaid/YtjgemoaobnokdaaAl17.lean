/- The law. -/
import Derived.Test.YtjgemoaobnokdaaAg0
import Derived.Test.YtjgemoaobnokdaaAg2
import Derived.Test.YtjgemoaobnokdaaAg1
import Derived.Test.YtjgemoaobnokdaaAl12
import Derived.Test.YtjgemoaobnokdaaAl16
import Derived.Test.YtjgemoaobnokdaaAl6
section
set_option maxRecDepth 100000
set_option maxHeartbeats 4000000
set_option linter.unusedVariables false
set_option linter.unusedSimpArgs false
namespace Go.Am
theorem iC_ {R : Type} {b : Int → Option (Int ⊕ R)} {n : Nat} {r : R} (h1 : ∀ i : Nat, i < n → b (i : Int) = some (.inl ((i : Int) + 1))) (h2 : b (n : Int) = some (.inr r)) : az_ b 0 = some r := by
 suffices H : ∀ m i : Nat, i + m = n → az_ b (i : Int) = some r from H n 0 (by omega)
 intro m
 induction m with
 | zero => intro i hi; rw [show i = n by omega]; exact ak_ h2
 | succ m ih => intro i hi; exact as_ (h1 i (by omega)) (ih (i + 1) (by omega))
theorem mX_ (c d : Sl DCapture) (h : c.l = d.l) (hl : c.l.length ≤ 100) : cj_ c d = some true := by
 refine fz_ _ _ _ ?_
 unfold ck_
 rw [if_neg (by simp [h]), iC_ (n := c.l.length) (r := .inl ()) (fun i hi => ?_) (if_neg (by simp))]
 ·rfl
 ·have e1 := bJ_ (s := c) hi
  have e2 := bJ_ (s := d) (show i < d.l.length by rw [← h]; exact hi)
  rw [if_pos (by simpa using hi), e1, Option.bind_some, e2, Option.bind_some, if_neg (by simp [h]), aR_ (by omega) (by omega)]
theorem mm_ (m : DMatch) (hl : m.Captures.l.length ≤ 100) : dJ_ m m = some true := by
 refine hz_ _ _ _ ?_
 unfold dH_
 rw [if_pos (by simp), if_pos (by simp), mX_ _ _ rfl hl]; rfl
theorem kC_ (a b : Sl DMatch) (h : a.l = b.l) (hl : a.l.length ≤ 60) (hc : ∀ m ∈ a.l, m.Captures.l.length ≤ 100) : bm_ a b = some true := by
 refine gA_ _ _ _ ?_
 unfold cZ_
 have e : bS_ a b (T.fn 72 [] []) = some true := by
  refine eS_ _ _ _ _ ?_
  unfold bO_
  rw [if_pos (show flat1 (T.fn 72 [] []) = true from rfl), if_neg (by simp [h]), iC_ (n := a.l.length) (r := .inl ()) (fun i hi => ?_) (if_neg (by simp))]
  ·rfl
  ·have e1 := bJ_ (s := a) hi
   have e2 := bJ_ (s := b) (show i < b.l.length by rw [← h]; exact hi)
   have e3 : b.l[i]'(by rw [← h]; exact hi) = a.l[i] := by simp [h]
   rw [if_pos (by simpa using hi), e1, Option.bind_some, e2, Option.bind_some, e3]
   have e : ia_ Go.Proofs.Try.prog md ext E_bool (T.fn 72 [] []) [.agg (DMatch.cells a.l[i]), .agg (DMatch.cells a.l[i])] = dJ_ a.l[i] a.l[i] := rfl
   rw [e, mm_ _ (hc _ (List.getElem_mem hi)), Option.bind_some, if_neg (by simp), aR_ (by omega) (by omega)]
 rw [e]; rfl
section
variable {env : Sl DNamed} {s : ByteArray} {p : DPattern}
abbrev St0 (env : Sl DNamed) (s : ByteArray) (f : Int) : Int × T11 := (0, env, s, f, 0, 0, 0, false, 0, ⟨true, []⟩, ⟨true, []⟩, ⟨true, []⟩)
theorem rQ_ {starts : Sl (Iv .i64)} (hs : s.size ≤ 200) (hE : ∀ x ∈ env.l, VP x.Pattern) (hEl : env.l.length ≤ 40) (hv : VP p) (hst : ∀ x ∈ starts.l, 0 ≤ x.v ∧ x.v ≤ s.size) (hl : starts.l.length ≤ 1000) (f : Int) (hf : 0 ≤ f ∧ f ≤ 20000) :
  ∃ x : T11, IMF p starts (St0 env s f) = some x ∧ cl_ env p s starts f = some (x.2.2.2.2.2.2.2.2.2.2, x.2.2.2.2.2.2.2.1) ∧ x.2.2.2.2.2.2.2.2.2.2.l.length ≤ 60 := by
 obtain ⟨F, rfl⟩ : ∃ F : Nat, f = F := ⟨f.toNat, by omega⟩
 obtain ⟨S', r', h1, h2, h3⟩ := nk_ (F := F) hs hE hEl hv hst hl starts.l.length 0 (by omega) F ⟨true, []⟩ ⟨true, []⟩ ⟨true, []⟩ ⟨true, []⟩ ⟨true, []⟩ ⟨true, []⟩ ⟨true, []⟩ 0 ⟨by omega, Nat.le_refl _, rfl, rfl, by decide, jn_.nil, by decide, by simp; omega⟩
 have e0 : (F : Int) - F = 0 := by omega
 rw [e0, show ((0 : Nat) : Int) = 0 from rfl] at h1
 refine ⟨_, h1, gP_ _ _ _ _ _ _ ?_, ?_⟩
 ·unfold c3_
  unfold IMF at h1
  rw [h1]; rfl
 ·show S'.matches_.l.length ≤ 60
  rcases h3 with (w | w | w) | w
  ·rw [w.2.2]; simp
  ·exact w.2.2.2.2.2
  ·exact w.2.2.2.2.2
  ·exact w.2.2.2.2
end
theorem iV_ {env : Sl DNamed} {s : ByteArray} {p : DPattern} (hE : EnvP env) (hv : VPat p) (hs : s.size ≤ 200) {f : Int} (hf : 0 ≤ f ∧ f ≤ 20000) {b : Bool} {w : Sl (Iv .i64)} (hw : c6_ s b = some w) {r : Sl DMatch × Int} (hr : cl_ env p s w f = some r) : aZ_ env p s b f = some r := by
 refine hq_ _ _ _ _ _ _ ?_
 unfold dO_
 have ha : askV env p s f = 0 := by
  unfold askV
  rw [a3_ (show AskP env p s from ⟨hE, hv, by omega⟩), a3_ hf]; rfl
 rw [(uw_ env p s f (sQ_ hE) (sm_vp _ hv.1)).2, Option.bind_some, ha, if_neg (by simp), hw, Option.bind_some, hr]; rfl
theorem oD_ {P : Program} {t : TypeId} {d : Nat} {ts : List T} {k : IntKind} (hu : P.underlying t = some (.int k)) (kt : aD_ P t = 10) (h : Shp P d t ts) : ∃ n : Int, ts = [.int k n] ∧ (Lit.int k n).wf = true := by
 cases d with
 | zero => exact h.elim
 | succ d =>
  rcases h with h | h | h | h | h
  ·rw [kt] at h; exact absurd h.1 (by decide)
  ·obtain ⟨_, k', n, h1, h2, h3⟩ := h
   rw [hu] at h1
   injection h1 with h1; injection h1 with h1; subst h1
   exact ⟨n, h2, h3⟩
  ·rw [kt] at h; exact absurd h.1 (by decide)
  ·rw [kt] at h; exact absurd h.1 (by decide)
  ·rw [kt] at h; exact absurd h.1 (by decide)
theorem nz_ {d : Nat} {ts : List T} (h : Shp Go.Proofs.Try.prog d 22 ts) : ∃ x : Sl (Iv .u8), ts = [Sl.t x] ∧ FitS maxLen (fun y : Iv .u8 => 0 ≤ y.v ∧ y.v ≤ 255) x :=
 sV_ (e := 5) (kt := by kernel_rfl) (he := by kernel_rfl) (fun d ts h => by
  obtain ⟨n, rfl, h2⟩ := oD_ (k := .u8) (by kernel_rfl) (by kernel_rfl) h
  exact ⟨⟨n⟩, rfl, by have h2 := h2; simp only [Lit.wf, Bool.and_eq_true, decide_eq_true_eq] at h2; exact h2⟩) h
end Go.Am
end
