/- The law. -/
import Derived.Test.YtilalopohkdmdaaGreatAg2
import Derived.Test.YtilalopohkdmdaaGreatAg1
import Derived.Test.YtilalopohkdmdaaGreatAl12
import Derived.Test.YtilalopohkdmdaaGreatAl16
import Derived.Test.YtilalopohkdmdaaGreatAl6
section
set_option maxRecDepth 100000
set_option maxHeartbeats 4000000
set_option linter.unusedVariables false
set_option linter.unusedSimpArgs false
namespace Go.Am
theorem mE_ {R : Type} {b : Int → Option (Int ⊕ R)} {n : Nat} {r : R} (h1 : ∀ i : Nat, i < n → b (i : Int) = some (.inl ((i : Int) + 1))) (h2 : b (n : Int) = some (.inr r)) : aD_ b 0 = some r := by
 suffices H : ∀ m i : Nat, i + m = n → aD_ b (i : Int) = some r from H n 0 (by omega)
 intro m
 induction m with
 | zero => intro i hi; rw [show i = n by omega]; exact aq_ h2
 | succ m ih => intro i hi; exact aB_ (h1 i (by omega)) (ih (i + 1) (by omega))
theorem kj_ {S R : Type} {body : S → Option (S ⊕ R)} {s : S} {r : R} (h : aD_ body s = some r) : body s = some (.inr r) ∨ ∃ s', body s = some (.inl s') ∧ aD_ body s' = some r := by
 obtain ⟨n, hn⟩ := bs_.1 h
 cases n with
 | zero => cases hn
 | succ n =>
  simp only [iter] at hn
  cases hb : body s with
  | none => rw [hb] at hn; cases hn
  | some x =>
   rw [hb] at hn
   cases x with
   | inl s' => exact .inr ⟨s', rfl, bs_.2 ⟨n, hn⟩⟩
   | inr r' => injection hn with hn; subst hn; exact .inl rfl
section
variable {env : Sl DNamed} {s : ByteArray} {p : DPattern}
abbrev St0 (env : Sl DNamed) (s : ByteArray) (f : Int) : Int × T11 := (0, env, s, f, 0, 0, 0, false, 0, ⟨true, []⟩, ⟨true, []⟩, ⟨true, []⟩)
theorem uo_ {starts : Sl (Iv .i64)} (hs : s.size ≤ 200) (hE : ∀ x ∈ env.l, VP x.Pattern) (hEl : env.l.length ≤ 40) (hv : VP p) (hst : ∀ x ∈ starts.l, 0 ≤ x.v ∧ x.v ≤ s.size) (hl : starts.l.length ≤ 1000) (f : Int) (hf : 0 ≤ f ∧ f ≤ 20000) :
  ∃ x : T11, IMF p starts (St0 env s f) = some x ∧ bS_ env p s starts f = some (x.2.2.2.2.2.2.2.2.2.2, x.2.2.2.2.2.2.2.1) ∧ x.2.2.2.2.2.2.2.2.2.2.l.length ≤ 60 := by
 obtain ⟨F, rfl⟩ : ∃ F : Nat, f = F := ⟨f.toNat, by omega⟩
 obtain ⟨S', r', h1, h2, h3⟩ := kx_ (F := F) hs hE hEl hv hst hl starts.l.length 0 (by omega) F ⟨true, []⟩ ⟨true, []⟩ ⟨true, []⟩ ⟨true, []⟩ ⟨true, []⟩ ⟨true, []⟩ ⟨true, []⟩ 0 ⟨by omega, Nat.le_refl _, rfl, rfl, by decide, gb_.nil, by decide, by simp; omega⟩
 have e0 : (F : Int) - F = 0 := by omega
 rw [e0, show ((0 : Nat) : Int) = 0 from rfl] at h1
 refine ⟨_, h1, eG_ _ _ _ _ _ _ ?_, ?_⟩
 ·unfold cp_
  unfold IMF at h1
  rw [h1]; rfl
 ·show S'.matches_.l.length ≤ 60
  rcases h3 with ⟨w | w | w, _⟩ | w
  ·rw [w.2.2]; simp
  ·exact w.2.2.2.2.2
  ·exact w.2.2.2.2.2
  ·exact w.2.2.2.2
end
theorem o5_ {P : Program} {t : TypeId} {d : Nat} {ts : List T} {k : IntKind} (hu : P.underlying t = some (.int k)) (kt : aJ_ P t = 10) (h : Shp P d t ts) : ∃ n : Int, ts = [.int k n] ∧ (Lit.int k n).wf = true := by
 cases d with
 | zero => exact h.elim
 | succ d =>
  rcases h with h | h | h | h | h
  ·rw [kt] at h; exact absurd h.1 (by decide)
  ·obtain ⟨_, k', n, h1, h2, h3⟩ := h
   rw [hu] at h1
   injection h1 with h1; injection h1 with h1; subst h1
   exact ⟨n, h2, h3⟩
  ·rw [kt] at h; exact absurd h.1 (by decide)
  ·rw [kt] at h; exact absurd h.1 (by decide)
  ·rw [kt] at h; exact absurd h.1 (by decide)
theorem mT_ {d : Nat} {ts : List T} (h : Shp Go.Proofs.Tryz.prog d 22 ts) : ∃ x : Sl (Iv .u8), ts = [Sl.t x] ∧ FitS maxLen (fun y : Iv .u8 => 0 ≤ y.v ∧ y.v ≤ 255) x :=
 rG_ (e := 5) (kt := by kernel_rfl) (he := by kernel_rfl) (fun d ts h => by
  obtain ⟨n, rfl, h2⟩ := o5_ (k := .u8) (by kernel_rfl) (by kernel_rfl) h
  exact ⟨⟨n⟩, rfl, by have h2 := h2; simp only [Lit.wf, Bool.and_eq_true, decide_eq_true_eq] at h2; exact h2⟩) h
end Go.Am
end
