/- The law. -/
import Derived.Test.YtohkcdkmpencnaaDoorAg0
import Derived.Test.YtohkcdkmpencnaaDoorAg1
import Derived.Test.YtohkcdkmpencnaaDoorAl4
section
set_option maxRecDepth 100000
set_option maxHeartbeats 1000000
set_option linter.unusedVariables false
set_option linter.unusedSimpArgs false
namespace Go.Am
def NZ (c : DConsole) : Prop := (c.Input.z = true → c.Input.l = []) ∧ (c.Output.z = true → c.Output.l = []) ∧ (c.Trace.z = true → c.Trace.l = []) ∧ ∀ f ∈ c.Files.l, f.Lines.z = true → f.Lines.l = []
def fz (s : Sl DFile) : Sl DFile := ⟨s.l.isEmpty, s.l⟩
theorem clone_id (s : Sl ByteArray) (hz : s.z = true → s.l = []) (hs : s.l.length ≤ 1048576) : F_slices_Clone_string s = some s := by
  refine u_slices_Clone_string s _ ?_
  unfold B_slices_Clone_string
  obtain ⟨z, l⟩ := s
  cases z with
  | true => have : l = [] := hz rfl; subst this; rfl
  | false => rw [if_neg (by simp), appS_all (by simp only at hs ⊢; omega)]; rfl
theorem copied_id (c : DConsole) (h : SmCon c) (hz : NZ c) : F_impl_Console_copied c = some ⟨c.Input, c.At, c.Output, fz c.Files, c.Trace⟩ := by
  refine u_impl_Console_copied c _ ?_
  unfold B_impl_Console_copied
  obtain ⟨a1, a2, a3, a4⟩ := h
  obtain ⟨z1, z2, z3, z4⟩ := hz
  have hlen := a3.1
  rw [clone_id _ z1 a1.1, Option.bind_some, clone_id _ z2 a2.1, Option.bind_some, clone_id _ z3 a4.1, Option.bind_some]
  refine Eq.trans (congrArg (fun o => Option.bind o _) (loop_app (fun f => f) (a := c.Files) (by omega) (fun i x s hx hi hs he => ?_) (fun s => by rw [if_neg (by simp)]))) ?_
  · show (if decide ((i : Int) < (c.Files.l.length : Int)) = true then _ else _) = _
    rw [if_pos (by simpa using hi), he, Option.bind_some, clone_id _ (z4 x hx) (a3.2 x hx).2.1, Option.bind_some]
    obtain ⟨z, l⟩ := s
    rw [appS_new (by simp only at hs; omega), wrapB (by omega) (by omega)]; rfl
  · simp only [List.map_id', Option.bind_some]; rfl
theorem texts_same (a b : Sl ByteArray) (h : a.l = b.l) (hs : a.l.length ≤ 1048576) : F_laws_b10Texts a b = some true := by
  refine u_laws_b10Texts _ _ _ ?_
  unfold B_laws_b10Texts
  rw [← h, if_neg (by simp)]
  suffices H : ∀ (m i : Nat), i + m = a.l.length → loopO (S := Int) (R := (Unit ⊕ Bool)) (fun st1 => (if (decide (st1 < (a.l.length : Int))) = true then ((elt a st1).bind fun y2 => ((elt b st1).bind fun y3 => (if (!decide (y2 = y3)) = true then (some (.inr (.inr false))) else (some (.inl (IntKind.i64.wrap (st1 + 1))))))) else (some (.inr (.inl ()))))) (i : Int) = some (.inl ()) by
    have := H a.l.length 0 (by omega)
    simp only [Int.natCast_zero] at this
    rw [this]; rfl
  intro m
  induction m with
  | zero => intro i hi; exact loopO_stop (if_neg (by simp; omega))
  | succ m ih =>
    intro i hi
    have h1 : i < a.l.length := by omega
    have h2 : i < b.l.length := by rw [← h]; exact h1
    have e : a.l[i] = b.l[i] := by simp only [h]
    refine loopO_go (s' := ((i + 1 : Nat) : Int)) ?_ (ih (i + 1) (by omega))
    rw [if_pos (by simpa using h1), elt_lt h1, Option.bind_some, elt_lt h2, Option.bind_some, e, if_neg (by simp), wrapB (by omega) (by omega)]; rfl
theorem shp_intR {P : Program} {t : TypeId} {d : Nat} {ts : List T} {k : IntKind} (hu : P.underlying t = some (.int k)) (kt : kindT P t = 10) (h : Shp P d t ts) : ∃ n : Int, ts = [.int k n] ∧ (Lit.int k n).wf = true := by
  cases d with
  | zero => exact h.elim
  | succ d =>
    rcases h with h | h | h | h | h
    · rw [kt] at h; exact absurd h.1 (by decide)
    · obtain ⟨_, k', n, h1, h2, h3⟩ := h
      rw [hu] at h1
      injection h1 with h1; injection h1 with h1; subst h1
      exact ⟨n, h2, h3⟩
    · rw [kt] at h; exact absurd h.1 (by decide)
    · rw [kt] at h; exact absurd h.1 (by decide)
    · rw [kt] at h; exact absurd h.1 (by decide)
theorem dec_bytes {d : Nat} {ts : List T} (h : Shp Go.Proofs.Tryd.prog d 22 ts) : ∃ x : Sl (Iv .u8), ts = [Sl.t x] ∧ FitS maxLen (fun y : Iv .u8 => 0 ≤ y.v ∧ y.v ≤ 255) x :=
  shp_sl (e := 5) (kt := by kernel_rfl) (he := by kernel_rfl) (fun d ts h => by
    obtain ⟨n, rfl, h2⟩ := shp_intR (k := .u8) (by kernel_rfl) (by kernel_rfl) h
    exact ⟨⟨n⟩, rfl, by have h2 := h2; simp only [Lit.wf, Bool.and_eq_true, decide_eq_true_eq] at h2; exact h2⟩) h
end Go.Am
end
