/- The law. -/
import Derived.Test.YtohkcdkmpencnaaDoorAg0
import Derived.Test.YtohkcdkmpencnaaDoorAl1
import Derived.Test.YtohkcdkmpencnaaDoorAl3
import Derived.Test.YtohkcdkmpencnaaDoorAl4
import Derived.Test.YtohkcdkmpencnaaDoorAm4
section
set_option maxRecDepth 100000
set_option maxHeartbeats 1000000
set_option linter.unusedVariables false
set_option linter.unusedSimpArgs false
namespace Go.Am
open Go
theorem wrapI (n : Int) : I64 (IntKind.i64.wrap n) := by
  unfold I64
  simp only [IntKind.wrap, IntKind.signed, IntKind.bits]
  simp
  omega
theorem catL {a b : ByteArray} (h : a.size + b.size ≤ 9000000000000000000) : catB a b = some (a ++ b) := by
  unfold catB; rw [if_pos (by omega)]
def nm12 : Sl ByteArray := ⟨false, [⟨#[111, 107]⟩, ⟨#[105, 110, 118, 97, 108, 105, 100]⟩, ⟨#[115, 121, 110, 116, 97, 120]⟩, ⟨#[114, 97, 110, 103, 101]⟩, ⟨#[116, 121, 112, 101]⟩, ⟨#[117, 110, 100, 101, 102, 105, 110, 101, 100]⟩, ⟨#[102, 117, 108, 108]⟩, ⟨#[115, 116, 101, 112, 115]⟩, ⟨#[100, 105, 118, 105, 115, 105, 111, 110]⟩, ⟨#[115, 116, 97, 99, 107]⟩, ⟨#[115, 116, 97, 116, 101]⟩, ⟨#[110, 111, 116, 45, 102, 111, 117, 110, 100]⟩]⟩
theorem nm12_len : ∀ x ∈ nm12.l, x.size ≤ 20 := by
  intro x hx
  have h : (nm12.l.all fun x => Nat.ble x.size 20) = true := by kernel_rfl
  exact Nat.le_of_ble_eq_true (List.all_eq_true.1 h x hx)
theorem code_same (k : Int) : ∃ t, F_spec_CodeName k = some t ∧ F_impl_CodeName k = some t ∧ t.size ≤ 20 := by
  suffices H : ∃ t, B_spec_CodeName k = some t ∧ B_impl_CodeName k = some t ∧ t.size ≤ 20 by
    obtain ⟨t, h1, h2, h3⟩ := H
    exact ⟨t, u_spec_CodeName _ _ h1, u_impl_CodeName _ _ h2, h3⟩
  have i1 : F_spec_l00In k 0 (IntKind.i64.wrap ((nm12.l.length : Int) - 1)) = some (says (0 ≤ k ∧ k ≤ 11)) := by
    refine u_spec_l00In _ _ _ _ ?_
    unfold B_spec_l00In
    exact s_and fun _ => s_dec
  have i2 : F_impl_isIndex k (nm12.l.length : Int) = some (says (0 ≤ k ∧ k < 12)) := by
    refine u_impl_isIndex _ _ _ ?_
    unfold B_impl_isIndex
    exact s_and fun _ => s_dec
  unfold B_spec_CodeName B_impl_CodeName
  show ∃ t, ((F_spec_l00In k 0 (IntKind.i64.wrap ((nm12.l.length : Int) - 1))).bind fun y1 => (if (!y1) = true then (some ⟨#[]⟩) else ((elt nm12 k).bind fun y2 => (some y2)))) = some t ∧ ((F_impl_isIndex k (nm12.l.length : Int)).bind fun y1 => (if (!y1) = true then (some ⟨#[]⟩) else ((elt nm12 k).bind fun y2 => (some y2)))) = some t ∧ t.size ≤ 20
  rw [i1, i2]
  simp only [Option.bind_some]
  by_cases h : 0 ≤ k ∧ k < 12
  · obtain ⟨i, rfl⟩ : ∃ i : Nat, k = i := ⟨k.toNat, by omega⟩
    have hi : i < nm12.l.length := by show i < 12; omega
    rw [says_t h, says_t ⟨h.1, by omega⟩, if_neg (by simp), elt_lt hi]
    exact ⟨_, rfl, rfl, nm12_len _ (List.getElem_mem hi)⟩
  · rw [says_f h, says_f (fun w => h ⟨w.1, by omega⟩)]
    exact ⟨_, rfl, rfl, by decide⟩
theorem outcome_same (x : DOutcome) (h : I64 x.Steps) : ∃ t, F_spec_OutcomeLine x = some t ∧ F_impl_OutcomeLine x = some t := by
  suffices H : ∃ t, B_spec_OutcomeLine x = some t ∧ B_impl_OutcomeLine x = some t by
    obtain ⟨t, g1, g2⟩ := H
    exact ⟨t, u_spec_OutcomeLine _ _ g1, u_impl_OutcomeLine _ _ g2⟩
  unfold B_spec_OutcomeLine B_impl_OutcomeLine
  have l1 := (itoa_le x.Steps h).2
  have ha := wrapI (x.At + 1)
  have l2 := (itoa_le _ ha).2
  rw [digits16 _ h, decim _ h, digits16 _ ha, decim _ ha]
  generalize Lib.itoa x.Steps = s1 at l1
  generalize Lib.itoa (IntKind.i64.wrap (x.At + 1)) = s2 at l2
  have b1 := bs_size s1
  have b2 := bs_size s2
  have z1 : (⟨#[111, 107, 32]⟩ : ByteArray).size = 3 := rfl
  have z2 : (⟨#[101, 114, 114, 111, 114, 32]⟩ : ByteArray).size = 6 := rfl
  have z3 : (⟨#[32, 97, 116, 32]⟩ : ByteArray).size = 4 := rfl
  have z4 : (⟨#[32, 97, 102, 116, 101, 114, 32]⟩ : ByteArray).size = 7 := rfl
  by_cases hc : x.Code = 0
  · simp only [hc, decide_true, if_true, Option.bind_some]
    rw [catL (by omega)]
    exact ⟨_, rfl, rfl⟩
  · simp only [hc, decide_false, Bool.false_eq_true, if_false, Option.bind_some]
    obtain ⟨t, t1, t2, t3⟩ := code_same x.Code
    have e : F_spec_l29Error x.Code = some (⟨#[101, 114, 114, 111, 114, 32]⟩ ++ t) := u_spec_l29Error _ _ (by
      unfold B_spec_l29Error
      rw [t1, Option.bind_some, catL (by omega)]; rfl)
    rw [e, t2]
    simp only [Option.bind_some]
    rw [catL (a := ⟨#[101, 114, 114, 111, 114, 32]⟩) (b := t) (by omega)]
    simp only [Option.bind_some]
    rw [catL (by simp only [ByteArray.size_append]; omega)]
    simp only [Option.bind_some]
    rw [catL (by simp only [ByteArray.size_append]; omega)]
    simp only [Option.bind_some]
    rw [catL (by simp only [ByteArray.size_append]; omega)]
    simp only [Option.bind_some]
    rw [catL (by simp only [ByteArray.size_append]; omega)]
    exact ⟨_, rfl, rfl⟩
theorem outcomeLine_true (a : DOutcome) (hb : BdMemory a.Memory) (h : I64 a.Steps) : F_laws_FnExactOutcomeLine a = some true := by
  refine u_laws_FnExactOutcomeLine a _ ?_
  unfold B_laws_FnExactOutcomeLine
  have sz : SzOk (F_laws_szOutcome a 1048576) 1048576 (FitMemory 1048576 a.Memory) := by
    refine sz_u (u_laws_szOutcome a 1048576) ?_
    unfold B_laws_szOutcome
    exact sz_bind (sz_Memory hb (by omega) (Int.le_refl _)) fun l1 q1 q1' p1 => sz_end q1 p1
  rcases sz with e | ⟨l', e, h0, _, hs⟩
  · rw [e]; rfl
  · have n0 : decide (l' < 0) = false := by simp; omega
    obtain ⟨w, w1, w2⟩ := to_Memory hs
    have e1 : F_laws_toOutcome a = some ⟨w, a.At, a.Steps, a.Code⟩ := u_laws_toOutcome _ _ (by unfold B_laws_toOutcome; rw [w1]; rfl)
    have e2 : F_laws_eqOutcome (⟨w, a.At, a.Steps, a.Code⟩ : DOutcome) ⟨w, a.At, a.Steps, a.Code⟩ = some true := u_laws_eqOutcome _ _ _ (by
      unfold B_laws_eqOutcome
      have := q_laws_eqMemory w2 w2
      rw [tell_t (EqMemory.refl w)] at this
      show ((F_laws_eqMemory w w).bind _) = _
      rw [this]; simp)
    obtain ⟨t, t1, t2⟩ := outcome_same ⟨w, a.At, a.Steps, a.Code⟩ h
    simp only [e, e1, t1, t2, e2, Option.bind_some, n0]
    simp
theorem shp_intS {P : Program} {t : TypeId} {d : Nat} {ts : List T} {k : IntKind} (hu : P.underlying t = some (.int k)) (kt : kindT P t = 2) (h : Shp P d t ts) : ∃ n : Int, ts = [.int k n] ∧ (Lit.int k n).wf = true := by
  cases d with
  | zero => exact h.elim
  | succ d =>
    rcases h with h | h | h | h | h
    · rw [kt] at h; exact absurd h.1 (by decide)
    · obtain ⟨_, k', n, h1, h2, h3⟩ := h
      rw [hu] at h1
      injection h1 with h1; injection h1 with h1; subst h1
      exact ⟨n, h2, h3⟩
    · rw [kt] at h; exact absurd h.1 (by decide)
    · rw [kt] at h; exact absurd h.1 (by decide)
    · rw [kt] at h; exact absurd h.1 (by decide)
theorem dec_i64 {d : Nat} {ts : List T} (h : Shp Go.Proofs.Tryd.prog d 2 ts) : ∃ n : Int, ts = [.int .i64 n] ∧ I64 n := by
  obtain ⟨n, rfl, h2⟩ := shp_intS (k := .i64) (by kernel_rfl) (by kernel_rfl) h
  exact ⟨n, rfl, by have h2 := h2; simp only [Lit.wf, Bool.and_eq_true, decide_eq_true_eq] at h2; exact h2⟩
theorem dec_outcome {d : Nat} {ts : List T} (h : Shp Go.Proofs.Tryd.prog d 62 ts) : ∃ x : DOutcome, ts = DOutcome.cells x ∧ BdMemory x.Memory ∧ I64 x.Steps := by
  obtain ⟨d, g⟩ := shp_struct (by kernel_rfl) h
  rw [show (fieldsT Go.Proofs.Tryd.prog 62).map (·.type) = [60, 2, 2, 2] from by kernel_rfl] at g
  obtain ⟨a0, t0, rfl, -, q0, g⟩ := g
  obtain ⟨x0, rfl, b0⟩ := d_Memory q0
  obtain ⟨a1, t1, rfl, -, q1, g⟩ := g
  obtain ⟨x1, rfl, b1⟩ := dec_i64 q1
  obtain ⟨a2, t2, rfl, -, q2, g⟩ := g
  obtain ⟨x2, rfl, b2⟩ := dec_i64 q2
  obtain ⟨a3, t3, rfl, -, q3, g⟩ := g
  obtain ⟨x3, rfl, b3⟩ := dec_i64 q3
  cases g
  exact ⟨⟨x0, x1, x2, x3⟩, rfl, b0, b2⟩
theorem law_FnExactOutcomeLine {fu0 : Nat} {t0 : List T} (h0 : Shp Go.Proofs.Tryd.prog fu0 62 t0) : ∃ σ', run Go.Proofs.Tryd.prog md ext 5 [.agg t0] St.empty = some (.bool true, σ') := by
  obtain ⟨a, rfl, h, h1⟩ := dec_outcome h0
  exact ⟨_, semV_spec (outcomeLine_true a h h1) St.empty⟩
end Go.Am
end
