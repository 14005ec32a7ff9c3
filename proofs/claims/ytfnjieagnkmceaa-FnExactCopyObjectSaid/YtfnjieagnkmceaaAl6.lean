/- The law. -/
import Derived.Test.YtfnjieagnkmceaaAl5
import Derived.Test.YtfnjieagnkmceaaAg2
import Derived.Test.YtfnjieagnkmceaaAg1
section
set_option maxRecDepth 100000
set_option maxHeartbeats 2000000
set_option linter.unusedVariables false
set_option linter.unusedSimpArgs false
namespace Go.Am
theorem copyObject_same (c : DHeap) (v : DValue) (h : SmHeap c) (hz : NzH c) (hv : SmValue v) : ∃ w w' : DHeap × DValue × Int, F_spec_CopyObject c v = some w ∧ F_impl_CopyObject c v = some w' ∧ LenHeap w'.1 ∧ EqvHeap w'.1 w.1 ∧ w'.2 = w.2 := by
  suffices key : ∃ w w' : DHeap × DValue × Int, B_spec_CopyObject c v = some w ∧ B_impl_CopyObject c v = some w' ∧ LenHeap w'.1 ∧ EqvHeap w'.1 w.1 ∧ w'.2 = w.2 by
    obtain ⟨w, w', h1, h2, h3⟩ := key
    exact ⟨w, w', u_spec_CopyObject c v w h1, u_impl_CopyObject c v w' h2, h3⟩
  have hl := h.1
  unfold B_spec_CopyObject B_impl_CopyObject
  rw [fitS1 c _ h (Sm_one hv), fitS2 c _ h (Sm_one hv), ref1, ref2]
  by_cases hf : AllFit c ⟨false, [v]⟩
  · rw [says_t hf]
    by_cases hr : 4 ≤ v.Kind ∧ v.Kind ≤ 6
    · rw [says_t hr]
      obtain ⟨n, hn, f1, f2, hk⟩ := ref_obj hl hf.1.2.2.1.2 (hf.2 v (by simp)) hr
      have hzo := hz _ (List.getElem_mem hn)
      obtain ⟨w, w', r1, r2, q1, q2, q3⟩ := created c c.Objects.l[n] h hf.1 hz (SmObject_Len (sm_get h hn)) ⟨fun w => (by rw [hzo.1] at w; cases w), fun w => (by rw [hzo.2] at w; cases w)⟩
      simp only [Option.bind_some, if_true, Bool.not_true, Bool.false_eq_true, if_false, decide_true, unless_ok, first_ok, f1, object2 c v _ hr f2, elt_lt hn, r1, r2]
      exact ⟨_, _, rfl, rfl, q1, q2, q3⟩
    · rw [says_f hr]
      simp only [Option.bind_some, unless_ok, first_ok]
      exact ⟨_, _, rfl, rfl, Len_nilH, EqvHeap_rfl, rfl⟩
  · rw [says_f hf]
    simp only [Option.bind_some, unless_ok, first_ok]
    exact ⟨_, _, rfl, rfl, Len_nilH, EqvHeap_rfl, rfl⟩
theorem copyObject_true (a : DHeap) (b : DValue) (fa : FitHeap a) (fb : FitValue b) : F_laws_FnExactCopyObject a b = some true := by
  refine u_laws_FnExactCopyObject a b _ ?_
  unfold B_laws_FnExactCopyObject
  rcases sz_Heap a fa 1048576 (by omega) (by omega) with ea | ⟨la, ea, h0a, h1a, sa⟩
  · simp only [ea, Option.bind_some]
    simp
  have na : decide (la < 0) = false := by simp; omega
  rcases sz_Value b fb la (by omega) (by omega) with eb | ⟨lb, eb, h0b, h1b, sb⟩
  · simp only [ea, na, eb, Option.bind_some]
    simp
  have nb : decide (lb < 0) = false := by simp; omega
  obtain ⟨⟨v1, v2, v3⟩, ⟨w1, w2, w3⟩, r1, r2, hw, hq, he⟩ := copyObject_same (cpHeap a) (cpValue b) (Sm_cpHeap sa) (Nz_cp a) (Sm_cpValue sb)
  simp only [Prod.mk.injEq] at he
  obtain ⟨rfl, rfl⟩ := he
  have q0 := eq2_Heap w1 v1 hw hq
  have qv := eq_Value w2 trivial
  have qa := eq_Heap (cpHeap a) (SmHeap_Len (Sm_cpHeap sa))
  obtain ⟨ka, za, ma, ua, xa, -⟩ := mh_Heap (cpHeap a) (SmHeap_Len (Sm_cpHeap sa)) 1 (by omega) (by omega)
  have nk : decide (ka < 0) = false := by simp; omega
  obtain ⟨kw, zw, mw, uw, xw, gw⟩ := mh_Heap w1 hw 1 (by omega) (by omega)
  have nw : decide (kw < 0) = false := by simp; omega
  simp only [ea, na, eb, nb, r1, r2, q0, qv, to_Heap a sa, qa, ma, to_Value b sb, nk, mw, gw, nw, Option.bind_some]
  simp
theorem law_FnExactCopyObject {fu0 fu1 : Nat} {t0 : List T} {t1 : List T} (h0 : Shp Go.Proofs.Try.prog fu0 24 t0) (h1 : Shp Go.Proofs.Try.prog fu1 43 t1) : ∃ σ', run Go.Proofs.Try.prog md ext 8 [.agg t0, .agg t1] St.empty = some (.bool true, σ') := by
  obtain ⟨a, rfl, fa⟩ := dec_Heap h0
  obtain ⟨b, rfl, fb⟩ := dec_Value h1
  exact ⟨_, semV_spec (copyObject_true a b fa fb) St.empty⟩
end Go.Am
end
