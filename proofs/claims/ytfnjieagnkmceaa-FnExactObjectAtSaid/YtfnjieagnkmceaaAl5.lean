/- The law. -/
import Derived.Test.YtfnjieagnkmceaaAl4
import Derived.Test.YtfnjieagnkmceaaAg1
section
set_option maxRecDepth 100000
set_option maxHeartbeats 2000000
set_option linter.unusedVariables false
set_option linter.unusedSimpArgs false
namespace Go.Am
theorem objectAt_same (c : DHeap) (id : Int) (h : SmHeap c) (hz : NzH c) : ∃ w, F_spec_ObjectAt c id = some w ∧ F_impl_ObjectAt c id = some w ∧ LenObject w.1 := by
  suffices key : ∃ w, B_spec_ObjectAt c id = some w ∧ B_impl_ObjectAt c id = some w ∧ LenObject w.1 by
    obtain ⟨w, h1, h2, h3⟩ := key
    exact ⟨w, u_spec_ObjectAt c id w h1, u_impl_ObjectAt c id w h2, h3⟩
  have hl := h.1
  unfold B_spec_ObjectAt B_impl_ObjectAt
  rw [ok1 c h, ok2 c h]
  by_cases hv : HeapP c
  · rw [says_t hv]
    obtain ⟨r, r1, r2, ra⟩ := find_both c id hl hv.2.2.1.2
    simp only [Option.bind_some, Bool.not_true, Bool.false_eq_true, if_false, r1, r2]
    rcases ra with ⟨n, hn, rfl, e⟩ | ⟨rfl, e⟩
    · have d : decide ((n : Int) < 0) = false := by simp
      have hlo : LenObject c.Objects.l[n] := SmObject_Len (sm_get h hn)
      simp only [d, Bool.false_eq_true, if_false, elt_lt hn, Option.bind_some, ownO1 _ hlo, ownO2 _ hlo (hz _ (List.getElem_mem hn))]
      exact ⟨_, rfl, rfl, Len_ownO hlo⟩
    · exact ⟨_, rfl, rfl, Len_nilO⟩
  · rw [says_f hv]
    exact ⟨_, rfl, rfl, Len_nilO⟩
theorem objectAt_true (a : DHeap) (b : Int) (fa : FitHeap a) : F_laws_FnExactObjectAt a b = some true := by
  refine u_laws_FnExactObjectAt a b _ ?_
  unfold B_laws_FnExactObjectAt
  rcases sz_Heap a fa 1048576 (by omega) (by omega) with ea | ⟨la, ea, h0a, h1a, sa⟩
  · simp only [ea, Option.bind_some]
    simp
  have na : decide (la < 0) = false := by simp; omega
  obtain ⟨⟨w1, w2⟩, r1, r2, hw⟩ := objectAt_same (cpHeap a) b (Sm_cpHeap sa) (Nz_cp a)
  have q0 := eq_Object w1 hw
  have qa := eq_Heap (cpHeap a) (SmHeap_Len (Sm_cpHeap sa))
  obtain ⟨ka, za0, ma, ua, va, -⟩ := mh_Heap (cpHeap a) (SmHeap_Len (Sm_cpHeap sa)) 1 (by omega) (by omega)
  have nk : decide (ka < 0) = false := by simp; omega
  obtain ⟨kw, zw0, zw1, mw, uw, vw, gw⟩ := mh_Object w1 hw 1 (by omega) (by omega)
  have nw : decide (kw < 0) = false := by simp; omega
  simp only [ea, na, r1, r2, q0, qa, to_Heap a sa, ma, nk, mw, gw, nw, Option.bind_some]
  simp
theorem law_FnExactObjectAt {fu0 fu1 : Nat} {t0 : List T} {t1 : T} (h0 : Shp Go.Proofs.Try.prog fu0 24 t0) (h1 : Shp Go.Proofs.Try.prog fu1 2 [t1]) : ∃ σ', run Go.Proofs.Try.prog md ext 3 [.agg t0, t1] St.empty = some (.bool true, σ') := by
  obtain ⟨a, rfl, fa⟩ := dec_Heap h0
  obtain ⟨b, e1⟩ := dec_i64 h1
  injection e1 with e1; subst e1
  exact ⟨_, semV_spec (objectAt_true a b fa) St.empty⟩
end Go.Am
end
