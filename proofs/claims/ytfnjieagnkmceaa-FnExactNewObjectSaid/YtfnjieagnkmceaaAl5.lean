/- The law. -/
import Derived.Test.YtfnjieagnkmceaaAl4
import Derived.Test.YtfnjieagnkmceaaAg2
import Derived.Test.YtfnjieagnkmceaaAg1
section
set_option maxRecDepth 100000
set_option maxHeartbeats 2000000
set_option linter.unusedVariables false
set_option linter.unusedSimpArgs false
namespace Go.Am
theorem newObject_same (c : DHeap) (o' : DObject) (h : SmHeap c) (hz : NzH c) (ho' : SmObject o') (hzo' : NzO o') : ∃ w, F_spec_NewObject c o' = some w ∧ F_impl_NewObject c o' = some w ∧ LenHeap w.1 := by
  suffices key : ∃ w, B_spec_NewObject c o' = some w ∧ B_impl_NewObject c o' = some w ∧ LenHeap w.1 by
    obtain ⟨w, h1, h2, h3⟩ := key
    exact ⟨w, u_spec_NewObject c o' w h1, u_impl_NewObject c o' w h2, h3⟩
  have hl := h.1
  have hlh := SmHeap_Len h
  obtain ⟨o, hod⟩ : ∃ o : DObject, o = ⟨1, o'.Kind, o'.Name, o'.Low, o'.Keys, o'.Vals, o'.Default⟩ := ⟨_, rfl⟩
  have ho : SmObject o := by rw [hod]; exact ho'
  have hzo : NzO o := by rw [hod]; exact hzo'
  have hlo := SmObject_Len ho
  have e1 : o'.Keys = o.Keys := by rw [hod]
  have e2 : o'.Vals = o.Vals := by rw [hod]
  have e3 : o'.Default = o.Default := by rw [hod]
  have e4 : o'.Kind = o.Kind := by rw [hod]
  unfold B_spec_NewObject B_impl_NewObject
  rw [← hod, e1, e2, e3, e4, ok1 c h, ok2 c h, obj1 o ho, obj2 o ho]
  by_cases hv : HeapP c
  · rw [says_t hv]
    by_cases hov : ObjP o
    · rw [says_t hov]
      have hord := hv.2.2.1.2
      obtain ⟨s, s1, s2, s3⟩ := values2 o ho
      have f1 := fitAll1 c o.Keys hl hord ho.2.1
      have f2 := fitAll1 c o.Vals hl hord ho.2.2.1
      have f3 := fits1 c o.Default hl hord ho.2.2.2
      have f4 := fitAll2 c s hl hord s2 (fun v hv => by
        rcases (s3 v).1 hv with w | w | ⟨_, rfl⟩
        · exact ho.2.1.2 v w
        · exact ho.2.2.1.2 v w
        · exact ho.2.2.2)
      have hiff : (∀ v ∈ s.l, FitsP c v) ↔ RefsP c o := ⟨fun w => ⟨fun v hv => w v ((s3 v).2 (.inl hv)), fun v hv => w v ((s3 v).2 (.inr (.inl hv))), fun hk => w _ ((s3 _).2 (.inr (.inr ⟨hk, rfl⟩)))⟩, fun w v hv => by
        rcases (s3 v).1 hv with q | q | ⟨q, rfl⟩
        · exact w.1 v q
        · exact w.2.1 v q
        · exact w.2.2 q⟩
      rw [says_iff' hiff] at f4
      have hlen : ∀ w, w = (if (c.Objects.l.length : Int) = 40 ∨ c.Next = 1000000 then ((⟨0, ⟨true, []⟩⟩ : DHeap), (0 : Int), (6 : Int)) else (addH c o, IntKind.i64.wrap (c.Next + 1), 0)) → LenHeap w.1 := fun w hw => by
        subst hw; split
        · exact Len_nilH
        · exact Len_addH h hlo
      simp only [Option.bind_some, Bool.not_true, Bool.false_eq_true, if_false, if_true, s1, f1, f2, f3, f4, add1 c o hlh hv hlo, add2 c o hlh hz hlo hzo]
      by_cases hr : RefsP c o
      · have g1 := hr.1; have g2 := hr.2.1
        rw [says_t hr, says_t g1, says_t g2]
        by_cases hk2 : o.Kind = 2
        · have d2 : decide (o.Kind = 2) = true := by simpa using hk2
          rw [says_t (hr.2.2 hk2)]
          simp only [d2, Bool.not_true, Bool.false_eq_true, if_false, if_true]
          exact ⟨_, rfl, rfl, hlen _ rfl⟩
        · have d2 : decide (o.Kind = 2) = false := by simpa using hk2
          simp only [d2, Bool.not_true, Bool.not_false, Bool.false_eq_true, if_false, if_true]
          exact ⟨_, rfl, rfl, hlen _ rfl⟩
      · rw [says_f hr]
        refine ⟨_, ?_, rfl, Len_nilH⟩
        by_cases g1 : ∀ v ∈ o.Keys.l, FitsP c v
        · by_cases g2 : ∀ v ∈ o.Vals.l, FitsP c v
          · by_cases hk2 : o.Kind = 2
            · have g3 : ¬ FitsP c o.Default := fun w => hr ⟨g1, g2, fun _ => w⟩
              rw [says_t g1, says_t g2, says_f g3]; simp [hk2]
            · exact absurd ⟨g1, g2, fun w => absurd w hk2⟩ hr
          · rw [says_t g1, says_f g2]; simp
        · rw [says_f g1]; simp
    · rw [says_f hov]
      exact ⟨_, rfl, rfl, Len_nilH⟩
  · rw [says_f hv]
    exact ⟨_, rfl, rfl, Len_nilH⟩
theorem newObject_true (a : DHeap) (b : DObject) (fa : FitHeap a) (fb : FitObject b) : F_laws_FnExactNewObject a b = some true := by
  refine u_laws_FnExactNewObject a b _ ?_
  unfold B_laws_FnExactNewObject
  rcases sz_Heap a fa 1048576 (by omega) (by omega) with ea | ⟨la, ea, h0a, h1a, sa⟩
  · simp only [ea, Option.bind_some]
    simp
  have na : decide (la < 0) = false := by simp; omega
  rcases sz_Object b fb la (by omega) (by omega) with eb | ⟨lb, eb, h0b, h1b, sb⟩
  · simp only [ea, na, eb, Option.bind_some]
    simp
  have nb : decide (lb < 0) = false := by simp; omega
  obtain ⟨⟨w1, w2, w3⟩, r1, r2, hw⟩ := newObject_same (cpHeap a) (cpObject b) (Sm_cpHeap sa) (Nz_cp a) (Sm_cpObject sb) (Nz_cpO b)
  have q0 := eq_Heap w1 hw
  have qa := eq_Heap (cpHeap a) (SmHeap_Len (Sm_cpHeap sa))
  obtain ⟨ka, za0, ma, ua, va, -⟩ := mh_Heap (cpHeap a) (SmHeap_Len (Sm_cpHeap sa)) 1 (by omega) (by omega)
  have qb := eq_Object (cpObject b) (SmObject_Len (Sm_cpObject sb))
  obtain ⟨kb, zb0, zb1, mb, ub, vb, -⟩ := mh_Object (cpObject b) (SmObject_Len (Sm_cpObject sb)) ka (by omega) (by omega)
  have nk : decide (kb < 0) = false := by simp; omega
  obtain ⟨kw, zw0, mw, uw, vw, gw⟩ := mh_Heap w1 hw 1 (by omega) (by omega)
  have nw : decide (kw < 0) = false := by simp; omega
  simp only [ea, na, eb, nb, r1, r2, q0, qa, to_Heap a sa, ma, qb, to_Object b sb, mb, nk, mw, gw, nw, Option.bind_some]
  simp
theorem law_FnExactNewObject {fu0 fu1 : Nat} {t0 : List T} {t1 : List T} (h0 : Shp Go.Proofs.Try.prog fu0 24 t0) (h1 : Shp Go.Proofs.Try.prog fu1 45 t1) : ∃ σ', run Go.Proofs.Try.prog md ext 5 [.agg t0, .agg t1] St.empty = some (.bool true, σ') := by
  obtain ⟨a, rfl, fa⟩ := dec_Heap h0
  obtain ⟨b, rfl, fb⟩ := dec_Object h1
  exact ⟨_, semV_spec (newObject_true a b fa fb) St.empty⟩
end Go.Am
end
