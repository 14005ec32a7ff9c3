/- The law. -/
import Derived.Test.YtibhahlikgiegaaAl1
import Derived.Test.YtibhahlikgiegaaAg1
import Derived.Test.YtibhahlikgiegaaAg2
section
set_option maxRecDepth 100000
set_option maxHeartbeats 1000000
set_option linter.unusedVariables false
set_option linter.unusedSimpArgs false
namespace Go.Am
theorem Len_nil : LenCon ⟨⟨true, []⟩, 0, ⟨true, []⟩, ⟨true, []⟩, ⟨true, []⟩⟩ := ⟨by simp, by simp, ⟨by simp, fun f hf => by simp at hf⟩, by simp⟩
theorem readLine_same (c : DConsole) (h : SmCon c) (hz : NoNil c) : ∃ w, F_spec_ReadLine c = some w ∧ F_impl_ReadLine c = some w ∧ LenCon w.1 := by
  have hc := Len_cq (Sm_Len h)
  suffices key : ∃ w, B_spec_ReadLine c = some w ∧ B_impl_ReadLine c = some w ∧ LenCon w.1 by
    obtain ⟨w, h1, h2, h3⟩ := key
    exact ⟨w, u_spec_ReadLine c w h1, u_impl_ReadLine c w h2, h3⟩
  unfold B_spec_ReadLine B_impl_ReadLine
  rw [con1 c h, con2 c h, own1 c h, own2 c h hz]
  simp only [Option.bind_some]
  by_cases hv : ConP c
  · rw [says_t hv]
    simp only [Bool.not_true, Bool.false_eq_true, if_false]
    have hlen := h.1.1
    by_cases he : c.At = (c.Input.l.length : Int)
    · rw [if_pos (by simpa using he), if_pos (decide_eq_true (show (cqCon c).At = ((cqCon c).Input.l.length : Int) from he))]
      exact ⟨_, rfl, rfl, hc⟩
    · obtain ⟨h0, h1⟩ := hv.2.1
      obtain ⟨n, hn⟩ : ∃ n : Nat, c.At = n := ⟨c.At.toNat, by omega⟩
      have hlt : n < c.Input.l.length := by omega
      rw [if_neg (by simpa using he), if_neg (fun w => he (of_decide_eq_true w : (cqCon c).At = ((cqCon c).Input.l.length : Int)))]
      have e1 : elt c.Input c.At = some c.Input.l[n] := by rw [hn]; exact elt_lt hlt
      have e2 : elt (cqCon c).Input (IntKind.i64.wrap (IntKind.i64.wrap ((cqCon c).At + 1) - 1)) = some c.Input.l[n] := by
        show elt (cpSS c.Input) (IntKind.i64.wrap (IntKind.i64.wrap (c.At + 1) - 1)) = _
        rw [wrapB (n := c.At + 1) (by omega) (by omega), wrapB (by omega) (by omega), show c.At + 1 - 1 = (n : Int) by omega]
        exact elt_lt (s := cpSS c.Input) hlt
      rw [e1, e2]
      exact ⟨_, rfl, rfl, hc⟩
  · rw [says_f hv]
    exact ⟨_, rfl, rfl, Len_nil⟩
theorem readLine_true (a : DConsole) (h : FitCon a) : F_laws_FnExactReadLine a = some true := by
  refine u_laws_FnExactReadLine a _ ?_
  unfold B_laws_FnExactReadLine
  rcases sz_Console a h with e | ⟨l', e, h0, _, hs⟩
  · rw [e]; rfl
  · have hc := Sm_cp hs
    obtain ⟨⟨w1, w2, w3⟩, e1, e2, hw⟩ := readLine_same (cpCon a) hc (NoNil_cp a)
    have e3 := eq_Console w1 hw
    have e4 := eq_Console (cpCon a) (Sm_Len hc)
    obtain ⟨k, c', m1, m2, m3⟩ := mh_Console (cpCon a) (Sm_Len hc)
    obtain ⟨k2, c2, m4, m5, m6⟩ := mh_Console w1 hw
    have n0 : decide (l' < 0) = false := by simp; omega
    have n1 : decide (k < 0) = false := by simp; omega
    have n2 : decide (k2 < 0) = false := by simp; omega
    simp only [e, to_Console a hs, e1, e2, e3, e4, m1, m4, m6, Option.bind_some, n0, n1, n2]
    simp
theorem law_FnExactReadLine {fu0 : Nat} {t0 : List T} (h0 : Shp Go.Proofs.Try.prog fu0 37 t0) : ∃ σ', run Go.Proofs.Try.prog md ext 4 [.agg t0] St.empty = some (.bool true, σ') := by
  obtain ⟨a, rfl, ha⟩ := dec_con h0
  exact ⟨_, semV_spec (readLine_true a ha) St.empty⟩
end Go.Am
end
