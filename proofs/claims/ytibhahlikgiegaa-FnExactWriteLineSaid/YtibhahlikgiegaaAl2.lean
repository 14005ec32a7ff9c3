/- The law. -/
import Derived.Test.YtibhahlikgiegaaAl1
import Derived.Test.YtibhahlikgiegaaAg2
import Derived.Test.YtibhahlikgiegaaAg1
section
set_option maxRecDepth 100000
set_option maxHeartbeats 1000000
set_option linter.unusedVariables false
set_option linter.unusedSimpArgs false
namespace Go.Am
theorem Len_nil : LenCon ⟨⟨true, []⟩, 0, ⟨true, []⟩, ⟨true, []⟩, ⟨true, []⟩⟩ := ⟨by simp, by simp, ⟨by simp, fun f hf => by simp at hf⟩, by simp⟩
theorem writeLine_same (c : DConsole) (s : ByteArray) (h : SmCon c) (hz : NoNil c) : ∃ w, F_spec_WriteLine c s = some w ∧ F_impl_WriteLine c s = some w ∧ LenCon w.1 := by
  have hc := Len_cq (Sm_Len h)
  suffices key : ∃ w, B_spec_WriteLine c s = some w ∧ B_impl_WriteLine c s = some w ∧ LenCon w.1 by
    obtain ⟨w, h1, h2, h3⟩ := key
    exact ⟨w, u_spec_WriteLine c s w h1, u_impl_WriteLine c s w h2, h3⟩
  unfold B_spec_WriteLine B_impl_WriteLine
  rw [con1 c h, con2 c h, own1 c h, own2 c h hz, short2]
  simp only [Option.bind_some]
  by_cases hv : ConP c
  · rw [says_t hv]
    simp only [Bool.not_true, Bool.false_eq_true, if_false]
    by_cases hs : s.size ≤ 200
    · rw [says_t hs, if_neg (by simp; omega)]
      simp only [Bool.not_true, Bool.false_eq_true, if_false]
      have hlen := hv.2.2.1.1
      have e0 : ((cqCon c).Output.l.length : Int) = (c.Output.l.length : Int) := rfl
      rw [e0]
      by_cases he : c.Output.l.length = 100
      · rw [if_pos (by simp; omega), if_pos (by simp; omega)]
        exact ⟨_, rfl, rfl, Len_nil⟩
      · rw [if_neg (by simp; omega), if_neg (by simp; omega)]
        have e1 : appS 16 (cqCon c).Output (⟨false, [s]⟩ : Sl ByteArray) = some ⟨false, c.Output.l ++ [s]⟩ := appS_new (by omega)
        rw [e1]
        obtain ⟨a1, a2, a3, a4⟩ := hc
        exact ⟨_, rfl, rfl, a1, by simp; omega, a3, a4⟩
    · rw [says_f hs, if_pos (by simp; omega)]
      exact ⟨_, rfl, rfl, Len_nil⟩
  · rw [says_f hv]
    exact ⟨_, rfl, rfl, Len_nil⟩
theorem writeLine_true (a : DConsole) (s : ByteArray) (h : FitCon a) : F_laws_FnExactWriteLine a s = some true := by
  refine u_laws_FnExactWriteLine a s _ ?_
  unfold B_laws_FnExactWriteLine
  by_cases hss : 1048576 < (s.size : Int)
  · rw [if_pos (by simpa using hss)]
  rw [if_neg (by simpa using hss)]
  rcases sz_Console a h with e | ⟨l', e, h0, _, hs⟩
  · rw [e]; rfl
  · have hc := Sm_cp hs
    obtain ⟨⟨w1, w2⟩, e1, e2, hw⟩ := writeLine_same (cpCon a) s hc (NoNil_cp a)
    have e3 := eq_Console w1 hw
    have e4 := eq_Console (cpCon a) (Sm_Len hc)
    obtain ⟨k, c', m1, m2, m3⟩ := mh_Console (cpCon a) (Sm_Len hc)
    obtain ⟨k2, c2, m4, m5, m6⟩ := mh_Console w1 hw
    have n0 : decide (l' < 0) = false := by simp; omega
    have n1 : decide (k < 0) = false := by simp; omega
    have n2 : decide (k2 < 0) = false := by simp; omega
    simp only [e, to_Console a hs, e1, e2, e3, e4, m1, m4, m6, Option.bind_some, n0, n1, n2]
    simp
theorem law_FnExactWriteLine {fu0 fu1 : Nat} {t0 : List T} {t1 : T} (h0 : Shp Go.Proofs.Try.prog fu0 37 t0) (h1 : Shp Go.Proofs.Try.prog fu1 9 [t1]) : ∃ σ', run Go.Proofs.Try.prog md ext 5 [.agg t0, t1] St.empty = some (.bool true, σ') := by
  obtain ⟨a, rfl, ha⟩ := dec_con h0
  obtain ⟨s, e, hs⟩ := dec_str h1
  injection e with e; subst e
  exact ⟨_, semV_spec (writeLine_true a s ha) St.empty⟩
end Go.Am
end
