/- The law. -/
import Derived.Test.YtibhahlikgiegaaAl2
import Derived.Test.YtibhahlikgiegaaAg2
import Derived.Test.YtibhahlikgiegaaAg3
import Derived.Test.YtibhahlikgiegaaAg1
section
set_option maxRecDepth 100000
set_option maxHeartbeats 1000000
set_option linter.unusedVariables false
set_option linter.unusedSimpArgs false
namespace Go.Am
theorem closeFile_same (c : DConsole) (s : ByteArray) (h : SmCon c) (hz : NoNil c) (hs : s.size ≤ 1048576) : ∃ w, F_spec_CloseFile c s = some w ∧ F_impl_CloseFile c s = some w ∧ LenCon w.1 := by
  have hc := Len_cq (Sm_Len h)
  suffices key : ∃ w, B_spec_CloseFile c s = some w ∧ B_impl_CloseFile c s = some w ∧ LenCon w.1 by
    obtain ⟨w, h1, h2, h3⟩ := key
    exact ⟨w, u_spec_CloseFile c s w h1, u_impl_CloseFile c s w h2, h3⟩
  have hl2 : (cqCon c).Files.l.length = c.Files.l.length := by simp [cqCon]
  have hlen := h.2.2.1.1
  unfold B_spec_CloseFile B_impl_CloseFile
  rcases code1 c s h hs with ⟨hv, q⟩ | ⟨hv, hn, q⟩ | ⟨hv, hn, ⟨n, hlt, he, q, q2⟩ | ⟨he, q, r, hr, q2⟩⟩
  · rw [q, con2 c h]
    simp only [Option.bind_some, says_f hv]
    exact ⟨_, rfl, rfl, Len_nil⟩
  · rw [q, con2 c h, name2 s hs]
    simp only [Option.bind_some, says_t hv, says_f hn, Bool.not_true, Bool.false_eq_true, if_false]
    exact ⟨_, rfl, rfl, Len_nil⟩
  · have hlt2 : n < (cqCon c).Files.l.length := by omega
    have hfile : (cqCon c).Files.l[n] = cpFile c.Files.l[n] := by simp [cqCon]
    obtain ⟨k, k1, k2, k3⟩ := compare_ok (cpFile c.Files.l[n]).Name s
    have hk : k = 0 := k3.2 he
    subst hk
    have d1 : decide ((n : Int) < ((cqCon c).Files.l.length : Int)) = true := by simp; omega
    rw [q, con2 c h, name2 s hs, own1 c h, own2 c h hz]
    simp only [Option.bind_some, says_t hv, says_t hn, Bool.not_true, Bool.false_eq_true, if_false]
    rw [q2]
    simp only [Option.bind_some, elt_lt hlt, elt_lt hlt2, hfile, nameOf, k1, unless_ok, elt_set hlt2, set_set', d1, if_true, decide_true, Bool.not_true, Bool.false_eq_true, if_false]
    have hff : SmFile c.Files.l[n] := h.2.2.1.2 _ (List.getElem_mem hlt)
    have hlines := hff.2.1
    by_cases hm : c.Files.l[n].Mode = 0
    · refine ⟨(⟨⟨true, []⟩, 0, ⟨true, []⟩, ⟨true, []⟩, ⟨true, []⟩⟩, 10), by simp [hm], by simp [hm, cpFile], Len_nil⟩
    · refine ⟨(⟨(cqCon c).Input, (cqCon c).At, (cqCon c).Output, setS (cqCon c).Files (n : Int) ⟨c.Files.l[n].Name, cpSS c.Files.l[n].Lines, 0, 0⟩, (cqCon c).Trace⟩, 0), by simp [hm, cpFile], by simp [hm, cpFile], Len_set hc ?_⟩
      show c.Files.l[n].Lines.l.length ≤ 1048577
      omega
  · rw [q, con2 c h, name2 s hs, own2 c h hz]
    simp only [Option.bind_some, says_t hv, says_t hn, Bool.not_true, Bool.false_eq_true, if_false]
    rw [q2]
    by_cases hlt : r < c.Files.l.length
    · have hlt2 : r < (cqCon c).Files.l.length := by omega
      have hfile : (cqCon c).Files.l[r] = cpFile c.Files.l[r] := by simp [cqCon]
      obtain ⟨k, k1, k2, k3⟩ := compare_ok (cpFile c.Files.l[r]).Name s
      have hk : ¬ k = 0 := fun e => he _ (List.getElem_mem hlt) (k3.1 e)
      have d1 : decide ((r : Int) < ((cqCon c).Files.l.length : Int)) = true := by simp; omega
      simp only [Option.bind_some, elt_lt hlt2, hfile, nameOf, k1, d1, if_true]
      simp only [hk, decide_false, Bool.not_false, if_true]
      exact ⟨_, rfl, rfl, Len_nil⟩
    · have d1 : decide ((r : Int) < ((cqCon c).Files.l.length : Int)) = false := by simp; omega
      simp only [Option.bind_some, d1, Bool.false_eq_true, if_false]
      exact ⟨_, rfl, rfl, Len_nil⟩
theorem closeFile_true (a : DConsole) (s : ByteArray) (h : FitCon a) : F_laws_FnExactCloseFile a s = some true := by
  refine u_laws_FnExactCloseFile a s _ ?_
  unfold B_laws_FnExactCloseFile
  by_cases hss : 1048576 < (s.size : Int)
  · rw [if_pos (by simpa using hss)]
  rw [if_neg (by simpa using hss)]
  rcases sz_Console a h with e | ⟨l', e, h0, _, hs⟩
  · rw [e]; rfl
  · have hc := Sm_cp hs
    obtain ⟨⟨w1, w2⟩, e1, e2, hw⟩ := closeFile_same (cpCon a) s hc (NoNil_cp a) (by omega)
    have e3 := eq_Console w1 hw
    have e4 := eq_Console (cpCon a) (Sm_Len hc)
    obtain ⟨k, c', m1, m2, m3⟩ := mh_Console (cpCon a) (Sm_Len hc)
    obtain ⟨k2, c2, m4, m5, m6⟩ := mh_Console w1 hw
    have n0 : decide (l' < 0) = false := by simp; omega
    have n1 : decide (k < 0) = false := by simp; omega
    have n2 : decide (k2 < 0) = false := by simp; omega
    simp only [e, to_Console a hs, e1, e2, e3, e4, m1, m4, m6, Option.bind_some, n0, n1, n2]
    simp
theorem law_FnExactCloseFile {fu0 fu1 : Nat} {t0 : List T} {t1 : T} (h0 : Shp Go.Proofs.Try.prog fu0 37 t0) (h1 : Shp Go.Proofs.Try.prog fu1 9 [t1]) : ∃ σ', run Go.Proofs.Try.prog md ext 7 [.agg t0, t1] St.empty = some (.bool true, σ') := by
  obtain ⟨a, rfl, ha⟩ := dec_con h0
  obtain ⟨s, e, hs⟩ := dec_str h1
  injection e with e; subst e
  exact ⟨_, semV_spec (closeFile_true a s ha) St.empty⟩
end Go.Am
end
