/- The law. -/
import Derived.Test.YtibhahlikgiegaaAl2
import Derived.Test.YtibhahlikgiegaaAg2
import Derived.Test.YtibhahlikgiegaaAg3
import Derived.Test.YtibhahlikgiegaaAg1
import Derived.Test.YtibhahlikgiegaaAg4
import Derived.Test.YtibhahlikgiegaaAg5
section
set_option maxRecDepth 100000
set_option maxHeartbeats 1000000
set_option linter.unusedVariables false
set_option linter.unusedSimpArgs false
namespace Go.Am
theorem first_ok (x y : Int) : F_impl_first (⟨false, [⟨x⟩, ⟨y⟩]⟩) = some (if x = 0 then y else x) := by
  refine u_impl_first _ _ ?_
  unfold B_impl_first
  have w0 : IntKind.i64.wrap (0 + 1) = 1 := rfl
  have w1 : IntKind.i64.wrap (1 + 1) = 2 := rfl
  by_cases hx : x = 0
  · subst hx
    by_cases hy : y = 0
    · subst hy
      rw [loopO_go (s' := 1) rfl (loopO_go (s' := 2) rfl (loopO_stop (r := .inl ()) rfl))]; rfl
    · rw [loopO_go (s' := 1) rfl (loopO_stop (r := .inr y) (by show (if (!decide (y = 0)) = true then _ else _) = _; rw [if_pos (by simpa using hy)]))]; rfl
  · rw [loopO_stop (r := .inr x) (by show (if (!decide (x = 0)) = true then _ else _) = _; rw [if_pos (by simpa using hx)]), if_neg hx]; rfl
theorem short_ok (u : ByteArray) : F_impl_isShort u = some (decide ((u.size : Int) ≤ 200)) := u_impl_isShort u _ rfl
theorem writeFile_same (c : DConsole) (s u : ByteArray) (h : SmCon c) (hz : NoNil c) (hs : s.size ≤ 1048576) : ∃ w, F_spec_WriteFile c s u = some w ∧ F_impl_WriteFile c s u = some w ∧ LenCon w.1 := by
  have hc := Len_cq (Sm_Len h)
  suffices key : ∃ w, B_spec_WriteFile c s u = some w ∧ B_impl_WriteFile c s u = some w ∧ LenCon w.1 by
    obtain ⟨w, h1, h2, h3⟩ := key
    exact ⟨w, u_spec_WriteFile c s u w h1, u_impl_WriteFile c s u w h2, h3⟩
  have hl2 : (cqCon c).Files.l.length = c.Files.l.length := by simp [cqCon]
  have hlen := h.2.2.1.1
  unfold B_spec_WriteFile B_impl_WriteFile
  rw [short_ok]
  by_cases hb : 200 < (u.size : Int)
  · obtain ⟨y, q⟩ : ∃ y, F_spec_l21Code c s = some y := by
      rcases code1 c s h hs with ⟨hv, q⟩ | ⟨hv, hn, q⟩ | ⟨hv, hn, ⟨n, hlt, he, q, q2⟩ | ⟨he, q, r, hr, q2⟩⟩ <;> exact ⟨_, q⟩
    have b1 : decide (200 < (u.size : Int)) = true := by simpa using hb
    have b2 : decide ((u.size : Int) ≤ 200) = false := by simp; omega
    rw [q, b1, b2]
    exact ⟨_, rfl, rfl, Len_nil⟩
  have b1 : decide (200 < (u.size : Int)) = false := by simpa using hb
  have b2 : decide ((u.size : Int) ≤ 200) = true := by simp; omega
  rw [b1, b2]
  simp only [Option.bind_some, Bool.not_true, Bool.false_eq_true, if_false]
  rcases code1 c s h hs with ⟨hv, q⟩ | ⟨hv, hn, q⟩ | ⟨hv, hn, ⟨n, hlt, he, q, q2⟩ | ⟨he, q, r, hr, q2⟩⟩
  · rw [q, con2 c h]
    simp only [Option.bind_some, says_f hv]
    exact ⟨_, rfl, rfl, Len_nil⟩
  · rw [q, con2 c h, name2 s hs]
    simp only [Option.bind_some, says_t hv, says_f hn, Bool.not_true, Bool.false_eq_true, if_false]
    exact ⟨_, rfl, rfl, Len_nil⟩
  · have hlt2 : n < (cqCon c).Files.l.length := by omega
    have hfile : (cqCon c).Files.l[n] = cpFile c.Files.l[n] := by simp [cqCon]
    obtain ⟨k, k1, k2, k3⟩ := compare_ok (cpFile c.Files.l[n]).Name s
    have hk : k = 0 := k3.2 he
    subst hk
    have d1 : decide ((n : Int) < ((cqCon c).Files.l.length : Int)) = true := by simp; omega
    rw [q, con2 c h, name2 s hs, own1 c h, own2 c h hz]
    simp only [Option.bind_some, says_t hv, says_t hn, Bool.not_true, Bool.false_eq_true, if_false]
    rw [q2]
    simp only [Option.bind_some, elt_lt hlt, elt_lt hlt2, hfile, nameOf, k1, unless_ok, elt_set hlt2, set_set', d1, if_true, decide_true, Bool.not_true, Bool.false_eq_true, if_false]
    have hff : SmFile c.Files.l[n] := h.2.2.1.2 _ (List.getElem_mem hlt)
    have hlines := hff.2.1
    have g1 := first_ok (if (decide (c.Files.l[n].Mode = 2) || decide (c.Files.l[n].Mode = 3)) = true then 0 else 10) (if decide ((c.Files.l[n].Lines.l.length : Int) < 40) = true then 0 else 6)
    have e1 : (cpFile c.Files.l[n]).Mode = c.Files.l[n].Mode := rfl
    have e2 : (cpFile c.Files.l[n]).Lines.l.length = c.Files.l[n].Lines.l.length := rfl
    have e3 : (cpFile c.Files.l[n]).Lines = cpSS c.Files.l[n].Lines := rfl
    by_cases hm : c.Files.l[n].Mode = 2 ∨ c.Files.l[n].Mode = 3
    · by_cases hw : c.Files.l[n].Lines.l.length < 40
      · have g2 : appS 16 (cpFile c.Files.l[n]).Lines (⟨false, [u]⟩ : Sl ByteArray) = some ⟨false, (cpFile c.Files.l[n]).Lines.l ++ [u]⟩ := by
          unfold appS
          show (if ((cpFile c.Files.l[n]).Lines.l.length + 1) * 16 ≤ 1099511627776 then _ else none) = _
          rw [if_pos (by rw [e2]; omega)]
        have w1 : decide ((c.Files.l[n].Lines.l.length : Int) < 40) = true := by simp; omega
        have w2 : decide (40 ≤ (c.Files.l[n].Lines.l.length : Int)) = false := by simp; omega
        have w3 : (decide (c.Files.l[n].Mode = 2) || decide (c.Files.l[n].Mode = 3)) = true := by simpa using hm
        rw [w1, w3] at g1
        refine ⟨(⟨(cqCon c).Input, (cqCon c).At, (cqCon c).Output, setS (cqCon c).Files (n : Int) ⟨(cpFile c.Files.l[n]).Name, ⟨false, (cpFile c.Files.l[n]).Lines.l ++ [u]⟩, (cpFile c.Files.l[n]).Mode, (cpFile c.Files.l[n]).At⟩, (cqCon c).Trace⟩, 0), ?_, ?_, Len_set hc ?_⟩
        · rcases hm with hm | hm <;> simp [hm, w2, g2]
        · simp only [if_true] at g1
          rcases hm with hm | hm <;> simp [e1, e2, hm, w1, g1, g2]
        · show ((cpFile c.Files.l[n]).Lines.l ++ [u]).length ≤ 1048577
          rw [List.length_append, e2]; simp; omega
      · have w1 : decide ((c.Files.l[n].Lines.l.length : Int) < 40) = false := by simp; omega
        have w2 : decide (40 ≤ (c.Files.l[n].Lines.l.length : Int)) = true := by simp; omega
        have w3 : (decide (c.Files.l[n].Mode = 2) || decide (c.Files.l[n].Mode = 3)) = true := by simpa using hm
        rw [w1, w3] at g1
        refine ⟨(⟨⟨true, []⟩, 0, ⟨true, []⟩, ⟨true, []⟩, ⟨true, []⟩⟩, 6), ?_, ?_, Len_nil⟩
        · rcases hm with hm | hm <;> simp [hm, w2]
        · simp at g1
          rcases hm with hm | hm <;> simp [e1, e2, hm, w1, g1]
    · have hm2 : ¬ c.Files.l[n].Mode = 2 := fun e => hm (.inl e)
      have hm3 : ¬ c.Files.l[n].Mode = 3 := fun e => hm (.inr e)
      have w3 : (decide (c.Files.l[n].Mode = 2) || decide (c.Files.l[n].Mode = 3)) = false := by simp [hm2, hm3]
      rw [w3] at g1
      refine ⟨(⟨⟨true, []⟩, 0, ⟨true, []⟩, ⟨true, []⟩, ⟨true, []⟩⟩, 10), by simp [hm2, hm3], ?_, Len_nil⟩
      simp at g1
      simp [e1, e2, hm2, hm3, g1]
  · rw [q, con2 c h, name2 s hs, own2 c h hz]
    simp only [Option.bind_some, says_t hv, says_t hn, Bool.not_true, Bool.false_eq_true, if_false]
    rw [q2]
    by_cases hlt : r < c.Files.l.length
    · have hlt2 : r < (cqCon c).Files.l.length := by omega
      have hfile : (cqCon c).Files.l[r] = cpFile c.Files.l[r] := by simp [cqCon]
      obtain ⟨k, k1, k2, k3⟩ := compare_ok (cpFile c.Files.l[r]).Name s
      have hk : ¬ k = 0 := fun e => he _ (List.getElem_mem hlt) (k3.1 e)
      have d1 : decide ((r : Int) < ((cqCon c).Files.l.length : Int)) = true := by simp; omega
      simp only [Option.bind_some, elt_lt hlt2, hfile, nameOf, k1, d1, if_true]
      simp only [hk, decide_false, Bool.not_false, if_true]
      exact ⟨_, rfl, rfl, Len_nil⟩
    · have d1 : decide ((r : Int) < ((cqCon c).Files.l.length : Int)) = false := by simp; omega
      simp only [Option.bind_some, d1, Bool.false_eq_true, if_false]
      exact ⟨_, rfl, rfl, Len_nil⟩
theorem writeFile_true (a : DConsole) (s u : ByteArray) (h : FitCon a) : F_laws_FnExactWriteFile a s u = some true := by
  refine u_laws_FnExactWriteFile a s u _ ?_
  unfold B_laws_FnExactWriteFile
  by_cases hss : 1048576 < (s.size : Int)
  · rw [if_pos (by simpa using hss)]
  rw [if_neg (by simpa using hss)]
  by_cases hsu : 1048576 < (u.size : Int)
  · rw [if_pos (by simpa using hsu)]
  rw [if_neg (by simpa using hsu)]
  rcases sz_Console a h with e | ⟨l', e, h0, _, hs⟩
  · rw [e]; rfl
  · have hc := Sm_cp hs
    obtain ⟨⟨w1, w2⟩, e1, e2, hw⟩ := writeFile_same (cpCon a) s u hc (NoNil_cp a) (by omega)
    have e3 := eq_Console w1 hw
    have e4 := eq_Console (cpCon a) (Sm_Len hc)
    obtain ⟨k, c', m1, m2, m3⟩ := mh_Console (cpCon a) (Sm_Len hc)
    obtain ⟨k2, c2, m4, m5, m6⟩ := mh_Console w1 hw
    have n0 : decide (l' < 0) = false := by simp; omega
    have n1 : decide (k < 0) = false := by simp; omega
    have n2 : decide (k2 < 0) = false := by simp; omega
    simp only [e, to_Console a hs, e1, e2, e3, e4, m1, m4, m6, Option.bind_some, n0, n1, n2]
    simp
theorem law_FnExactWriteFile {fu0 fu1 fu2 : Nat} {t0 : List T} {t1 t2 : T} (h0 : Shp Go.Proofs.Try.prog fu0 37 t0) (h1 : Shp Go.Proofs.Try.prog fu1 9 [t1]) (h2 : Shp Go.Proofs.Try.prog fu2 9 [t2]) : ∃ σ', run Go.Proofs.Try.prog md ext 9 [.agg t0, t1, t2] St.empty = some (.bool true, σ') := by
  obtain ⟨a, rfl, ha⟩ := dec_con h0
  obtain ⟨s, e, hs⟩ := dec_str h1
  injection e with e; subst e
  obtain ⟨u, e, hu⟩ := dec_str h2
  injection e with e; subst e
  exact ⟨_, semV_spec (writeFile_true a s u ha) St.empty⟩
end Go.Am
end
