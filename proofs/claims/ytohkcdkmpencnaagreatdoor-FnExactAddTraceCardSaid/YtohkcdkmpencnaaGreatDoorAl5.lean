/- The law. -/
import Derived.Test.YtohkcdkmpencnaaGreatDoorAg0
import Derived.Test.YtohkcdkmpencnaaGreatDoorAl4
section
set_option maxRecDepth 100000
set_option maxHeartbeats 1000000
set_option linter.unusedVariables false
set_option linter.unusedSimpArgs false
namespace Go.Am
theorem Len_nil : LenCon ⟨⟨true, []⟩, 0, ⟨true, []⟩, ⟨true, []⟩, ⟨true, []⟩⟩ := ⟨by simp, by simp, ⟨by simp, fun f hf => by simp at hf⟩, by simp⟩
theorem addTrace_same (c : DConsole) (k st : Int) (nm : ByteArray) (v : DValue) (h : SmCon c) (hz : NoNil c) (hn : nm.size ≤ 1048576) (hsv : SmValue v) : ∃ w, F_spec_AddTrace c k st nm v = some w ∧ F_impl_AddTrace c k st nm v = some w ∧ LenCon w.1 := by
  have hc := Len_cq (Sm_Len h)
  suffices key : ∃ w, B_spec_AddTrace c k st nm v = some w ∧ B_impl_AddTrace c k st nm v = some w ∧ LenCon w.1 by
    obtain ⟨w, h1, h2, h3⟩ := key
    exact ⟨w, u_spec_AddTrace _ _ _ _ _ w h1, u_impl_AddTrace _ _ _ _ _ w h2, h3⟩
  unfold B_spec_AddTrace B_impl_AddTrace
  obtain ⟨t, t1, t2, t3⟩ := trace_same k st nm v hn hsv
  rw [t1, t2, con1 c h, con2 c h, own1 c h, own2 c h hz]
  simp only [Option.bind_some]
  by_cases hv : ConP c
  · rw [says_t hv]
    simp only [Bool.not_true, Bool.false_eq_true, if_false]
    by_cases ht : t = (⟨#[]⟩ : ByteArray)
    · simp only [ht, decide_true, if_true]
      exact ⟨_, rfl, rfl, Len_nil⟩
    · simp only [ht, decide_false, Bool.false_eq_true, if_false]
      have hlen := hv.2.2.2.2.1.1
      have e0 : ((cqCon c).Trace.l.length : Int) = (c.Trace.l.length : Int) := rfl
      rw [e0]
      by_cases he : c.Trace.l.length = 200
      · rw [if_pos (by simp; omega), if_pos (by simp; omega)]
        exact ⟨_, rfl, rfl, Len_nil⟩
      · rw [if_neg (by simp; omega), if_neg (by simp; omega)]
        have e1 : appS 16 (cqCon c).Trace (⟨false, [t]⟩ : Sl ByteArray) = some ⟨false, c.Trace.l ++ [t]⟩ := appS_new (by omega)
        rw [e1]
        obtain ⟨a1, a2, a3, a4⟩ := hc
        exact ⟨_, rfl, rfl, a1, a2, a3, by simp; omega⟩
  · rw [says_f hv]
    exact ⟨_, rfl, rfl, Len_nil⟩
theorem addTrace_true (a : DConsole) (k st : Int) (nm : ByteArray) (v : DValue) (h : FitCon a) (hf : FitStr v.Text) : F_laws_FnExactAddTrace a k st nm v = some true := by
  refine u_laws_FnExactAddTrace a k st nm v _ ?_
  unfold B_laws_FnExactAddTrace
  have hm := maxLen_eq
  by_cases hss : 1048576 < (nm.size : Int)
  · rw [if_pos (by simpa using hss)]
  rw [if_neg (by simpa using hss)]
  rcases sz_Console a h with e | ⟨l', e, h0, hl, hs⟩
  · rw [e]; rfl
  · have hft : v.Text.size ≤ 9223372036854775807 := by have := hf; unfold FitStr at this; omega
    have ew : IntKind.i64.wrap (l' - (v.Text.size : Int)) = l' - (v.Text.size : Int) := wrap_id (by omega) (by omega)
    have n0 : decide (l' < 0) = false := by simp; omega
    rw [e, Option.bind_some, n0, if_neg (by simp)]
    by_cases hv : v.Text.size ≤ 1048576 ∧ (0 : Int) ≤ l' - (v.Text.size : Int)
    · have e5 : F_laws_szValue v l' = some (l' - (v.Text.size : Int)) := u_laws_szValue _ _ _ (by unfold B_laws_szValue; rw [ew, if_neg (by simp; omega)])
      have e6 : F_laws_toValue v = some v := u_laws_toValue _ _ rfl
      have hc := Sm_cp hs
      obtain ⟨⟨w1, w2⟩, e1, e2, hw⟩ := addTrace_same (cpCon a) k st nm v hc (NoNil_cp a) (by omega) hv.1
      have e3 := eq_Console w1 hw
      have e4 := eq_Console (cpCon a) (Sm_Len hc)
      obtain ⟨k1, c', m1, m2, m3⟩ := mh_Console (cpCon a) (Sm_Len hc)
      obtain ⟨k2, c2, m4, m5, m6⟩ := mh_Console w1 hw
      have n1 : decide (k1 < 0) = false := by simp; omega
      have n2 : decide (k2 < 0) = false := by simp; omega
      have n3 : decide (l' - (v.Text.size : Int) < 0) = false := by simp; omega
      simp only [e5, e6, to_Console a hs, e1, e2, e3, e4, m1, m4, m6, Option.bind_some, n1, n2, n3]
      simp
    · have e5 : F_laws_szValue v l' = some (-1) := u_laws_szValue _ _ _ (by unfold B_laws_szValue; rw [ew, if_pos (by simp; omega)])
      rw [e5]; rfl
theorem un_i64 : Go.Proofs.Tryz.prog.underlying 2 = some (.int .i64) := by kernel_rfl
theorem dec_i64 {d : Nat} {ts : List T} (h : Shp Go.Proofs.Tryz.prog d 2 ts) : ∃ n : Int, ts = [.int .i64 n] := shp_int un_i64 (by kernel_rfl) h
theorem dec_str {d : Nat} {ts : List T} (h : Shp Go.Proofs.Tryz.prog d 9 ts) : ∃ x : ByteArray, ts = [.str x] ∧ FitStr x := shp_str (by kernel_rfl) h
theorem dec_ss {d : Nat} {ts : List T} (h : Shp Go.Proofs.Tryz.prog d 22 ts) : ∃ x : Sl ByteArray, ts = [Sl.t x] ∧ FitSS x :=
  shp_sl (kt := by kernel_rfl) (he := by kernel_rfl) (fun d ts h => dec_str h) h
theorem dec_file {d : Nat} {ts : List T} (h : Shp Go.Proofs.Tryz.prog d 57 ts) : ∃ x : DFile, ts = DFile.cells x ∧ FitFile x := by
  obtain ⟨d, g⟩ := shp_struct (by kernel_rfl) h
  rw [show (fieldsT Go.Proofs.Tryz.prog 57).map (·.type) = [9, 22, 2, 2] from by kernel_rfl] at g
  obtain ⟨a0, t0, rfl, -, q0, g⟩ := g
  obtain ⟨x0, rfl, b0⟩ := dec_str q0
  obtain ⟨a1, t1, rfl, -, q1, g⟩ := g
  obtain ⟨x1, rfl, b1⟩ := dec_ss q1
  obtain ⟨a2, t2, rfl, -, q2, g⟩ := g
  obtain ⟨x2, rfl⟩ := dec_i64 q2
  obtain ⟨a3, t3, rfl, -, q3, g⟩ := g
  obtain ⟨x3, rfl⟩ := dec_i64 q3
  cases g
  exact ⟨⟨x0, x1, x2, x3⟩, rfl, b0, b1⟩
theorem dec_files {d : Nat} {ts : List T} (h : Shp Go.Proofs.Tryz.prog d 23 ts) : ∃ x : Sl DFile, ts = [Sl.t x] ∧ FitS maxLen FitFile x :=
  shp_sl (kt := by kernel_rfl) (he := by kernel_rfl) (fun d ts h => dec_file h) h
theorem dec_con {d : Nat} {ts : List T} (h : Shp Go.Proofs.Tryz.prog d 25 ts) : ∃ x : DConsole, ts = DConsole.cells x ∧ FitCon x := by
  obtain ⟨d, g⟩ := shp_struct (by kernel_rfl) h
  rw [show (fieldsT Go.Proofs.Tryz.prog 25).map (·.type) = [22, 2, 22, 23, 22] from by kernel_rfl] at g
  obtain ⟨a0, t0, rfl, -, q0, g⟩ := g
  obtain ⟨x0, rfl, b0⟩ := dec_ss q0
  obtain ⟨a1, t1, rfl, -, q1, g⟩ := g
  obtain ⟨x1, rfl⟩ := dec_i64 q1
  obtain ⟨a2, t2, rfl, -, q2, g⟩ := g
  obtain ⟨x2, rfl, b2⟩ := dec_ss q2
  obtain ⟨a3, t3, rfl, -, q3, g⟩ := g
  obtain ⟨x3, rfl, b3⟩ := dec_files q3
  obtain ⟨a4, t4, rfl, -, q4, g⟩ := g
  obtain ⟨x4, rfl, b4⟩ := dec_ss q4
  cases g
  exact ⟨⟨x0, x1, x2, x3, x4⟩, rfl, b0, b2, b3, b4⟩
theorem dec_value {d : Nat} {ts : List T} (h : Shp Go.Proofs.Tryz.prog d 27 ts) : ∃ x : DValue, ts = DValue.cells x ∧ FitStr x.Text := by
  obtain ⟨d, g⟩ := shp_struct (by kernel_rfl) h
  rw [show (fieldsT Go.Proofs.Tryz.prog 27).map (·.type) = [2, 2, 9, 2] from by kernel_rfl] at g
  obtain ⟨a0, t0, rfl, -, q0, g⟩ := g
  obtain ⟨x0, rfl⟩ := dec_i64 q0
  obtain ⟨a1, t1, rfl, -, q1, g⟩ := g
  obtain ⟨x1, rfl⟩ := dec_i64 q1
  obtain ⟨a2, t2, rfl, -, q2, g⟩ := g
  obtain ⟨x2, rfl, b2⟩ := dec_str q2
  obtain ⟨a3, t3, rfl, -, q3, g⟩ := g
  obtain ⟨x3, rfl⟩ := dec_i64 q3
  cases g
  exact ⟨⟨x0, x1, x2, x3⟩, rfl, b2⟩
theorem law_FnExactAddTrace {fu0 fu1 fu2 fu3 fu4 : Nat} {t0 : List T} {t1 t2 t3 : T} {t4 : List T} (h0 : Shp Go.Proofs.Tryz.prog fu0 25 t0) (h1 : Shp Go.Proofs.Tryz.prog fu1 2 [t1]) (h2 : Shp Go.Proofs.Tryz.prog fu2 2 [t2]) (h3 : Shp Go.Proofs.Tryz.prog fu3 9 [t3]) (h4 : Shp Go.Proofs.Tryz.prog fu4 27 t4) : ∃ σ', run Go.Proofs.Tryz.prog md ext 3 [.agg t0, t1, t2, t3, .agg t4] St.empty = some (.bool true, σ') := by
  obtain ⟨a, rfl, ha⟩ := dec_con h0
  obtain ⟨k, e⟩ := dec_i64 h1
  injection e with e; subst e
  obtain ⟨st, e⟩ := dec_i64 h2
  injection e with e; subst e
  obtain ⟨nm, e, hn⟩ := dec_str h3
  injection e with e; subst e
  obtain ⟨v, rfl, hv⟩ := dec_value h4
  exact ⟨_, semV_spec (addTrace_true a k st nm v ha hv) St.empty⟩
end Go.Am
end
