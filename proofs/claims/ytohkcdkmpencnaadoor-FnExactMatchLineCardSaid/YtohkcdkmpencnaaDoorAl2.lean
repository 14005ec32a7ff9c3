/- The law. -/
import Derived.Test.YtohkcdkmpencnaaDoorAg0
import Derived.Test.YtohkcdkmpencnaaDoorAl1
import Derived.Test.YtohkcdkmpencnaaDoorAm5
section
set_option maxRecDepth 100000
set_option maxHeartbeats 1000000
set_option linter.unusedVariables false
set_option linter.unusedSimpArgs false
namespace Go.Am
open Go
def FitCap (c : DCapture) : Prop := c.Name.size ≤ maxLen ∧ c.Text.size ≤ maxLen ∧ I64 c.Cursor
def SmCap (c : DCapture) : Prop := c.Name.size ≤ 1048576 ∧ c.Text.size ≤ 1048576 ∧ I64 c.Cursor
theorem sz_Capture (c : DCapture) (h : FitCap c) (l : Int) (h0 : 0 ≤ l) (h1 : l ≤ 1048576) : SzOk (F_laws_szCapture c l) l (SmCap c) := by
  refine sz_u (u_laws_szCapture c l) ?_
  unfold B_laws_szCapture
  obtain ⟨q1, q2, q3⟩ := h
  have hm := maxLen_eq
  rw [hm] at q1 q2
  rw [wrap_id (n := l - (c.Name.size : Int)) (by omega) (by omega)]
  refine sz_if (by omega) fun hn => ?_
  rw [wrap_id (n := l - (c.Name.size : Int) - (c.Text.size : Int)) (by omega) (by omega)]
  exact sz_if (by omega) fun hn2 => sz_end hn2 ⟨by omega, by omega, q3⟩
theorem sz_CaptureS (s : Sl DCapture) (h : FitS maxLen FitCap s) (l : Int) (h0 : 0 ≤ l) (h1 : l ≤ 1048576) : SzOk (F_laws_szCaptureS s l) l (FitS 1048576 SmCap s) := by
  refine sz_u (u_laws_szCaptureS s l) ?_
  unfold B_laws_szCaptureS
  have hm := maxLen_eq; have hlen := h.1
  exact slice_sz h0 h1 h.1 (fun i x l' hx hi he q1 q2 => sz_step (by omega) he (sz_Capture x (h.2 x hx) l' q1 (by omega)) (by omega)) (fun l' => by rw [if_neg (by simp)])
theorem sz_Match (m : DMatch) (h : FitS maxLen FitCap m.Captures) : SzOk (F_laws_szMatch m 1048576) 1048576 (FitS 1048576 SmCap m.Captures) := by
  refine sz_u (u_laws_szMatch m 1048576) ?_
  unfold B_laws_szMatch
  exact sz_bind (sz_CaptureS _ h _ (by omega) (by omega)) fun l1 q1 q1' p1 => sz_end q1 p1
def cpM (m : DMatch) : DMatch := ⟨m.Start, m.End, ⟨false, m.Captures.l⟩⟩
theorem to_CaptureS (s : Sl DCapture) (h : s.l.length ≤ 1048576) : F_laws_toCaptureS s = some ⟨false, s.l⟩ := by
  refine u_laws_toCaptureS s _ ?_
  unfold B_laws_toCaptureS
  rw [loop_map (fun x => x) h (by omega) (fun i x t hx hi hit he => ?_) (fun t => by rw [if_neg (by simp)])]
  · simp
  · show (if decide ((i : Int) < (s.l.length : Int)) = true then _ else _) = _
    have e : F_laws_toCapture x = some x := u_laws_toCapture _ _ rfl
    rw [if_pos (by simpa using hi), he]
    simp only [Option.bind_some]
    rw [e]
    simp only [Option.bind_some]
    rw [elt_lt hit, wrapB (by omega) (by omega)]; rfl
theorem to_Match (m : DMatch) (h : m.Captures.l.length ≤ 1048576) : F_laws_toMatch m = some (cpM m) := by
  refine u_laws_toMatch m _ ?_
  unfold B_laws_toMatch
  rw [to_CaptureS _ h]; rfl
theorem eq_Match (m : DMatch) (h : m.Captures.l.length ≤ 1048576) : F_laws_eqMatch m m = some true := by
  refine u_laws_eqMatch m m _ ?_
  unfold B_laws_eqMatch
  have e : F_laws_eqCaptureS m.Captures m.Captures = some true := by
    refine u_laws_eqCaptureS _ _ _ ?_
    unfold B_laws_eqCaptureS
    refine loop_refl (by omega) fun i x hx he => ?_
    rw [he]
    simp only [Option.bind_some]
    have e : F_laws_eqCapture x x = some true := u_laws_eqCapture _ _ _ (by unfold B_laws_eqCapture; simp)
    rw [e, Option.bind_some, if_neg (by simp)]
  rw [if_neg (by simp), if_neg (by simp), e]; rfl
theorem catL {a b : ByteArray} (h : a.size + b.size ≤ 9000000000000000000) : catB a b = some (a ++ b) := by
  unfold catB; rw [if_pos (by omega)]
theorem cap_same (c : DCapture) (h : SmCap c) : ∃ t, F_spec_CaptureText c = some t ∧ F_impl_CaptureText c = some t ∧ t.size ≤ 4000000 := by
  suffices H : ∃ t, B_spec_CaptureText c = some t ∧ B_impl_CaptureText c = some t ∧ t.size ≤ 4000000 by
    obtain ⟨t, h1, h2, h3⟩ := H
    exact ⟨t, u_spec_CaptureText _ _ h1, u_impl_CaptureText _ _ h2, h3⟩
  unfold B_spec_CaptureText B_impl_CaptureText
  obtain ⟨q1, q2, q3⟩ := h
  have z : (⟨#[58]⟩ : ByteArray).size = 1 := rfl
  by_cases k3 : c.Kind = 3
  · simp only [k3, decide_true, if_true]
    have hi := (itoa_le c.Cursor q3).2
    rw [catL (by omega)]
    simp only [Option.bind_some]
    rw [digits16 _ q3, decim _ q3]
    simp only [Option.bind_some]
    rw [catL (by rw [ByteArray.size_append, bs_size (Lib.itoa c.Cursor)]; omega)]
    exact ⟨_, rfl, rfl, by rw [ByteArray.size_append, ByteArray.size_append, bs_size (Lib.itoa c.Cursor)]; omega⟩
  · simp only [k3, decide_false, Bool.false_eq_true, if_false]
    obtain ⟨b, hb⟩ : ∃ b, ((if (decide (c.Kind = 1)) = true then (some (decide (c.Kind = 1))) else (some (decide (c.Kind = 2)))) : Option Bool) = some b := by split <;> exact ⟨_, rfl⟩
    rw [hb]
    simp only [Option.bind_some]
    cases b with
    | false => exact ⟨_, rfl, rfl, by decide⟩
    | true =>
      obtain ⟨t, t1, t2, t3⟩ := quoted_same c.Text q2
      simp only [if_true]
      rw [catL (by omega), t1, t2]
      simp only [Option.bind_some]
      rw [catL (by rw [ByteArray.size_append]; omega)]
      exact ⟨_, rfl, rfl, by rw [ByteArray.size_append, ByteArray.size_append]; omega⟩
theorem caps_same (s : Sl DCapture) (hs : FitS 1048576 SmCap s) : ∀ (m i : Nat) (out : ByteArray), i + m = s.l.length → out.size ≤ 100 + 5000000 * i →
    ∃ t, loopO (S := (ByteArray × Int)) (R := ByteArray) (fun st1 => (if (decide (st1.2 < (s.l.length : Int))) = true then ((elt s st1.2).bind fun y6 => ((F_spec_CaptureText y6).bind fun y7 => (if (!decide (y7 = (⟨#[]⟩ : ByteArray))) = true then ((catB ⟨#[32]⟩ y7).bind fun y8 => ((catB st1.1 y8).bind fun y9 => (some (.inl (y9, (IntKind.i64.wrap (st1.2 + 1))))))) else (some (.inl (st1.1, (IntKind.i64.wrap (st1.2 + 1)))))))) else (some (.inr st1.1)))) (out, (i : Int)) = some t ∧
      loopO (S := (ByteArray × Int)) (R := ByteArray) (fun st1 => (if (decide (st1.2 < (s.l.length : Int))) = true then ((elt s st1.2).bind fun y6 => ((F_impl_CaptureText y6).bind fun y7 => (if (!decide (y7 = (⟨#[]⟩ : ByteArray))) = true then ((catB ⟨#[32]⟩ y7).bind fun y8 => ((catB st1.1 y8).bind fun y9 => (some (.inl (y9, (IntKind.i64.wrap (st1.2 + 1))))))) else (some (.inl (st1.1, (IntKind.i64.wrap (st1.2 + 1)))))))) else (some (.inr st1.1)))) (out, (i : Int)) = some t
  | 0, i, out, hi, ho => ⟨out, loopO_stop (if_neg (by simp; omega)), loopO_stop (if_neg (by simp; omega))⟩
  | m + 1, i, out, hi, ho => by
    have hl := hs.1
    have h : i < s.l.length := by omega
    have w : IntKind.i64.wrap ((i : Int) + 1) = ((i + 1 : Nat) : Int) := by rw [wrapB (by omega) (by omega)]; rfl
    obtain ⟨t, t1, t2, t3⟩ := cap_same s.l[i] (hs.2 _ (List.getElem_mem h))
    have z : (⟨#[32]⟩ : ByteArray).size = 1 := rfl
    by_cases ht : t = (⟨#[]⟩ : ByteArray)
    · obtain ⟨r, r1, r2⟩ := caps_same s hs m (i + 1) out (by omega) (by omega)
      refine ⟨r, loopO_go ?_ r1, loopO_go ?_ r2⟩
      · dsimp only
        rw [if_pos (by simp; omega), elt_lt h, Option.bind_some, t1, Option.bind_some, if_neg (by simpa using ht), w]
      · dsimp only
        rw [if_pos (by simp; omega), elt_lt h, Option.bind_some, t2, Option.bind_some, if_neg (by simpa using ht), w]
    · obtain ⟨r, r1, r2⟩ := caps_same s hs m (i + 1) (out ++ (⟨#[32]⟩ ++ t)) (by omega) (by rw [ByteArray.size_append, ByteArray.size_append]; omega)
      refine ⟨r, loopO_go ?_ r1, loopO_go ?_ r2⟩
      · dsimp only
        rw [if_pos (by simp; omega), elt_lt h, Option.bind_some, t1, Option.bind_some, if_pos (by simpa using ht), catL (by omega), Option.bind_some, catL (by rw [ByteArray.size_append]; omega), Option.bind_some, w]
      · dsimp only
        rw [if_pos (by simp; omega), elt_lt h, Option.bind_some, t2, Option.bind_some, if_pos (by simpa using ht), catL (by omega), Option.bind_some, catL (by rw [ByteArray.size_append]; omega), Option.bind_some, w]
theorem line_same (m : DMatch) (hs : FitS 1048576 SmCap m.Captures) (h1 : I64 m.Start) (h2 : I64 m.End) : ∃ t, F_spec_MatchLine m = some t ∧ F_impl_MatchLine m = some t := by
  suffices H : ∃ t, B_spec_MatchLine m = some t ∧ B_impl_MatchLine m = some t by
    obtain ⟨t, g1, g2⟩ := H
    exact ⟨t, u_spec_MatchLine _ _ g1, u_impl_MatchLine _ _ g2⟩
  unfold B_spec_MatchLine B_impl_MatchLine
  have z : (⟨#[45]⟩ : ByteArray).size = 1 := rfl
  have l1 := (itoa_le m.Start h1).2
  have l2 := (itoa_le m.End h2).2
  rw [digits16 _ h1, decim _ h1, digits16 _ h2, decim _ h2]
  simp only [Option.bind_some]
  rw [catL (a := bs (Lib.itoa m.Start)) (by rw [bs_size (Lib.itoa m.Start)]; omega)]
  simp only [Option.bind_some]
  rw [catL (by rw [ByteArray.size_append, bs_size (Lib.itoa m.Start), bs_size (Lib.itoa m.End)]; omega)]
  simp only [Option.bind_some]
  obtain ⟨t, t1, t2⟩ := caps_same m.Captures hs m.Captures.l.length 0 (bs (Lib.itoa m.Start) ++ ⟨#[45]⟩ ++ bs (Lib.itoa m.End)) (by omega) (by rw [ByteArray.size_append, ByteArray.size_append, bs_size (Lib.itoa m.Start), bs_size (Lib.itoa m.End)]; omega)
  simp only [Int.natCast_zero] at t1 t2
  rw [t1, t2]
  exact ⟨t, rfl, rfl⟩
theorem matchLine_true (a : DMatch) (h : FitS maxLen FitCap a.Captures) (h1 : I64 a.Start) (h2 : I64 a.End) : F_laws_FnExactMatchLine a = some true := by
  refine u_laws_FnExactMatchLine a _ ?_
  unfold B_laws_FnExactMatchLine
  rcases sz_Match a h with e | ⟨l', e, h0, _, hs⟩
  · rw [e]; rfl
  · have n0 : decide (l' < 0) = false := by simp; omega
    obtain ⟨t, t1, t2⟩ := line_same (cpM a) hs h1 h2
    have e2 := eq_Match (cpM a) hs.1
    simp only [e, to_Match a hs.1, t1, t2, e2, Option.bind_some, n0]
    simp
theorem shp_intS {P : Program} {t : TypeId} {d : Nat} {ts : List T} {k : IntKind} (hu : P.underlying t = some (.int k)) (kt : kindT P t = 2) (h : Shp P d t ts) : ∃ n : Int, ts = [.int k n] ∧ (Lit.int k n).wf = true := by
  cases d with
  | zero => exact h.elim
  | succ d =>
    rcases h with h | h | h | h | h
    · rw [kt] at h; exact absurd h.1 (by decide)
    · obtain ⟨_, k', n, h1, h2, h3⟩ := h
      rw [hu] at h1
      injection h1 with h1; injection h1 with h1; subst h1
      exact ⟨n, h2, h3⟩
    · rw [kt] at h; exact absurd h.1 (by decide)
    · rw [kt] at h; exact absurd h.1 (by decide)
    · rw [kt] at h; exact absurd h.1 (by decide)
theorem dec_i64 {d : Nat} {ts : List T} (h : Shp Go.Proofs.Tryd.prog d 2 ts) : ∃ n : Int, ts = [.int .i64 n] ∧ I64 n := by
  obtain ⟨n, rfl, h2⟩ := shp_intS (k := .i64) (by kernel_rfl) (by kernel_rfl) h
  exact ⟨n, rfl, by have h2 := h2; simp only [Lit.wf, Bool.and_eq_true, decide_eq_true_eq] at h2; exact h2⟩
theorem dec_str {d : Nat} {ts : List T} (h : Shp Go.Proofs.Tryd.prog d 9 ts) : ∃ x : ByteArray, ts = [.str x] ∧ x.size ≤ maxLen := shp_str (by kernel_rfl) h
theorem dec_cap {d : Nat} {ts : List T} (h : Shp Go.Proofs.Tryd.prog d 129 ts) : ∃ x : DCapture, ts = DCapture.cells x ∧ FitCap x := by
  obtain ⟨d, g⟩ := shp_struct (by kernel_rfl) h
  rw [show (fieldsT Go.Proofs.Tryd.prog 129).map (·.type) = [9, 9, 2, 2] from by kernel_rfl] at g
  obtain ⟨a0, t0, rfl, -, q0, g⟩ := g
  obtain ⟨x0, rfl, b0⟩ := dec_str q0
  obtain ⟨a1, t1, rfl, -, q1, g⟩ := g
  obtain ⟨x1, rfl, b1⟩ := dec_str q1
  obtain ⟨a2, t2, rfl, -, q2, g⟩ := g
  obtain ⟨x2, rfl, b2⟩ := dec_i64 q2
  obtain ⟨a3, t3, rfl, -, q3, g⟩ := g
  obtain ⟨x3, rfl, b3⟩ := dec_i64 q3
  cases g
  exact ⟨⟨x0, x1, x2, x3⟩, rfl, b0, b1, b2⟩
theorem dec_caps {d : Nat} {ts : List T} (h : Shp Go.Proofs.Tryd.prog d 37 ts) : ∃ x : Sl DCapture, ts = [Sl.t x] ∧ FitS maxLen FitCap x :=
  shp_sl (kt := by kernel_rfl) (he := by kernel_rfl) (fun d ts h => dec_cap h) h
theorem dec_match {d : Nat} {ts : List T} (h : Shp Go.Proofs.Tryd.prog d 39 ts) : ∃ x : DMatch, ts = DMatch.cells x ∧ FitS maxLen FitCap x.Captures ∧ I64 x.Start ∧ I64 x.End := by
  obtain ⟨d, g⟩ := shp_struct (by kernel_rfl) h
  rw [show (fieldsT Go.Proofs.Tryd.prog 39).map (·.type) = [2, 2, 37] from by kernel_rfl] at g
  obtain ⟨a0, t0, rfl, -, q0, g⟩ := g
  obtain ⟨x0, rfl, b0⟩ := dec_i64 q0
  obtain ⟨a1, t1, rfl, -, q1, g⟩ := g
  obtain ⟨x1, rfl, b1⟩ := dec_i64 q1
  obtain ⟨a2, t2, rfl, -, q2, g⟩ := g
  obtain ⟨x2, rfl, b2⟩ := dec_caps q2
  cases g
  exact ⟨⟨x0, x1, x2⟩, rfl, b2, b0, b1⟩
theorem law_FnExactMatchLine {fu0 : Nat} {t0 : List T} (h0 : Shp Go.Proofs.Tryd.prog fu0 39 t0) : ∃ σ', run Go.Proofs.Tryd.prog md ext 4 [.agg t0] St.empty = some (.bool true, σ') := by
  obtain ⟨a, rfl, h, h1, h2⟩ := dec_match h0
  exact ⟨_, semV_spec (matchLine_true a h h1 h2) St.empty⟩
end Go.Am
end
