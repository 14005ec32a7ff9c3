/- The law. -/
import Derived.Test.YtohkcdkmpencnaaDoorAg0
import Derived.Test.YtohkcdkmpencnaaDoorAg1
import Derived.Test.YtohkcdkmpencnaaDoorAl5
import Derived.Test.YtohkcdkmpencnaaDoorAl8
section
set_option maxRecDepth 100000
set_option maxHeartbeats 1000000
set_option linter.unusedVariables false
set_option linter.unusedSimpArgs false
namespace Go.Am
theorem nm7_own : F_spec_l21Names = some nm7 := u_spec_l21Names _ rfl
theorem dname_ok {s : DL00Src} {k : Nat} (h : SrcOk s k) (hk : k + 2 ≤ 1000000000) : ∃ x s', B_spec_l21DrawName s = some (x, s') ∧ x.size ≤ 12 ∧ SrcOk s' (k + 2) := by
  unfold B_spec_l21DrawName
  obtain ⟨b, s1, q1, q2⟩ := one_ok 8 h (by omega) (by omega) (by omega)
  rw [q1, Option.bind_some]
  cases b with
  | true =>
    obtain ⟨x, s2, r1, r2, r3⟩ := text_ok (l := ⟨false, [⟨#[]⟩, ⟨#[49, 65]⟩, ⟨#[78, 79, 78, 69]⟩, ⟨#[97, 32, 98]⟩]⟩) q2 (by omega) (by decide) (by decide)
    rw [if_pos rfl, r1]
    exact ⟨x, _, rfl, (all_mem (a := 0) (b := 12) x r2 (by kernel_rfl)).2, r3⟩
  | false =>
    obtain ⟨x, s2, r1, r2, r3⟩ := text_ok (l := nm7) q2 (by omega) (by decide) (by decide)
    rw [if_neg (by simp), nm7_own, Option.bind_some, r1]
    exact ⟨x, _, rfl, (all_mem (a := 0) (b := 12) x r2 (by kernel_rfl)).2, r3⟩
theorem scalar_ok {s : DL00Src} {k : Nat} (h : SrcOk s k) (hk : k + 2 ≤ 1000000000) : ∃ v s', B_spec_l07DrawScalar s = some (v, s') ∧ v.Text.size ≤ 12 := by
  unfold B_spec_l07DrawScalar
  obtain ⟨m, s1, q1, q2, q3, q4⟩ := pick_ok 7 h (by omega) (by omega) (by omega)
  rw [q1, Option.bind_some]
  obtain ⟨b, hb⟩ : ∃ b, ((if (decide (m = 0)) = true then (some (decide (m = 0))) else (some (decide (m = 1)))) : Option Bool) = some b := by split <;> exact ⟨_, rfl⟩
  dsimp only
  rw [hb, Option.bind_some]
  have z : (⟨#[]⟩ : ByteArray).size ≤ 12 := by decide
  cases b with
  | true =>
    obtain ⟨j, s2, r1, r2, r3, r4⟩ := pick_ok 12 q4 (by omega) (by omega) (by omega)
    rw [if_pos rfl, r1]
    exact ⟨_, _, rfl, z⟩
  | false =>
    rw [if_neg (by simp)]
    by_cases c2 : m = 2
    · obtain ⟨x, s2, r1, r2, r3⟩ := text_ok (l := ⟨false, [⟨#[114, 101, 109]⟩, ⟨#[108, 101, 110, 40, 50, 41]⟩]⟩) q4 (by omega) (by decide) (by decide)
      rw [if_pos (by simpa using c2), r1]
      exact ⟨_, _, rfl, (all_mem (a := 0) (b := 12) x r2 (by kernel_rfl)).2⟩
    rw [if_neg (by simpa using c2)]
    by_cases c3 : m = 3
    · obtain ⟨x, s2, r1, r2, r3⟩ := text_ok (l := ⟨false, [⟨#[88]⟩, ⟨#[89, 49]⟩]⟩) q4 (by omega) (by decide) (by decide)
      rw [if_pos (by simpa using c3), r1]
      exact ⟨_, _, rfl, (all_mem (a := 0) (b := 12) x r2 (by kernel_rfl)).2⟩
    rw [if_neg (by simpa using c3)]
    by_cases c4 : m = 4
    · obtain ⟨x, s2, r1, r2, r3⟩ := text_ok (l := ⟨false, [⟨#[88]⟩, ⟨#[89, 49]⟩]⟩) q4 (by omega) (by decide) (by decide)
      rw [if_pos (by simpa using c4), r1]
      exact ⟨_, _, rfl, (all_mem (a := 0) (b := 12) x r2 (by kernel_rfl)).2⟩
    rw [if_neg (by simpa using c4)]
    obtain ⟨x, s2, r1, r2, r3⟩ := text_ok (l := ⟨false, [⟨#[]⟩, ⟨#[97]⟩, ⟨#[98]⟩, ⟨#[49, 50]⟩, ⟨#[108, 101, 102, 116]⟩, ⟨#[88]⟩]⟩) q4 (by omega) (by decide) (by decide)
    rw [r1]
    exact ⟨_, _, rfl, (all_mem (a := 0) (b := 12) x r2 (by kernel_rfl)).2⟩
theorem dvalue_ok {s : DL00Src} {k : Nat} (h : SrcOk s k) (hk : k + 4 ≤ 1000000000) : ∃ v s', B_spec_l21DrawValue s = some (v, s') ∧ v.Text.size ≤ 12 := by
  unfold B_spec_l21DrawValue
  obtain ⟨b, s1, q1, q2⟩ := one_ok 12 h (by omega) (by omega) (by omega)
  have z : (⟨#[]⟩ : ByteArray).size ≤ 12 := by decide
  rw [q1, Option.bind_some]
  cases b with
  | true =>
    obtain ⟨j, s2, r1, r2, r3, r4⟩ := pick_ok 10 q2 (by omega) (by omega) (by omega)
    obtain ⟨j2, s3, t1, t2, t3, t4⟩ := pick_ok 3 r4 (by omega) (by omega) (by omega)
    rw [if_pos rfl, r1, Option.bind_some, t1]
    exact ⟨_, _, rfl, z⟩
  | false =>
    rw [if_neg (by simp)]
    obtain ⟨b2, s2, q3, q4⟩ := one_ok 6 q2 (by omega) (by omega) (by omega)
    rw [q3, Option.bind_some]
    cases b2 with
    | true =>
      obtain ⟨j, s3, r1, r2, r3, r4⟩ := pick_ok 3 q4 (by omega) (by omega) (by omega)
      obtain ⟨j2, s4, t1, t2, t3, t4⟩ := pick_ok 9 r4 (by omega) (by omega) (by omega)
      rw [if_pos rfl, r1, Option.bind_some, t1]
      exact ⟨_, _, rfl, z⟩
    | false =>
      rw [if_neg (by simp)]
      obtain ⟨v, s3, r1, r2⟩ := scalar_ok q4 (by omega)
      rw [r1]
      exact ⟨v, _, rfl, r2⟩
theorem traceLines_true (a : Sl (Iv .u8)) (h : ∀ x ∈ a.l, 0 ≤ x.v ∧ x.v ≤ 255) : F_laws_FnTraceLines a = some true := by
  refine u_laws_FnTraceLines a _ ?_
  unfold B_laws_FnTraceLines
  have e0 : F_laws_b10Long a = some (decide (1048576 < (a.l.length : Int))) := u_laws_b10Long a _ rfl
  rw [e0, Option.bind_some]
  by_cases hl : 1048576 < (a.l.length : Int)
  · rw [if_pos (by simpa using hl)]
  rw [if_neg (by simpa using hl)]
  obtain ⟨c, s1, q1, q2, q3⟩ := bent_ok (s := ⟨a, 0, 0⟩) (k := 0) 9 ⟨⟨h, by show a.l.length ≤ 1048580; omega⟩, Int.le_refl _, Int.le_refl _, by decide⟩ (by decide) (by decide) (by decide)
  obtain ⟨kd, s2, p1, p2, p3, p4⟩ := pick_ok 7 q3 (by omega) (by omega) (by omega)
  obtain ⟨st, s3, p5, p6, p7⟩ := amid_ok (l := ⟨false, [⟨1⟩, ⟨2⟩, ⟨17⟩, ⟨1000⟩, ⟨1001⟩, ⟨0⟩, ⟨80⟩, ⟨999⟩]⟩) p4 (by omega) (by decide) (by decide)
  obtain ⟨nm, s4, p8, p9, p10⟩ := dname_ok p7 (by omega)
  obtain ⟨v, s5, p11, p12⟩ := dvalue_ok p10 (by omega)
  have e1 : F_spec_DrawAddTrace a = some (c, kd, st.v, nm, v) := u_spec_DrawAddTrace a _ (by
    unfold B_spec_DrawAddTrace
    rw [q1, Option.bind_some, p1, Option.bind_some, p5, Option.bind_some, p8, Option.bind_some, p11]; rfl)
  obtain ⟨t, t2, t3⟩ := trac2 kd st.v nm v (by omega) (by unfold SmValue; omega)
  rw [e1, Option.bind_some]
  dsimp only
  rw [t2, Option.bind_some]
  have hs := q2.sm
  have hz : NZ c := ⟨q2.1.1, q2.2.1.1, q2.2.2.2.1, fun f hf => (q2.2.2.1.2 f hf).2.1⟩
  have key : ∃ w k, F_impl_AddTrace c kd st.v nm v = some (w, k) ∧ (k ≠ 0 ∨ (k = 0 ∧ w = ⟨c.Input, c.At, c.Output, fz c.Files, ⟨false, c.Trace.l ++ [t]⟩⟩ ∧ t ≠ (⟨#[]⟩ : ByteArray) ∧ ConP c ∧ c.Trace.l.length ≠ 200)) := by
    suffices H : ∃ w k, B_impl_AddTrace c kd st.v nm v = some (w, k) ∧ (k ≠ 0 ∨ (k = 0 ∧ w = ⟨c.Input, c.At, c.Output, fz c.Files, ⟨false, c.Trace.l ++ [t]⟩⟩ ∧ t ≠ (⟨#[]⟩ : ByteArray) ∧ ConP c ∧ c.Trace.l.length ≠ 200)) by
      obtain ⟨w, k, g1, g2⟩ := H; exact ⟨w, k, u_impl_AddTrace _ _ _ _ _ _ g1, g2⟩
    unfold B_impl_AddTrace
    rw [t2, Option.bind_some, con2 c hs, Option.bind_some]
    by_cases hv : ConP c
    rotate_left
    · rw [says_f hv]
      exact ⟨_, 1, rfl, .inl (by omega)⟩
    rw [says_t hv, if_neg (by simp)]
    by_cases ht : t = (⟨#[]⟩ : ByteArray)
    · rw [if_pos (by simpa using ht)]
      exact ⟨_, 1, rfl, .inl (by omega)⟩
    rw [if_neg (by simpa using ht), copied_id c hs hz, Option.bind_some]
    dsimp only
    by_cases hf : c.Trace.l.length = 200
    · rw [if_pos (by simp; omega)]
      exact ⟨_, 6, rfl, .inl (by omega)⟩
    · have hl2 := hv.2.2.2.2.1.1
      have e : appS 16 c.Trace ⟨false, [t]⟩ = some ⟨false, c.Trace.l ++ [t]⟩ := by
        obtain ⟨i, A, o, f, ⟨z, l⟩⟩ := c
        exact appS_new (by simp only at hl2; omega)
      rw [if_neg (by simp; omega), e]
      exact ⟨_, 0, rfl, .inr ⟨rfl, rfl, ht, hv, hf⟩⟩
  obtain ⟨w, k, g1, g2⟩ := key
  rw [g1, Option.bind_some]
  dsimp only
  rcases g2 with g2 | ⟨rfl, rfl, g3, g4, g5⟩
  · rw [if_pos (by simpa using g2)]
  rw [if_neg (by simp), if_pos (by simpa using g3), if_pos (by simp; omega)]
  have hl2 := g4.2.2.2.2.1.1
  have hlen : ((c.Trace.l ++ [t]).length : Int) = (c.Trace.l.length : Int) + 1 := by simp
  rw [if_pos (by rw [wrapB (by omega) (by omega)]; simp)]
  have e5 : elt (⟨false, c.Trace.l ++ [t]⟩ : Sl ByteArray) (c.Trace.l.length : Int) = some t := by
    rw [elt_lt (by show c.Trace.l.length < (c.Trace.l ++ [t]).length; simp)]
    simp
  have e6 : subS (⟨false, c.Trace.l ++ [t]⟩ : Sl ByteArray) 0 (c.Trace.l.length : Int) = some ⟨false, c.Trace.l⟩ := by
    unfold subS
    rw [if_pos ⟨by omega, by omega, by show (c.Trace.l.length : Int) ≤ ((c.Trace.l ++ [t]).length : Int); omega⟩]
    simp
  rw [e5, Option.bind_some, if_pos (by simp), e6, Option.bind_some, texts_same ⟨false, c.Trace.l⟩ c.Trace rfl (by show c.Trace.l.length ≤ 1048576; omega), Option.bind_some, if_pos rfl]
  have hs2 : SmCon ⟨c.Input, c.At, c.Output, fz c.Files, ⟨false, c.Trace.l ++ [t]⟩⟩ := ⟨hs.1, hs.2.1, hs.2.2.1, by show (c.Trace.l ++ [t]).length ≤ 1048576; simp; omega, fun x hx => by
    rcases List.mem_append.1 hx with hx | hx
    · exact hs.2.2.2.2 x hx
    · rw [List.mem_singleton] at hx; subst hx; omega⟩
  obtain ⟨b1, b2, b3, b4, b5, b6, b7⟩ := g4
  have hv2 : ConP ⟨c.Input, c.At, c.Output, fz c.Files, ⟨false, c.Trace.l ++ [t]⟩⟩ := ⟨b1, b2, b3, b4, ⟨by show (c.Trace.l ++ [t]).length ≤ 200; simp; omega, fun x hx => by
    rcases List.mem_append.1 hx with hx | hx
    · exact b5.2 x hx
    · rw [List.mem_singleton] at hx; subst hx; exact t3⟩, b6, b7⟩
  have ev : F_spec_ValidConsole ⟨c.Input, c.At, c.Output, fz c.Files, ⟨false, c.Trace.l ++ [t]⟩⟩ = some (says (ConP ⟨c.Input, c.At, c.Output, fz c.Files, ⟨false, c.Trace.l ++ [t]⟩⟩)) := u_spec_ValidConsole _ _ (by unfold B_spec_ValidConsole; rw [con1 _ hs2]; rfl)
  rw [ev, Option.bind_some, says_t hv2]
theorem law_FnTraceLines {fu0 : Nat} {t0 : T} (h0 : Shp Go.Proofs.Tryd.prog fu0 22 [t0]) : ∃ σ', run Go.Proofs.Tryd.prog md ext 3 [t0] St.empty = some (.bool true, σ') := by
  obtain ⟨a, e0, ha⟩ := dec_bytes h0
  injection e0 with e0; subst e0
  exact ⟨_, semV_spec (traceLines_true a ha.2) St.empty⟩
end Go.Am
end
