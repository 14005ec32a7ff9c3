/- The law. -/
import Derived.Test.YtohkcdkmpencnaaDoorAg0
import Derived.Test.YtohkcdkmpencnaaDoorAl3
section
set_option maxRecDepth 100000
set_option maxHeartbeats 1000000
set_option linter.unusedVariables false
set_option linter.unusedSimpArgs false
namespace Go.Am
theorem ofIv_zeros : ∀ n : Nat, ∃ l, ofIv (List.replicate n ⟨0⟩) = some l ∧ l.length = n
  | 0 => ⟨[], rfl, rfl⟩
  | n + 1 => by
    obtain ⟨l, h1, h2⟩ := ofIv_zeros n
    refine ⟨UInt8.ofNat (0 : Int).toNat :: l, ?_, by rw [List.length_cons, h2]⟩
    rw [List.replicate_succ, ofIv, if_pos ⟨by decide, by decide⟩, h1]; rfl
theorem zeros_ok (n : Int) (h0 : 0 ≤ n) (h1 : n ≤ 100000) : ∃ a x, mkS 1 (⟨0⟩ : Iv .u8) n n = some a ∧ strS a = some x ∧ x.size = n.toNat := by
  obtain ⟨l, h2, h3⟩ := ofIv_zeros n.toNat
  refine ⟨⟨false, List.replicate n.toNat ⟨0⟩⟩, ⟨l.toArray⟩, ?_, ?_, ?_⟩
  · unfold mkS
    rw [if_pos ⟨h0, Int.le_refl _, by omega, by omega, fun h => h⟩]
  · unfold strS; rw [h2]; rfl
  · show l.toArray.size = _; simp [h3]
theorem bent_ok {s : DL00Src} {k : Nat} (n : Int) (h : SrcOk s k) (hk : k + 1600 ≤ 1000000000) (h1 : 1 ≤ n) (h2 : n ≤ 200) : ∃ c s', B_spec_l21DrawBent s n = some (c, s') ∧ Dn c ∧ SrcOk s' (k + 1600) := by
  unfold B_spec_l21DrawBent
  obtain ⟨⟨inp, at_, out, fs, tr⟩, s1, p1, ⟨d1, d2, d3, d4⟩, p2, p3, p4, p5, p6⟩ := drawn_ok h (by omega)
  obtain ⟨b, s2, p7, p8⟩ := one_ok n p6 (by omega) h1 h2
  dsimp only at d1 d2 d3 d4 p2 p3 p4 p5
  rw [p1, Option.bind_some, p7, Option.bind_some]
  cases b with
  | false => exact ⟨_, _, rfl, ⟨d1, d2, d3, d4⟩, src_up p8 (by omega) (by omega)⟩
  | true =>
    rw [if_neg (by simp)]
    obtain ⟨m, s3, q1, q2, q3, q4⟩ := pick_ok 7 p8 (by omega) (by omega) (by omega)
    rw [q1, Option.bind_some]
    dsimp only
    by_cases c0 : m = 0
    · rw [if_pos (by simpa using c0)]
      obtain ⟨x, s4, r1, r2, r3⟩ := amid_ok (l := ⟨false, [⟨(-1)⟩, ⟨(IntKind.i64.wrap ((inp.l.length : Int) + 1))⟩]⟩) q4 (by omega) (by show 1 ≤ 2; omega) (by show 2 ≤ 200; omega)
      rw [r1]
      exact ⟨_, _, rfl, ⟨d1, d2, d3, d4⟩, src_up r3 (by omega) (by omega)⟩
    rw [if_neg (by simpa using c0)]
    by_cases c1 : m = 1
    · rw [if_pos (by simpa using c1)]
      obtain ⟨j, s4, r1, r2, r3, r4⟩ := pick_ok 2 q4 (by omega) (by omega) (by omega)
      obtain ⟨a, x, t1, t2, t3⟩ := zeros_ok (200 + j) (by omega) (by omega)
      obtain ⟨o', u1, _, u2⟩ := Tx.add (n := 100) (m := 2000) ⟨d2.1, p5, d2.2.2⟩ (x := x) (by rw [t3]; omega) (by omega)
      rw [r1, Option.bind_some]
      dsimp only
      rw [wrapB (n := 200 + j) (by omega) (by omega), t1, Option.bind_some, t2, Option.bind_some, u1]
      exact ⟨_, _, rfl, ⟨d1, u2.mono (by omega) (by omega), d3, d4⟩, src_up r4 (by omega) (by omega)⟩
    rw [if_neg (by simpa using c1)]
    by_cases c2 : m = 2
    · rw [if_pos (by simpa using c2)]
      obtain ⟨i', u1, u2⟩ := fill_loop ⟨#[105]⟩ (by decide) 101 (by omega) 101 inp (by omega) d1
      have e : (fun st1 : Sl ByteArray => (if (decide ((st1.l.length : Int) ≤ 100)) = true then ((appS 16 st1 (⟨false, [⟨#[105]⟩]⟩ : Sl ByteArray)).bind fun y12 => (some (Sum.inl y12))) else (some (Sum.inr st1)) : Option (Sl ByteArray ⊕ Sl ByteArray))) = (fun st3 => (if (decide ((st3.l.length : Int) < 101)) = true then ((appS 16 st3 (⟨false, [⟨#[105]⟩]⟩ : Sl ByteArray)).bind fun y20 => (some (.inl y20))) else (some (.inr st3)))) := by
        funext st
        rw [show decide ((st.l.length : Int) ≤ 100) = decide ((st.l.length : Int) < 101) from decide_eq_decide.2 (by omega)]
      rw [e, u1]
      exact ⟨_, _, rfl, ⟨u2, d2, d3, d4⟩, src_up q4 (by omega) (by omega)⟩
    rw [if_neg (by simpa using c2)]
    by_cases c3 : m = 3
    · rw [if_pos (by simpa using c3)]
      obtain ⟨x, s4, r1, r2, r3⟩ := text_ok (l := ⟨false, [⟨#[]⟩, ⟨#[49]⟩, ⟨#[68, 65, 84, 65]⟩, ⟨#[90, 90]⟩]⟩) q4 (by omega) (by decide) (by decide)
      obtain ⟨j, s5, t1, t2, t3, t4⟩ := pick_ok 6 r3 (by omega) (by omega) (by omega)
      rw [r1, Option.bind_some]
      dsimp only
      obtain ⟨fz, fl⟩ := fs
      dsimp only at p3
      rw [t1, Option.bind_some, appS_new (by omega)]
      refine ⟨_, _, rfl, ⟨d1, d2, ⟨?_, fun f hf => ?_⟩, d4⟩, src_up t4 (by omega) (by omega)⟩
      · simp only [List.length_append, List.length_singleton]; omega
      · rcases List.mem_append.1 hf with h' | h'
        · exact d3.2 f h'
        · rw [List.mem_singleton] at h'; subst h'; exact ⟨by have := (all_mem (a := 0) (b := 4) x r2 (by kernel_rfl)).2; show x.size ≤ 12; omega, fun _ => rfl, by simp, fun x hx => by simp at hx⟩
    rw [if_neg (by simpa using c3)]
    by_cases c4 : m = 4
    · rw [if_pos (by simpa using c4)]
      by_cases c5 : 0 < fs.l.length
      · rw [if_pos (by simpa using c5)]
        obtain ⟨j, s4, r1, r2, r3, r4⟩ := pick_ok 5 q4 (by omega) (by omega) (by omega)
        have e0 : elt fs 0 = some fs.l[0] := elt_lt (i := 0) c5
        rw [r1, Option.bind_some, e0]
        refine ⟨_, _, rfl, ⟨d1, d2, ⟨?_, fun f hf => ?_⟩, d4⟩, src_up r4 (by omega) (by omega)⟩
        · show (setS fs 0 _).l.length ≤ 100
          rw [set_len]; omega
        · have hf : f ∈ (setS fs 0 _).l := hf
          unfold setS at hf
          rcases List.mem_or_eq_of_mem_set hf with h' | h'
          · exact d3.2 f h'
          · subst h'; exact d3.2 fs.l[0] (List.getElem_mem c5)
      · rw [if_neg (by simpa using c5)]
        exact ⟨_, _, rfl, ⟨d1, d2, d3, d4⟩, src_up q4 (by omega) (by omega)⟩
    rw [if_neg (by simpa using c4)]
    by_cases c5 : m = 5
    · rw [if_pos (by simpa using c5)]
      obtain ⟨j, s4, r1, r2, r3, r4⟩ := pick_ok 2 q4 (by omega) (by omega) (by omega)
      obtain ⟨a, x, t1, t2, t3⟩ := zeros_ok (1300 + j) (by omega) (by omega)
      obtain ⟨o', u1, _, u2⟩ := p2.add (x := x) (by rw [t3]; omega) (by omega)
      rw [r1, Option.bind_some]
      dsimp only
      rw [wrapB (n := 1300 + j) (by omega) (by omega), t1, Option.bind_some, t2, Option.bind_some, u1]
      exact ⟨_, _, rfl, ⟨d1, d2, d3, u2.mono (by omega) (Nat.le_refl _)⟩, src_up r4 (by omega) (by omega)⟩
    rw [if_neg (by simpa using c5)]
    obtain ⟨i', u1, u2⟩ := fill_loop ⟨#[116]⟩ (by decide) 201 (by omega) 201 tr (by omega) p2
    have e : (fun st1 : Sl ByteArray => (if (decide ((st1.l.length : Int) ≤ 200)) = true then ((appS 16 st1 (⟨false, [⟨#[116]⟩]⟩ : Sl ByteArray)).bind fun y12 => (some (Sum.inl y12))) else (some (Sum.inr st1)) : Option (Sl ByteArray ⊕ Sl ByteArray))) = (fun st3 => (if (decide ((st3.l.length : Int) < 201)) = true then ((appS 16 st3 (⟨false, [⟨#[116]⟩]⟩ : Sl ByteArray)).bind fun y20 => (some (.inl y20))) else (some (.inr st3)))) := by
      funext st
      rw [show decide ((st.l.length : Int) ≤ 200) = decide ((st.l.length : Int) < 201) from decide_eq_decide.2 (by omega)]
    rw [e, u1]
    exact ⟨_, _, rfl, ⟨d1, d2, d3, u2.mono (by omega) (Nat.le_refl _)⟩, src_up q4 (by omega) (by omega)⟩
end Go.Am
end
