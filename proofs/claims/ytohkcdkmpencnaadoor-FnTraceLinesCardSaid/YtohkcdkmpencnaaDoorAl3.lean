/- The law. -/
import Derived.Test.YtohkcdkmpencnaaDoorAg0
import Derived.Test.YtohkcdkmpencnaaDoorAg1
import Derived.Test.YtohkcdkmpencnaaDoorAl0
import Derived.Test.YtohkcdkmpencnaaDoorAl2
section
set_option maxRecDepth 100000
set_option maxHeartbeats 1000000
set_option linter.unusedVariables false
set_option linter.unusedSimpArgs false
namespace Go.Am
theorem src_up {s : DL00Src} {k k' : Nat} (h : SrcOk s k) (h1 : k ≤ k') (h2 : k' ≤ 1000000000) : SrcOk s k' := ⟨h.1, h.2.1, by have := h.2.2.1; omega, h2⟩
theorem amid_ok {s : DL00Src} {k : Nat} (l : Sl (Iv .i64)) (h : SrcOk s k) (hk : k + 1 ≤ 1000000000) (h1 : 1 ≤ l.l.length) (h2 : l.l.length ≤ 200) : ∃ (x : Iv .i64) (s' : DL00Src), B_spec_l00Src_among s l = some (x.v, s', l) ∧ x ∈ l.l ∧ SrcOk s' (k + 1) := by
  obtain ⟨m, s', q1, q2, q3, q4⟩ := pick_ok (l.l.length : Int) h hk (by omega) (by omega)
  unfold B_spec_l00Src_among
  obtain ⟨i, rfl⟩ : ∃ i : Nat, m = i := ⟨m.toNat, by omega⟩
  have hlt : i < l.l.length := by omega
  rw [q1, Option.bind_some, elt_lt hlt]
  exact ⟨_, s', rfl, List.getElem_mem hlt, q4⟩
def Tx (n m : Nat) (s : Sl ByteArray) : Prop := (s.z = true → s.l = []) ∧ s.l.length ≤ n ∧ ∀ x ∈ s.l, x.size ≤ m
theorem Tx.sm {n m : Nat} {s : Sl ByteArray} (h : Tx n m s) (hn : n ≤ 1048576) (hm : m ≤ 1048576) : SmSS s := ⟨Nat.le_trans h.2.1 hn, fun x hx => Nat.le_trans (h.2.2 x hx) hm⟩
theorem Tx.mono {n m n' m' : Nat} {s : Sl ByteArray} (h : Tx n m s) (hn : n ≤ n') (hm : m ≤ m') : Tx n' m' s := ⟨h.1, Nat.le_trans h.2.1 hn, fun x hx => Nat.le_trans (h.2.2 x hx) hm⟩
theorem Tx.add {n m : Nat} {s : Sl ByteArray} (h : Tx n m s) {x : ByteArray} (hx : x.size ≤ m) (hn : n ≤ 100000) : ∃ s', appS 16 s ⟨false, [x]⟩ = some s' ∧ s'.l = s.l ++ [x] ∧ Tx (n + 1) m s' := by
  obtain ⟨z, l⟩ := s
  have hl : l.length ≤ n := h.2.1
  refine ⟨⟨false, l ++ [x]⟩, appS_new (by omega), rfl, fun w => (by cases w), ?_, fun y hy => ?_⟩
  · simp only [List.length_append, List.length_singleton]; omega
  · rcases List.mem_append.1 hy with hy | hy
    · exact h.2.2 y hy
    · rw [List.mem_singleton] at hy; subst hy; exact hx
theorem line_ok {s : DL00Src} {k : Nat} (h : SrcOk s k) (hk : k + 1 ≤ 1000000000) : ∃ x s', B_spec_l21DrawLine s = some (x, s') ∧ x.size ≤ 8 ∧ SrcOk s' (k + 1) := by
  unfold B_spec_l21DrawLine
  obtain ⟨x, s', q1, q2, q3⟩ := text_ok (l := ⟨false, [⟨#[]⟩, ⟨#[97]⟩, ⟨#[108, 105, 110, 101, 32, 116, 119, 111]⟩, ⟨#[120, 32, 61, 32, 49]⟩, ⟨#[10]⟩, ⟨#[0, 255]⟩, ⟨#[49, 50]⟩, ⟨#[69, 78, 68]⟩]⟩) h hk (by decide) (by decide)
  rw [q1]
  exact ⟨x, s', rfl, (all_mem (a := 0) (b := 8) x q2 (by kernel_rfl)).2, q3⟩
theorem lines_loop : ∀ (m n : Nat) (c : Sl (Iv .u8)) (a sd : Int) (k : Nat) (acc : Sl ByteArray), SrcOk ⟨c, a, sd⟩ k → k + m ≤ 1000000000 → Tx n 8 acc → n + m ≤ 1000 →
    ∃ c' a' sd' acc', loopO (S := (Int × (Sl (Iv .u8)) × Int × Int × (Sl ByteArray))) (R := ((Sl (Iv .u8)) × Int × Int × (Sl ByteArray))) (fun st1 => (if (decide (0 < st1.1)) = true then ((B_spec_l21DrawLine (⟨st1.2.1, st1.2.2.1, st1.2.2.2.1⟩ : DL00Src)).bind fun y5 => ((appS 16 st1.2.2.2.2 (⟨false, [y5.1]⟩ : Sl ByteArray)).bind fun y6 => (some (.inl ((IntKind.i64.wrap (st1.1 - 1)), y5.2.code_, y5.2.at_, y5.2.seed_, y6))))) else (some (.inr (st1.2.1, st1.2.2.1, st1.2.2.2.1, st1.2.2.2.2))))) ((m : Int), c, a, sd, acc) = some (c', a', sd', acc') ∧ Tx (n + m) 8 acc' ∧ SrcOk ⟨c', a', sd'⟩ (k + m)
  | 0, n, c, a, sd, k, acc, h, _, ht, _ => ⟨c, a, sd, acc, loopO_stop (by simp), ht, h⟩
  | m + 1, n, c, a, sd, k, acc, h, hk, ht, hm => by
    obtain ⟨x, s', q1, q2, q3⟩ := line_ok h (by omega)
    obtain ⟨acc1, p1, _, p2⟩ := ht.add q2 (by omega)
    obtain ⟨c', a', sd', acc', r1, r2, r3⟩ := lines_loop m (n + 1) s'.code_ s'.at_ s'.seed_ (k + 1) acc1 q3 (by omega) p2 (by omega)
    refine ⟨c', a', sd', acc', loopO_go ?_ r1, by rw [show n + (m + 1) = n + 1 + m by omega]; exact r2, by rw [show k + (m + 1) = k + 1 + m by omega]; exact r3⟩
    have w : IntKind.i64.wrap (((m + 1 : Nat) : Int) - 1) = m := by rw [wrapB (by omega) (by omega)]; simp
    simp only
    rw [if_pos (by simp), q1, Option.bind_some, p1, Option.bind_some, w]
theorem lines_ok {s : DL00Src} {k : Nat} (n : Nat) (h : SrcOk s k) (hk : k + 110 ≤ 1000000000) (h1 : 10 ≤ n) (h2 : n ≤ 100) : ∃ x s', B_spec_l21DrawLines s n = some (x, s') ∧ Tx n 8 x ∧ SrcOk s' (k + 110) := by
  unfold B_spec_l21DrawLines
  obtain ⟨m, s1, q1, q2, q3, q4⟩ := pick_ok 4 h (by omega) (by omega) (by omega)
  obtain ⟨b, s2, q5, q6⟩ := one_ok 9 q4 (by omega) (by omega) (by omega)
  have t0 : Tx 0 8 ⟨false, []⟩ := ⟨fun _ => rfl, by simp, fun x hx => by simp at hx⟩
  have fin : ∀ (j : Nat) (s3 : DL00Src), j ≤ n → SrcOk s3 (k + 3) → ∃ x s', ((loopO (S := (Int × (Sl (Iv .u8)) × Int × Int × (Sl ByteArray))) (R := ((Sl (Iv .u8)) × Int × Int × (Sl ByteArray))) (fun st1 => (if (decide (0 < st1.1)) = true then ((B_spec_l21DrawLine (⟨st1.2.1, st1.2.2.1, st1.2.2.2.1⟩ : DL00Src)).bind fun y5 => ((appS 16 st1.2.2.2.2 (⟨false, [y5.1]⟩ : Sl ByteArray)).bind fun y6 => (some (.inl ((IntKind.i64.wrap (st1.1 - 1)), y5.2.code_, y5.2.at_, y5.2.seed_, y6))))) else (some (.inr (st1.2.1, st1.2.2.1, st1.2.2.2.1, st1.2.2.2.2))))) ((j : Int), s3.code_, s3.at_, s3.seed_, (⟨false, []⟩ : Sl ByteArray))).bind fun y4 => (some (y4.2.2.2, (⟨y4.1, y4.2.1, y4.2.2.1⟩ : DL00Src)))) = some (x, s') ∧ Tx n 8 x ∧ SrcOk s' (k + 110) := fun j s3 hj h3 => by
    obtain ⟨c', a', sd', acc', r1, r2, r3⟩ := lines_loop j 0 s3.code_ s3.at_ s3.seed_ (k + 3) ⟨false, []⟩ h3 (by omega) t0 (by omega)
    rw [r1]
    exact ⟨acc', _, rfl, r2.mono (by omega) (by omega), src_up r3 (by omega) (by omega)⟩
  rw [q1, Option.bind_some, q5, Option.bind_some]
  cases b with
  | true =>
    obtain ⟨d, s3, p1, p2, p3, p4⟩ := pick_ok 2 q6 (by omega) (by omega) (by omega)
    obtain ⟨j, hj⟩ : ∃ j : Nat, (n : Int) - d = j := ⟨((n : Int) - d).toNat, by omega⟩
    obtain ⟨x, s', r1, r2, r3⟩ := fin j s3 (by omega) (src_up p4 (by omega) (by omega))
    refine ⟨x, s', ?_, r2, r3⟩
    simp only
    rw [if_pos trivial, p1, Option.bind_some, Option.bind_some, wrapB (by omega) (by omega), hj]; exact r1
  | false =>
    obtain ⟨j, rfl⟩ : ∃ j : Nat, m = j := ⟨m.toNat, by omega⟩
    obtain ⟨x, s', r1, r2, r3⟩ := fin j s2 (by omega) (src_up q6 (by omega) (by omega))
    refine ⟨x, s', ?_, r2, r3⟩
    simp only
    rw [if_neg (by simp), Option.bind_some]; exact r1
def Fl (f : DFile) : Prop := f.Name.size ≤ 12 ∧ Tx 100 8 f.Lines
def Dn (c : DConsole) : Prop := Tx 300 2000 c.Input ∧ Tx 300 2000 c.Output ∧ (c.Files.l.length ≤ 100 ∧ ∀ f ∈ c.Files.l, Fl f) ∧ Tx 400 2000 c.Trace
theorem Dn.sm {c : DConsole} (h : Dn c) : SmCon c := ⟨h.1.sm (by omega) (by omega), h.2.1.sm (by omega) (by omega), ⟨by have := h.2.2.1.1; omega, fun f hf => ⟨by have := (h.2.2.1.2 f hf).1; omega, (h.2.2.1.2 f hf).2.sm (by omega) (by omega)⟩⟩, h.2.2.2.sm (by omega) (by omega)⟩
def nm7 : Sl ByteArray := ⟨false, [⟨#[68, 65, 84, 65]⟩, ⟨#[73, 78]⟩, ⟨#[76, 79, 71]⟩, ⟨#[79, 85, 84, 49]⟩, ⟨#[84]⟩, ⟨#[90, 57]⟩, ⟨#[97, 95, 98]⟩]⟩
theorem names7 : F_spec_l21Names = some nm7 := u_spec_l21Names _ rfl
theorem files_loop (K : Int) (hK : K ≤ 6) : ∀ (m i : Nat), (i : Int) + m = K → ∀ (c : Sl (Iv .u8)) (a sd : Int) (k : Nat) (fs : Sl DFile), SrcOk ⟨c, a, sd⟩ k → k + 120 * m ≤ 1000000000 → (fs.l.length ≤ i ∧ ∀ f ∈ fs.l, Fl f) →
    ∃ c' a' sd' fs', loopO (S := (Int × (Sl (Iv .u8)) × Int × Int × (Sl DFile))) (R := ((Sl (Iv .u8)) × Int × Int × (Sl DFile))) (fun st1 => (if (decide (st1.1 < K)) = true then ((elt nm7 st1.1).bind fun y9 => ((B_spec_l21DrawLines (⟨st1.2.1, st1.2.2.1, st1.2.2.2.1⟩ : DL00Src) 40).bind fun y10 => ((B_spec_l00Src_pick y10.2 4).bind fun y11 => (if (decide (y11.1 = 1)) = true then ((B_spec_l00Src_pick y11.2 (IntKind.i64.wrap ((y10.1.l.length : Int) + 1))).bind fun y12 => ((appS 56 st1.2.2.2.2 (⟨false, [(⟨y9, y10.1, y11.1, y12.1⟩ : DFile)]⟩ : Sl DFile)).bind fun y13 => (some (.inl ((IntKind.i64.wrap (st1.1 + 1)), y12.2.code_, y12.2.at_, y12.2.seed_, y13))))) else ((appS 56 st1.2.2.2.2 (⟨false, [(⟨y9, y10.1, y11.1, 0⟩ : DFile)]⟩ : Sl DFile)).bind fun y14 => (some (.inl ((IntKind.i64.wrap (st1.1 + 1)), y11.2.code_, y11.2.at_, y11.2.seed_, y14)))))))) else (some (.inr (st1.2.1, st1.2.2.1, st1.2.2.2.1, st1.2.2.2.2))))) ((i : Int), c, a, sd, fs) = some (c', a', sd', fs') ∧ (fs'.l.length ≤ i + m ∧ ∀ f ∈ fs'.l, Fl f) ∧ SrcOk ⟨c', a', sd'⟩ (k + 120 * m)
  | 0, i, hi, c, a, sd, k, fs, h, hk, hf => ⟨c, a, sd, fs, loopO_stop (if_neg (by simp; omega)), hf, h⟩
  | m + 1, i, hi, c, a, sd, k, fs, h, hk, hf => by
    obtain ⟨x, s1, q1, q2, q3⟩ := lines_ok (s := ⟨c, a, sd⟩) 40 h (by omega) (by omega) (by omega)
    obtain ⟨md, s2, q4, q5, q6, q7⟩ := pick_ok 4 q3 (by omega) (by omega) (by omega)
    obtain ⟨z, l⟩ := fs
    have hl : l.length ≤ i := hf.1
    have hn : i < nm7.l.length := by show i < 7; omega
    have hnm : nm7.l[i].size ≤ 12 := (all_mem (l := nm7.l) (a := 0) (b := 12) _ (List.getElem_mem hn) (by kernel_rfl)).2
    have step : ∀ (s3 : DL00Src) (at_ : Int), SrcOk s3 (k + 120) → ∃ c' a' sd' fs', loopO (S := (Int × (Sl (Iv .u8)) × Int × Int × (Sl DFile))) (R := ((Sl (Iv .u8)) × Int × Int × (Sl DFile))) (fun st1 => (if (decide (st1.1 < K)) = true then ((elt nm7 st1.1).bind fun y9 => ((B_spec_l21DrawLines (⟨st1.2.1, st1.2.2.1, st1.2.2.2.1⟩ : DL00Src) 40).bind fun y10 => ((B_spec_l00Src_pick y10.2 4).bind fun y11 => (if (decide (y11.1 = 1)) = true then ((B_spec_l00Src_pick y11.2 (IntKind.i64.wrap ((y10.1.l.length : Int) + 1))).bind fun y12 => ((appS 56 st1.2.2.2.2 (⟨false, [(⟨y9, y10.1, y11.1, y12.1⟩ : DFile)]⟩ : Sl DFile)).bind fun y13 => (some (.inl ((IntKind.i64.wrap (st1.1 + 1)), y12.2.code_, y12.2.at_, y12.2.seed_, y13))))) else ((appS 56 st1.2.2.2.2 (⟨false, [(⟨y9, y10.1, y11.1, 0⟩ : DFile)]⟩ : Sl DFile)).bind fun y14 => (some (.inl ((IntKind.i64.wrap (st1.1 + 1)), y11.2.code_, y11.2.at_, y11.2.seed_, y14)))))))) else (some (.inr (st1.2.1, st1.2.2.1, st1.2.2.2.1, st1.2.2.2.2))))) ((i : Int) + 1, s3.code_, s3.at_, s3.seed_, ⟨false, l ++ [⟨nm7.l[i], x, md, at_⟩]⟩) = some (c', a', sd', fs') ∧ (fs'.l.length ≤ i + (m + 1) ∧ ∀ f ∈ fs'.l, Fl f) ∧ SrcOk ⟨c', a', sd'⟩ (k + 120 * (m + 1)) := fun s3 at_ h3 => by
      obtain ⟨c', a', sd', fs', r1, r2, r3⟩ := files_loop K hK m (i + 1) (by omega) s3.code_ s3.at_ s3.seed_ (k + 120) ⟨false, l ++ [⟨nm7.l[i], x, md, at_⟩]⟩ h3 (by omega) ⟨by simp only [List.length_append, List.length_singleton]; omega, fun f hf' => by
        rcases List.mem_append.1 hf' with h' | h'
        · exact hf.2 f h'
        · rw [List.mem_singleton] at h'; subst h'; exact ⟨hnm, q2.mono (by omega) (by omega)⟩⟩
      exact ⟨c', a', sd', fs', r1, ⟨by have := r2.1; omega, r2.2⟩, by rw [show k + 120 * (m + 1) = k + 120 + 120 * m by omega]; exact r3⟩
    have w : IntKind.i64.wrap ((i : Int) + 1) = (i : Int) + 1 := wrapB (by omega) (by omega)
    have q1 : B_spec_l21DrawLines ⟨c, a, sd⟩ 40 = some (x, s1) := q1
    have hx := q2.2.1
    by_cases h1 : md = 1
    · obtain ⟨at_, s3, p1, p2, p3, p4⟩ := pick_ok ((x.l.length : Int) + 1) q7 (by omega) (by omega) (by omega)
      obtain ⟨c', a', sd', fs', r1, r2, r3⟩ := step s3 at_ (src_up p4 (by omega) (by omega))
      refine ⟨c', a', sd', fs', loopO_go ?_ r1, r2, r3⟩
      simp only
      rw [if_pos (by simp; omega), elt_lt hn, Option.bind_some, q1, Option.bind_some, q4, Option.bind_some, if_pos (by simpa using h1), wrapB (by show (0 : Int) ≤ (x.l.length : Int) + 1; omega) (by show (x.l.length : Int) + 1 ≤ _; omega), p1, Option.bind_some, appS_new (by omega), Option.bind_some, w]
    · obtain ⟨c', a', sd', fs', r1, r2, r3⟩ := step s2 0 (src_up q7 (by omega) (by omega))
      refine ⟨c', a', sd', fs', loopO_go ?_ r1, r2, r3⟩
      simp only
      rw [if_pos (by simp; omega), elt_lt hn, Option.bind_some, q1, Option.bind_some, q4, Option.bind_some, if_neg (by simpa using h1), appS_new (by omega), Option.bind_some, w]
theorem trace_loop (x : ByteArray) (hx : x.size ≤ 2000) : ∀ (m n : Nat) (acc : Sl ByteArray), Tx n 2000 acc → n + m ≤ 1000 → ∃ acc', loopO (S := (Int × (Sl ByteArray))) (R := (Sl ByteArray)) (fun st2 => (if (decide (0 < st2.1)) = true then ((appS 16 st2.2 (⟨false, [x]⟩ : Sl ByteArray)).bind fun y17 => (some (.inl ((IntKind.i64.wrap (st2.1 - 1)), y17)))) else (some (.inr st2.2)))) ((m : Int), acc) = some acc' ∧ Tx (n + m) 2000 acc'
  | 0, n, acc, h, _ => ⟨acc, loopO_stop (by simp), h⟩
  | m + 1, n, acc, h, hm => by
    obtain ⟨a1, p1, _, p2⟩ := h.add hx (by omega)
    obtain ⟨a', r1, r2⟩ := trace_loop x hx m (n + 1) a1 p2 (by omega)
    refine ⟨a', loopO_go ?_ r1, by rw [show n + (m + 1) = n + 1 + m by omega]; exact r2⟩
    have w : IntKind.i64.wrap (((m + 1 : Nat) : Int) - 1) = m := by rw [wrapB (by omega) (by omega)]; simp
    simp only
    rw [if_pos (by simp), p1, Option.bind_some, w]
theorem fill_loop (x : ByteArray) (hx : x.size ≤ 2000) (N : Int) (hN : N ≤ 300) : ∀ (m : Nat) (acc : Sl ByteArray), N ≤ (acc.l.length : Int) + m → Tx 300 2000 acc → ∃ acc', loopO (S := (Sl ByteArray)) (R := (Sl ByteArray)) (fun st3 => (if (decide ((st3.l.length : Int) < N)) = true then ((appS 16 st3 (⟨false, [x]⟩ : Sl ByteArray)).bind fun y20 => (some (.inl y20))) else (some (.inr st3)))) acc = some acc' ∧ Tx 300 2000 acc'
  | m, acc, hl, h => by
    by_cases h1 : (acc.l.length : Int) < N
    · match m, hl with
      | 0, hl => omega
      | m + 1, hl =>
        obtain ⟨a1, p1, p3, p2⟩ := Tx.add (n := acc.l.length) (s := acc) ⟨h.1, Nat.le_refl _, h.2.2⟩ hx (by omega)
        obtain ⟨a', r1, r2⟩ := fill_loop x hx N hN m a1 (by rw [p3]; simp only [List.length_append, List.length_singleton]; omega) (p2.mono (by omega) (Nat.le_refl _))
        refine ⟨a', loopO_go ?_ r1, r2⟩
        rw [if_pos (by simpa using h1), p1, Option.bind_some]
    · exact ⟨acc, loopO_stop (if_neg (by simpa using h1)), h⟩
theorem drawn_ok {s : DL00Src} {k : Nat} (h : SrcOk s k) (hk : k + 1500 ≤ 1000000000) : ∃ c s', B_spec_l21DrawConsole s = some (c, s') ∧ Dn c ∧ Tx 300 2000 c.Trace ∧ c.Files.l.length ≤ 6 ∧ c.Input.l.length ≤ 100 ∧ c.Output.l.length ≤ 100 ∧ SrcOk s' (k + 1500) := by
  unfold B_spec_l21DrawConsole
  obtain ⟨x1, s1, p1, p2, p3⟩ := lines_ok 100 h (by omega) (by omega) (by omega)
  obtain ⟨x2, s2, p4, p5, p6⟩ := lines_ok 100 p3 (by omega) (by omega) (by omega)
  have p1 : B_spec_l21DrawLines s 100 = some (x1, s1) := p1
  have p4 : B_spec_l21DrawLines s1 100 = some (x2, s2) := p4
  have hl1 := p2.2.1
  obtain ⟨a, s3, p7, p8, p9, p10⟩ := pick_ok ((x1.l.length : Int) + 1) p6 (by omega) (by omega) (by omega)
  obtain ⟨n, s4, p11, p12, p13, p14⟩ := pick_ok 4 p10 (by omega) (by omega) (by omega)
  obtain ⟨b, s5, p15, p16⟩ := one_ok 6 p14 (by omega) (by omega) (by omega)
  rw [p1, Option.bind_some, p4, Option.bind_some, wrapB (by show (0 : Int) ≤ (x1.l.length : Int) + 1; omega) (by show (x1.l.length : Int) + 1 ≤ _; omega), p7, Option.bind_some, p11, Option.bind_some, p15, Option.bind_some]
  obtain ⟨K, hK, hK6⟩ : ∃ K : Nat, (if b = true then some 6 else some n : Option Int) = some (K : Int) ∧ K ≤ 6 := by
    cases b with
    | true => exact ⟨6, rfl, by omega⟩
    | false => exact ⟨n.toNat, by simp; omega, by omega⟩
  have hK : (if (b, s5).1 = true then some 6 else some (n, s4).1 : Option Int) = some (K : Int) := hK
  rw [hK, Option.bind_some, names7, Option.bind_some]
  obtain ⟨c', a', sd', fs, r1, r2, r3⟩ := files_loop K (by omega) K 0 (by omega) s5.code_ s5.at_ s5.seed_ _ ⟨true, []⟩ p16 (by omega) ⟨by simp, fun f hf => by simp at hf⟩
  have r1 := r1
  simp only [Int.natCast_zero] at r1
  rw [r1, Option.bind_some]
  obtain ⟨m, s6, t1, t2, t3, t4⟩ := pick_ok 3 r3 (by omega) (by omega) (by omega)
  obtain ⟨j, rfl⟩ : ∃ j : Nat, m = j := ⟨m.toNat, by omega⟩
  obtain ⟨tr, u1, u2⟩ := trace_loop ⟨#[49, 58, 32, 103, 111, 116, 111, 32, 76]⟩ (by decide) j 0 ⟨true, []⟩ ⟨fun _ => rfl, by simp, fun x hx => by simp at hx⟩ (by omega)
  obtain ⟨b2, s7, v1, v2⟩ := one_ok 12 t4 (by omega) (by omega) (by omega)
  rw [t1, Option.bind_some, u1, Option.bind_some, v1, Option.bind_some]
  have mk : ∀ tr', Tx 400 2000 tr' → Dn ⟨x1, a, x2, fs, tr'⟩ := fun tr' h' => ⟨p2.mono (by omega) (by omega), p5.mono (by omega) (by omega), ⟨by have := r2.1; show fs.l.length ≤ 100; omega, r2.2⟩, h'⟩
  have hfl : fs.l.length ≤ 6 := by have := r2.1; omega
  cases b2 with
  | true =>
    obtain ⟨tr', w1, w2⟩ := fill_loop ⟨#[50, 58, 32, 99, 97, 108, 108, 32, 70]⟩ (by decide) 200 (by omega) 200 tr (by omega) (u2.mono (by omega) (Nat.le_refl _))
    rw [if_pos rfl, w1, Option.bind_some]
    exact ⟨_, _, rfl, mk _ (w2.mono (by omega) (Nat.le_refl _)), w2, hfl, hl1, p5.2.1, src_up v2 (by omega) (by omega)⟩
  | false =>
    rw [if_neg (by simp)]
    exact ⟨_, _, rfl, mk _ (u2.mono (by omega) (Nat.le_refl _)), u2.mono (by omega) (Nat.le_refl _), hfl, hl1, p5.2.1, src_up v2 (by omega) (by omega)⟩
end Go.Am
end
