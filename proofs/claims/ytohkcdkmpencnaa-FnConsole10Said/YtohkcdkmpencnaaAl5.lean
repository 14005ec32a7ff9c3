/- The law. -/
import Derived.Test.YtohkcdkmpencnaaAg0
import Derived.Test.YtohkcdkmpencnaaAg1
import Derived.Test.YtohkcdkmpencnaaAl4
section
set_option maxRecDepth 100000
set_option maxHeartbeats 1000000
set_option linter.unusedVariables false
set_option linter.unusedSimpArgs false
namespace Go.Am
def NZ (c : aa_) : Prop := (c.Input.z = true → c.Input.l = []) ∧ (c.Output.z = true → c.Output.l = []) ∧ (c.Trace.z = true → c.Trace.l = []) ∧ ∀ f ∈ c.Files.l, f.Lines.z = true → f.Lines.l = []
def fz (s : Sl ak_) : Sl ak_ := ⟨s.l.isEmpty, s.l⟩
theorem eU_ (s : Sl ByteArray) (hz : s.z = true → s.l = []) (hs : s.l.length ≤ 1048576) : ay_ s = some s := by
 refine du_ s _ ?_
 unfold ba_
 obtain ⟨z, l⟩ := s
 cases z with
 | true => have : l = [] := hz rfl; subst this; rfl
 | false => rw [if_neg (by simp), f7_ (by simp only at hs ⊢; omega)]; rfl
theorem fl_ (c : aa_) (h : iO_ c) (hz : NZ c) : aS_ c = some ⟨c.Input, c.At, c.Output, fz c.Files, c.Trace⟩ := by
 refine da_ c _ ?_
 unfold a9_
 obtain ⟨a1, a2, a3, a4⟩ := h
 obtain ⟨z1, z2, z3, z4⟩ := hz
 have hlen := a3.1
 rw [eU_ _ z1 a1.1, Option.bind_some, eU_ _ z2 a2.1, Option.bind_some, eU_ _ z3 a4.1, Option.bind_some]
 refine Eq.trans (congrArg (fun o => Option.bind o _) (ks_ (fun f => f) (a := c.Files) (by omega) (fun i x s hx hi hs he => ?_) (fun s => by rw [if_neg (by simp)]))) ?_
 ·show (if decide ((i : Int) < (c.Files.l.length : Int)) = true then _ else _) = _
  rw [if_pos (by simpa using hi), he, Option.bind_some, eU_ _ (z4 x hx) (a3.2 x hx).2.1, Option.bind_some]
  obtain ⟨z, l⟩ := s
  rw [cY_ (by simp only at hs; omega), do_ (by omega) (by omega)]; rfl
 ·simp only [List.map_id', Option.bind_some]; rfl
def Good (c : aa_) : Prop := iO_ c ∧ NZ c ∧ ConP c
theorem kj_ {c : aa_} (h : Good c) (he : c.At = (c.Input.l.length : Int)) : ∃ w x, aN_ c = some (w, x, false) := by
 suffices H : ∃ w x, a6_ c = some (w, x, false) by
  obtain ⟨w, x, e⟩ := H; exact ⟨w, x, dt_ _ _ e⟩
 unfold a6_
 rw [con2 c h.1, Option.bind_some, be_ h.2.2, if_neg (by simp), fl_ c h.1 h.2.1, Option.bind_some]
 dsimp only
 rw [if_pos (by simpa using he)]
 exact ⟨_, _, rfl⟩
theorem mf_ {c : aa_} (h : Good c) {n : Nat} (hn : c.At = n) (hlt : n < c.Input.l.length) : aN_ c = some (⟨c.Input, (n : Int) + 1, c.Output, fz c.Files, c.Trace⟩, c.Input.l[n], true) := by
 refine dt_ _ _ ?_
 have hl := h.1.1.1
 unfold a6_
 rw [con2 c h.1, Option.bind_some, be_ h.2.2, if_neg (by simp), fl_ c h.1 h.2.1, Option.bind_some]
 dsimp only
 rw [hn, if_neg (by simp; omega), do_ (n := (n : Int) + 1) (by omega) (by omega), do_ (by omega) (by omega), show (n : Int) + 1 - 1 = (n : Int) by omega, bA_ hlt]
 rfl
theorem jH_ {c : aa_} (h : Good c) {n : Nat} (hn : c.At = n) (hlt : n < c.Input.l.length) : Good ⟨c.Input, (n : Int) + 1, c.Output, fz c.Files, c.Trace⟩ := by
 obtain ⟨h1, h2, b1, b2, b3, b4, b5, b6, b7⟩ := h
 exact ⟨h1, h2, b1, ⟨by show (0 : Int) ≤ (n : Int) + 1; omega, by show (n : Int) + 1 ≤ (c.Input.l.length : Int); omega⟩, b3, b4, b5, b6, b7⟩
theorem kx_ {c : aa_} (h : Good c) (x : ByteArray) (hx : x.size ≤ 200) : ∃ w k, bl_ c x = some (w, k) ∧ (k ≠ 0 ∨ (k = 0 ∧ w = ⟨c.Input, c.At, ⟨false, c.Output.l ++ [x]⟩, fz c.Files, c.Trace⟩ ∧ Good w)) := by
 suffices H : ∃ w k, bo_ c x = some (w, k) ∧ (k ≠ 0 ∨ (k = 0 ∧ w = ⟨c.Input, c.At, ⟨false, c.Output.l ++ [x]⟩, fz c.Files, c.Trace⟩ ∧ Good w)) by
  obtain ⟨w, k, e, r⟩ := H; exact ⟨w, k, eO_ _ _ _ e, r⟩
 have hl := h.1.2.1.1
 unfold bo_
 rw [con2 c h.1, Option.bind_some, be_ h.2.2, if_neg (by simp), la_, Option.bind_some, be_ hx, if_neg (by simp), fl_ c h.1 h.2.1, Option.bind_some]
 dsimp only
 obtain ⟨h1, h2, b1, b2, b3, b4, b5, b6, b7⟩ := h
 by_cases hf : c.Output.l.length = 100
 ·rw [if_pos (by simp; omega)]
  exact ⟨_, _, rfl, .inl (by show (6 : Int) ≠ 0; omega)⟩
 ·have e : appS 16 c.Output ⟨false, [x]⟩ = some ⟨false, c.Output.l ++ [x]⟩ := by
   obtain ⟨i, a, ⟨z, l⟩, f, t⟩ := c
   exact cY_ (by simp only at hl; omega)
  rw [if_neg (by simp; omega), e]
  have b31 := b3.1
  have s21 := h1.2.1.1
  refine ⟨_, _, rfl, .inr ⟨rfl, rfl, ⟨h1.1, ⟨?_, ?_⟩, h1.2.2.1, h1.2.2.2⟩, ⟨h2.1, fun w => (by cases w), h2.2.2⟩, b1, b2, ⟨?_, ?_⟩, b4, b5, b6, b7⟩⟩
  ·show (c.Output.l ++ [x]).length ≤ 1048576
   rw [List.length_append, List.length_singleton]; omega
  ·intro y hy
   rcases List.mem_append.1 hy with hy | hy
   ·exact h1.2.1.2 y hy
   ·rw [List.mem_singleton] at hy; subst hy; omega
  ·show (c.Output.l ++ [x]).length ≤ 100
   rw [List.length_append, List.length_singleton]; omega
  ·intro y hy
   rcases List.mem_append.1 hy with hy | hy
   ·exact b3.2 y hy
   ·rw [List.mem_singleton] at hy; subst hy; exact hx
theorem iz_ (a b : Sl ByteArray) (h : a.l = b.l) (hs : a.l.length ≤ 1048576) : bL_ a b = some true := by
 refine e5_ _ _ _ ?_
 unfold ch_
 rw [← h, if_neg (by simp)]
 suffices H : ∀ (m i : Nat), i + m = a.l.length → aW_ (S := Int) (R := (Unit ⊕ Bool)) (fun st1 => (if (decide (st1 < (a.l.length : Int))) = true then ((elt a st1).bind fun y2 => ((elt b st1).bind fun y3 => (if (!decide (y2 = y3)) = true then (some (.inr (.inr false))) else (some (.inl (w4 (st1 + 1))))))) else (some (.inr (.inl ()))))) (i : Int) = some (.inl ()) by
  have := H a.l.length 0 (by omega)
  simp only [Int.natCast_zero] at this
  rw [this]; rfl
 intro m
 induction m with
 | zero => intro i hi; exact aX_ (if_neg (by simp; omega))
 | succ m ih =>
  intro i hi
  have h1 : i < a.l.length := by omega
  have h2 : i < b.l.length := by rw [← h]; exact h1
  have e : a.l[i] = b.l[i] := by simp only [h]
  refine bm_ (s' := ((i + 1 : Nat) : Int)) ?_ (ih (i + 1) (by omega))
  rw [if_pos (by simpa using h1), bA_ h1, Option.bind_some, bA_ h2, Option.bind_some, e, if_neg (by simp), do_ (by omega) (by omega)]; rfl
theorem gk_ (I want : Sl ByteArray) (n0 : Nat) (hw : want.l = I.l.drop n0) (hn0 : n0 ≤ I.l.length) (hI : I.l.length ≤ 100) : ∀ (m i : Nat), i + m = want.l.length → ∀ (O : Sl ByteArray) (F : Sl ak_) (T acc : Sl ByteArray), Good ⟨I, (n0 : Int) + i, O, F, T⟩ → acc.l = O.l →
  ∃ O' F' T' acc', aW_ (S := (Int × (Sl ByteArray) × Int × (Sl ByteArray) × (Sl ak_) × (Sl ByteArray) × (Sl ByteArray))) (R := (((Sl ByteArray) × Int × (Sl ByteArray) × (Sl ak_) × (Sl ByteArray) × (Sl ByteArray)) ⊕ Bool)) (fun st1 => (if (decide (st1.1 < (want.l.length : Int))) = true then ((aN_ (⟨st1.2.1, st1.2.2.1, st1.2.2.2.1, st1.2.2.2.2.1, st1.2.2.2.2.2.1⟩ : aa_)).bind fun y8 => (if (!y8.2.2) = true then (some (.inr (.inr false))) else ((elt want st1.1).bind fun y9 => (if (!decide (y8.2.1 = y9)) = true then (some (.inr (.inr false))) else ((bl_ y8.1 y8.2.1).bind fun y10 => (if (decide (y10.2 = 0)) = true then ((appS 16 st1.2.2.2.2.2.2 (⟨false, [y8.2.1]⟩ : Sl ByteArray)).bind fun y11 => (some (.inl ((w4 (st1.1 + 1)), y10.1.Input, y10.1.At, y10.1.Output, y10.1.Files, y10.1.Trace, y11)))) else (some (.inl ((w4 (st1.1 + 1)), y8.1.Input, y8.1.At, y8.1.Output, y8.1.Files, y8.1.Trace, st1.2.2.2.2.2.2))))))))) else (some (.inr (.inl (st1.2.1, st1.2.2.1, st1.2.2.2.1, st1.2.2.2.2.1, st1.2.2.2.2.2.1, st1.2.2.2.2.2.2)))))) ((i : Int), I, (n0 : Int) + i, O, F, T, acc) = some (.inl (I, (I.l.length : Int), O', F', T', acc')) ∧ Good ⟨I, (I.l.length : Int), O', F', T'⟩ ∧ acc'.l = O'.l
 | 0, i, hi, O, F, T, acc, h, ha => by
  have hwl : want.l.length = I.l.length - n0 := by rw [hw, List.length_drop]
  have e : (n0 : Int) + i = (I.l.length : Int) := by omega
  refine ⟨O, F, T, acc, ?_, by rw [← e]; exact h, ha⟩
  rw [e]
  exact aX_ (if_neg (by simp; omega))
 | m + 1, i, hi, O, F, T, acc, h, ha => by
  have hwl : want.l.length = I.l.length - n0 := by rw [hw, List.length_drop]
  have hlt : n0 + i < I.l.length := by omega
  have hiw : i < want.l.length := by omega
  have hc : (⟨I, (n0 : Int) + i, O, F, T⟩ : aa_).At = ((n0 + i : Nat) : Int) := by show (n0 : Int) + i = _; omega
  have r1 := mf_ h hc hlt
  have g1 := jH_ h hc hlt
  have ex : want.l[i] = I.l[n0 + i] := by
   have : want.l[i]? = I.l[n0 + i]? := by rw [hw, List.getElem?_drop]
   rw [List.getElem?_eq_getElem hiw, List.getElem?_eq_getElem hlt] at this
   exact Option.some.inj this
  have hsz : (I.l[n0 + i]).size ≤ 200 := h.2.2.1.2 _ (List.getElem_mem hlt)
  obtain ⟨w, k, r2, r3⟩ := kx_ g1 I.l[n0 + i] hsz
  have e1 : ((n0 + i : Nat) : Int) + 1 = (n0 : Int) + ((i + 1 : Nat) : Int) := by omega
  have ew : w4 ((i : Int) + 1) = ((i + 1 : Nat) : Int) := by rw [do_ (by omega) (by omega)]; rfl
  have hol : O.l.length ≤ 100 := h.2.2.2.2.1.1
  rcases r3 with hk | ⟨hk, rfl, g2⟩
  ·obtain ⟨O', F', T', acc', t1, t2, t3⟩ := gk_ I want n0 hw hn0 hI m (i + 1) (by omega) O (fz F) T acc (by rw [← e1]; exact g1) ha
   refine ⟨O', F', T', acc', bm_ ?_ t1, t2, t3⟩
   dsimp only
   rw [if_pos (by simp; omega), r1, Option.bind_some]
   dsimp only
   rw [if_neg (by simp), bA_ hiw, Option.bind_some, ex, if_neg (by simp), r2, Option.bind_some, if_neg (by simpa using hk), ew, e1]
  ·subst hk
   have ea : appS 16 acc ⟨false, [I.l[n0 + i]]⟩ = some ⟨false, acc.l ++ [I.l[n0 + i]]⟩ := by
    obtain ⟨z, l⟩ := acc
    exact cY_ (by simp only at ha; rw [ha]; omega)
   obtain ⟨O', F', T', acc', t1, t2, t3⟩ := gk_ I want n0 hw hn0 hI m (i + 1) (by omega) ⟨false, O.l ++ [I.l[n0 + i]]⟩ (fz (fz F)) T ⟨false, acc.l ++ [I.l[n0 + i]]⟩ (by rw [← e1]; exact g2) (by show acc.l ++ _ = O.l ++ _; rw [ha])
   refine ⟨O', F', T', acc', bm_ ?_ t1, t2, t3⟩
   dsimp only
   rw [if_pos (by simp; omega), r1, Option.bind_some]
   dsimp only
   rw [if_neg (by simp), bA_ hiw, Option.bind_some, ex, if_neg (by simp), r2, Option.bind_some, if_pos (by simp), ea, Option.bind_some, ew, e1]
theorem fB_ (a : Sl (Iv .u8)) (h : ∀ x ∈ a.l, 0 ≤ x.v ∧ x.v ≤ 255) : cx_ a = some true := by
 refine dT_ a _ ?_
 unfold bH_
 have e0 : cA_ a = some (decide (1048576 < (a.l.length : Int))) := fw_ a _ rfl
 rw [e0, Option.bind_some]
 by_cases hl : 1048576 < (a.l.length : Int)
 ·rw [if_pos (by simpa using hl)]
 rw [if_neg (by simpa using hl)]
 obtain ⟨c, s', q1, q2, _⟩ := l1_ (s := ⟨a, 0, 0⟩) (k := 0) 9 ⟨⟨h, by show a.l.length ≤ 1048580; omega⟩, Int.le_refl _, Int.le_refl _, by decide⟩ (by decide) (by decide) (by decide)
 have e1 : bt_ a = some c := dL_ a _ (by unfold bp_; rw [q1]; rfl)
 have val : ∀ c, iO_ c → aM_ c = some (says (ConP c)) := fun c hc => dN_ c _ (by unfold bx_; rw [con1 c hc]; rfl)
 have hs := q2.sm
 rw [e1, Option.bind_some, val c hs, Option.bind_some]
 by_cases hv : ConP c
 rotate_left
 ·rw [a7_ hv, if_pos (by rfl)]
 rw [be_ hv, if_neg (by simp)]
 have hz : NZ c := ⟨q2.1.1, q2.2.1.1, q2.2.2.2.1, fun f hf => (q2.2.2.1.2 f hf).2.1⟩
 have hg : Good c := ⟨hs, hz, hv⟩
 obtain ⟨I, A, O, F, T⟩ := c
 obtain ⟨h0, h1⟩ := hv.2.1
 obtain ⟨n, rfl⟩ : ∃ n : Nat, A = n := ⟨A.toNat, by simp only at h0; omega⟩
 have hn : n ≤ I.l.length := by simp only at h1; omega
 have hI : I.l.length ≤ 100 := hv.1.1
 have hO : O.l.length ≤ 100 := hv.2.2.1.1
 dsimp only
 have e2 : subS I (n : Int) (I.l.length : Int) = some ⟨I.z, (I.l.drop n).take (I.l.length - n)⟩ := by
  unfold subS
  rw [if_pos ⟨by omega, by omega, by omega⟩]
  simp
 have hd : (I.l.drop n).take (I.l.length - n) = I.l.drop n := List.take_of_length_le (by rw [List.length_drop]; omega)
 rw [hd] at e2
 rw [e2, Option.bind_some, f7_ (by show (I.l.drop n).length * 16 ≤ _; rw [List.length_drop]; omega), Option.bind_some, f7_ (by omega), Option.bind_some]
 obtain ⟨O', F', T', acc', t1, t2, t3⟩ := gk_ I ⟨false, I.l.drop n⟩ n rfl hn hI (I.l.drop n).length 0 (Nat.zero_add _) O F T ⟨false, O.l⟩ (by simpa using hg) rfl
 have t1 := t1
 simp only [Int.natCast_zero, Int.add_zero] at t1
 rw [t1, Option.bind_some]
 obtain ⟨w, x, r1⟩ := kj_ t2 rfl
 have hO' : O'.l.length ≤ 100 := t2.2.2.2.2.1.1
 show ((aN_ ⟨I, (I.l.length : Int), O', F', T'⟩).bind fun y12 => (if (!y12.2.2) = true then ((bL_ O' acc').bind fun y13 => (if y13 = true then ((aM_ (⟨I, (I.l.length : Int), O', F', T'⟩ : aa_)).bind fun y14 => (some y14)) else (some false))) else (some false))) = some true
 rw [r1, Option.bind_some, if_pos (by rfl), iz_ O' acc' t3.symm (by omega), Option.bind_some, if_pos rfl, val _ t2.1, Option.bind_some, be_ t2.2.2]
theorem kk_ {P : Program} {t : TypeId} {d : Nat} {ts : List T} {k : IntKind} (hu : P.underlying t = some (.int k)) (kt : ap_ P t = 10) (h : Shp P d t ts) : ∃ n : Int, ts = [.int k n] ∧ (Lit.int k n).wf = true := by
 cases d with
 | zero => exact h.elim
 | succ d =>
  rcases h with h | h | h | h | h
  ·rw [kt] at h; exact absurd h.1 (by decide)
  ·obtain ⟨_, k', n, h1, h2, h3⟩ := h
   rw [hu] at h1
   injection h1 with h1; injection h1 with h1; subst h1
   exact ⟨n, h2, h3⟩
  ·rw [kt] at h; exact absurd h.1 (by decide)
  ·rw [kt] at h; exact absurd h.1 (by decide)
  ·rw [kt] at h; exact absurd h.1 (by decide)
theorem i8_ {d : Nat} {ts : List T} (h : Shp Go.Proofs.Try.prog d 22 ts) : ∃ x : Sl (Iv .u8), ts = [Sl.t x] ∧ FitS maxLen (fun y : Iv .u8 => 0 ≤ y.v ∧ y.v ≤ 255) x :=
 np_ (e := 5) (kt := by kernel_rfl) (he := by kernel_rfl) (fun d ts h => by
  obtain ⟨n, rfl, h2⟩ := kk_ (k := .u8) (by kernel_rfl) (by kernel_rfl) h
  exact ⟨⟨n⟩, rfl, by have h2 := h2; simp only [Lit.wf, Bool.and_eq_true, decide_eq_true_eq] at h2; exact h2⟩) h
theorem law_FnConsole10 {fu0 : Nat} {t0 : T} (h0 : Shp Go.Proofs.Try.prog fu0 22 [t0]) : ∃ σ', run Go.Proofs.Try.prog md ext 3 [t0] St.empty = some (.bool true, σ') := by
 obtain ⟨a, e0, ha⟩ := i8_ h0
 injection e0 with e0; subst e0
 exact ⟨_, eb_ (fB_ a ha.2) St.empty⟩
end Go.Am
end
