/- The law. -/
import Derived.Test.YtohkcdkmpencnaaGreatDoorAg0
import Derived.Test.YtohkcdkmpencnaaGreatDoorAg1
import Derived.Test.YtohkcdkmpencnaaGreatDoorAm5
import Derived.Test.YtohkcdkmpencnaaGreatDoorAm6
section
set_option maxRecDepth 100000
set_option maxHeartbeats 1000000
set_option linter.unusedVariables false
set_option linter.unusedSimpArgs false
namespace Go.Am
def FitStr (s : ByteArray) : Prop := s.size ≤ maxLen
def FitSS (s : Sl ByteArray) : Prop := FitS maxLen FitStr s
def FitFile (f : DFile) : Prop := FitStr f.Name ∧ FitSS f.Lines
def FitCon (c : DConsole) : Prop := FitSS c.Input ∧ FitSS c.Output ∧ FitS maxLen FitFile c.Files ∧ FitSS c.Trace
def SmSS (s : Sl ByteArray) : Prop := FitS 1048576 (fun x => x.size ≤ 1048576) s
def SmFile (f : DFile) : Prop := f.Name.size ≤ 1048576 ∧ SmSS f.Lines
def SmCon (c : DConsole) : Prop := SmSS c.Input ∧ SmSS c.Output ∧ FitS 1048576 SmFile c.Files ∧ SmSS c.Trace
theorem sz_StringS (s : Sl ByteArray) (h : FitSS s) (l : Int) (h0 : 0 ≤ l) (h1 : l ≤ 1048576) : SzOk (F_laws_szStringS s l) l (SmSS s) := by
  refine sz_u (u_laws_szStringS s l) ?_
  unfold B_laws_szStringS
  refine slice_sz h0 h1 h.1 (fun i x l' hx hi he q1 q2 => ?_) (fun l' => by rw [if_neg (by simp)])
  have hb := h.2 x hx
  have hm := maxLen_eq
  have hlen := h.1
  unfold FitStr at hb
  show (if decide ((i : Int) < (s.l.length : Int)) = true then _ else _) = _ ∨ ∃ l'', (if decide ((i : Int) < (s.l.length : Int)) = true then _ else _) = _ ∧ _
  rw [if_pos (by simp; omega), he]
  simp only [Option.bind_some]
  rw [wrap_id (n := l' - (x.size : Int)) (by omega) (by omega), wrap_id (n := (i : Int) + 1) (by omega) (by omega)]
  by_cases hn : l' - (x.size : Int) < 0
  · left; rw [if_pos (by simpa using hn)]
  · right; rw [if_neg (by simpa using hn)]; exact ⟨_, rfl, by omega, by omega, by omega⟩
theorem sz_File (f : DFile) (h : FitFile f) (l : Int) (h0 : 0 ≤ l) (h1 : l ≤ 1048576) : SzOk (F_laws_szFile f l) l (SmFile f) := by
  refine sz_u (u_laws_szFile f l) ?_
  unfold B_laws_szFile
  have hb := h.1; unfold FitStr at hb; have hm := maxLen_eq
  rw [wrap_id (n := l - (f.Name.size : Int)) (by omega) (by omega)]
  refine sz_if (by omega) fun hn => sz_bind (sz_StringS f.Lines h.2 _ hn (by omega)) fun l' q1 q2 q3 => sz_end q1 ⟨by omega, q3⟩
theorem sz_FileS (s : Sl DFile) (h : FitS maxLen FitFile s) (l : Int) (h0 : 0 ≤ l) (h1 : l ≤ 1048576) : SzOk (F_laws_szFileS s l) l (FitS 1048576 SmFile s) := by
  refine sz_u (u_laws_szFileS s l) ?_
  unfold B_laws_szFileS
  have hm := maxLen_eq; have hlen := h.1
  exact slice_sz h0 h1 h.1 (fun i x l' hx hi he q1 q2 => sz_step (by omega) he (sz_File x (h.2 x hx) l' q1 (by omega)) (by omega)) (fun l' => by rw [if_neg (by simp)])
theorem sz_Console (c : DConsole) (h : FitCon c) : SzOk (F_laws_szConsole c 1048576) 1048576 (SmCon c) := by
  refine sz_u (u_laws_szConsole c 1048576) ?_
  unfold B_laws_szConsole
  obtain ⟨a1, a2, a3, a4⟩ := h
  exact sz_bind (sz_StringS _ a1 _ (by omega) (by omega)) fun l1 q1 q1' p1 => sz_bind (sz_StringS _ a2 _ q1 (by omega)) fun l2 q2 q2' p2 => sz_bind (sz_FileS _ a3 _ q2 (by omega)) fun l3 q3 q3' p3 => sz_bind (sz_StringS _ a4 _ q3 (by omega)) fun l4 q4 q4' p4 => sz_end q4 ⟨p1, p2, p3, p4⟩
def cpSS (s : Sl ByteArray) : Sl ByteArray := ⟨false, s.l⟩
def cpFile (f : DFile) : DFile := ⟨f.Name, cpSS f.Lines, f.Mode, f.At⟩
def cpCon (c : DConsole) : DConsole := ⟨cpSS c.Input, c.At, cpSS c.Output, ⟨false, c.Files.l.map cpFile⟩, cpSS c.Trace⟩
theorem to_StringS (s : Sl ByteArray) (h : SmSS s) : F_laws_toStringS s = some (cpSS s) := by
  refine u_laws_toStringS s _ ?_
  unfold B_laws_toStringS
  have hl := h.1
  rw [loop_map (fun x => x) hl (by omega) (fun i x t hx hi hit he => ?_) (fun t => by rw [if_neg (by simp)])]
  · simp [cpSS]
  · show (if decide ((i : Int) < (s.l.length : Int)) = true then _ else _) = _
    rw [if_pos (by simpa using hi), he]
    simp only [Option.bind_some]
    rw [elt_lt hit, wrapB (by omega) (by omega)]; rfl
theorem to_File (f : DFile) (h : SmFile f) : F_laws_toFile f = some (cpFile f) := by
  refine u_laws_toFile f _ ?_
  unfold B_laws_toFile
  rw [to_StringS _ h.2]; rfl
theorem to_FileS (s : Sl DFile) (h : FitS 1048576 SmFile s) : F_laws_toFileS s = some ⟨false, s.l.map cpFile⟩ := by
  refine u_laws_toFileS s _ ?_
  unfold B_laws_toFileS
  have hl := h.1
  refine loop_map cpFile hl (by omega) (fun i x t hx hi hit he => ?_) (fun t => by rw [if_neg (by simp)])
  show (if decide ((i : Int) < (s.l.length : Int)) = true then _ else _) = _
  rw [if_pos (by simpa using hi), he]
  simp only [Option.bind_some]
  rw [to_File x (h.2 x hx)]
  simp only [Option.bind_some]
  rw [elt_lt hit, wrapB (by omega) (by omega)]; rfl
theorem to_Console (c : DConsole) (h : SmCon c) : F_laws_toConsole c = some (cpCon c) := by
  refine u_laws_toConsole c _ ?_
  unfold B_laws_toConsole
  obtain ⟨a1, a2, a3, a4⟩ := h
  rw [to_StringS _ a1, Option.bind_some, to_StringS _ a2, Option.bind_some, to_FileS _ a3, Option.bind_some, to_StringS _ a4]; rfl
theorem Sm_cpFile {f : DFile} (h : SmFile f) : SmFile (cpFile f) := h
theorem Sm_cp {c : DConsole} (h : SmCon c) : SmCon (cpCon c) := by
  obtain ⟨a1, a2, a3, a4⟩ := h
  refine ⟨a1, a2, ⟨by have := a3.1; simpa [cpCon] using this, fun x hx => ?_⟩, a4⟩
  simp only [cpCon, List.mem_map] at hx
  obtain ⟨y, hy, rfl⟩ := hx
  exact Sm_cpFile (a3.2 y hy)
theorem eq_StringS (s : Sl ByteArray) (h : s.l.length ≤ 1048577) : F_laws_eqStringS s s = some true := by
  refine u_laws_eqStringS s s _ ?_
  unfold B_laws_eqStringS
  refine loop_refl (by omega) fun i x hx he => ?_
  rw [he]
  simp only [Option.bind_some]
  rw [if_neg (by simp)]
theorem eq_File (f : DFile) (h : f.Lines.l.length ≤ 1048577) : F_laws_eqFile f f = some true := by
  refine u_laws_eqFile f f _ ?_
  unfold B_laws_eqFile
  rw [if_neg (by simp), eq_StringS _ h, Option.bind_some, if_neg (by simp), if_neg (by simp), if_neg (by simp)]
theorem eq_FileS (s : Sl DFile) (h : s.l.length ≤ 1048577) (h2 : ∀ f ∈ s.l, f.Lines.l.length ≤ 1048577) : F_laws_eqFileS s s = some true := by
  refine u_laws_eqFileS s s _ ?_
  unfold B_laws_eqFileS
  refine loop_refl (by omega) fun i x hx he => ?_
  rw [he]
  simp only [Option.bind_some]
  rw [eq_File x (h2 x hx), Option.bind_some, if_neg (by simp)]
def LenCon (c : DConsole) : Prop := c.Input.l.length ≤ 1048577 ∧ c.Output.l.length ≤ 1048577 ∧ (c.Files.l.length ≤ 1048577 ∧ ∀ f ∈ c.Files.l, f.Lines.l.length ≤ 1048577) ∧ c.Trace.l.length ≤ 1048577
theorem eq_Console (c : DConsole) (h : LenCon c) : F_laws_eqConsole c c = some true := by
  refine u_laws_eqConsole c c _ ?_
  unfold B_laws_eqConsole
  obtain ⟨a1, a2, ⟨a3, a3'⟩, a4⟩ := h
  rw [eq_StringS _ a1, Option.bind_some, if_neg (by simp), if_neg (by simp), eq_StringS _ a2, Option.bind_some, if_neg (by simp), eq_FileS _ a3 a3', Option.bind_some, if_neg (by simp), eq_StringS _ a4, Option.bind_some, if_neg (by simp)]
theorem Sm_Len {c : DConsole} (h : SmCon c) : LenCon c := by
  obtain ⟨a1, a2, a3, a4⟩ := h
  exact ⟨by have := a1.1; omega, by have := a2.1; omega, ⟨by have := a3.1; omega, fun f hf => by have := (a3.2 f hf).2.1; omega⟩, by have := a4.1; omega⟩
theorem markText_ok (k : Int) (h0 : 0 ≤ k) (h1 : k ≤ 4611686018427387904) : ∃ t, F_laws_markText k = some t := by
  suffices h : ∃ t, B_laws_markText k = some t from by obtain ⟨t, h⟩ := h; exact ⟨t, u_laws_markText k t h⟩
  unfold B_laws_markText
  by_cases hk : k ≤ 0
  · rw [if_pos (by simpa using hk)]; exact ⟨_, rfl⟩
  · rw [if_neg (by simpa using hk)]
    suffices H : ∀ (m : Nat) (k : Int) (t : ByteArray), 0 ≤ k → k.toNat ≤ m → k ≤ 4611686018427387904 → t.size + k.toNat ≤ 5000000000000000000 → ∃ r : ByteArray, r.size ≤ 5000000000000000000 ∧ loopO (S := (Int × ByteArray)) (R := ByteArray) (fun st1 => (if (decide (0 < st1.1)) = true then ((strS ((⟨false, [⟨(IntKind.u8.wrap (IntKind.i64.wrap (48 + (st1.1.tmod 10))))⟩]⟩ : Sl (Iv .u8)))).bind fun y2 => ((catB y2 st1.2).bind fun y3 => (some (.inl ((IntKind.i64.wrap (st1.1.tdiv 10)), y3))))) else (some (.inr st1.2)))) (k, t) = some r by
      obtain ⟨r, hr, e⟩ := H k.toNat k ⟨#[]⟩ h0 (Nat.le_refl _) h1 (by show 0 + k.toNat ≤ _; omega)
      rw [e, Option.bind_some]
      have : catB ⟨#[109]⟩ r = some (⟨#[109]⟩ ++ r) := by
        unfold catB; rw [if_pos (by show 1 + r.size ≤ _; omega)]
      exact ⟨_, by rw [this]; rfl⟩
    intro m
    induction m with
    | zero =>
      intro k t h0 hm h1 ht
      refine ⟨t, by omega, loopO_stop ?_⟩
      show (if decide (0 < k) = true then _ else _) = _
      rw [if_neg (by simp; omega)]
    | succ m ih =>
      intro k t h0 hm h1 ht
      by_cases hk : 0 < k
      · have hd : k.tdiv 10 = k / 10 := by rw [Int.tdiv_eq_ediv_of_nonneg h0]
        have hmod : k.tmod 10 = k % 10 := Int.tmod_eq_emod_of_nonneg h0
        have hq := Int.ediv_lt_self_of_pos_of_ne_one (by omega : 0 < k) (by omega : (10 : Int) ≠ 1)
        have hq0 : 0 ≤ k / 10 := Int.ediv_nonneg h0 (by omega)
        have hw : IntKind.u8.wrap (IntKind.i64.wrap (48 + k % 10)) = 48 + k % 10 := by
          rw [wrapB (by omega) (by omega)]
          simp only [IntKind.wrap, IntKind.signed, IntKind.bits]; simp; omega
        have hs : strS (⟨false, [⟨48 + k % 10⟩]⟩ : Sl (Iv .u8)) = some ⟨#[UInt8.ofNat (48 + k % 10).toNat]⟩ := by
          simp only [strS, ofIv]; rw [if_pos ⟨by omega, by omega⟩]; rfl
        have hc : catB (⟨#[UInt8.ofNat (48 + k % 10).toNat]⟩ : ByteArray) t = some (⟨#[UInt8.ofNat (48 + k % 10).toNat]⟩ ++ t) := by
          unfold catB; rw [if_pos (by show 1 + t.size ≤ _; omega)]
        have hsz : ((⟨#[UInt8.ofNat (48 + k % 10).toNat]⟩ : ByteArray) ++ t).size = 1 + t.size := by
          rw [ByteArray.size_append]; rfl
        obtain ⟨r, hr, e⟩ := ih (k / 10) (⟨#[UInt8.ofNat (48 + k % 10).toNat]⟩ ++ t) hq0 (by omega) (by omega) (by rw [hsz]; omega)
        refine ⟨r, hr, loopO_go ?_ e⟩
        show (if decide (0 < k) = true then _ else _) = _
        rw [if_pos (by simpa using hk), hmod, hw, hs, Option.bind_some, hc, Option.bind_some, hd, wrapB hq0 (by omega)]
      · refine ⟨t, by omega, loopO_stop ?_⟩
        show (if decide (0 < k) = true then _ else _) = _
        rw [if_neg (by simpa using hk)]
theorem mh_StringS (s : Sl ByteArray) (h : s.l.length ≤ 1048577) : MH B_laws_markStringS F_laws_heldStringS 1048577 s := by
  intro k h0 h1
  obtain ⟨k', t', q1, q2, q3, q4, q5⟩ := loop_mh (P := fun _ => True) (N := 1) (s := s) (mb := fun st1 => (if (decide (st1.2.1 < (st1.2.2.l.length : Int))) = true then ((F_laws_markText st1.1).bind fun y2 => ((elt st1.2.2 st1.2.1).bind fun y3 => (some (.inl ((IntKind.i64.wrap (st1.1 + 1)), (IntKind.i64.wrap (st1.2.1 + 1)), (setS st1.2.2 st1.2.1 (y2 : ByteArray))))))) else (some (.inr (st1.1, st1.2.2)))))
    (hb := fun a0 st1 => (if (decide (st1.2 < (a0.l.length : Int))) = true then ((elt a0 st1.2).bind fun y2 => ((F_laws_markText st1.1).bind fun y3 => (if (!decide (y2 = y3)) = true then (some (.inr (.inr (-1)))) else (some (.inl ((IntKind.i64.wrap (st1.1 + 1)), (IntKind.i64.wrap (st1.2 + 1)))))))) else (some (.inr (.inl st1.1)))))
    (fun _ _ => trivial) h0 (by omega) (by omega) (fun k i t x hx hi ht _ h0 h1 => by
      obtain ⟨w, hw⟩ := markText_ok k h0 (by omega)
      refine ⟨k + 1, w, ?_, by omega, by omega, fun t' ht' he hi' => ?_⟩
      · show (if decide ((i : Int) < (t.l.length : Int)) = true then _ else _) = _
        rw [if_pos (by simpa using hi), hw, Option.bind_some, hx, Option.bind_some, wrapB (n := k + 1) (by omega) (by omega), wrapB (n := (i : Int) + 1) (by omega) (by omega)]
      · show (if decide ((i : Int) < (t'.l.length : Int)) = true then _ else _) = _
        rw [if_pos (by simpa using hi'), he, Option.bind_some, hw, Option.bind_some, if_neg (by simp), wrapB (n := k + 1) (by omega) (by omega), wrapB (n := (i : Int) + 1) (by omega) (by omega)])
    (fun k t => by rw [if_neg (by simp)]) (fun k t => by rw [if_neg (by simp)])
  refine ⟨k', t', ?_, u_laws_heldStringS t' k k' ?_, q4, by omega⟩
  · unfold B_laws_markStringS; rw [q1]; rfl
  · unfold B_laws_heldStringS; rw [q3]; rfl
theorem mh_FileS (s : Sl DFile) (h : s.l.length ≤ 1048577) (h2 : ∀ f ∈ s.l, f.Lines.l.length ≤ 1048577) : MH B_laws_markFileS F_laws_heldFileS 1099516870660 s := by
  intro k h0 h1
  obtain ⟨k', t', q1, q2, q3, q4, q5⟩ := loop_mh (P := fun f : DFile => f.Lines.l.length ≤ 1048577) (N := 1048580) (s := s)
    (mb := fun st1 => (if (decide (st1.2.1 < (st1.2.2.l.length : Int))) = true then ((F_laws_markText st1.1).bind fun y2 => ((elt st1.2.2 st1.2.1).bind fun y3 => ((elt (setS st1.2.2 st1.2.1 ((⟨y2, y3.Lines, y3.Mode, y3.At⟩ : DFile) : DFile)) st1.2.1).bind fun y4 => ((B_laws_markStringS y4.Lines (IntKind.i64.wrap (st1.1 + 1))).bind fun y5 => ((elt ((setS (setS st1.2.2 st1.2.1 ((⟨y2, y3.Lines, y3.Mode, y3.At⟩ : DFile) : DFile)) st1.2.1 ((⟨y4.Name, y5.2, y4.Mode, y4.At⟩ : DFile) : DFile))) st1.2.1).bind fun y6 => ((elt ((setS ((setS (setS st1.2.2 st1.2.1 ((⟨y2, y3.Lines, y3.Mode, y3.At⟩ : DFile) : DFile)) st1.2.1 ((⟨y4.Name, y5.2, y4.Mode, y4.At⟩ : DFile) : DFile))) st1.2.1 ((⟨y6.Name, y6.Lines, y5.1, y6.At⟩ : DFile) : DFile))) st1.2.1).bind fun y7 => (some (.inl ((IntKind.i64.wrap ((IntKind.i64.wrap (y5.1 + 1)) + 1)), (IntKind.i64.wrap (st1.2.1 + 1)), (setS ((setS ((setS (setS st1.2.2 st1.2.1 ((⟨y2, y3.Lines, y3.Mode, y3.At⟩ : DFile) : DFile)) st1.2.1 ((⟨y4.Name, y5.2, y4.Mode, y4.At⟩ : DFile) : DFile))) st1.2.1 ((⟨y6.Name, y6.Lines, y5.1, y6.At⟩ : DFile) : DFile))) st1.2.1 ((⟨y7.Name, y7.Lines, y7.Mode, (IntKind.i64.wrap (y5.1 + 1))⟩ : DFile) : DFile))))))))))) else (some (.inr (st1.1, st1.2.2))))) (hb := fun a0 => fun st1 => (if (decide (st1.2 < (a0.l.length : Int))) = true then ((elt a0 st1.2).bind fun y2 => ((F_laws_markText st1.1).bind fun y3 => (if (!decide (y2.Name = y3)) = true then (some (.inr (.inr (-1)))) else ((elt a0 st1.2).bind fun y4 => ((F_laws_heldStringS y4.Lines (IntKind.i64.wrap (st1.1 + 1))).bind fun y5 => (if (decide (y5 < 0)) = true then (some (.inr (.inr (-1)))) else ((elt a0 st1.2).bind fun y6 => (if (!decide (y6.Mode = y5)) = true then (some (.inr (.inr (-1)))) else ((elt a0 st1.2).bind fun y7 => (if (!decide (y7.At = (IntKind.i64.wrap (y5 + 1)))) = true then (some (.inr (.inr (-1)))) else (some (.inl ((IntKind.i64.wrap ((IntKind.i64.wrap (y5 + 1)) + 1)), (IntKind.i64.wrap (st1.2 + 1))))))))))))))) else (some (.inr (.inl st1.1)))))
    h2 h0 (by omega) (by omega) (fun k i t x hx hi ht hP h0 h1 => by
      obtain ⟨w, hw⟩ := markText_ok k h0 (by omega)
      obtain ⟨k1, x1, m1, m2, m3, m4⟩ := mh_StringS x.Lines hP (k + 1) (by omega) (by omega)
      refine ⟨k1 + 1 + 1, ⟨w, x1, k1, k1 + 1⟩, ?_, by omega, by omega, fun t' ht' he hi' => ?_⟩
      · show (if decide ((i : Int) < (t.l.length : Int)) = true then _ else _) = _
        rw [if_pos (by simpa using hi), hw, Option.bind_some, hx, Option.bind_some]
        simp only [set_set', elt_set hi, Option.bind_some]
        rw [wrapB (n := k + 1) (by omega) (by omega), m1]
        simp only [set_set', elt_set hi, Option.bind_some]
        rw [wrapB (n := k1 + 1) (by omega) (by omega), wrapB (n := k1 + 1 + 1) (by omega) (by omega), wrapB (n := (i : Int) + 1) (by omega) (by omega)]
      · show (if decide ((i : Int) < (t'.l.length : Int)) = true then _ else _) = _
        rw [if_pos (by simpa using hi'), he, Option.bind_some, hw, Option.bind_some, if_neg (by simp), Option.bind_some, wrapB (n := k + 1) (by omega) (by omega), m2, Option.bind_some, if_neg (by simp; omega), Option.bind_some, if_neg (by simp), Option.bind_some, wrapB (n := k1 + 1) (by omega) (by omega), if_neg (by simp), wrapB (n := k1 + 1 + 1) (by omega) (by omega), wrapB (n := (i : Int) + 1) (by omega) (by omega)])
    (fun k t => by rw [if_neg (by simp)]) (fun k t => by rw [if_neg (by simp)])
  refine ⟨k', t', ?_, u_laws_heldFileS t' k k' ?_, q4, by omega⟩
  · unfold B_laws_markFileS; rw [q1]; rfl
  · unfold B_laws_heldFileS; rw [q3]; rfl
theorem mh_Console (c : DConsole) (h : LenCon c) : ∃ k c', B_laws_markConsole c 1 = some (k, c') ∧ 0 ≤ k ∧ ∀ a : Int, F_laws_heldConsole (⟨c'.Input, a, c'.Output, c'.Files, c'.Trace⟩ : DConsole) 1 = some k := by
  obtain ⟨a1, a2, ⟨a3, a3'⟩, a4⟩ := h
  obtain ⟨k1, x1, p1, q1, r1, s1⟩ := mh_StringS c.Input a1 1 (by omega) (by omega)
  obtain ⟨k2, x2, p2, q2, r2, s2⟩ := mh_StringS c.Output a2 k1 (by omega) (by omega)
  obtain ⟨k3, x3, p3, q3, r3, s3⟩ := mh_FileS c.Files a3 a3' k2 (by omega) (by omega)
  obtain ⟨k4, x4, p4, q4, r4, s4⟩ := mh_StringS c.Trace a4 k3 (by omega) (by omega)
  refine ⟨k4, ⟨x1, c.At, x2, x3, x4⟩, ?_, by omega, fun a => u_laws_heldConsole _ 1 k4 ?_⟩
  · unfold B_laws_markConsole
    rw [p1, Option.bind_some, p2, Option.bind_some, p3, Option.bind_some, p4]; rfl
  · unfold B_laws_heldConsole
    rw [q1, Option.bind_some, if_neg (by simp; omega), q2, Option.bind_some, if_neg (by simp; omega), q3, Option.bind_some, if_neg (by simp; omega), q4, Option.bind_some, if_neg (by simp; omega)]
end Go.Am
end
