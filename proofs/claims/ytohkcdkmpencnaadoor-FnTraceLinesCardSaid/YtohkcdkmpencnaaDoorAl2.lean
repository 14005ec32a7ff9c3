/- The law. -/
import Derived.Test.YtohkcdkmpencnaaDoorAg0
import Derived.Test.YtohkcdkmpencnaaDoorAg1
import Derived.Test.YtohkcdkmpencnaaDoorAl1
section
set_option maxRecDepth 100000
set_option maxHeartbeats 1000000
set_option linter.unusedVariables false
set_option linter.unusedSimpArgs false
namespace Go.Am
def LetP (x : Int) : Prop := (65 ≤ x ∧ x ≤ 90) ∨ (97 ≤ x ∧ x ≤ 122)
def DigP (x : Int) : Prop := 48 ≤ x ∧ x ≤ 57
def NbP (x : Int) : Prop := LetP x ∨ DigP x ∨ x = 95
def NameP (s : ByteArray) : Prop := 1 ≤ s.size ∧ s.size ≤ 12 ∧ LetP (bAt s 0) ∧ ∀ i : Nat, i < s.size → NbP (bAt s i)
theorem letB (x : Int) : (if (decide (65 ≤ x)) = true then (if (decide (x ≤ 90)) = true then (some true) else (if (decide (97 ≤ x)) = true then (some (decide (x ≤ 122))) else (some false))) else (if (decide (97 ≤ x)) = true then (some (decide (x ≤ 122))) else (some false))) = some (says (LetP x)) := by
  unfold LetP
  by_cases h1 : 65 ≤ x <;> by_cases h2 : x ≤ 90 <;> by_cases h3 : 97 ≤ x <;> by_cases h4 : x ≤ 122 <;> simp [h1, h2, h3, h4, says]
theorem letter1 (x : Int) : F_spec_l02Letter x = some (says (LetP x)) := u_spec_l02Letter x _ (letB x)
theorem letter2 (x : Int) : F_impl_isLetter x = some (says (LetP x)) := u_impl_isLetter x _ (letB x)
theorem digB (x : Int) : (if (decide (48 ≤ x)) = true then (some (decide (x ≤ 57))) else (some false)) = some (says (DigP x)) := by
  unfold DigP
  by_cases h1 : 48 ≤ x <;> by_cases h2 : x ≤ 57 <;> simp [h1, h2, says]
theorem digit1 (x : Int) : F_spec_l02Digit x = some (says (DigP x)) := u_spec_l02Digit x _ (digB x)
theorem digit2 (x : Int) : F_impl_isDigit x = some (says (DigP x)) := u_impl_isDigit x _ (digB x)
theorem nameByte2 (x : Int) : F_impl_isNameByte x = some (says (NbP x)) := by
  refine u_impl_isNameByte x _ ?_
  unfold B_impl_isNameByte
  exact s_bindor (letter2 x) fun _ => s_bindor (digit2 x) fun _ => s_dec
theorem byteAt_lt {s : ByteArray} {i : Nat} (h : i < s.size) : byteAt s (i : Int) = some (bAt s (i : Int)) := by
  unfold byteAt; rw [if_pos ⟨by omega, by omega⟩]
theorem name1 (s : ByteArray) (hs : s.size ≤ 1048576) : F_spec_IsName s = some (says (NameP s)) := by
  refine u_spec_IsName s _ ?_
  unfold B_spec_IsName
  have hm := maxLen_eq
  by_cases h0 : s = (⟨#[]⟩ : ByteArray)
  · subst h0
    rw [if_neg (by simp), says_f]
    intro w; have := w.1; exact absurd this (by decide)
  · have hpos : 1 ≤ s.size := by
      refine Nat.pos_of_ne_zero fun e => h0 ?_
      obtain ⟨⟨l⟩⟩ := s
      have e : l.length = 0 := e
      rw [List.length_eq_zero_iff] at e; subst e; rfl
    rw [if_pos (by simp [h0])]
    by_cases h12 : s.size ≤ 12
    · rw [if_pos (by simp; omega)]
      have key : ∃ r : Int, F_spec_l02NameEnd s 0 = some r ∧ (r = (s.size : Int) ↔ NameP s) := by
        suffices h : ∃ r : Int, B_spec_l02NameEnd s 0 = some r ∧ (r = (s.size : Int) ↔ NameP s) by
          obtain ⟨r, h1, h2⟩ := h; exact ⟨r, u_spec_l02NameEnd s 0 r h1, h2⟩
        unfold B_spec_l02NameEnd
        rw [if_neg (by rw [decide_eq_true_eq]; omega)]
        have b0 : byteAt s 0 = some (bAt s 0) := byteAt_lt (i := 0) hpos
        rw [b0, Option.bind_some, letter1, Option.bind_some]
        by_cases hl : LetP (bAt s 0)
        · rw [says_t hl, if_neg (by simp)]
          obtain ⟨r, r1, r2, r3⟩ := loop_find (n := s.size) (p := fun i => NbP (bAt s i)) (bd := fun st1 => ((byteAt s st1).bind fun y4 => ((F_spec_l02Letter y4).bind fun y5 => (if y5 = true then (some (.inl (IntKind.i64.wrap (st1 + 1)))) else ((byteAt s st1).bind fun y6 => ((F_spec_l02Digit y6).bind fun y7 => (if y7 = true then (some (.inl (IntKind.i64.wrap (st1 + 1)))) else ((byteAt s st1).bind fun y8 => (if (decide (y8 = 95)) = true then (some (.inl (IntKind.i64.wrap (st1 + 1)))) else (some (.inr st1)))))))))))
            (by omega) (fun i hi hp => by
              simp only [byteAt_lt hi, Option.bind_some, letter1, digit1]
              by_cases c1 : LetP (bAt s i)
              · rw [says_t c1, if_pos rfl]
              · rw [says_f c1, if_neg (by simp)]
                by_cases c2 : DigP (bAt s i)
                · rw [says_t c2, if_pos rfl]
                · rw [says_f c2, if_neg (by simp)]
                  have := (hp.resolve_left c1).resolve_left c2
                  rw [if_pos (by simp [this])]) (fun i hi hp => by
              simp only [byteAt_lt hi, Option.bind_some, letter1, digit1]
              rw [says_f fun c => hp (.inl c), if_neg (by simp), says_f fun c => hp (.inr (.inl c)), if_neg (by simp), if_neg (by simp; exact fun c => hp (.inr (.inr c)))])
          refine ⟨r, by rw [r2]; rfl, ?_⟩
          constructor
          · intro e; exact ⟨hpos, h12, hl, r3.1 (Int.ofNat.inj e)⟩
          · intro w; rw [r3.2 w.2.2.2]
        · rw [says_f hl, if_pos (by simp)]
          exact ⟨0, rfl, ⟨fun e => by have e : (0 : Int) = (s.size : Int) := e; omega, fun w => absurd w.2.2.1 hl⟩⟩
      obtain ⟨r, q1, q2⟩ := key
      rw [q1, Option.bind_some]
      by_cases hr : r = (s.size : Int)
      · rw [says_t (q2.1 hr)]; simp [hr]
      · rw [says_f fun w => hr (q2.2 w)]; simp [hr]
    · rw [if_neg (by simp; omega), says_f fun w => h12 w.2.1]
theorem name2 (s : ByteArray) (hs : s.size ≤ 1048576) : F_impl_IsName s = some (says (NameP s)) := by
  refine u_impl_IsName s _ ?_
  unfold B_impl_IsName
  have hm := maxLen_eq
  refine s_iff (p := (1 ≤ (s.size : Int)) ∧ ((s.size : Int) ≤ 12) ∧ LetP (bAt s 0) ∧ ∀ x ∈ (s.data.toList.map fun b => (⟨b.toNat⟩ : Iv .u8)), NbP x.v) (s_and fun h1 => s_and fun h2 => ?_) ?_
  · have b0 : byteAt s 0 = some (bAt s 0) := byteAt_lt (i := 0) (by omega)
    rw [b0, Option.bind_some]
    refine s_bind (letter2 _) fun _ => ?_
    have hb : bytesS s = some ⟨false, s.data.toList.map fun b => ⟨b.toNat⟩⟩ := by unfold bytesS; rw [if_pos (by omega)]
    rw [hb, Option.bind_some]
    refine s_last (u_impl_areAll_byte _ _ _ ?_)
    unfold B_impl_areAll_byte
    refine Eq.trans (if_pos rfl) ?_
    refine loop_allS (a := (⟨false, s.data.toList.map fun b => ⟨b.toNat⟩⟩ : Sl (Iv .u8))) (p := fun x : Iv .u8 => NbP x.v) ?_ fun i x hx he => ?_
    · have : s.data.toList.length = s.size := by rw [Array.length_toList]; rfl
      simp only [List.length_map]; omega
    · rw [he, Option.bind_some]
      have e : callV Go.Proofs.Tryd.prog md ext E_bool (T.fn 56 [] []) [.int .u8 x.v] = F_impl_isNameByte x.v := rfl
      rw [e, nameByte2, Option.bind_some]
      exact ⟨fun h => by rw [says_t h, if_neg (by simp)], fun h => by rw [says_f h, if_pos (by simp)]⟩
  · have hlen : s.data.toList.length = s.size := by rw [Array.length_toList]; rfl
    have hat : ∀ i : Nat, (h : i < s.size) → ((s.data.toList[i]'(by omega)).toNat : Int) = bAt s (i : Int) := fun i h => by
      unfold bAt; rw [dif_pos (by simpa using h)]; rfl
    refine ⟨fun w => ⟨by omega, by omega, w.2.2.1, fun i hi => ?_⟩, fun w => ⟨by have := w.1; omega, by have := w.2.1; omega, w.2.2.1, fun x hx => ?_⟩⟩
    · rw [← hat i hi]
      exact w.2.2.2 ⟨(s.data.toList[i]'(by omega)).toNat⟩ (List.mem_map.2 ⟨_, List.getElem_mem (by omega), rfl⟩)
    · obtain ⟨b, hb, rfl⟩ := List.mem_map.1 hx
      obtain ⟨i, hi, rfl⟩ := List.getElem_of_mem hb
      have := w.2.2.2 i (by omega)
      rw [← hat i (by omega)] at this; exact this
def LinesP (n m : Nat) (s : Sl ByteArray) : Prop := s.l.length ≤ n ∧ ∀ x ∈ s.l, x.size ≤ m
theorem in1 (a b c : Int) : F_spec_l00In a b c = some (says (b ≤ a ∧ a ≤ c)) := by
  refine u_spec_l00In a b c _ ?_
  unfold B_spec_l00In
  exact s_and fun _ => s_dec
theorem in2 (a b c : Int) : F_impl_within a b c = some (says (b ≤ a ∧ a ≤ c)) := by
  refine u_impl_within a b c _ ?_
  unfold B_impl_within
  exact s_and fun _ => s_dec
theorem lines1 (s : Sl ByteArray) (hs : s.l.length ≤ 1048576) (n m : Nat) : F_spec_l21Lines s n m = some (says (LinesP n m s)) := by
  refine u_spec_l21Lines s n m _ ?_
  unfold B_spec_l21Lines
  have hm := maxLen_eq
  refine s_iff (s_gt (p := ∀ x ∈ s.l, x.size ≤ m) fun h1 => ?_) ⟨fun w => ⟨by omega, w.2⟩, fun w => ⟨by have := w.1; omega, w.2⟩⟩
  refine loop_allS (by omega) fun i x hx he => ?_
  rw [he, Option.bind_some]
  exact ⟨fun h => by rw [if_neg (by simp; omega)], fun h => by rw [if_pos (by simp; omega)]⟩
theorem short2 (s : ByteArray) : F_impl_isShort s = some (says (s.size ≤ 200)) := u_impl_isShort s _ (by unfold B_impl_isShort; exact s_iff s_dec (by omega))
theorem trace2 (s : ByteArray) : F_impl_ValidConsole_1 s = some (says (s.size ≤ 1300)) := u_impl_ValidConsole_1 s _ (by unfold B_impl_ValidConsole_1; exact s_iff s_dec (by omega))
theorem all2 (s : Sl ByteArray) (hs : s.l.length ≤ 1048576) (fn : Nat) (p : ByteArray → Prop) (h : ∀ x, callV Go.Proofs.Tryd.prog md ext E_bool (T.fn fn [] []) [.str x] = some (says (p x))) : F_impl_areAll_string s (T.fn fn [] []) = some (says (∀ x ∈ s.l, p x)) := by
  refine u_impl_areAll_string s _ _ ?_
  unfold B_impl_areAll_string
  refine Eq.trans (if_pos rfl) ?_
  refine loop_allS (by omega) fun i x hx he => ?_
  rw [he, Option.bind_some, h, Option.bind_some]
  exact ⟨fun h => by rw [says_t h, if_neg (by simp)], fun h => by rw [says_f h, if_pos (by simp)]⟩
theorem allShort (s : Sl ByteArray) (hs : s.l.length ≤ 1048576) : F_impl_areAll_string s (T.fn 63 [] []) = some (says (∀ x ∈ s.l, x.size ≤ 200)) := all2 s hs 63 _ short2
theorem allTrace (s : Sl ByteArray) (hs : s.l.length ≤ 1048576) : F_impl_areAll_string s (T.fn 61 [] []) = some (says (∀ x ∈ s.l, x.size ≤ 1300)) := all2 s hs 61 _ trace2
def FileP (f : DFile) : Prop := NameP f.Name ∧ LinesP 40 200 f.Lines ∧ (0 ≤ f.Mode ∧ f.Mode ≤ 3) ∧ (0 ≤ f.At ∧ f.At ≤ (f.Lines.l.length : Int)) ∧ (f.Mode = 1 ∨ f.At = 0)
theorem file1 (f : DFile) (h : SmFile f) : F_spec_l21File f = some (says (FileP f)) := by
  refine u_spec_l21File f _ ?_
  unfold B_spec_l21File
  exact s_bindn (name1 _ h.1) fun _ => s_bindn (lines1 _ h.2.1 40 200) fun _ => s_bindn (in1 _ _ _) fun _ => s_bind (in1 _ _ _) fun _ => s_or fun _ => s_dec
theorem mode2 (m : Int) : F_impl_isMode m = some (says (1 ≤ m ∧ m ≤ 3)) := by
  refine u_impl_isMode m _ ?_
  unfold B_impl_isMode
  exact s_last (in2 _ _ _)
theorem if_says {p q : Prop} {K : Option Bool} (h : p → K = some (says q)) : (if says p = true then K else some false) = some (says (p ∧ q)) := by
  by_cases hp : p
  · rw [says_t hp, if_pos rfl, h hp]; congr 1; exact says_iff' ⟨fun w => ⟨hp, w⟩, fun w => w.2⟩
  · rw [says_f hp, if_neg (by simp), says_f fun w => hp w.1]
theorem file2 (f : DFile) (h : SmFile f) : F_impl_File_isValid f = some (says (FileP f)) := by
  refine u_impl_File_isValid f _ ?_
  unfold B_impl_File_isValid
  have e1 : (if (decide ((f.Lines.l.length : Int) ≤ 40)) = true then ((F_impl_areAll_string f.Lines (T.fn 63 [] [])).bind fun y6 => (some y6)) else (some false)) = some (says (((f.Lines.l.length : Int) ≤ 40) ∧ ∀ x ∈ f.Lines.l, x.size ≤ 200)) := s_and fun _ => s_last (allShort _ h.2.1)
  have e2 : ((F_impl_within f.At 0 (f.Lines.l.length : Int)).bind fun y5 => (if y5 = true then (if (decide (f.At = 0)) = true then (some true) else (some (decide (f.Mode = 1)))) else (some false))) = some (says ((0 ≤ f.At ∧ f.At ≤ (f.Lines.l.length : Int)) ∧ (f.At = 0 ∨ f.Mode = 1))) := s_bind (in2 _ _ _) fun _ => s_or fun _ => s_dec
  rw [e1, Option.bind_some, e2, Option.bind_some]
  refine s_iff (s_bind (name2 _ h.1) fun _ => if_says fun _ => if_says (q := f.Mode = 0 ∨ (1 ≤ f.Mode ∧ f.Mode ≤ 3)) fun _ => s_or fun _ => s_last (mode2 _)) ?_
  unfold FileP LinesP
  constructor
  · rintro ⟨a, ⟨b1, b2⟩, ⟨c1, c2⟩, d⟩; exact ⟨a, ⟨by omega, b2⟩, by omega, c1, c2.symm⟩
  · rintro ⟨a, ⟨b1, b2⟩, c, d, e⟩; exact ⟨a, ⟨by omega, b2⟩, ⟨d, e.symm⟩, by omega⟩
def LessAt (l : List DFile) (i : Nat) : Prop := ∀ x y, l[i - 1]? = some x → l[i]? = some y → Op.bytesLess x.Name.toList y.Name.toList = true
def ConP (c : DConsole) : Prop := LinesP 100 200 c.Input ∧ (0 ≤ c.At ∧ c.At ≤ (c.Input.l.length : Int)) ∧ LinesP 100 200 c.Output ∧ c.Files.l.length ≤ 6 ∧ LinesP 200 1300 c.Trace ∧ (∀ f ∈ c.Files.l, FileP f) ∧ ∀ i, 1 ≤ i → i < c.Files.l.length → LessAt c.Files.l i
theorem con1 (c : DConsole) (h : SmCon c) : F_spec_l21Ok c = some (says (ConP c)) := by
  refine u_spec_l21Ok c _ ?_
  unfold B_spec_l21Ok
  obtain ⟨a1, a2, a3, a4⟩ := h
  have hlen := a3.1
  refine s_iff (s_bindn (lines1 _ a1.1 100 200) fun _ => s_bindn (in1 _ _ _) fun _ => s_bindn (lines1 _ a2.1 100 200) fun _ => s_gt fun _ => s_bindn (lines1 _ a4.1 200 1300) fun _ => loop_allB (p := fun i => (∀ f, c.Files.l[i]? = some f → FileP f) ∧ (0 < i → LessAt c.Files.l i)) 0 (by omega) (fun i _ hi hp => ?_) (fun i _ hi hp => ?_)) ?_
  · have hg : c.Files.l[i]? = some c.Files.l[i] := List.getElem?_eq_getElem hi
    simp only [elt_lt hi, Option.bind_some]
    rw [file1 _ (a3.2 _ (List.getElem_mem hi)), Option.bind_some, says_t (hp.1 _ hg), if_neg (by simp)]
    by_cases h0 : 0 < i
    · have hi1 : i - 1 < c.Files.l.length := by omega
      have hw : IntKind.i64.wrap ((i : Int) - 1) = ((i - 1 : Nat) : Int) := by rw [wrap_id (by omega) (by omega)]; omega
      rw [if_pos (by simpa using h0), hw, elt_lt hi1, Option.bind_some, (hp.2 h0) _ _ (List.getElem?_eq_getElem hi1) hg, if_neg (by simp)]
    · rw [if_neg (by simpa using h0)]
  · have hg : c.Files.l[i]? = some c.Files.l[i] := List.getElem?_eq_getElem hi
    simp only [elt_lt hi, Option.bind_some]
    rw [file1 _ (a3.2 _ (List.getElem_mem hi)), Option.bind_some]
    by_cases hf : FileP c.Files.l[i]
    · rw [says_t hf, if_neg (by simp)]
      by_cases h0 : 0 < i
      · have hi1 : i - 1 < c.Files.l.length := by omega
        have hw : IntKind.i64.wrap ((i : Int) - 1) = ((i - 1 : Nat) : Int) := by rw [wrap_id (by omega) (by omega)]; omega
        rw [if_pos (by simpa using h0), hw, elt_lt hi1, Option.bind_some, if_pos]
        refine Bool.not_eq_true' _ ▸ ?_
        cases hb : Op.bytesLess c.Files.l[i - 1].Name.toList c.Files.l[i].Name.toList with
        | false => rfl
        | true =>
          refine absurd ⟨fun f hf' => ?_, fun _ x y hx hy => ?_⟩ hp
          · rw [hg] at hf'; injection hf' with hf'; exact hf' ▸ hf
          · rw [List.getElem?_eq_getElem hi1] at hx; rw [hg] at hy; injection hx with hx; injection hy with hy; subst hx; subst hy; exact hb
      · refine absurd ⟨fun f hf' => ?_, fun w => absurd w h0⟩ hp
        rw [hg] at hf'; injection hf' with hf'; exact hf' ▸ hf
    · rw [says_f hf, if_pos (by simp)]
  · unfold ConP
    constructor
    · rintro ⟨b1, b2, b3, b4, b5, b6⟩
      refine ⟨b1, b2, b3, by omega, b5, fun f hf => ?_, fun i h1 h2 => (b6 i (by omega) h2).2 (by omega)⟩
      obtain ⟨i, hi, rfl⟩ := List.getElem_of_mem hf
      exact (b6 i (by omega) hi).1 _ (List.getElem?_eq_getElem hi)
    · rintro ⟨b1, b2, b3, b4, b5, b6, b7⟩
      exact ⟨b1, b2, b3, by omega, b5, fun i _ hi => ⟨fun f hf => b6 f (List.mem_of_getElem? hf), fun h0 => b7 i (by omega) hi⟩⟩
theorem con2 (c : DConsole) (h : SmCon c) : F_impl_ValidConsole c = some (says (ConP c)) := by
  refine u_impl_ValidConsole c _ ?_
  unfold B_impl_ValidConsole
  obtain ⟨a1, a2, a3, a4⟩ := h
  have hlen := a3.1
  have allF : F_impl_areAll_File c.Files (T.fn 65 [] []) = some (says (∀ f ∈ c.Files.l, FileP f)) := by
    refine u_impl_areAll_File _ _ _ ?_
    unfold B_impl_areAll_File
    refine Eq.trans (if_pos rfl) ?_
    refine loop_allS (by omega) fun i x hx he => ?_
    have e : callV Go.Proofs.Tryd.prog md ext E_bool (T.fn 65 [] []) [.agg (DFile.cells x)] = F_impl_File_isValid x := rfl
    rw [he, Option.bind_some, e, file2 x (a3.2 x hx), Option.bind_some]
    exact ⟨fun h => by rw [says_t h, if_neg (by simp)], fun h => by rw [says_f h, if_pos (by simp)]⟩
  have nm : ∀ x : DFile, callV Go.Proofs.Tryd.prog md ext E_str (T.fn 67 [] []) [.agg (DFile.cells x)] = some x.Name := fun x => u_impl_nameOfFile x _ rfl
  have srt : F_impl_isSorted_File c.Files (T.fn 67 [] []) = some (says (∀ i, 1 ≤ i → i < c.Files.l.length → LessAt c.Files.l i)) := by
    refine u_impl_isSorted_File _ _ _ ?_
    unfold B_impl_isSorted_File
    refine Eq.trans (if_pos rfl) ?_
    refine loop_allB 1 (by omega) (fun i h1 hi hp => ?_) (fun i h1 hi hp => ?_)
    all_goals
      have hi1 : i - 1 < c.Files.l.length := by omega
      have hw : IntKind.i64.wrap ((i : Int) - 1) = ((i - 1 : Nat) : Int) := by rw [wrap_id (by omega) (by omega)]; omega
      rw [hw, elt_lt hi1, Option.bind_some, nm, Option.bind_some, elt_lt hi, Option.bind_some, nm, Option.bind_some]
    · rw [hp _ _ (List.getElem?_eq_getElem hi1) (List.getElem?_eq_getElem hi), if_neg (by simp)]
    · rw [if_pos]
      cases hb : Op.bytesLess c.Files.l[i - 1].Name.toList c.Files.l[i].Name.toList with
      | false => rfl
      | true =>
        refine absurd (fun x y hx hy => ?_) hp
        rw [List.getElem?_eq_getElem hi1] at hx; rw [List.getElem?_eq_getElem hi] at hy; injection hx with hx; injection hy with hy; subst hx; subst hy; exact hb
  have e1 : ((F_impl_areAll_string c.Input (T.fn 63 [] [])).bind fun y5 => (if y5 = true then ((F_impl_areAll_string c.Output (T.fn 63 [] [])).bind fun y6 => (if y6 = true then ((F_impl_areAll_string c.Trace (T.fn 61 [] [])).bind fun y7 => (some y7)) else (some false))) else (some false))) = some (says ((∀ x ∈ c.Input.l, x.size ≤ 200) ∧ (∀ x ∈ c.Output.l, x.size ≤ 200) ∧ ∀ x ∈ c.Trace.l, x.size ≤ 1300)) :=
    s_bind (allShort _ a1.1) fun _ => s_bind (allShort _ a2.1) fun _ => s_last (allTrace _ a4.1)
  refine s_iff (s_gt fun _ => s_gt fun _ => s_gt fun _ => s_gt fun _ => s_bind e1 fun _ => s_bind (in2 _ _ _) fun _ => s_bind allF fun _ => s_last srt) ?_
  unfold ConP LinesP
  constructor
  · rintro ⟨b1, b2, b3, b4, ⟨b5, b6, b7⟩, b8, b9, b10⟩
    exact ⟨⟨by omega, b5⟩, b8, ⟨by omega, b6⟩, by omega, ⟨by omega, b7⟩, b9, b10⟩
  · rintro ⟨⟨b1, b2⟩, b3, ⟨b4, b5⟩, b6, ⟨b7, b8⟩, b9, b10⟩
    exact ⟨by omega, by omega, by omega, by omega, ⟨b2, b5, b8⟩, b3, b9, b10⟩
end Go.Am
end
