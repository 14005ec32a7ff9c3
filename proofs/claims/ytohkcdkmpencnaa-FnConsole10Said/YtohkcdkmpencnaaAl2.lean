/- The law. -/
import Derived.Test.YtohkcdkmpencnaaAg0
import Derived.Test.YtohkcdkmpencnaaAg1
import Derived.Test.YtohkcdkmpencnaaAl1
section
set_option maxRecDepth 100000
set_option maxHeartbeats 1000000
set_option linter.unusedVariables false
set_option linter.unusedSimpArgs false
namespace Go.Am
def LetP (x : Int) : Prop := (65 ≤ x ∧ x ≤ 90) ∨ (97 ≤ x ∧ x ≤ 122)
def DigP (x : Int) : Prop := 48 ≤ x ∧ x ≤ 57
def NbP (x : Int) : Prop := LetP x ∨ DigP x ∨ x = 95
def iU_ (s : ByteArray) : Prop := 1 ≤ s.size ∧ s.size ≤ 12 ∧ LetP (bAt s 0) ∧ ∀ i : Nat, i < s.size → NbP (bAt s i)
theorem letB (x : Int) : (if (decide (65 ≤ x)) = true then (if (decide (x ≤ 90)) = true then (some true) else (if (decide (97 ≤ x)) = true then (some (decide (x ≤ 122))) else (some false))) else (if (decide (97 ≤ x)) = true then (some (decide (x ≤ 122))) else (some false))) = some (says (LetP x)) := by
 unfold LetP
 by_cases h1 : 65 ≤ x <;> by_cases h2 : x ≤ 90 <;> by_cases h3 : 97 ≤ x <;> by_cases h4 : x ≤ 122 <;> simp [h1, h2, h3, h4, says]
theorem hl_ (x : Int) : a2_ x = some (says (LetP x)) := eL_ x _ (letB x)
theorem iX_ (x : Int) : bJ_ x = some (says (LetP x)) := fc_ x _ (letB x)
theorem digB (x : Int) : (if (decide (48 ≤ x)) = true then (some (decide (x ≤ 57))) else (some false)) = some (says (DigP x)) := by
 unfold DigP
 by_cases h1 : 48 ≤ x <;> by_cases h2 : x ≤ 57 <;> simp [h1, h2, says]
theorem ld_ (x : Int) : bD_ x = some (says (DigP x)) := fr_ x _ (digB x)
theorem m8_ (x : Int) : cz_ x = some (says (DigP x)) := fy_ x _ (digB x)
theorem jo_ (x : Int) : bY_ x = some (says (NbP x)) := by
 refine ev_ x _ ?_
 unfold bW_
 exact il_ (iX_ x) fun _ => il_ (m8_ x) fun _ => ht_
theorem ei_ {s : ByteArray} {i : Nat} (h : i < s.size) : b5_ s (i : Int) = some (bAt s (i : Int)) := by
 unfold b5_; rw [if_pos ⟨by omega, by omega⟩]
theorem oX_ (s : ByteArray) (hs : s.size ≤ 1048576) : cR_ s = some (says (iU_ s)) := by
 refine gl_ s _ ?_
 unfold cX_
 have hm := maxLen_eq
 by_cases h0 : s = (⟨#[]⟩ : ByteArray)
 ·subst h0
  rw [if_neg (by simp), a7_]
  intro w; have := w.1; exact absurd this (by decide)
 ·have hpos : 1 ≤ s.size := by
   refine Nat.pos_of_ne_zero fun e => h0 ?_
   obtain ⟨⟨l⟩⟩ := s
   have e : l.length = 0 := e
   rw [List.length_eq_zero_iff] at e; subst e; rfl
  rw [if_pos (by simp [h0])]
  by_cases h12 : s.size ≤ 12
  ·rw [if_pos (by simp; omega)]
   have key : ∃ r : Int, bX_ s 0 = some r ∧ (r = (s.size : Int) ↔ iU_ s) := by
    suffices h : ∃ r : Int, bc_ s 0 = some r ∧ (r = (s.size : Int) ↔ iU_ s) by
     obtain ⟨r, h1, h2⟩ := h; exact ⟨r, eA_ s 0 r h1, h2⟩
    unfold bc_
    rw [if_neg (by rw [decide_eq_true_eq]; omega)]
    have b0 : b5_ s 0 = some (bAt s 0) := ei_ (i := 0) hpos
    rw [b0, Option.bind_some, hl_, Option.bind_some]
    by_cases hl : LetP (bAt s 0)
    ·rw [be_ hl, if_neg (by simp)]
     obtain ⟨r, r1, r2, r3⟩ := j6_ (n := s.size) (p := fun i => NbP (bAt s i)) (bd := fun st1 => ((b5_ s st1).bind fun y4 => ((a2_ y4).bind fun y5 => (if y5 = true then (some (.inl (w4 (st1 + 1)))) else ((b5_ s st1).bind fun y6 => ((bD_ y6).bind fun y7 => (if y7 = true then (some (.inl (w4 (st1 + 1)))) else ((b5_ s st1).bind fun y8 => (if (decide (y8 = 95)) = true then (some (.inl (w4 (st1 + 1)))) else (some (.inr st1)))))))))))
      (by omega) (fun i hi hp => by
       simp only [ei_ hi, Option.bind_some, hl_, ld_]
       by_cases c1 : LetP (bAt s i)
       ·rw [be_ c1, if_pos rfl]
       ·rw [a7_ c1, if_neg (by simp)]
        by_cases c2 : DigP (bAt s i)
        ·rw [be_ c2, if_pos rfl]
        ·rw [a7_ c2, if_neg (by simp)]
         have := (hp.resolve_left c1).resolve_left c2
         rw [if_pos (by simp [this])]) (fun i hi hp => by
       simp only [ei_ hi, Option.bind_some, hl_, ld_]
       rw [a7_ fun c => hp (.inl c), if_neg (by simp), a7_ fun c => hp (.inr (.inl c)), if_neg (by simp), if_neg (by simp; exact fun c => hp (.inr (.inr c)))])
     refine ⟨r, by rw [r2]; rfl, ?_⟩
     constructor
     ·intro e; exact ⟨hpos, h12, hl, r3.1 (Int.ofNat.inj e)⟩
     ·intro w; rw [r3.2 w.2.2.2]
    ·rw [a7_ hl, if_pos (by simp)]
     exact ⟨0, rfl, ⟨fun e => by have e : (0 : Int) = (s.size : Int) := e; omega, fun w => absurd w.2.2.1 hl⟩⟩
   obtain ⟨r, q1, q2⟩ := key
   rw [q1, Option.bind_some]
   by_cases hr : r = (s.size : Int)
   ·rw [be_ (q2.1 hr)]; simp [hr]
   ·rw [a7_ fun w => hr (q2.2 w)]; simp [hr]
  ·rw [if_neg (by simp; omega), a7_ fun w => h12 w.2.1]
theorem pc_ (s : ByteArray) (hs : s.size ≤ 1048576) : cP_ s = some (says (iU_ s)) := by
 refine gj_ s _ ?_
 unfold cQ_
 have hm := maxLen_eq
 refine hI_ (p := (1 ≤ (s.size : Int)) ∧ ((s.size : Int) ≤ 12) ∧ LetP (bAt s 0) ∧ ∀ x ∈ (s.data.toList.map fun b => (⟨b.toNat⟩ : Iv .u8)), NbP x.v) (jK_ fun h1 => jK_ fun h2 => ?_) ?_
 ·have b0 : b5_ s 0 = some (bAt s 0) := ei_ (i := 0) (by omega)
  rw [b0, Option.bind_some]
  refine ed_ (iX_ _) fun _ => ?_
  have hb : gE_ s = some ⟨false, s.data.toList.map fun b => ⟨b.toNat⟩⟩ := by unfold gE_; rw [if_pos (by omega)]
  rw [hb, Option.bind_some]
  refine fZ_ (dR_ _ _ _ ?_)
  unfold bC_
  refine Eq.trans (if_pos rfl) ?_
  refine ek_ (a := (⟨false, s.data.toList.map fun b => ⟨b.toNat⟩⟩ : Sl (Iv .u8))) (p := fun x : Iv .u8 => NbP x.v) ?_ fun i x hx he => ?_
  ·have : s.data.toList.length = s.size := by rw [Array.length_toList]; rfl
   simp only [List.length_map]; omega
  ·rw [he, Option.bind_some]
   have e : ef_ Go.Proofs.Try.prog md ext E_bool (T.fn 83 [] []) [.int .u8 x.v] = bY_ x.v := rfl
   rw [e, jo_, Option.bind_some]
   exact ⟨fun h => by rw [be_ h, if_neg (by simp)], fun h => by rw [a7_ h, if_pos (by simp)]⟩
 ·have hlen : s.data.toList.length = s.size := by rw [Array.length_toList]; rfl
  have hat : ∀ i : Nat, (h : i < s.size) → ((s.data.toList[i]'(by omega)).toNat : Int) = bAt s (i : Int) := fun i h => by
   unfold bAt; rw [dif_pos (by simpa using h)]; rfl
  refine ⟨fun w => ⟨by omega, by omega, w.2.2.1, fun i hi => ?_⟩, fun w => ⟨by have := w.1; omega, by have := w.2.1; omega, w.2.2.1, fun x hx => ?_⟩⟩
  ·rw [← hat i hi]
   exact w.2.2.2 ⟨(s.data.toList[i]'(by omega)).toNat⟩ (List.mem_map.2 ⟨_, List.getElem_mem (by omega), rfl⟩)
  ·obtain ⟨b, hb, rfl⟩ := List.mem_map.1 hx
   obtain ⟨i, hi, rfl⟩ := List.getElem_of_mem hb
   have := w.2.2.2 i (by omega)
   rw [← hat i (by omega)] at this; exact this
def fu_ (n m : Nat) (s : Sl ByteArray) : Prop := s.l.length ≤ n ∧ ∀ x ∈ s.l, x.size ≤ m
theorem in1 (a b c : Int) : b4_ a b c = some (says (b ≤ a ∧ a ≤ c)) := by
 refine gx_ a b c _ ?_
 unfold dd_
 exact jK_ fun _ => ht_
theorem in2 (a b c : Int) : bd_ a b c = some (says (b ≤ a ∧ a ≤ c)) := by
 refine gf_ a b c _ ?_
 unfold c0_
 exact jK_ fun _ => ht_
theorem hU_ (s : Sl ByteArray) (hs : s.l.length ≤ 1048576) (n m : Nat) : aV_ s n m = some (says (fu_ n m s)) := by
 refine fs_ s n m _ ?_
 unfold ck_
 have hm := maxLen_eq
 refine hI_ (s_gt (p := ∀ x ∈ s.l, x.size ≤ m) fun h1 => ?_) ⟨fun w => ⟨by omega, w.2⟩, fun w => ⟨by have := w.1; omega, w.2⟩⟩
 refine ek_ (by omega) fun i x hx he => ?_
 rw [he, Option.bind_some]
 exact ⟨fun h => by rw [if_neg (by simp; omega)], fun h => by rw [if_pos (by simp; omega)]⟩
theorem la_ (s : ByteArray) : cB_ s = some (says (s.size ≤ 200)) := fA_ s _ (by unfold cF_; exact hI_ ht_ (by omega))
theorem m7_ (s : ByteArray) : b3_ s = some (says (s.size ≤ 1300)) := dj_ s _ (by unfold a5_; exact hI_ ht_ (by omega))
theorem all2 (s : Sl ByteArray) (hs : s.l.length ≤ 1048576) (fn : Nat) (p : ByteArray → Prop) (h : ∀ x, ef_ Go.Proofs.Try.prog md ext E_bool (T.fn fn [] []) [.str x] = some (says (p x))) : al_ s (T.fn fn [] []) = some (says (∀ x ∈ s.l, p x)) := by
 refine dB_ s _ _ ?_
 unfold bf_
 refine Eq.trans (if_pos rfl) ?_
 refine ek_ (by omega) fun i x hx he => ?_
 rw [he, Option.bind_some, h, Option.bind_some]
 exact ⟨fun h => by rw [be_ h, if_neg (by simp)], fun h => by rw [a7_ h, if_pos (by simp)]⟩
theorem f4_ (s : Sl ByteArray) (hs : s.l.length ≤ 1048576) : al_ s (T.fn 32 [] []) = some (says (∀ x ∈ s.l, x.size ≤ 200)) := all2 s hs 32 _ la_
theorem kZ_ (s : Sl ByteArray) (hs : s.l.length ≤ 1048576) : al_ s (T.fn 73 [] []) = some (says (∀ x ∈ s.l, x.size ≤ 1300)) := all2 s hs 73 _ m7_
def hF_ (f : ak_) : Prop := iU_ f.Name ∧ fu_ 40 200 f.Lines ∧ (0 ≤ f.Mode ∧ f.Mode ≤ 3) ∧ (0 ≤ f.At ∧ f.At ≤ (f.Lines.l.length : Int)) ∧ (f.Mode = 1 ∨ f.At = 0)
theorem nc_ (f : ak_) (h : jx_ f) : cC_ f = some (says (hF_ f)) := by
 refine fC_ f _ ?_
 unfold cD_
 exact dP_ (oX_ _ h.1) fun _ => dP_ (hU_ _ h.2.1 40 200) fun _ => dP_ (in1 _ _ _) fun _ => ed_ (in1 _ _ _) fun _ => s_or fun _ => ht_
theorem oI_ (m : Int) : c6_ m = some (says (1 ≤ m ∧ m ≤ 3)) := by
 refine gs_ m _ ?_
 unfold cW_
 exact fZ_ (in2 _ _ _)
theorem jy_ {p q : Prop} {K : Option Bool} (h : p → K = some (says q)) : (if says p = true then K else some false) = some (says (p ∧ q)) := by
 by_cases hp : p
 ·rw [be_ hp, if_pos rfl, h hp]; congr 1; exact bN_ ⟨fun w => ⟨hp, w⟩, fun w => w.2⟩
 ·rw [a7_ hp, if_neg (by simp), a7_ fun w => hp w.1]
theorem oN_ (f : ak_) (h : jx_ f) : bq_ f = some (says (hF_ f)) := by
 refine dJ_ f _ ?_
 unfold bv_
 have e1 : (if (decide ((f.Lines.l.length : Int) ≤ 40)) = true then ((al_ f.Lines (T.fn 32 [] [])).bind fun y6 => (some y6)) else (some false)) = some (says (((f.Lines.l.length : Int) ≤ 40) ∧ ∀ x ∈ f.Lines.l, x.size ≤ 200)) := jK_ fun _ => fZ_ (f4_ _ h.2.1)
 have e2 : ((bd_ f.At 0 (f.Lines.l.length : Int)).bind fun y5 => (if y5 = true then (if (decide (f.At = 0)) = true then (some true) else (some (decide (f.Mode = 1)))) else (some false))) = some (says ((0 ≤ f.At ∧ f.At ≤ (f.Lines.l.length : Int)) ∧ (f.At = 0 ∨ f.Mode = 1))) := ed_ (in2 _ _ _) fun _ => s_or fun _ => ht_
 rw [e1, Option.bind_some, e2, Option.bind_some]
 refine hI_ (ed_ (pc_ _ h.1) fun _ => jy_ fun _ => jy_ (q := f.Mode = 0 ∨ (1 ≤ f.Mode ∧ f.Mode ≤ 3)) fun _ => s_or fun _ => fZ_ (oI_ _)) ?_
 unfold hF_ fu_
 constructor
 ·rintro ⟨a, ⟨b1, b2⟩, ⟨c1, c2⟩, d⟩; exact ⟨a, ⟨by omega, b2⟩, by omega, c1, c2.symm⟩
 ·rintro ⟨a, ⟨b1, b2⟩, c, d, e⟩; exact ⟨a, ⟨by omega, b2⟩, ⟨d, e.symm⟩, by omega⟩
def j4_ (l : List ak_) (i : Nat) : Prop := ∀ x y, l[i - 1]? = some x → l[i]? = some y → Op.bytesLess x.Name.toList y.Name.toList = true
def ConP (c : aa_) : Prop := fu_ 100 200 c.Input ∧ (0 ≤ c.At ∧ c.At ≤ (c.Input.l.length : Int)) ∧ fu_ 100 200 c.Output ∧ c.Files.l.length ≤ 6 ∧ fu_ 200 1300 c.Trace ∧ (∀ f ∈ c.Files.l, hF_ f) ∧ ∀ i, 1 ≤ i → i < c.Files.l.length → j4_ c.Files.l i
theorem con1 (c : aa_) (h : iO_ c) : dv_ c = some (says (ConP c)) := by
 refine hf_ c _ ?_
 unfold dq_
 obtain ⟨a1, a2, a3, a4⟩ := h
 have hlen := a3.1
 refine hI_ (dP_ (hU_ _ a1.1 100 200) fun _ => dP_ (in1 _ _ _) fun _ => dP_ (hU_ _ a2.1 100 200) fun _ => s_gt fun _ => dP_ (hU_ _ a4.1 200 1300) fun _ => fh_ (p := fun i => (∀ f, c.Files.l[i]? = some f → hF_ f) ∧ (0 < i → j4_ c.Files.l i)) 0 (by omega) (fun i _ hi hp => ?_) (fun i _ hi hp => ?_)) ?_
 ·have hg : c.Files.l[i]? = some c.Files.l[i] := List.getElem?_eq_getElem hi
  simp only [bA_ hi, Option.bind_some]
  rw [nc_ _ (a3.2 _ (List.getElem_mem hi)), Option.bind_some, be_ (hp.1 _ hg), if_neg (by simp)]
  by_cases h0 : 0 < i
  ·have hi1 : i - 1 < c.Files.l.length := by omega
   have hw : w4 ((i : Int) - 1) = ((i - 1 : Nat) : Int) := by rw [en_ (by omega) (by omega)]; omega
   rw [if_pos (by simpa using h0), hw, bA_ hi1, Option.bind_some, (hp.2 h0) _ _ (List.getElem?_eq_getElem hi1) hg, if_neg (by simp)]
  ·rw [if_neg (by simpa using h0)]
 ·have hg : c.Files.l[i]? = some c.Files.l[i] := List.getElem?_eq_getElem hi
  simp only [bA_ hi, Option.bind_some]
  rw [nc_ _ (a3.2 _ (List.getElem_mem hi)), Option.bind_some]
  by_cases hf : hF_ c.Files.l[i]
  ·rw [be_ hf, if_neg (by simp)]
   by_cases h0 : 0 < i
   ·have hi1 : i - 1 < c.Files.l.length := by omega
    have hw : w4 ((i : Int) - 1) = ((i - 1 : Nat) : Int) := by rw [en_ (by omega) (by omega)]; omega
    rw [if_pos (by simpa using h0), hw, bA_ hi1, Option.bind_some, if_pos]
    refine Bool.not_eq_true' _ ▸ ?_
    cases hb : Op.bytesLess c.Files.l[i - 1].Name.toList c.Files.l[i].Name.toList with
    | false => rfl
    | true =>
     refine absurd ⟨fun f hf' => ?_, fun _ x y hx hy => ?_⟩ hp
     ·rw [hg] at hf'; injection hf' with hf'; exact hf' ▸ hf
     ·rw [List.getElem?_eq_getElem hi1] at hx; rw [hg] at hy; injection hx with hx; injection hy with hy; subst hx; subst hy; exact hb
   ·refine absurd ⟨fun f hf' => ?_, fun w => absurd w h0⟩ hp
    rw [hg] at hf'; injection hf' with hf'; exact hf' ▸ hf
  ·rw [a7_ hf, if_pos (by simp)]
 ·unfold ConP
  constructor
  ·rintro ⟨b1, b2, b3, b4, b5, b6⟩
   refine ⟨b1, b2, b3, by omega, b5, fun f hf => ?_, fun i h1 h2 => (b6 i (by omega) h2).2 (by omega)⟩
   obtain ⟨i, hi, rfl⟩ := List.getElem_of_mem hf
   exact (b6 i (by omega) hi).1 _ (List.getElem?_eq_getElem hi)
  ·rintro ⟨b1, b2, b3, b4, b5, b6, b7⟩
   exact ⟨b1, b2, b3, by omega, b5, fun i _ hi => ⟨fun f hf => b6 f (List.mem_of_getElem? hf), fun h0 => b7 i (by omega) hi⟩⟩
theorem con2 (c : aa_) (h : iO_ c) : a1_ c = some (says (ConP c)) := by
 refine dI_ c _ ?_
 unfold bs_
 obtain ⟨a1, a2, a3, a4⟩ := h
 have hlen := a3.1
 have allF : bG_ c.Files (T.fn 77 [] []) = some (says (∀ f ∈ c.Files.l, hF_ f)) := by
  refine d9_ _ _ _ ?_
  unfold bM_
  refine Eq.trans (if_pos rfl) ?_
  refine ek_ (by omega) fun i x hx he => ?_
  have e : ef_ Go.Proofs.Try.prog md ext E_bool (T.fn 77 [] []) [.agg (ak_.cells x)] = bq_ x := rfl
  rw [he, Option.bind_some, e, oN_ x (a3.2 x hx), Option.bind_some]
  exact ⟨fun h => by rw [be_ h, if_neg (by simp)], fun h => by rw [a7_ h, if_pos (by simp)]⟩
 have nm : ∀ x : ak_, ef_ Go.Proofs.Try.prog md ext E_str (T.fn 40 [] []) [.agg (ak_.cells x)] = some x.Name := fun x => er_ x _ rfl
 have srt : bh_ c.Files (T.fn 40 [] []) = some (says (∀ i, 1 ≤ i → i < c.Files.l.length → j4_ c.Files.l i)) := by
  refine dC_ _ _ _ ?_
  unfold bi_
  refine Eq.trans (if_pos rfl) ?_
  refine fh_ 1 (by omega) (fun i h1 hi hp => ?_) (fun i h1 hi hp => ?_)
  all_goals
   have hi1 : i - 1 < c.Files.l.length := by omega
   have hw : w4 ((i : Int) - 1) = ((i - 1 : Nat) : Int) := by rw [en_ (by omega) (by omega)]; omega
   rw [hw, bA_ hi1, Option.bind_some, nm, Option.bind_some, bA_ hi, Option.bind_some, nm, Option.bind_some]
  ·rw [hp _ _ (List.getElem?_eq_getElem hi1) (List.getElem?_eq_getElem hi), if_neg (by simp)]
  ·rw [if_pos]
   cases hb : Op.bytesLess c.Files.l[i - 1].Name.toList c.Files.l[i].Name.toList with
   | false => rfl
   | true =>
    refine absurd (fun x y hx hy => ?_) hp
    rw [List.getElem?_eq_getElem hi1] at hx; rw [List.getElem?_eq_getElem hi] at hy; injection hx with hx; injection hy with hy; subst hx; subst hy; exact hb
 have e1 : ((al_ c.Input (T.fn 32 [] [])).bind fun y5 => (if y5 = true then ((al_ c.Output (T.fn 32 [] [])).bind fun y6 => (if y6 = true then ((al_ c.Trace (T.fn 73 [] [])).bind fun y7 => (some y7)) else (some false))) else (some false))) = some (says ((∀ x ∈ c.Input.l, x.size ≤ 200) ∧ (∀ x ∈ c.Output.l, x.size ≤ 200) ∧ ∀ x ∈ c.Trace.l, x.size ≤ 1300)) :=
  ed_ (f4_ _ a1.1) fun _ => ed_ (f4_ _ a2.1) fun _ => fZ_ (kZ_ _ a4.1)
 refine hI_ (s_gt fun _ => s_gt fun _ => s_gt fun _ => s_gt fun _ => ed_ e1 fun _ => ed_ (in2 _ _ _) fun _ => ed_ allF fun _ => fZ_ srt) ?_
 unfold ConP fu_
 constructor
 ·rintro ⟨b1, b2, b3, b4, ⟨b5, b6, b7⟩, b8, b9, b10⟩
  exact ⟨⟨by omega, b5⟩, b8, ⟨by omega, b6⟩, by omega, ⟨by omega, b7⟩, b9, b10⟩
 ·rintro ⟨⟨b1, b2⟩, b3, ⟨b4, b5⟩, b6, ⟨b7, b8⟩, b9, b10⟩
  exact ⟨by omega, by omega, by omega, by omega, ⟨b2, b5, b8⟩, b3, b9, b10⟩
end Go.Am
end
