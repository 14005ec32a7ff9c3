/- The law. -/
import Derived.Test.YtkgmfmcpbgffpaaAg0
import Derived.Test.YtkgmfmcpbgffpaaAg1
import Derived.Test.YtkgmfmcpbgffpaaAl1
section
set_option maxRecDepth 100000
set_option maxHeartbeats 1000000
set_option linter.unusedVariables false
set_option linter.unusedSimpArgs false
namespace Go.Am
def LetP (x : Int) : Prop := (65 ≤ x ∧ x ≤ 90) ∨ (97 ≤ x ∧ x ≤ 122)
def DigP (x : Int) : Prop := 48 ≤ x ∧ x ≤ 57
def NbP (x : Int) : Prop := LetP x ∨ DigP x ∨ x = 95
def iX_ (s : ByteArray) : Prop := 1 ≤ s.size ∧ s.size ≤ 12 ∧ LetP (bAt s 0) ∧ ∀ i : Nat, i < s.size → NbP (bAt s i)
theorem letB (x : Int) : (if (decide (65 ≤ x)) = true then (if (decide (x ≤ 90)) = true then (some true) else (if (decide (97 ≤ x)) = true then (some (decide (x ≤ 122))) else (some false))) else (if (decide (97 ≤ x)) = true then (some (decide (x ≤ 122))) else (some false))) = some (says (LetP x)) := by
 unfold LetP
 by_cases h1 : 65 ≤ x <;> by_cases h2 : x ≤ 90 <;> by_cases h3 : 97 ≤ x <;> by_cases h4 : x ≤ 122 <;> simp [h1, h2, h3, h4, says]
theorem hP_ (x : Int) : a5_ x = some (says (LetP x)) := e7_ x _ (letB x)
theorem jo_ (x : Int) : bz_ x = some (says (LetP x)) := fp_ x _ (letB x)
theorem digB (x : Int) : (if (decide (48 ≤ x)) = true then (some (decide (x ≤ 57))) else (some false)) = some (says (DigP x)) := by
 unfold DigP
 by_cases h1 : 48 ≤ x <;> by_cases h2 : x ≤ 57 <;> simp [h1, h2, says]
theorem lD_ (x : Int) : bB_ x = some (says (DigP x)) := fL_ x _ (digB x)
theorem nP_ (x : Int) : cG_ x = some (says (DigP x)) := fW_ x _ (digB x)
theorem jT_ (x : Int) : bQ_ x = some (says (NbP x)) := by
 refine eM_ x _ ?_
 unfold bW_
 exact iq_ (jo_ x) fun _ => iq_ (nP_ x) fun _ => iV_
theorem eb_ {s : ByteArray} {i : Nat} (h : i < s.size) : aZ_ s (i : Int) = some (bAt s (i : Int)) := by
 unfold aZ_; rw [if_pos ⟨by omega, by omega⟩]
theorem pG_ (s : ByteArray) (hs : s.size ≤ 1048576) : c6_ s = some (says (iX_ s)) := by
 refine gR_ s _ ?_
 unfold de_
 have hm := maxLen_eq
 by_cases h0 : s = (⟨#[]⟩ : ByteArray)
 ·subst h0
  rw [if_neg (by simp), aK_]
  intro w; have := w.1; exact absurd this (by decide)
 ·have hpos : 1 ≤ s.size := by
   refine Nat.pos_of_ne_zero fun e => h0 ?_
   obtain ⟨⟨l⟩⟩ := s
   have e : l.length = 0 := e
   rw [List.length_eq_zero_iff] at e; subst e; rfl
  rw [if_pos (by simp [h0])]
  by_cases h12 : s.size ≤ 12
  ·rw [if_pos (by simp; omega)]
   have key : ∃ r : Int, bR_ s 0 = some r ∧ (r = (s.size : Int) ↔ iX_ s) := by
    suffices h : ∃ r : Int, bf_ s 0 = some r ∧ (r = (s.size : Int) ↔ iX_ s) by
     obtain ⟨r, h1, h2⟩ := h; exact ⟨r, eG_ s 0 r h1, h2⟩
    unfold bf_
    rw [if_neg (by rw [decide_eq_true_eq]; omega)]
    have b0 : aZ_ s 0 = some (bAt s 0) := eb_ (i := 0) hpos
    rw [b0, Option.bind_some, hP_, Option.bind_some]
    by_cases hl : LetP (bAt s 0)
    ·rw [bl_ hl, if_neg (by simp)]
     obtain ⟨r, r1, r2, r3⟩ := kP_ (n := s.size) (p := fun i => NbP (bAt s i)) (bd := fun st1 => ((aZ_ s st1).bind fun y4 => ((a5_ y4).bind fun y5 => (if y5 = true then (some (.inl (w4 (st1 + 1)))) else ((aZ_ s st1).bind fun y6 => ((bB_ y6).bind fun y7 => (if y7 = true then (some (.inl (w4 (st1 + 1)))) else ((aZ_ s st1).bind fun y8 => (if (decide (y8 = 95)) = true then (some (.inl (w4 (st1 + 1)))) else (some (.inr st1)))))))))))
      (by omega) (fun i hi hp => by
       simp only [eb_ hi, Option.bind_some, hP_, lD_]
       by_cases c1 : LetP (bAt s i)
       ·rw [bl_ c1, if_pos rfl]
       ·rw [aK_ c1, if_neg (by simp)]
        by_cases c2 : DigP (bAt s i)
        ·rw [bl_ c2, if_pos rfl]
        ·rw [aK_ c2, if_neg (by simp)]
         have := (hp.resolve_left c1).resolve_left c2
         rw [if_pos (by simp [this])]) (fun i hi hp => by
       simp only [eb_ hi, Option.bind_some, hP_, lD_]
       rw [aK_ fun c => hp (.inl c), if_neg (by simp), aK_ fun c => hp (.inr (.inl c)), if_neg (by simp), if_neg (by simp; exact fun c => hp (.inr (.inr c)))])
     refine ⟨r, by rw [r2]; rfl, ?_⟩
     constructor
     ·intro e; exact ⟨hpos, h12, hl, r3.1 (Int.ofNat.inj e)⟩
     ·intro w; rw [r3.2 w.2.2.2]
    ·rw [aK_ hl, if_pos (by simp)]
     exact ⟨0, rfl, ⟨fun e => by have e : (0 : Int) = (s.size : Int) := e; omega, fun w => absurd w.2.2.1 hl⟩⟩
   obtain ⟨r, q1, q2⟩ := key
   rw [q1, Option.bind_some]
   by_cases hr : r = (s.size : Int)
   ·rw [bl_ (q2.1 hr)]; simp [hr]
   ·rw [aK_ fun w => hr (q2.2 w)]; simp [hr]
  ·rw [if_neg (by simp; omega), aK_ fun w => h12 w.2.1]
theorem pE_ (s : ByteArray) (hs : s.size ≤ 1048576) : cZ_ s = some (says (iX_ s)) := by
 refine gQ_ s _ ?_
 unfold c5_
 have hm := maxLen_eq
 refine h7_ (p := (1 ≤ (s.size : Int)) ∧ ((s.size : Int) ≤ 12) ∧ LetP (bAt s 0) ∧ ∀ x ∈ (s.data.toList.map fun b => (⟨b.toNat⟩ : Iv .u8)), NbP x.v) (eB_ fun h1 => eB_ fun h2 => ?_) ?_
 ·have b0 : aZ_ s 0 = some (bAt s 0) := eb_ (i := 0) (by omega)
  rw [b0, Option.bind_some]
  refine ov_ (jo_ _) fun _ => ?_
  have hb : hE_ s = some ⟨false, s.data.toList.map fun b => ⟨b.toNat⟩⟩ := by unfold hE_; rw [if_pos (by omega)]
  rw [hb, Option.bind_some]
  refine dL_ (em_ _ _ _ ?_)
  unfold bF_
  refine Eq.trans (if_pos rfl) ?_
  refine hs_ (a := (⟨false, s.data.toList.map fun b => ⟨b.toNat⟩⟩ : Sl (Iv .u8))) (p := fun x : Iv .u8 => NbP x.v) ?_ fun i x hx he => ?_
  ·have : s.data.toList.length = s.size := by rw [Array.length_toList]; rfl
   simp only [List.length_map]; omega
  ·rw [he, Option.bind_some]
   have e : gN_ Go.Proofs.Try.prog md ext E_bool (T.fn 171 [] []) [.int .u8 x.v] = bQ_ x.v := rfl
   rw [e, jT_, Option.bind_some]
   exact ⟨fun h => by rw [bl_ h, if_neg (by simp)], fun h => by rw [aK_ h, if_pos (by simp)]⟩
 ·have hlen : s.data.toList.length = s.size := by rw [Array.length_toList]; rfl
  have hat : ∀ i : Nat, (h : i < s.size) → ((s.data.toList[i]'(by omega)).toNat : Int) = bAt s (i : Int) := fun i h => by
   unfold bAt; rw [dif_pos (by simpa using h)]; rfl
  refine ⟨fun w => ⟨by omega, by omega, w.2.2.1, fun i hi => ?_⟩, fun w => ⟨by have := w.1; omega, by have := w.2.1; omega, w.2.2.1, fun x hx => ?_⟩⟩
  ·rw [← hat i hi]
   exact w.2.2.2 ⟨(s.data.toList[i]'(by omega)).toNat⟩ (List.mem_map.2 ⟨_, List.getElem_mem (by omega), rfl⟩)
  ·obtain ⟨b, hb, rfl⟩ := List.mem_map.1 hx
   obtain ⟨i, hi, rfl⟩ := List.getElem_of_mem hb
   have := w.2.2.2 i (by omega)
   rw [← hat i (by omega)] at this; exact this
theorem in1 (a b c : Int) : cB_ a b c = some (says (b ≤ a ∧ a ≤ c)) := by
 refine gW_ a b c _ ?_
 unfold dt_
 exact eB_ fun _ => iV_
theorem in2 (a b c : Int) : a1_ a b c = some (says (b ≤ a ∧ a ≤ c)) := by
 refine gG_ a b c _ ?_
 unfold dg_
 exact eB_ fun _ => iV_
theorem fw_s : au_ (S := (Int × ByteArray × Int)) (R := (Int × ByteArray)) (fun st1 => (if (decide (st1.2.2 < ((⟨#[115]⟩ : ByteArray).size : Int))) = true then ((aZ_ (⟨#[115]⟩ : ByteArray) st1.2.2).bind fun y3 => (if (decide (y3 = 112)) = true then (some (.inl ((w4 (st1.1 + 1)), st1.2.1, (w4 (st1.2.2 + 1))))) else ((subB (⟨#[115]⟩ : ByteArray) st1.2.2 (w4 (st1.2.2 + 1))).bind fun y4 => ((catB st1.2.1 y4).bind fun y5 => (some (.inl (st1.1, y5, (w4 (st1.2.2 + 1))))))))) else (some (.inr (st1.1, st1.2.1))))) (0, ⟨#[]⟩, 0) = some (0, ⟨#[115]⟩) := av_ (s' := ((0 : Int), (⟨#[115]⟩ : ByteArray), (1 : Int))) (by rfl) (ao_ (by rfl))
theorem fw_n : au_ (S := (Int × ByteArray × Int)) (R := (Int × ByteArray)) (fun st1 => (if (decide (st1.2.2 < ((⟨#[110]⟩ : ByteArray).size : Int))) = true then ((aZ_ (⟨#[110]⟩ : ByteArray) st1.2.2).bind fun y3 => (if (decide (y3 = 112)) = true then (some (.inl ((w4 (st1.1 + 1)), st1.2.1, (w4 (st1.2.2 + 1))))) else ((subB (⟨#[110]⟩ : ByteArray) st1.2.2 (w4 (st1.2.2 + 1))).bind fun y4 => ((catB st1.2.1 y4).bind fun y5 => (some (.inl (st1.1, y5, (w4 (st1.2.2 + 1))))))))) else (some (.inr (st1.1, st1.2.1))))) (0, ⟨#[]⟩, 0) = some (0, ⟨#[110]⟩) := av_ (s' := ((0 : Int), (⟨#[110]⟩ : ByteArray), (1 : Int))) (by rfl) (ao_ (by rfl))
theorem fw_e : au_ (S := (Int × ByteArray × Int)) (R := (Int × ByteArray)) (fun st1 => (if (decide (st1.2.2 < ((⟨#[]⟩ : ByteArray).size : Int))) = true then ((aZ_ (⟨#[]⟩ : ByteArray) st1.2.2).bind fun y3 => (if (decide (y3 = 112)) = true then (some (.inl ((w4 (st1.1 + 1)), st1.2.1, (w4 (st1.2.2 + 1))))) else ((subB (⟨#[]⟩ : ByteArray) st1.2.2 (w4 (st1.2.2 + 1))).bind fun y4 => ((catB st1.2.1 y4).bind fun y5 => (some (.inl (st1.1, y5, (w4 (st1.2.2 + 1))))))))) else (some (.inr (st1.1, st1.2.1))))) (0, ⟨#[]⟩, 0) = some (0, ⟨#[]⟩) := ao_ (by rfl)
theorem fw_pp : au_ (S := (Int × ByteArray × Int)) (R := (Int × ByteArray)) (fun st1 => (if (decide (st1.2.2 < ((⟨#[112, 112]⟩ : ByteArray).size : Int))) = true then ((aZ_ (⟨#[112, 112]⟩ : ByteArray) st1.2.2).bind fun y3 => (if (decide (y3 = 112)) = true then (some (.inl ((w4 (st1.1 + 1)), st1.2.1, (w4 (st1.2.2 + 1))))) else ((subB (⟨#[112, 112]⟩ : ByteArray) st1.2.2 (w4 (st1.2.2 + 1))).bind fun y4 => ((catB st1.2.1 y4).bind fun y5 => (some (.inl (st1.1, y5, (w4 (st1.2.2 + 1))))))))) else (some (.inr (st1.1, st1.2.1))))) (0, ⟨#[]⟩, 0) = some (2, ⟨#[]⟩) := av_ (s' := ((1 : Int), (⟨#[]⟩ : ByteArray), (1 : Int))) (by rfl) (av_ (s' := ((2 : Int), (⟨#[]⟩ : ByteArray), (2 : Int))) (by rfl) (ao_ (by rfl)))
theorem fw_p : au_ (S := (Int × ByteArray × Int)) (R := (Int × ByteArray)) (fun st1 => (if (decide (st1.2.2 < ((⟨#[112]⟩ : ByteArray).size : Int))) = true then ((aZ_ (⟨#[112]⟩ : ByteArray) st1.2.2).bind fun y3 => (if (decide (y3 = 112)) = true then (some (.inl ((w4 (st1.1 + 1)), st1.2.1, (w4 (st1.2.2 + 1))))) else ((subB (⟨#[112]⟩ : ByteArray) st1.2.2 (w4 (st1.2.2 + 1))).bind fun y4 => ((catB st1.2.1 y4).bind fun y5 => (some (.inl (st1.1, y5, (w4 (st1.2.2 + 1))))))))) else (some (.inr (st1.1, st1.2.1))))) (0, ⟨#[]⟩, 0) = some (1, ⟨#[]⟩) := av_ (s' := ((1 : Int), (⟨#[]⟩ : ByteArray), (1 : Int))) (by rfl) (ao_ (by rfl))
theorem fw_px : au_ (S := (Int × ByteArray × Int)) (R := (Int × ByteArray)) (fun st1 => (if (decide (st1.2.2 < ((⟨#[112, 120]⟩ : ByteArray).size : Int))) = true then ((aZ_ (⟨#[112, 120]⟩ : ByteArray) st1.2.2).bind fun y3 => (if (decide (y3 = 112)) = true then (some (.inl ((w4 (st1.1 + 1)), st1.2.1, (w4 (st1.2.2 + 1))))) else ((subB (⟨#[112, 120]⟩ : ByteArray) st1.2.2 (w4 (st1.2.2 + 1))).bind fun y4 => ((catB st1.2.1 y4).bind fun y5 => (some (.inl (st1.1, y5, (w4 (st1.2.2 + 1))))))))) else (some (.inr (st1.1, st1.2.1))))) (0, ⟨#[]⟩, 0) = some (1, ⟨#[120]⟩) := av_ (s' := ((1 : Int), (⟨#[]⟩ : ByteArray), (1 : Int))) (by rfl) (av_ (s' := ((1 : Int), (⟨#[120]⟩ : ByteArray), (2 : Int))) (by rfl) (ao_ (by rfl)))
theorem fw_x : au_ (S := (Int × ByteArray × Int)) (R := (Int × ByteArray)) (fun st1 => (if (decide (st1.2.2 < ((⟨#[120]⟩ : ByteArray).size : Int))) = true then ((aZ_ (⟨#[120]⟩ : ByteArray) st1.2.2).bind fun y3 => (if (decide (y3 = 112)) = true then (some (.inl ((w4 (st1.1 + 1)), st1.2.1, (w4 (st1.2.2 + 1))))) else ((subB (⟨#[120]⟩ : ByteArray) st1.2.2 (w4 (st1.2.2 + 1))).bind fun y4 => ((catB st1.2.1 y4).bind fun y5 => (some (.inl (st1.1, y5, (w4 (st1.2.2 + 1))))))))) else (some (.inr (st1.1, st1.2.1))))) (0, ⟨#[]⟩, 0) = some (0, ⟨#[120]⟩) := av_ (s' := ((0 : Int), (⟨#[120]⟩ : ByteArray), (1 : Int))) (by rfl) (ao_ (by rfl))
def kidN (k : Int) : Int := if k = 18 ∨ k = 19 then 2 else if k = 20 ∨ k = 21 ∨ k = 22 then 1 else 0
def argW (k : Int) : ByteArray := if k ≤ 5 then ⟨#[115]⟩ else if k ≤ 10 then ⟨#[110]⟩ else if 21 ≤ k then ⟨#[120]⟩ else ⟨#[]⟩
def ArgP (k n : Int) (t : ByteArray) : Prop := if k ≤ 5 then (n = 0 ∧ (t.size : Int) ≤ 200 ∧ (k = 1 ∨ t ≠ ⟨#[]⟩)) else if k ≤ 10 then (t = ⟨#[]⟩ ∧ 0 ≤ n ∧ n ≤ 200) else if 21 ≤ k then (n = 0 ∧ iX_ t) else (n = 0 ∧ t = ⟨#[]⟩)
def NodeP (p : DPattern) : Prop := (1 ≤ p.Kind ∧ p.Kind ≤ 24) ∧ (p.Kids.l.length : Int) = kidN p.Kind ∧ ArgP p.Kind p.Num p.Text
theorem cs_ {k : Int} {w1 w r : ByteArray} {n : Int} (hk : k ≠ 1) (hw : cN_ k = some (w1, w)) (hl : au_ (S := (Int × ByteArray × Int)) (R := (Int × ByteArray)) (fun st1 => (if (decide (st1.2.2 < (w.size : Int))) = true then ((aZ_ w st1.2.2).bind fun y3 => (if (decide (y3 = 112)) = true then (some (.inl ((w4 (st1.1 + 1)), st1.2.1, (w4 (st1.2.2 + 1))))) else ((subB w st1.2.2 (w4 (st1.2.2 + 1))).bind fun y4 => ((catB st1.2.1 y4).bind fun y5 => (some (.inl (st1.1, y5, (w4 (st1.2.2 + 1))))))))) else (some (.inr (st1.1, st1.2.1))))) (0, ⟨#[]⟩, 0) = some (n, r)) : bX_ k = some (n, r) := by
 refine dX_ k _ ?_
 unfold cJ_
 rw [if_neg (by simpa using hk), fV_ k _ hw, Option.bind_some, hl]; rfl
theorem pV_ {k : Int} (h : 1 ≤ k ∧ k ≤ 24) : bX_ k = some (kidN k, argW k) := by
 by_cases h1 : k = 1
 ·subst h1; exact dX_ 1 _ rfl
 have : k = 2 ∨ k = 3 ∨ k = 4 ∨ k = 5 ∨ k = 6 ∨ k = 7 ∨ k = 8 ∨ k = 9 ∨ k = 10 ∨ k = 11 ∨ k = 12 ∨ k = 13 ∨ k = 14 ∨ k = 15 ∨ k = 16 ∨ k = 17 ∨ k = 18 ∨ k = 19 ∨ k = 20 ∨ k = 21 ∨ k = 22 ∨ k = 23 ∨ k = 24 := by omega
 rcases this with rfl | rfl | rfl | rfl | rfl | rfl | rfl | rfl | rfl | rfl | rfl | rfl | rfl | rfl | rfl | rfl | rfl | rfl | rfl | rfl | rfl | rfl | rfl
 ·exact cs_ h1 rfl fw_s
 ·exact cs_ h1 rfl fw_s
 ·exact cs_ h1 rfl fw_s
 ·exact cs_ h1 rfl fw_s
 ·exact cs_ h1 rfl fw_n
 ·exact cs_ h1 rfl fw_n
 ·exact cs_ h1 rfl fw_n
 ·exact cs_ h1 rfl fw_n
 ·exact cs_ h1 rfl fw_n
 ·exact cs_ h1 rfl fw_e
 ·exact cs_ h1 rfl fw_e
 ·exact cs_ h1 rfl fw_e
 ·exact cs_ h1 rfl fw_e
 ·exact cs_ h1 rfl fw_e
 ·exact cs_ h1 rfl fw_e
 ·exact cs_ h1 rfl fw_e
 ·exact cs_ h1 rfl fw_pp
 ·exact cs_ h1 rfl fw_pp
 ·exact cs_ h1 rfl fw_p
 ·exact cs_ h1 rfl fw_px
 ·exact cs_ h1 rfl fw_px
 ·exact cs_ h1 rfl fw_x
 ·exact cs_ h1 rfl fw_x
theorem pC_ (p : DPattern) (ht : p.Text.size ≤ 1048576) : cH_ p = some (says (NodeP p)) := by
 refine fP_ p _ ?_
 unfold cI_
 rw [in1, Option.bind_some]
 by_cases hk : 1 ≤ p.Kind ∧ p.Kind ≤ 24
 ·rw [bl_ hk, if_neg (by simp), pV_ hk, Option.bind_some]
  show (if (!decide ((p.Kids.l.length : Int) = kidN p.Kind)) = true then _ else _) = _
  by_cases hl : (p.Kids.l.length : Int) = kidN p.Kind
  ·rw [if_neg (by simp [hl])]
   refine h7_ (p := ArgP p.Kind p.Num p.Text) ?_ ⟨fun h => ⟨hk, hl, h⟩, fun h => h.2.2⟩
   unfold argW ArgP
   by_cases h5 : p.Kind ≤ 5
   ·simp only [if_pos h5, decide_true, if_true]
    refine eB_ fun _ => eB_ fun _ => ?_
    by_cases h1 : p.Kind = 1
    ·simp [h1, says]
    ·by_cases hz : p.Text = ⟨#[]⟩ <;> simp [h1, hz, says]
   ·by_cases h10 : p.Kind ≤ 10
    ·simp only [if_neg h5, if_pos h10]
     rw [if_neg (by decide), if_pos (by decide)]
     refine eB_ fun _ => dL_ (in1 _ _ _)
    ·by_cases h21 : 21 ≤ p.Kind
     ·simp only [if_neg h5, if_neg h10, if_pos h21]
      rw [if_neg (by decide), if_neg (by decide), if_pos (by decide)]
      exact eB_ fun _ => dL_ (pG_ _ ht)
     ·simp only [if_neg h5, if_neg h10, if_neg h21]
      rw [if_neg (by decide), if_neg (by decide), if_neg (by decide)]
      exact eB_ fun _ => iV_
  ·rw [if_pos (by simp [hl]), aK_ (fun h => hl h.2.1)]
 ·rw [aK_ hk, if_pos (by simp), aK_ (fun h => hk h.1)]
theorem lB_ (t : ByteArray) : bY_ t = some (says ((t.size : Int) ≤ 200)) := by
 refine fQ_ t _ ?_
 unfold cL_
 exact iV_
theorem qd_ (k : Int) : c9_ k = some (says (2 ≤ k ∧ k ≤ 5)) := by
 refine gt_ k _ ?_
 unfold c3_
 exact dL_ (in2 _ _ _)
theorem p9_ (k : Int) : b3_ k = some (says (6 ≤ k ∧ k ≤ 10)) := by
 refine e6_ k _ ?_
 unfold b9_
 exact dL_ (in2 _ _ _)
theorem p6_ (k : Int) : cP_ k = some (says (21 ≤ k ∧ k ≤ 24)) := by
 refine fX_ k _ ?_
 unfold cO_
 exact dL_ (in2 _ _ _)
theorem pB_ (k : Int) : bj_ k = some (says (1 ≤ k ∧ k ≤ 24)) := by
 refine dU_ k _ ?_
 unfold bh_
 exact dL_ (in2 _ _ _)
theorem arg2 (k n : Int) (t : ByteArray) (ht : t.size ≤ 1048576) : bO_ k n t = some (says ((1 ≤ k ∧ k ≤ 24) ∧ ArgP k n t)) := by
 refine eO_ k n t _ ?_
 unfold bT_
 rw [qd_, Option.bind_some, p9_, Option.bind_some, p6_, Option.bind_some, pB_, Option.bind_some]
 by_cases h1 : k = 1
 ·subst h1
  rw [if_pos (by decide)]
  refine h7_ (eB_ (c := n = 0) fun _ => dL_ (lB_ t)) ?_
  unfold ArgP
  rw [if_pos (by decide)]
  exact ⟨fun h => ⟨by decide, h.1, h.2, .inl rfl⟩, fun h => ⟨h.2.1, h.2.2.1⟩⟩
 rw [if_neg (by simpa using h1)]
 by_cases h5 : 2 ≤ k ∧ k ≤ 5
 ·rw [bl_ h5, if_pos rfl]
  have e : ArgP k n t = (n = 0 ∧ (t.size : Int) ≤ 200 ∧ (k = 1 ∨ t ≠ ⟨#[]⟩)) := by unfold ArgP; rw [if_pos h5.2]
  rw [e]
  by_cases hn : n = 0
  ·rw [if_pos (by simpa using hn)]
   by_cases hz : t = ⟨#[]⟩
   ·rw [if_neg (by simp [hz]), aK_]
    rintro ⟨_, _, _, h | h⟩
    ·exact h1 h
    ·exact h hz
   ·rw [if_pos (by simp [hz])]
    refine h7_ (dL_ (lB_ t)) ⟨fun h => ⟨by omega, hn, h, .inr hz⟩, fun h => h.2.2.1⟩
  ·rw [if_neg (by simpa using hn), aK_ fun h => hn h.2.1]
 rw [aK_ h5, if_neg (by simp)]
 by_cases h10 : 6 ≤ k ∧ k ≤ 10
 ·rw [bl_ h10, if_pos rfl]
  have e : ArgP k n t = (t = ⟨#[]⟩ ∧ 0 ≤ n ∧ n ≤ 200) := by unfold ArgP; rw [if_neg (by omega), if_pos h10.2]
  rw [e]
  exact h7_ (eB_ fun _ => dL_ (in2 _ _ _)) ⟨fun h => ⟨by omega, h⟩, fun h => h.2⟩
 rw [aK_ h10, if_neg (by simp)]
 by_cases h21 : 21 ≤ k ∧ k ≤ 24
 ·rw [bl_ h21, if_pos rfl]
  have e : ArgP k n t = (n = 0 ∧ iX_ t) := by unfold ArgP; rw [if_neg (by omega), if_neg (by omega), if_pos h21.1]
  rw [e]
  exact h7_ (eB_ fun _ => dL_ (pE_ _ ht)) ⟨fun h => ⟨by omega, h⟩, fun h => h.2⟩
 rw [aK_ h21, if_neg (by simp)]
 by_cases hk : 1 ≤ k ∧ k ≤ 24
 ·rw [bl_ hk, if_pos rfl]
  have e : ArgP k n t = (n = 0 ∧ t = ⟨#[]⟩) := by unfold ArgP; rw [if_neg (by omega), if_neg (by omega), if_neg (by omega)]
  rw [e]
  exact h7_ (eB_ fun _ => iV_) ⟨fun h => ⟨hk, h⟩, fun h => h.2⟩
 ·rw [aK_ hk, if_neg (by simp), aK_ fun h => hk h.1]
theorem pJ_ (k : Int) : c7_ k = some (kidN k) := by
 refine gD_ k _ ?_
 unfold db_ kidN
 by_cases h1 : k = 18
 ·simp [h1]
 by_cases h2 : k = 19
 ·simp [h2]
 by_cases h3 : k = 20
 ·simp [h3]
 by_cases h4 : k = 21
 ·simp [h4]
 by_cases h5 : k = 22
 ·simp [h5]
 simp [h1, h2, h3, h4, h5]
inductive VP : DPattern → Prop
 | mk {p : DPattern} (h1 : NodeP p) (h2 : ∀ q ∈ p.Kids.l, VP q) : VP p
theorem VP.node {p : DPattern} (h : VP p) : NodeP p := by cases h with | mk h1 h2 => exact h1
theorem VP.kid {p q : DPattern} (h : VP p) (hq : q ∈ p.Kids.l) : VP q := by cases h with | mk h1 h2 => exact h2 q hq
theorem ku_ {α : Type} {l : List α} {i : Nat} (h : i < l.length) : l.drop i = l[i] :: l.drop (i + 1) := List.drop_eq_getElem_cons h
theorem valid1 : ∀ p, SmPt p → ∀ l : Int, l ≤ 60 → (VP p ∧ (nd p : Int) ≤ l → an_ p l = some (nd p : Int)) ∧ (¬ (VP p ∧ (nd p : Int) ≤ l) → an_ p l = some (-1)) := by
 refine dn_ fun p ih hs l hl => ?_
 suffices H : (VP p ∧ (nd p : Int) ≤ l → ba_ p l = some (nd p : Int)) ∧ (¬ (VP p ∧ (nd p : Int) ≤ l) → ba_ p l = some (-1)) from ⟨fun h => dF_ p l _ (H.1 h), fun h => dF_ p l _ (H.2 h)⟩
 have ht : p.Text.size ≤ 1048576 := by cases hs with | mk h1 h2 h3 => exact h1
 have hkl : p.Kids.l.length ≤ 1048576 := by cases hs with | mk h1 h2 h3 => exact h2
 have hnd := eA_ p
 unfold ba_
 by_cases hl1 : l < 1
 ·rw [if_pos (by simpa using hl1)]
  exact ⟨fun h => by omega, fun _ => rfl⟩
 rw [if_neg (by simpa using hl1), pC_ p ht, Option.bind_some]
 by_cases hn : NodeP p
 rotate_left
 ·rw [aK_ hn, if_pos (by simp)]
  exact ⟨fun h => absurd h.1.node hn, fun _ => rfl⟩
 rw [bl_ hn, if_neg (by simp)]
 have key : ∀ (m i : Nat), i + m = p.Kids.l.length → ∀ n : Int, 1 ≤ n → n ≤ l →
   ((∀ q ∈ p.Kids.l.drop i, VP q) ∧ n + (ndL (p.Kids.l.drop i) : Int) ≤ l → au_ (S := (Int × Int)) (R := (Int ⊕ Int)) (fun st1 => (if (decide (st1.2 < (p.Kids.l.length : Int))) = true then ((elt p.Kids st1.2).bind fun y3 => ((an_ y3 (w4 (l - st1.1))).bind fun y4 => (if (decide (y4 < 0)) = true then (some (.inr (.inr (-1)))) else (some (.inl ((w4 (st1.1 + y4)), (w4 (st1.2 + 1)))))))) else (some (.inr (.inl st1.1))))) (n, (i : Int)) = some (.inl (n + (ndL (p.Kids.l.drop i) : Int)))) ∧
   (¬ ((∀ q ∈ p.Kids.l.drop i, VP q) ∧ n + (ndL (p.Kids.l.drop i) : Int) ≤ l) → au_ (S := (Int × Int)) (R := (Int ⊕ Int)) (fun st1 => (if (decide (st1.2 < (p.Kids.l.length : Int))) = true then ((elt p.Kids st1.2).bind fun y3 => ((an_ y3 (w4 (l - st1.1))).bind fun y4 => (if (decide (y4 < 0)) = true then (some (.inr (.inr (-1)))) else (some (.inl ((w4 (st1.1 + y4)), (w4 (st1.2 + 1)))))))) else (some (.inr (.inl st1.1))))) (n, (i : Int)) = some (.inr (-1))) := by
  intro m
  induction m with
  | zero =>
   intro i hi n n1 n2
   have : i = p.Kids.l.length := by omega
   subst this
   simp only [List.drop_length, ndL]
   refine ⟨fun _ => ao_ ?_, fun h => absurd ⟨fun q hq => by simp at hq, by omega⟩ h⟩
   show (if (decide ((p.Kids.l.length : Int) < (p.Kids.l.length : Int))) = true then _ else _) = _
   rw [if_neg (by simp)]; simp
  | succ m ihm =>
   intro i hi n n1 n2
   have hlt : i < p.Kids.l.length := by omega
   have hd := ku_ hlt
   have hmem := List.getElem_mem hlt
   have hp := ie_ p.Kids.l[i]
   have ec : ((i + 1 : Nat) : Int) = (i : Int) + 1 := by simp
   obtain ⟨v1, v2⟩ := ih _ hmem (hs.kid hmem) (l - n) (by omega)
   rw [hd]; simp only [ndL]
   by_cases hv : VP p.Kids.l[i] ∧ (nd p.Kids.l[i] : Int) ≤ l - n
   ·have w := v1 hv
    have hstep : ((fun st1 => (if (decide (st1.2 < (p.Kids.l.length : Int))) = true then ((elt p.Kids st1.2).bind fun y3 => ((an_ y3 (w4 (l - st1.1))).bind fun y4 => (if (decide (y4 < 0)) = true then (some (.inr (.inr (-1)))) else (some (.inl ((w4 (st1.1 + y4)), (w4 (st1.2 + 1)))))))) else (some (.inr (.inl st1.1))))) : Int × Int → Option ((Int × Int) ⊕ (Int ⊕ Int))) (n, (i : Int)) = some (.inl (n + (nd p.Kids.l[i] : Int), (i : Int) + 1)) := by
     show (if (decide ((i : Int) < (p.Kids.l.length : Int))) = true then _ else _) = _
     rw [if_pos (by simpa using hlt), ct_ hlt, Option.bind_some]
     show ((an_ _ (w4 (l - n))).bind _) = _
     rw [dp_ (by omega) (by omega), w, Option.bind_some, if_neg (by simp)]
     show some (Sum.inl (w4 (n + (nd p.Kids.l[i] : Int)), w4 ((i : Int) + 1))) = _
     rw [dp_ (by omega) (by omega), dp_ (by omega) (by omega)]
    obtain ⟨k1, k2⟩ := ihm (i + 1) (by omega) (n + (nd p.Kids.l[i] : Int)) (by omega) (by omega)
    rw [ec] at k1 k2
    refine ⟨fun h => ?_, fun h => av_ hstep (k2 fun hh => h ⟨fun q hq => ?_, by omega⟩)⟩
    ·refine av_ hstep ((k1 ⟨fun q hq => h.1 q (List.mem_cons_of_mem _ hq), by omega⟩).trans ?_)
     congr 2; omega
    ·rcases List.mem_cons.1 hq with e | e
     ·rw [e]; exact hv.1
     ·exact hh.1 q e
   ·have w := v2 hv
    refine ⟨fun h => absurd ⟨h.1 _ (List.mem_cons_self ..), by omega⟩ hv, fun _ => ao_ ?_⟩
    show (if (decide ((i : Int) < (p.Kids.l.length : Int))) = true then _ else _) = _
    rw [if_pos (by simpa using hlt), ct_ hlt, Option.bind_some]
    show ((an_ _ (w4 (l - n))).bind _) = _
    rw [dp_ (by omega) (by omega), w]; rfl
 obtain ⟨k1, k2⟩ := key p.Kids.l.length 0 (by omega) 1 (by omega) (by omega)
 simp only [List.drop_zero] at k1 k2
 refine ⟨fun h => ?_, fun h => ?_⟩
 ·have k1 := k1 ⟨fun q hq => h.1.kid hq, by omega⟩
  have k1 : au_ (S := (Int × Int)) (R := (Int ⊕ Int)) (fun st1 => (if (decide (st1.2 < (p.Kids.l.length : Int))) = true then ((elt p.Kids st1.2).bind fun y3 => ((an_ y3 (w4 (l - st1.1))).bind fun y4 => (if (decide (y4 < 0)) = true then (some (.inr (.inr (-1)))) else (some (.inl ((w4 (st1.1 + y4)), (w4 (st1.2 + 1)))))))) else (some (.inr (.inl st1.1))))) (1, 0) = _ := k1
  rw [k1]
  show some (1 + (ndL p.Kids.l : Int)) = _
  congr 1; omega
 ·have k2 := k2 fun hh => h ⟨.mk hn hh.1, by omega⟩
  have k2 : au_ (S := (Int × Int)) (R := (Int ⊕ Int)) (fun st1 => (if (decide (st1.2 < (p.Kids.l.length : Int))) = true then ((elt p.Kids st1.2).bind fun y3 => ((an_ y3 (w4 (l - st1.1))).bind fun y4 => (if (decide (y4 < 0)) = true then (some (.inr (.inr (-1)))) else (some (.inl ((w4 (st1.1 + y4)), (w4 (st1.2 + 1)))))))) else (some (.inr (.inl st1.1))))) (1, 0) = _ := k2
  rw [k2]; rfl
theorem count2 : ∀ p, SmPt p → ∀ c : Int, 0 ≤ c → c ≤ 60 → (VP p ∧ c + (nd p : Int) ≤ 60 → aj_ p c = some (c + (nd p : Int))) ∧ (¬ (VP p ∧ c + (nd p : Int) ≤ 60) → aj_ p c = some 61) := by
 refine dn_ fun p ih hs c hc0 hc => ?_
 suffices H : (VP p ∧ c + (nd p : Int) ≤ 60 → aL_ p c = some (c + (nd p : Int))) ∧ (¬ (VP p ∧ c + (nd p : Int) ≤ 60) → aL_ p c = some 61) from ⟨fun h => cj_ p c _ (H.1 h), fun h => cj_ p c _ (H.2 h)⟩
 have ht : p.Text.size ≤ 1048576 := by cases hs with | mk h1 h2 h3 => exact h1
 have hkl : p.Kids.l.length ≤ 1048576 := by cases hs with | mk h1 h2 h3 => exact h2
 have hnd := eA_ p
 unfold aL_
 rw [dp_ (n := c + 1) (by omega) (by omega)]
 by_cases hl1 : 60 < c + 1
 ·rw [if_pos (by simpa using hl1)]
  exact ⟨fun h => by omega, fun _ => rfl⟩
 rw [if_neg (by simpa using hl1), arg2 _ _ _ ht, Option.bind_some]
 by_cases ha : (1 ≤ p.Kind ∧ p.Kind ≤ 24) ∧ ArgP p.Kind p.Num p.Text
 rotate_left
 ·rw [aK_ ha, if_pos (by simp)]
  exact ⟨fun h => absurd ⟨h.1.node.1, h.1.node.2.2⟩ ha, fun _ => rfl⟩
 rw [bl_ ha, if_neg (by simp), pJ_, Option.bind_some]
 by_cases hk : (p.Kids.l.length : Int) = kidN p.Kind
 rotate_left
 ·rw [if_pos (by simp [hk])]
  exact ⟨fun h => absurd h.1.node.2.1 hk, fun _ => rfl⟩
 rw [if_neg (by simp [hk])]
 have key : ∀ (m i : Nat), i + m = p.Kids.l.length → ∀ n : Int, 0 ≤ n → n ≤ 60 →
   ((∀ q ∈ p.Kids.l.drop i, VP q) ∧ n + (ndL (p.Kids.l.drop i) : Int) ≤ 60 → au_ (S := (Int × Int)) (R := Int) (fun st1 => (if (decide (st1.2 < (p.Kids.l.length : Int))) = true then ((elt p.Kids st1.2).bind fun y4 => ((aj_ y4 st1.1).bind fun y5 => (if (decide (60 < y5)) = true then (some (.inr y5)) else (some (.inl (y5, (w4 (st1.2 + 1)))))))) else (some (.inr st1.1)))) (n, (i : Int)) = some (n + (ndL (p.Kids.l.drop i) : Int))) ∧
   (¬ ((∀ q ∈ p.Kids.l.drop i, VP q) ∧ n + (ndL (p.Kids.l.drop i) : Int) ≤ 60) → au_ (S := (Int × Int)) (R := Int) (fun st1 => (if (decide (st1.2 < (p.Kids.l.length : Int))) = true then ((elt p.Kids st1.2).bind fun y4 => ((aj_ y4 st1.1).bind fun y5 => (if (decide (60 < y5)) = true then (some (.inr y5)) else (some (.inl (y5, (w4 (st1.2 + 1)))))))) else (some (.inr st1.1)))) (n, (i : Int)) = some 61) := by
  intro m
  induction m with
  | zero =>
   intro i hi n n1 n2
   have : i = p.Kids.l.length := by omega
   subst this
   simp only [List.drop_length, ndL]
   refine ⟨fun _ => ao_ ?_, fun h => absurd ⟨fun q hq => by simp at hq, by omega⟩ h⟩
   show (if (decide ((p.Kids.l.length : Int) < (p.Kids.l.length : Int))) = true then _ else _) = _
   rw [if_neg (by simp)]; simp
  | succ m ihm =>
   intro i hi n n1 n2
   have hlt : i < p.Kids.l.length := by omega
   have hd := ku_ hlt
   have hmem := List.getElem_mem hlt
   have hp := ie_ p.Kids.l[i]
   have ec : ((i + 1 : Nat) : Int) = (i : Int) + 1 := by simp
   obtain ⟨v1, v2⟩ := ih _ hmem (hs.kid hmem) n n1 n2
   rw [hd]; simp only [ndL]
   by_cases hv : VP p.Kids.l[i] ∧ n + (nd p.Kids.l[i] : Int) ≤ 60
   ·have w := v1 hv
    have hstep : ((fun st1 => (if (decide (st1.2 < (p.Kids.l.length : Int))) = true then ((elt p.Kids st1.2).bind fun y4 => ((aj_ y4 st1.1).bind fun y5 => (if (decide (60 < y5)) = true then (some (.inr y5)) else (some (.inl (y5, (w4 (st1.2 + 1)))))))) else (some (.inr st1.1)))) : Int × Int → Option ((Int × Int) ⊕ Int)) (n, (i : Int)) = some (.inl (n + (nd p.Kids.l[i] : Int), (i : Int) + 1)) := by
     show (if (decide ((i : Int) < (p.Kids.l.length : Int))) = true then _ else _) = _
     rw [if_pos (by simpa using hlt), ct_ hlt, Option.bind_some]
     show ((aj_ _ n).bind _) = _
     rw [w, Option.bind_some, if_neg (by simp; omega)]
     show some (Sum.inl (_, w4 ((i : Int) + 1))) = _
     rw [dp_ (by omega) (by omega)]
    obtain ⟨k1, k2⟩ := ihm (i + 1) (by omega) (n + (nd p.Kids.l[i] : Int)) (by omega) (by omega)
    rw [ec] at k1 k2
    refine ⟨fun h => ?_, fun h => av_ hstep (k2 fun hh => h ⟨fun q hq => ?_, by omega⟩)⟩
    ·refine av_ hstep ((k1 ⟨fun q hq => h.1 q (List.mem_cons_of_mem _ hq), by omega⟩).trans ?_)
     congr 1; omega
    ·rcases List.mem_cons.1 hq with e | e
     ·rw [e]; exact hv.1
     ·exact hh.1 q e
   ·have w := v2 hv
    refine ⟨fun h => absurd ⟨h.1 _ (List.mem_cons_self ..), by omega⟩ hv, fun _ => ao_ ?_⟩
    show (if (decide ((i : Int) < (p.Kids.l.length : Int))) = true then _ else _) = _
    rw [if_pos (by simpa using hlt), ct_ hlt, Option.bind_some]
    show ((aj_ _ n).bind _) = _
    rw [w]; rfl
 obtain ⟨k1, k2⟩ := key p.Kids.l.length 0 (by omega) (c + 1) (by omega) (by omega)
 simp only [List.drop_zero] at k1 k2
 refine ⟨fun h => ?_, fun h => ?_⟩
 ·have k1 := k1 ⟨fun q hq => h.1.kid hq, by omega⟩
  have k1 : au_ (S := (Int × Int)) (R := Int) (fun st1 => (if (decide (st1.2 < (p.Kids.l.length : Int))) = true then ((elt p.Kids st1.2).bind fun y4 => ((aj_ y4 st1.1).bind fun y5 => (if (decide (60 < y5)) = true then (some (.inr y5)) else (some (.inl (y5, (w4 (st1.2 + 1)))))))) else (some (.inr st1.1)))) (c + 1, 0) = _ := k1
  rw [k1]
  show some (c + 1 + (ndL p.Kids.l : Int)) = _
  congr 1; omega
 ·have k2 := k2 fun hh => h ⟨.mk ⟨ha.1, hk, ha.2⟩ hh.1, by omega⟩
  have k2 : au_ (S := (Int × Int)) (R := Int) (fun st1 => (if (decide (st1.2 < (p.Kids.l.length : Int))) = true then ((elt p.Kids st1.2).bind fun y4 => ((aj_ y4 st1.1).bind fun y5 => (if (decide (60 < y5)) = true then (some (.inr y5)) else (some (.inl (y5, (w4 (st1.2 + 1)))))))) else (some (.inr st1.1)))) (c + 1, 0) = _ := k2
  rw [k2]; rfl
def VPat (p : DPattern) : Prop := VP p ∧ (nd p : Int) ≤ 60
theorem n6_ (p : DPattern) (h : SmPt p) : a2_ p = some (says (VPat p)) := by
 refine d1_ p _ ?_
 unfold bt_
 obtain ⟨v1, v2⟩ := count2 p h 0 (by omega) (by omega)
 simp only [Int.zero_add] at v1 v2
 by_cases hv : VPat p
 ·rw [v1 hv, bl_ hv]; simp [hv.2]
 ·rw [v2 hv, aK_ hv]; rfl
end Go.Am
end
