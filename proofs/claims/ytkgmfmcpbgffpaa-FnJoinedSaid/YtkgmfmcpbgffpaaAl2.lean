/- The law. -/
import Derived.Test.YtkgmfmcpbgffpaaAg0
import Derived.Test.YtkgmfmcpbgffpaaAg2
import Derived.Test.YtkgmfmcpbgffpaaAg3
import Derived.Test.YtkgmfmcpbgffpaaAg4
import Derived.Test.YtkgmfmcpbgffpaaAl1
section
set_option maxRecDepth 100000
set_option maxHeartbeats 1000000
set_option linter.unusedVariables false
set_option linter.unusedSimpArgs false
namespace Go.Am
def LetP (x : Int) : Prop := (65 ≤ x ∧ x ≤ 90) ∨ (97 ≤ x ∧ x ≤ 122)
def DigP (x : Int) : Prop := 48 ≤ x ∧ x ≤ 57
def NbP (x : Int) : Prop := LetP x ∨ DigP x ∨ x = 95
def hn_ (s : ByteArray) : Prop := 1 ≤ s.size ∧ s.size ≤ 12 ∧ LetP (bAt s 0) ∧ ∀ i : Nat, i < s.size → NbP (bAt s i)
theorem letB (x : Int) : (if (decide (65 ≤ x)) = true then (if (decide (x ≤ 90)) = true then (some true) else (if (decide (97 ≤ x)) = true then (some (decide (x ≤ 122))) else (some false))) else (if (decide (97 ≤ x)) = true then (some (decide (x ≤ 122))) else (some false))) = some (says (LetP x)) := by
 unfold LetP
 by_cases h1 : 65 ≤ x <;> by_cases h2 : x ≤ 90 <;> by_cases h3 : 97 ≤ x <;> by_cases h4 : x ≤ 122 <;> simp [h1, h2, h3, h4, says]
theorem mg_ (x : Int) : cp_ x = some (says (LetP x)) := hU_ x _ (letB x)
theorem ou_ (x : Int) : dh_ x = some (says (LetP x)) := iG_ x _ (letB x)
theorem digB (x : Int) : (if (decide (48 ≤ x)) = true then (some (decide (x ≤ 57))) else (some false)) = some (says (DigP x)) := by
 unfold DigP
 by_cases h1 : 48 ≤ x <;> by_cases h2 : x ≤ 57 <;> simp [h1, h2, says]
theorem qO_ (x : Int) : di_ x = some (says (DigP x)) := im_ x _ (digB x)
theorem sC_ (x : Int) : eX_ x = some (says (DigP x)) := jc_ x _ (digB x)
theorem nK_ (x : Int) : dD_ x = some (says (NbP x)) := by
 refine hu_ x _ ?_
 unfold dG_
 exact mE_ (ou_ x) fun _ => mE_ (sC_ x) fun _ => nl_
theorem bP_ {s : ByteArray} {i : Nat} (h : i < s.size) : aP_ s (i : Int) = some (bAt s (i : Int)) := by
 unfold aP_; rw [if_pos ⟨by omega, by omega⟩]
theorem ve_ (s : ByteArray) (hs : s.size ≤ 1048576) : fD_ s = some (says (hn_ s)) := by
 refine ky_ s _ ?_
 unfold fu_
 have hm := maxLen_eq
 by_cases h0 : s = (⟨#[]⟩ : ByteArray)
 ·subst h0
  rw [if_neg (by simp), aZ_]
  intro w; have := w.1; exact absurd this (by decide)
 ·have hpos : 1 ≤ s.size := by
   refine Nat.pos_of_ne_zero fun e => h0 ?_
   obtain ⟨⟨l⟩⟩ := s
   have e : l.length = 0 := e
   rw [List.length_eq_zero_iff] at e; subst e; rfl
  rw [if_pos (by simp [h0])]
  by_cases h12 : s.size ≤ 12
  ·rw [if_pos (by simp; omega)]
   have key : ∃ r : Int, dw_ s 0 = some r ∧ (r = (s.size : Int) ↔ hn_ s) := by
    suffices h : ∃ r : Int, cI_ s 0 = some r ∧ (r = (s.size : Int) ↔ hn_ s) by
     obtain ⟨r, h1, h2⟩ := h; exact ⟨r, hw_ s 0 r h1, h2⟩
    unfold cI_
    rw [if_neg (by rw [decide_eq_true_eq]; omega)]
    have b0 : aP_ s 0 = some (bAt s 0) := bP_ (i := 0) hpos
    rw [b0, Option.bind_some, mg_, Option.bind_some]
    by_cases hl : LetP (bAt s 0)
    ·rw [bs_ hl, if_neg (by simp)]
     obtain ⟨r, r1, r2, r3⟩ := oE_ (n := s.size) (p := fun i => NbP (bAt s i)) (bd := fun st1 => ((aP_ s st1).bind fun y4 => ((cp_ y4).bind fun y5 => (if y5 = true then (some (.inl (w4 (st1 + 1)))) else ((aP_ s st1).bind fun y6 => ((di_ y6).bind fun y7 => (if y7 = true then (some (.inl (w4 (st1 + 1)))) else ((aP_ s st1).bind fun y8 => (if (decide (y8 = 95)) = true then (some (.inl (w4 (st1 + 1)))) else (some (.inr st1)))))))))))
      (by omega) (fun i hi hp => by
       simp only [bP_ hi, Option.bind_some, mg_, qO_]
       by_cases c1 : LetP (bAt s i)
       ·rw [bs_ c1, if_pos rfl]
       ·rw [aZ_ c1, if_neg (by simp)]
        by_cases c2 : DigP (bAt s i)
        ·rw [bs_ c2, if_pos rfl]
        ·rw [aZ_ c2, if_neg (by simp)]
         have := (hp.resolve_left c1).resolve_left c2
         rw [if_pos (by simp [this])]) (fun i hi hp => by
       simp only [bP_ hi, Option.bind_some, mg_, qO_]
       rw [aZ_ fun c => hp (.inl c), if_neg (by simp), aZ_ fun c => hp (.inr (.inl c)), if_neg (by simp), if_neg (by simp; exact fun c => hp (.inr (.inr c)))])
     refine ⟨r, by rw [r2]; rfl, ?_⟩
     constructor
     ·intro e; exact ⟨hpos, h12, hl, r3.1 (Int.ofNat.inj e)⟩
     ·intro w; rw [r3.2 w.2.2.2]
    ·rw [aZ_ hl, if_pos (by simp)]
     exact ⟨0, rfl, ⟨fun e => by have e : (0 : Int) = (s.size : Int) := e; omega, fun w => absurd w.2.2.1 hl⟩⟩
   obtain ⟨r, q1, q2⟩ := key
   rw [q1, Option.bind_some]
   by_cases hr : r = (s.size : Int)
   ·rw [bs_ (q2.1 hr)]; simp [hr]
   ·rw [aZ_ fun w => hr (q2.2 w)]; simp [hr]
  ·rw [if_neg (by simp; omega), aZ_ fun w => h12 w.2.1]
theorem sN_ (s : ByteArray) (hs : s.size ≤ 1048576) : ea_ s = some (says (hn_ s)) := by
 refine kq_ s _ ?_
 unfold fz_
 have hm := maxLen_eq
 refine lm_ (p := (1 ≤ (s.size : Int)) ∧ ((s.size : Int) ≤ 12) ∧ LetP (bAt s 0) ∧ ∀ x ∈ (s.data.toList.map fun b => (⟨b.toNat⟩ : Iv .u8)), NbP x.v) (ho_ fun h1 => ho_ fun h2 => ?_) ?_
 ·have b0 : aP_ s 0 = some (bAt s 0) := bP_ (i := 0) (by omega)
  rw [b0, Option.bind_some]
  refine ms_ (ou_ _) fun _ => ?_
  have hb : ls_ s = some ⟨false, s.data.toList.map fun b => ⟨b.toNat⟩⟩ := by unfold ls_; rw [if_pos (by omega)]
  rw [hb, Option.bind_some]
  refine ff_ (he_ _ _ _ ?_)
  unfold dd_
  refine Eq.trans (if_pos rfl) ?_
  refine kT_ (a := (⟨false, s.data.toList.map fun b => ⟨b.toNat⟩⟩ : Sl (Iv .u8))) (p := fun x : Iv .u8 => NbP x.v) ?_ fun i x hx he => ?_
  ·have : s.data.toList.length = s.size := by rw [Array.length_toList]; rfl
   simp only [List.length_map]; omega
  ·rw [he, Option.bind_some]
   have e : g5_ Go.Proofs.Try.prog md ext E_bool (T.fn 171 [] []) [.int .u8 x.v] = dD_ x.v := rfl
   rw [e, nK_, Option.bind_some]
   exact ⟨fun h => by rw [bs_ h, if_neg (by simp)], fun h => by rw [aZ_ h, if_pos (by simp)]⟩
 ·have hlen : s.data.toList.length = s.size := by rw [Array.length_toList]; rfl
  have hat : ∀ i : Nat, (h : i < s.size) → ((s.data.toList[i]'(by omega)).toNat : Int) = bAt s (i : Int) := fun i h => by
   unfold bAt; rw [dif_pos (by simpa using h)]; rfl
  refine ⟨fun w => ⟨by omega, by omega, w.2.2.1, fun i hi => ?_⟩, fun w => ⟨by have := w.1; omega, by have := w.2.1; omega, w.2.2.1, fun x hx => ?_⟩⟩
  ·rw [← hat i hi]
   exact w.2.2.2 ⟨(s.data.toList[i]'(by omega)).toNat⟩ (List.mem_map.2 ⟨_, List.getElem_mem (by omega), rfl⟩)
  ·obtain ⟨b, hb, rfl⟩ := List.mem_map.1 hx
   obtain ⟨i, hi, rfl⟩ := List.getElem_of_mem hb
   have := w.2.2.2 i (by omega)
   rw [← hat i (by omega)] at this; exact this
theorem in1 (a b c : Int) : c2_ a b c = some (says (b ≤ a ∧ a ≤ c)) := by
 refine k4_ a b c _ ?_
 unfold fT_
 exact ho_ fun _ => nl_
theorem in2 (a b c : Int) : b3_ a b c = some (says (b ≤ a ∧ a ≤ c)) := by
 refine ke_ a b c _ ?_
 unfold fE_
 exact ho_ fun _ => nl_
theorem fw_s : az_ (S := (Int × ByteArray × Int)) (R := (Int × ByteArray)) (fun st1 => (if (decide (st1.2.2 < ((⟨#[115]⟩ : ByteArray).size : Int))) = true then ((aP_ (⟨#[115]⟩ : ByteArray) st1.2.2).bind fun y3 => (if (decide (y3 = 112)) = true then (some (.inl ((w4 (st1.1 + 1)), st1.2.1, (w4 (st1.2.2 + 1))))) else ((subB (⟨#[115]⟩ : ByteArray) st1.2.2 (w4 (st1.2.2 + 1))).bind fun y4 => ((catB st1.2.1 y4).bind fun y5 => (some (.inl (st1.1, y5, (w4 (st1.2.2 + 1))))))))) else (some (.inr (st1.1, st1.2.1))))) (0, ⟨#[]⟩, 0) = some (0, ⟨#[115]⟩) := au_ (s' := ((0 : Int), (⟨#[115]⟩ : ByteArray), (1 : Int))) (by rfl) (aj_ (by rfl))
theorem fw_n : az_ (S := (Int × ByteArray × Int)) (R := (Int × ByteArray)) (fun st1 => (if (decide (st1.2.2 < ((⟨#[110]⟩ : ByteArray).size : Int))) = true then ((aP_ (⟨#[110]⟩ : ByteArray) st1.2.2).bind fun y3 => (if (decide (y3 = 112)) = true then (some (.inl ((w4 (st1.1 + 1)), st1.2.1, (w4 (st1.2.2 + 1))))) else ((subB (⟨#[110]⟩ : ByteArray) st1.2.2 (w4 (st1.2.2 + 1))).bind fun y4 => ((catB st1.2.1 y4).bind fun y5 => (some (.inl (st1.1, y5, (w4 (st1.2.2 + 1))))))))) else (some (.inr (st1.1, st1.2.1))))) (0, ⟨#[]⟩, 0) = some (0, ⟨#[110]⟩) := au_ (s' := ((0 : Int), (⟨#[110]⟩ : ByteArray), (1 : Int))) (by rfl) (aj_ (by rfl))
theorem fw_e : az_ (S := (Int × ByteArray × Int)) (R := (Int × ByteArray)) (fun st1 => (if (decide (st1.2.2 < ((⟨#[]⟩ : ByteArray).size : Int))) = true then ((aP_ (⟨#[]⟩ : ByteArray) st1.2.2).bind fun y3 => (if (decide (y3 = 112)) = true then (some (.inl ((w4 (st1.1 + 1)), st1.2.1, (w4 (st1.2.2 + 1))))) else ((subB (⟨#[]⟩ : ByteArray) st1.2.2 (w4 (st1.2.2 + 1))).bind fun y4 => ((catB st1.2.1 y4).bind fun y5 => (some (.inl (st1.1, y5, (w4 (st1.2.2 + 1))))))))) else (some (.inr (st1.1, st1.2.1))))) (0, ⟨#[]⟩, 0) = some (0, ⟨#[]⟩) := aj_ (by rfl)
theorem fw_pp : az_ (S := (Int × ByteArray × Int)) (R := (Int × ByteArray)) (fun st1 => (if (decide (st1.2.2 < ((⟨#[112, 112]⟩ : ByteArray).size : Int))) = true then ((aP_ (⟨#[112, 112]⟩ : ByteArray) st1.2.2).bind fun y3 => (if (decide (y3 = 112)) = true then (some (.inl ((w4 (st1.1 + 1)), st1.2.1, (w4 (st1.2.2 + 1))))) else ((subB (⟨#[112, 112]⟩ : ByteArray) st1.2.2 (w4 (st1.2.2 + 1))).bind fun y4 => ((catB st1.2.1 y4).bind fun y5 => (some (.inl (st1.1, y5, (w4 (st1.2.2 + 1))))))))) else (some (.inr (st1.1, st1.2.1))))) (0, ⟨#[]⟩, 0) = some (2, ⟨#[]⟩) := au_ (s' := ((1 : Int), (⟨#[]⟩ : ByteArray), (1 : Int))) (by rfl) (au_ (s' := ((2 : Int), (⟨#[]⟩ : ByteArray), (2 : Int))) (by rfl) (aj_ (by rfl)))
theorem fw_p : az_ (S := (Int × ByteArray × Int)) (R := (Int × ByteArray)) (fun st1 => (if (decide (st1.2.2 < ((⟨#[112]⟩ : ByteArray).size : Int))) = true then ((aP_ (⟨#[112]⟩ : ByteArray) st1.2.2).bind fun y3 => (if (decide (y3 = 112)) = true then (some (.inl ((w4 (st1.1 + 1)), st1.2.1, (w4 (st1.2.2 + 1))))) else ((subB (⟨#[112]⟩ : ByteArray) st1.2.2 (w4 (st1.2.2 + 1))).bind fun y4 => ((catB st1.2.1 y4).bind fun y5 => (some (.inl (st1.1, y5, (w4 (st1.2.2 + 1))))))))) else (some (.inr (st1.1, st1.2.1))))) (0, ⟨#[]⟩, 0) = some (1, ⟨#[]⟩) := au_ (s' := ((1 : Int), (⟨#[]⟩ : ByteArray), (1 : Int))) (by rfl) (aj_ (by rfl))
theorem fw_px : az_ (S := (Int × ByteArray × Int)) (R := (Int × ByteArray)) (fun st1 => (if (decide (st1.2.2 < ((⟨#[112, 120]⟩ : ByteArray).size : Int))) = true then ((aP_ (⟨#[112, 120]⟩ : ByteArray) st1.2.2).bind fun y3 => (if (decide (y3 = 112)) = true then (some (.inl ((w4 (st1.1 + 1)), st1.2.1, (w4 (st1.2.2 + 1))))) else ((subB (⟨#[112, 120]⟩ : ByteArray) st1.2.2 (w4 (st1.2.2 + 1))).bind fun y4 => ((catB st1.2.1 y4).bind fun y5 => (some (.inl (st1.1, y5, (w4 (st1.2.2 + 1))))))))) else (some (.inr (st1.1, st1.2.1))))) (0, ⟨#[]⟩, 0) = some (1, ⟨#[120]⟩) := au_ (s' := ((1 : Int), (⟨#[]⟩ : ByteArray), (1 : Int))) (by rfl) (au_ (s' := ((1 : Int), (⟨#[120]⟩ : ByteArray), (2 : Int))) (by rfl) (aj_ (by rfl)))
theorem fw_x : az_ (S := (Int × ByteArray × Int)) (R := (Int × ByteArray)) (fun st1 => (if (decide (st1.2.2 < ((⟨#[120]⟩ : ByteArray).size : Int))) = true then ((aP_ (⟨#[120]⟩ : ByteArray) st1.2.2).bind fun y3 => (if (decide (y3 = 112)) = true then (some (.inl ((w4 (st1.1 + 1)), st1.2.1, (w4 (st1.2.2 + 1))))) else ((subB (⟨#[120]⟩ : ByteArray) st1.2.2 (w4 (st1.2.2 + 1))).bind fun y4 => ((catB st1.2.1 y4).bind fun y5 => (some (.inl (st1.1, y5, (w4 (st1.2.2 + 1))))))))) else (some (.inr (st1.1, st1.2.1))))) (0, ⟨#[]⟩, 0) = some (0, ⟨#[120]⟩) := au_ (s' := ((0 : Int), (⟨#[120]⟩ : ByteArray), (1 : Int))) (by rfl) (aj_ (by rfl))
def kidN (k : Int) : Int := if k = 18 ∨ k = 19 then 2 else if k = 20 ∨ k = 21 ∨ k = 22 then 1 else 0
def argW (k : Int) : ByteArray := if k ≤ 5 then ⟨#[115]⟩ else if k ≤ 10 then ⟨#[110]⟩ else if 21 ≤ k then ⟨#[120]⟩ else ⟨#[]⟩
def ArgP (k n : Int) (t : ByteArray) : Prop := if k ≤ 5 then (n = 0 ∧ (t.size : Int) ≤ 200 ∧ (k = 1 ∨ t ≠ ⟨#[]⟩)) else if k ≤ 10 then (t = ⟨#[]⟩ ∧ 0 ≤ n ∧ n ≤ 200) else if 21 ≤ k then (n = 0 ∧ hn_ t) else (n = 0 ∧ t = ⟨#[]⟩)
def NodeP (p : DPattern) : Prop := (1 ≤ p.Kind ∧ p.Kind ≤ 24) ∧ (p.Kids.l.length : Int) = kidN p.Kind ∧ ArgP p.Kind p.Num p.Text
theorem ej_ {k : Int} {w1 w r : ByteArray} {n : Int} (hk : k ≠ 1) (hw : eU_ k = some (w1, w)) (hl : az_ (S := (Int × ByteArray × Int)) (R := (Int × ByteArray)) (fun st1 => (if (decide (st1.2.2 < (w.size : Int))) = true then ((aP_ w st1.2.2).bind fun y3 => (if (decide (y3 = 112)) = true then (some (.inl ((w4 (st1.1 + 1)), st1.2.1, (w4 (st1.2.2 + 1))))) else ((subB w st1.2.2 (w4 (st1.2.2 + 1))).bind fun y4 => ((catB st1.2.1 y4).bind fun y5 => (some (.inl (st1.1, y5, (w4 (st1.2.2 + 1))))))))) else (some (.inr (st1.1, st1.2.1))))) (0, ⟨#[]⟩, 0) = some (n, r)) : cr_ k = some (n, r) := by
 refine gy_ k _ ?_
 unfold e3_
 rw [if_neg (by simpa using hk), i9_ k _ hw, Option.bind_some, hl]; rfl
theorem ry_ {k : Int} (h : 1 ≤ k ∧ k ≤ 24) : cr_ k = some (kidN k, argW k) := by
 by_cases h1 : k = 1
 ·subst h1; exact gy_ 1 _ rfl
 have : k = 2 ∨ k = 3 ∨ k = 4 ∨ k = 5 ∨ k = 6 ∨ k = 7 ∨ k = 8 ∨ k = 9 ∨ k = 10 ∨ k = 11 ∨ k = 12 ∨ k = 13 ∨ k = 14 ∨ k = 15 ∨ k = 16 ∨ k = 17 ∨ k = 18 ∨ k = 19 ∨ k = 20 ∨ k = 21 ∨ k = 22 ∨ k = 23 ∨ k = 24 := by omega
 rcases this with rfl | rfl | rfl | rfl | rfl | rfl | rfl | rfl | rfl | rfl | rfl | rfl | rfl | rfl | rfl | rfl | rfl | rfl | rfl | rfl | rfl | rfl | rfl
 ·exact ej_ h1 rfl fw_s
 ·exact ej_ h1 rfl fw_s
 ·exact ej_ h1 rfl fw_s
 ·exact ej_ h1 rfl fw_s
 ·exact ej_ h1 rfl fw_n
 ·exact ej_ h1 rfl fw_n
 ·exact ej_ h1 rfl fw_n
 ·exact ej_ h1 rfl fw_n
 ·exact ej_ h1 rfl fw_n
 ·exact ej_ h1 rfl fw_e
 ·exact ej_ h1 rfl fw_e
 ·exact ej_ h1 rfl fw_e
 ·exact ej_ h1 rfl fw_e
 ·exact ej_ h1 rfl fw_e
 ·exact ej_ h1 rfl fw_e
 ·exact ej_ h1 rfl fw_e
 ·exact ej_ h1 rfl fw_pp
 ·exact ej_ h1 rfl fw_pp
 ·exact ej_ h1 rfl fw_p
 ·exact ej_ h1 rfl fw_px
 ·exact ej_ h1 rfl fw_px
 ·exact ej_ h1 rfl fw_x
 ·exact ej_ h1 rfl fw_x
theorem vU_ (p : DPattern) (ht : p.Text.size ≤ 1048576) : e4_ p = some (says (NodeP p)) := by
 refine jb_ p _ ?_
 unfold e5_
 rw [in1, Option.bind_some]
 by_cases hk : 1 ≤ p.Kind ∧ p.Kind ≤ 24
 ·rw [bs_ hk, if_neg (by simp), ry_ hk, Option.bind_some]
  show (if (!decide ((p.Kids.l.length : Int) = kidN p.Kind)) = true then _ else _) = _
  by_cases hl : (p.Kids.l.length : Int) = kidN p.Kind
  ·rw [if_neg (by simp [hl])]
   refine lm_ (p := ArgP p.Kind p.Num p.Text) ?_ ⟨fun h => ⟨hk, hl, h⟩, fun h => h.2.2⟩
   unfold argW ArgP
   by_cases h5 : p.Kind ≤ 5
   ·simp only [if_pos h5, decide_true, if_true]
    refine ho_ fun _ => ho_ fun _ => ?_
    by_cases h1 : p.Kind = 1
    ·simp [h1, says]
    ·by_cases hz : p.Text = ⟨#[]⟩ <;> simp [h1, hz, says]
   ·by_cases h10 : p.Kind ≤ 10
    ·simp only [if_neg h5, if_pos h10]
     rw [if_neg (by decide), if_pos (by decide)]
     refine ho_ fun _ => ff_ (in1 _ _ _)
    ·by_cases h21 : 21 ≤ p.Kind
     ·simp only [if_neg h5, if_neg h10, if_pos h21]
      rw [if_neg (by decide), if_neg (by decide), if_pos (by decide)]
      exact ho_ fun _ => ff_ (ve_ _ ht)
     ·simp only [if_neg h5, if_neg h10, if_neg h21]
      rw [if_neg (by decide), if_neg (by decide), if_neg (by decide)]
      exact ho_ fun _ => nl_
  ·rw [if_pos (by simp [hl]), aZ_ (fun h => hl h.2.1)]
 ·rw [aZ_ hk, if_pos (by simp), aZ_ (fun h => hk h.1)]
theorem om_ (t : ByteArray) : a9_ t = some (says ((t.size : Int) ≤ 200)) := by
 refine gu_ t _ ?_
 unfold dI_
 exact nl_
theorem vW_ (k : Int) : fB_ k = some (says (2 ≤ k ∧ k ≤ 5)) := by
 refine jP_ k _ ?_
 unfold fA_
 exact ff_ (in2 _ _ _)
theorem vC_ (k : Int) : d0_ k = some (says (6 ≤ k ∧ k ≤ 10)) := by
 refine hY_ k _ ?_
 unfold dU_
 exact ff_ (in2 _ _ _)
theorem vw_ (k : Int) : eS_ k = some (says (21 ≤ k ∧ k ≤ 24)) := by
 refine i7_ k _ ?_
 unfold eY_
 exact ff_ (in2 _ _ _)
theorem vK_ (k : Int) : cM_ k = some (says (1 ≤ k ∧ k ≤ 24)) := by
 refine gn_ k _ ?_
 unfold cO_
 exact ff_ (in2 _ _ _)
theorem arg2 (k n : Int) (t : ByteArray) (ht : t.size ≤ 1048576) : du_ k n t = some (says ((1 ≤ k ∧ k ≤ 24) ∧ ArgP k n t)) := by
 refine hz_ k n t _ ?_
 unfold dt_
 rw [vW_, Option.bind_some, vC_, Option.bind_some, vw_, Option.bind_some, vK_, Option.bind_some]
 by_cases h1 : k = 1
 ·subst h1
  rw [if_pos (by decide)]
  refine lm_ (ho_ (c := n = 0) fun _ => ff_ (om_ t)) ?_
  unfold ArgP
  rw [if_pos (by decide)]
  exact ⟨fun h => ⟨by decide, h.1, h.2, .inl rfl⟩, fun h => ⟨h.2.1, h.2.2.1⟩⟩
 rw [if_neg (by simpa using h1)]
 by_cases h5 : 2 ≤ k ∧ k ≤ 5
 ·rw [bs_ h5, if_pos rfl]
  have e : ArgP k n t = (n = 0 ∧ (t.size : Int) ≤ 200 ∧ (k = 1 ∨ t ≠ ⟨#[]⟩)) := by unfold ArgP; rw [if_pos h5.2]
  rw [e]
  by_cases hn : n = 0
  ·rw [if_pos (by simpa using hn)]
   by_cases hz : t = ⟨#[]⟩
   ·rw [if_neg (by simp [hz]), aZ_]
    rintro ⟨_, _, _, h | h⟩
    ·exact h1 h
    ·exact h hz
   ·rw [if_pos (by simp [hz])]
    refine lm_ (ff_ (om_ t)) ⟨fun h => ⟨by omega, hn, h, .inr hz⟩, fun h => h.2.2.1⟩
  ·rw [if_neg (by simpa using hn), aZ_ fun h => hn h.2.1]
 rw [aZ_ h5, if_neg (by simp)]
 by_cases h10 : 6 ≤ k ∧ k ≤ 10
 ·rw [bs_ h10, if_pos rfl]
  have e : ArgP k n t = (t = ⟨#[]⟩ ∧ 0 ≤ n ∧ n ≤ 200) := by unfold ArgP; rw [if_neg (by omega), if_pos h10.2]
  rw [e]
  exact lm_ (ho_ fun _ => ff_ (in2 _ _ _)) ⟨fun h => ⟨by omega, h⟩, fun h => h.2⟩
 rw [aZ_ h10, if_neg (by simp)]
 by_cases h21 : 21 ≤ k ∧ k ≤ 24
 ·rw [bs_ h21, if_pos rfl]
  have e : ArgP k n t = (n = 0 ∧ hn_ t) := by unfold ArgP; rw [if_neg (by omega), if_neg (by omega), if_pos h21.1]
  rw [e]
  exact lm_ (ho_ fun _ => ff_ (sN_ _ ht)) ⟨fun h => ⟨by omega, h⟩, fun h => h.2⟩
 rw [aZ_ h21, if_neg (by simp)]
 by_cases hk : 1 ≤ k ∧ k ≤ 24
 ·rw [bs_ hk, if_pos rfl]
  have e : ArgP k n t = (n = 0 ∧ t = ⟨#[]⟩) := by unfold ArgP; rw [if_neg (by omega), if_neg (by omega), if_neg (by omega)]
  rw [e]
  exact lm_ (ho_ fun _ => nl_) ⟨fun h => ⟨hk, h⟩, fun h => h.2⟩
 ·rw [aZ_ hk, if_neg (by simp), aZ_ fun h => hk h.1]
theorem vo_ (k : Int) : fv_ k = some (kidN k) := by
 refine ka_ k _ ?_
 unfold fK_ kidN
 by_cases h1 : k = 18
 ·simp [h1]
 by_cases h2 : k = 19
 ·simp [h2]
 by_cases h3 : k = 20
 ·simp [h3]
 by_cases h4 : k = 21
 ·simp [h4]
 by_cases h5 : k = 22
 ·simp [h5]
 simp [h1, h2, h3, h4, h5]
inductive VP : DPattern → Prop
 | mk {p : DPattern} (h1 : NodeP p) (h2 : ∀ q ∈ p.Kids.l, VP q) : VP p
theorem VP.node {p : DPattern} (h : VP p) : NodeP p := by cases h with | mk h1 h2 => exact h1
theorem VP.kid {p q : DPattern} (h : VP p) (hq : q ∈ p.Kids.l) : VP q := by cases h with | mk h1 h2 => exact h2 q hq
theorem mf_ {α : Type} {l : List α} {i : Nat} (h : i < l.length) : l.drop i = l[i] :: l.drop (i + 1) := List.drop_eq_getElem_cons h
theorem valid1 : ∀ p, SmPt p → ∀ l : Int, l ≤ 60 → (VP p ∧ (nd p : Int) ≤ l → aV_ p l = some (nd p : Int)) ∧ (¬ (VP p ∧ (nd p : Int) ≤ l) → aV_ p l = some (-1)) := by
 refine eL_ fun p ih hs l hl => ?_
 suffices H : (VP p ∧ (nd p : Int) ≤ l → cE_ p l = some (nd p : Int)) ∧ (¬ (VP p ∧ (nd p : Int) ≤ l) → cE_ p l = some (-1)) from ⟨fun h => f0_ p l _ (H.1 h), fun h => f0_ p l _ (H.2 h)⟩
 have ht : p.Text.size ≤ 1048576 := by cases hs with | mk h1 h2 h3 => exact h1
 have hkl : p.Kids.l.length ≤ 1048576 := by cases hs with | mk h1 h2 h3 => exact h2
 have hnd := go_ p
 unfold cE_
 by_cases hl1 : l < 1
 ·rw [if_pos (by simpa using hl1)]
  exact ⟨fun h => by omega, fun _ => rfl⟩
 rw [if_neg (by simpa using hl1), vU_ p ht, Option.bind_some]
 by_cases hn : NodeP p
 rotate_left
 ·rw [aZ_ hn, if_pos (by simp)]
  exact ⟨fun h => absurd h.1.node hn, fun _ => rfl⟩
 rw [bs_ hn, if_neg (by simp)]
 have key : ∀ (m i : Nat), i + m = p.Kids.l.length → ∀ n : Int, 1 ≤ n → n ≤ l →
   ((∀ q ∈ p.Kids.l.drop i, VP q) ∧ n + (ndL (p.Kids.l.drop i) : Int) ≤ l → az_ (S := (Int × Int)) (R := (Int ⊕ Int)) (fun st1 => (if (decide (st1.2 < (p.Kids.l.length : Int))) = true then ((elt p.Kids st1.2).bind fun y3 => ((aV_ y3 (w4 (l - st1.1))).bind fun y4 => (if (decide (y4 < 0)) = true then (some (.inr (.inr (-1)))) else (some (.inl ((w4 (st1.1 + y4)), (w4 (st1.2 + 1)))))))) else (some (.inr (.inl st1.1))))) (n, (i : Int)) = some (.inl (n + (ndL (p.Kids.l.drop i) : Int)))) ∧
   (¬ ((∀ q ∈ p.Kids.l.drop i, VP q) ∧ n + (ndL (p.Kids.l.drop i) : Int) ≤ l) → az_ (S := (Int × Int)) (R := (Int ⊕ Int)) (fun st1 => (if (decide (st1.2 < (p.Kids.l.length : Int))) = true then ((elt p.Kids st1.2).bind fun y3 => ((aV_ y3 (w4 (l - st1.1))).bind fun y4 => (if (decide (y4 < 0)) = true then (some (.inr (.inr (-1)))) else (some (.inl ((w4 (st1.1 + y4)), (w4 (st1.2 + 1)))))))) else (some (.inr (.inl st1.1))))) (n, (i : Int)) = some (.inr (-1))) := by
  intro m
  induction m with
  | zero =>
   intro i hi n n1 n2
   have : i = p.Kids.l.length := by omega
   subst this
   simp only [List.drop_length, ndL]
   refine ⟨fun _ => aj_ ?_, fun h => absurd ⟨fun q hq => by simp at hq, by omega⟩ h⟩
   show (if (decide ((p.Kids.l.length : Int) < (p.Kids.l.length : Int))) = true then _ else _) = _
   rw [if_neg (by simp)]; simp
  | succ m ihm =>
   intro i hi n n1 n2
   have hlt : i < p.Kids.l.length := by omega
   have hd := mf_ hlt
   have hmem := List.getElem_mem hlt
   have hp := g0_ p.Kids.l[i]
   have ec : ((i + 1 : Nat) : Int) = (i : Int) + 1 := by simp
   obtain ⟨v1, v2⟩ := ih _ hmem (hs.kid hmem) (l - n) (by omega)
   rw [hd]; simp only [ndL]
   by_cases hv : VP p.Kids.l[i] ∧ (nd p.Kids.l[i] : Int) ≤ l - n
   ·have w := v1 hv
    have hstep : ((fun st1 => (if (decide (st1.2 < (p.Kids.l.length : Int))) = true then ((elt p.Kids st1.2).bind fun y3 => ((aV_ y3 (w4 (l - st1.1))).bind fun y4 => (if (decide (y4 < 0)) = true then (some (.inr (.inr (-1)))) else (some (.inl ((w4 (st1.1 + y4)), (w4 (st1.2 + 1)))))))) else (some (.inr (.inl st1.1))))) : Int × Int → Option ((Int × Int) ⊕ (Int ⊕ Int))) (n, (i : Int)) = some (.inl (n + (nd p.Kids.l[i] : Int), (i : Int) + 1)) := by
     show (if (decide ((i : Int) < (p.Kids.l.length : Int))) = true then _ else _) = _
     rw [if_pos (by simpa using hlt), bm_ hlt, Option.bind_some]
     show ((aV_ _ (w4 (l - n))).bind _) = _
     rw [a4_ (by omega) (by omega), w, Option.bind_some, if_neg (by simp)]
     show some (Sum.inl (w4 (n + (nd p.Kids.l[i] : Int)), w4 ((i : Int) + 1))) = _
     rw [a4_ (by omega) (by omega), a4_ (by omega) (by omega)]
    obtain ⟨k1, k2⟩ := ihm (i + 1) (by omega) (n + (nd p.Kids.l[i] : Int)) (by omega) (by omega)
    rw [ec] at k1 k2
    refine ⟨fun h => ?_, fun h => au_ hstep (k2 fun hh => h ⟨fun q hq => ?_, by omega⟩)⟩
    ·refine au_ hstep ((k1 ⟨fun q hq => h.1 q (List.mem_cons_of_mem _ hq), by omega⟩).trans ?_)
     congr 2; omega
    ·rcases List.mem_cons.1 hq with e | e
     ·rw [e]; exact hv.1
     ·exact hh.1 q e
   ·have w := v2 hv
    refine ⟨fun h => absurd ⟨h.1 _ (List.mem_cons_self ..), by omega⟩ hv, fun _ => aj_ ?_⟩
    show (if (decide ((i : Int) < (p.Kids.l.length : Int))) = true then _ else _) = _
    rw [if_pos (by simpa using hlt), bm_ hlt, Option.bind_some]
    show ((aV_ _ (w4 (l - n))).bind _) = _
    rw [a4_ (by omega) (by omega), w]; rfl
 obtain ⟨k1, k2⟩ := key p.Kids.l.length 0 (by omega) 1 (by omega) (by omega)
 simp only [List.drop_zero] at k1 k2
 refine ⟨fun h => ?_, fun h => ?_⟩
 ·have k1 := k1 ⟨fun q hq => h.1.kid hq, by omega⟩
  have k1 : az_ (S := (Int × Int)) (R := (Int ⊕ Int)) (fun st1 => (if (decide (st1.2 < (p.Kids.l.length : Int))) = true then ((elt p.Kids st1.2).bind fun y3 => ((aV_ y3 (w4 (l - st1.1))).bind fun y4 => (if (decide (y4 < 0)) = true then (some (.inr (.inr (-1)))) else (some (.inl ((w4 (st1.1 + y4)), (w4 (st1.2 + 1)))))))) else (some (.inr (.inl st1.1))))) (1, 0) = _ := k1
  rw [k1]
  show some (1 + (ndL p.Kids.l : Int)) = _
  congr 1; omega
 ·have k2 := k2 fun hh => h ⟨.mk hn hh.1, by omega⟩
  have k2 : az_ (S := (Int × Int)) (R := (Int ⊕ Int)) (fun st1 => (if (decide (st1.2 < (p.Kids.l.length : Int))) = true then ((elt p.Kids st1.2).bind fun y3 => ((aV_ y3 (w4 (l - st1.1))).bind fun y4 => (if (decide (y4 < 0)) = true then (some (.inr (.inr (-1)))) else (some (.inl ((w4 (st1.1 + y4)), (w4 (st1.2 + 1)))))))) else (some (.inr (.inl st1.1))))) (1, 0) = _ := k2
  rw [k2]; rfl
theorem count2 : ∀ p, SmPt p → ∀ c : Int, 0 ≤ c → c ≤ 60 → (VP p ∧ c + (nd p : Int) ≤ 60 → aB_ p c = some (c + (nd p : Int))) ∧ (¬ (VP p ∧ c + (nd p : Int) ≤ 60) → aB_ p c = some 61) := by
 refine eL_ fun p ih hs c hc0 hc => ?_
 suffices H : (VP p ∧ c + (nd p : Int) ≤ 60 → bQ_ p c = some (c + (nd p : Int))) ∧ (¬ (VP p ∧ c + (nd p : Int) ≤ 60) → bQ_ p c = some 61) from ⟨fun h => em_ p c _ (H.1 h), fun h => em_ p c _ (H.2 h)⟩
 have ht : p.Text.size ≤ 1048576 := by cases hs with | mk h1 h2 h3 => exact h1
 have hkl : p.Kids.l.length ≤ 1048576 := by cases hs with | mk h1 h2 h3 => exact h2
 have hnd := go_ p
 unfold bQ_
 rw [a4_ (n := c + 1) (by omega) (by omega)]
 by_cases hl1 : 60 < c + 1
 ·rw [if_pos (by simpa using hl1)]
  exact ⟨fun h => by omega, fun _ => rfl⟩
 rw [if_neg (by simpa using hl1), arg2 _ _ _ ht, Option.bind_some]
 by_cases ha : (1 ≤ p.Kind ∧ p.Kind ≤ 24) ∧ ArgP p.Kind p.Num p.Text
 rotate_left
 ·rw [aZ_ ha, if_pos (by simp)]
  exact ⟨fun h => absurd ⟨h.1.node.1, h.1.node.2.2⟩ ha, fun _ => rfl⟩
 rw [bs_ ha, if_neg (by simp), vo_, Option.bind_some]
 by_cases hk : (p.Kids.l.length : Int) = kidN p.Kind
 rotate_left
 ·rw [if_pos (by simp [hk])]
  exact ⟨fun h => absurd h.1.node.2.1 hk, fun _ => rfl⟩
 rw [if_neg (by simp [hk])]
 have key : ∀ (m i : Nat), i + m = p.Kids.l.length → ∀ n : Int, 0 ≤ n → n ≤ 60 →
   ((∀ q ∈ p.Kids.l.drop i, VP q) ∧ n + (ndL (p.Kids.l.drop i) : Int) ≤ 60 → az_ (S := (Int × Int)) (R := Int) (fun st1 => (if (decide (st1.2 < (p.Kids.l.length : Int))) = true then ((elt p.Kids st1.2).bind fun y4 => ((aB_ y4 st1.1).bind fun y5 => (if (decide (60 < y5)) = true then (some (.inr y5)) else (some (.inl (y5, (w4 (st1.2 + 1)))))))) else (some (.inr st1.1)))) (n, (i : Int)) = some (n + (ndL (p.Kids.l.drop i) : Int))) ∧
   (¬ ((∀ q ∈ p.Kids.l.drop i, VP q) ∧ n + (ndL (p.Kids.l.drop i) : Int) ≤ 60) → az_ (S := (Int × Int)) (R := Int) (fun st1 => (if (decide (st1.2 < (p.Kids.l.length : Int))) = true then ((elt p.Kids st1.2).bind fun y4 => ((aB_ y4 st1.1).bind fun y5 => (if (decide (60 < y5)) = true then (some (.inr y5)) else (some (.inl (y5, (w4 (st1.2 + 1)))))))) else (some (.inr st1.1)))) (n, (i : Int)) = some 61) := by
  intro m
  induction m with
  | zero =>
   intro i hi n n1 n2
   have : i = p.Kids.l.length := by omega
   subst this
   simp only [List.drop_length, ndL]
   refine ⟨fun _ => aj_ ?_, fun h => absurd ⟨fun q hq => by simp at hq, by omega⟩ h⟩
   show (if (decide ((p.Kids.l.length : Int) < (p.Kids.l.length : Int))) = true then _ else _) = _
   rw [if_neg (by simp)]; simp
  | succ m ihm =>
   intro i hi n n1 n2
   have hlt : i < p.Kids.l.length := by omega
   have hd := mf_ hlt
   have hmem := List.getElem_mem hlt
   have hp := g0_ p.Kids.l[i]
   have ec : ((i + 1 : Nat) : Int) = (i : Int) + 1 := by simp
   obtain ⟨v1, v2⟩ := ih _ hmem (hs.kid hmem) n n1 n2
   rw [hd]; simp only [ndL]
   by_cases hv : VP p.Kids.l[i] ∧ n + (nd p.Kids.l[i] : Int) ≤ 60
   ·have w := v1 hv
    have hstep : ((fun st1 => (if (decide (st1.2 < (p.Kids.l.length : Int))) = true then ((elt p.Kids st1.2).bind fun y4 => ((aB_ y4 st1.1).bind fun y5 => (if (decide (60 < y5)) = true then (some (.inr y5)) else (some (.inl (y5, (w4 (st1.2 + 1)))))))) else (some (.inr st1.1)))) : Int × Int → Option ((Int × Int) ⊕ Int)) (n, (i : Int)) = some (.inl (n + (nd p.Kids.l[i] : Int), (i : Int) + 1)) := by
     show (if (decide ((i : Int) < (p.Kids.l.length : Int))) = true then _ else _) = _
     rw [if_pos (by simpa using hlt), bm_ hlt, Option.bind_some]
     show ((aB_ _ n).bind _) = _
     rw [w, Option.bind_some, if_neg (by simp; omega)]
     show some (Sum.inl (_, w4 ((i : Int) + 1))) = _
     rw [a4_ (by omega) (by omega)]
    obtain ⟨k1, k2⟩ := ihm (i + 1) (by omega) (n + (nd p.Kids.l[i] : Int)) (by omega) (by omega)
    rw [ec] at k1 k2
    refine ⟨fun h => ?_, fun h => au_ hstep (k2 fun hh => h ⟨fun q hq => ?_, by omega⟩)⟩
    ·refine au_ hstep ((k1 ⟨fun q hq => h.1 q (List.mem_cons_of_mem _ hq), by omega⟩).trans ?_)
     congr 1; omega
    ·rcases List.mem_cons.1 hq with e | e
     ·rw [e]; exact hv.1
     ·exact hh.1 q e
   ·have w := v2 hv
    refine ⟨fun h => absurd ⟨h.1 _ (List.mem_cons_self ..), by omega⟩ hv, fun _ => aj_ ?_⟩
    show (if (decide ((i : Int) < (p.Kids.l.length : Int))) = true then _ else _) = _
    rw [if_pos (by simpa using hlt), bm_ hlt, Option.bind_some]
    show ((aB_ _ n).bind _) = _
    rw [w]; rfl
 obtain ⟨k1, k2⟩ := key p.Kids.l.length 0 (by omega) (c + 1) (by omega) (by omega)
 simp only [List.drop_zero] at k1 k2
 refine ⟨fun h => ?_, fun h => ?_⟩
 ·have k1 := k1 ⟨fun q hq => h.1.kid hq, by omega⟩
  have k1 : az_ (S := (Int × Int)) (R := Int) (fun st1 => (if (decide (st1.2 < (p.Kids.l.length : Int))) = true then ((elt p.Kids st1.2).bind fun y4 => ((aB_ y4 st1.1).bind fun y5 => (if (decide (60 < y5)) = true then (some (.inr y5)) else (some (.inl (y5, (w4 (st1.2 + 1)))))))) else (some (.inr st1.1)))) (c + 1, 0) = _ := k1
  rw [k1]
  show some (c + 1 + (ndL p.Kids.l : Int)) = _
  congr 1; omega
 ·have k2 := k2 fun hh => h ⟨.mk ⟨ha.1, hk, ha.2⟩ hh.1, by omega⟩
  have k2 : az_ (S := (Int × Int)) (R := Int) (fun st1 => (if (decide (st1.2 < (p.Kids.l.length : Int))) = true then ((elt p.Kids st1.2).bind fun y4 => ((aB_ y4 st1.1).bind fun y5 => (if (decide (60 < y5)) = true then (some (.inr y5)) else (some (.inl (y5, (w4 (st1.2 + 1)))))))) else (some (.inr st1.1)))) (c + 1, 0) = _ := k2
  rw [k2]; rfl
def VPat (p : DPattern) : Prop := VP p ∧ (nd p : Int) ≤ 60
theorem rv_ (p : DPattern) (h : SmPt p) : aW_ p = some (says (VPat p)) := by
 refine gH_ p _ ?_
 unfold cU_
 obtain ⟨v1, v2⟩ := count2 p h 0 (by omega) (by omega)
 simp only [Int.zero_add] at v1 v2
 by_cases hv : VPat p
 ·rw [v1 hv, bs_ hv]; simp [hv.2]
 ·rw [v2 hv, aZ_ hv]; rfl
theorem vq_ (s : Sl DNamed) (nm : ByteArray) (hn : s.l.length < 9223372036854775807) : (∃ i, ∃ h : i < s.l.length, s.l[i].Name = nm ∧ az_ (S := Int) (R := (Unit ⊕ Int)) (fun st1 => (if (decide (st1 < (s.l.length : Int))) = true then ((elt s st1).bind fun y2 => (if (decide (y2.Name = nm)) = true then (some (.inr (.inr st1))) else (some (.inl (w4 (st1 + 1)))))) else (some (.inr (.inl ()))))) 0 = some (.inr (i : Int))) ∨ ((∀ x ∈ s.l, x.Name ≠ nm) ∧ az_ (S := Int) (R := (Unit ⊕ Int)) (fun st1 => (if (decide (st1 < (s.l.length : Int))) = true then ((elt s st1).bind fun y2 => (if (decide (y2.Name = nm)) = true then (some (.inr (.inr st1))) else (some (.inl (w4 (st1 + 1)))))) else (some (.inr (.inl ()))))) 0 = some (.inl ())) := by
 suffices H : ∀ m j : Nat, j + m = s.l.length → (∃ i, ∃ h : i < s.l.length, s.l[i].Name = nm ∧ az_ (S := Int) (R := (Unit ⊕ Int)) (fun st1 => (if (decide (st1 < (s.l.length : Int))) = true then ((elt s st1).bind fun y2 => (if (decide (y2.Name = nm)) = true then (some (.inr (.inr st1))) else (some (.inl (w4 (st1 + 1)))))) else (some (.inr (.inl ()))))) (j : Int) = some (.inr (i : Int))) ∨ ((∀ x ∈ s.l.drop j, x.Name ≠ nm) ∧ az_ (S := Int) (R := (Unit ⊕ Int)) (fun st1 => (if (decide (st1 < (s.l.length : Int))) = true then ((elt s st1).bind fun y2 => (if (decide (y2.Name = nm)) = true then (some (.inr (.inr st1))) else (some (.inl (w4 (st1 + 1)))))) else (some (.inr (.inl ()))))) (j : Int) = some (.inl ())) from H s.l.length 0 (by omega)
 intro m
 induction m with
 | zero =>
  intro j hj
  refine .inr ⟨fun x hx => ?_, aj_ ?_⟩
  ·rw [List.drop_eq_nil_of_le (by omega)] at hx; cases hx
  ·show (if (decide ((j : Int) < (s.l.length : Int))) = true then _ else _) = _
   rw [if_neg (by simp; omega)]
 | succ m ih =>
  intro j hj
  have hlt : j < s.l.length := by omega
  have ec : ((j + 1 : Nat) : Int) = (j : Int) + 1 := by simp
  by_cases he : s.l[j].Name = nm
  ·refine .inl ⟨j, hlt, he, aj_ ?_⟩
   show (if (decide ((j : Int) < (s.l.length : Int))) = true then _ else _) = _
   rw [if_pos (by simpa using hlt), bm_ hlt, Option.bind_some, if_pos (by simpa using he)]
  ·have hstep : ((fun st1 => (if (decide (st1 < (s.l.length : Int))) = true then ((elt s st1).bind fun y2 => (if (decide (y2.Name = nm)) = true then (some (.inr (.inr st1))) else (some (.inl (w4 (st1 + 1)))))) else (some (.inr (.inl ()))))) : Int → Option (Int ⊕ (Unit ⊕ Int))) (j : Int) = some (.inl ((j : Int) + 1)) := by
    show (if (decide ((j : Int) < (s.l.length : Int))) = true then _ else _) = _
    rw [if_pos (by simpa using hlt), bm_ hlt, Option.bind_some, if_neg (by simpa using he), dT_ (by omega) (by omega)]
   rcases ih (j + 1) (by omega) with ⟨i, h1, h2, h3⟩ | ⟨h1, h2⟩
   ·rw [ec] at h3; exact .inl ⟨i, h1, h2, au_ hstep h3⟩
   ·rw [ec] at h2
    refine .inr ⟨fun x hx => ?_, au_ hstep h2⟩
    rw [mf_ hlt] at hx
    rcases List.mem_cons.1 hx with e | e
    ·rw [e]; exact he
    ·exact h1 x e
theorem qX_ (s : Sl DNamed) (nm : ByteArray) (hn : s.l.length < 9223372036854775807) : (∃ i, ∃ h : i < s.l.length, s.l[i].Name = nm ∧ eW_ s nm = some (i : Int) ∧ eb_ s nm = some (s.l[i].Pattern, true)) ∨ ((∀ x ∈ s.l, x.Name ≠ nm) ∧ eW_ s nm = some (-1) ∧ eb_ s nm = some (⟨0, 0, ⟨#[]⟩, ⟨true, []⟩⟩, false)) := by
 rcases vq_ s nm hn with ⟨i, h, he, hl⟩ | ⟨he, hl⟩
 ·refine .inl ⟨i, h, he, gB_ s nm _ ?_, gV_ s nm _ ?_⟩
  ·unfold dL_; rw [hl]; rfl
  ·unfold d6_; rw [hl]
   show (if (decide ((i : Int) < 0)) = true then some ((⟨0, 0, ⟨#[]⟩, ⟨true, []⟩⟩ : DPattern), false) else ((elt s (i : Int)).bind fun y4 => some (y4.Pattern, true))) = _
   rw [if_neg (by simp), bm_ h]; rfl
 ·refine .inr ⟨he, gB_ s nm _ ?_, gV_ s nm _ ?_⟩
  ·unfold dL_; rw [hl]; rfl
  ·unfold d6_; rw [hl]; rfl
def vx_ (s : Sl DNamed) : Prop := ∀ i : Nat, 0 ≤ i → i < s.l.length → ∀ j : Nat, j < i → ∀ x y, s.l[j]? = some x → s.l[i]? = some y → x.Name ≠ y.Name
def EnvP (s : Sl DNamed) : Prop := s.l.length ≤ 40 ∧ (∀ x ∈ s.l, hn_ x.Name ∧ VPat x.Pattern) ∧ vx_ s
theorem env2 (s : Sl DNamed) (h : ti_ s) : es_ s = some (says (EnvP s)) := by
 refine iU_ s _ ?_
 unfold ep_
 have hlen := h.1
 by_cases h40 : s.l.length ≤ 40
 rotate_left
 ·rw [if_pos (by simp; omega), aZ_ fun hh => h40 hh.1]
 rw [if_neg (by simp; omega)]
 have all : cX_ s (T.fn 142 [] []) = some (says (∀ x ∈ s.l, hn_ x.Name ∧ VPat x.Pattern)) := by
  refine gS_ s _ _ ?_
  unfold cT_
  rw [if_pos (by rfl)]
  refine kT_ (by omega) fun i x hx he => ?_
  have e : g5_ Go.Proofs.Try.prog md ext E_bool (T.fn 142 [] []) [.agg (DNamed.cells x)] = dA_ x := rfl
  have q : dA_ x = some (says (hn_ x.Name ∧ VPat x.Pattern)) := by
   refine hH_ x _ ?_
   unfold dz_
   exact ms_ (sN_ _ (h.2 x hx).1) fun _ => ff_ (rv_ _ (h.2 x hx).2)
  refine ⟨fun hp => ?_, fun hp => ?_⟩
  ·show (elt s (i : Int)).bind _ = _
   rw [he, Option.bind_some, e, q, Option.bind_some, bs_ hp]; rfl
  ·show (elt s (i : Int)).bind _ = _
   rw [he, Option.bind_some, e, q, Option.bind_some, aZ_ hp]; rfl
 rw [all, Option.bind_some]
 by_cases ha : ∀ x ∈ s.l, hn_ x.Name ∧ VPat x.Pattern
 rotate_left
 ·rw [aZ_ ha, if_pos (by simp), aZ_ fun hh => ha hh.2.1]
 rw [bs_ ha, if_neg (by simp)]
 refine lm_ (kE_ (p := fun i => ∀ j : Nat, j < i → ∀ x y, s.l[j]? = some x → s.l[i]? = some y → x.Name ≠ y.Name) 0 (by omega) ?_ ?_) ⟨fun hh => ⟨h40, ha, hh⟩, fun hh => hh.2.2⟩
 ·intro i _ hi hp
  show (elt s (i : Int)).bind _ = _
  have sub : subS s 0 (i : Int) = some ⟨s.z, s.l.take i⟩ := by unfold subS; rw [if_pos (by omega)]; simp
  rw [bm_ hi, Option.bind_some, sub, Option.bind_some]
  rcases qX_ (⟨s.z, s.l.take i⟩ : Sl DNamed) s.l[i].Name (by show (s.l.take i).length < _; rw [List.length_take]; omega) with ⟨j, hj, he, _, q⟩ | ⟨_, _, q⟩
  ·exfalso
   have hj : j < (s.l.take i).length := hj
   rw [List.length_take] at hj
   have he : (s.l.take i)[j].Name = s.l[i].Name := he
   rw [List.getElem_take] at he
   exact hp j (by omega) _ _ (List.getElem?_eq_getElem (by omega)) (List.getElem?_eq_getElem hi) he
  ·rw [q]; rfl
 ·intro i _ hi hp
  show (elt s (i : Int)).bind _ = _
  have sub : subS s 0 (i : Int) = some ⟨s.z, s.l.take i⟩ := by unfold subS; rw [if_pos (by omega)]; simp
  rw [bm_ hi, Option.bind_some, sub, Option.bind_some]
  rcases qX_ (⟨s.z, s.l.take i⟩ : Sl DNamed) s.l[i].Name (by show (s.l.take i).length < _; rw [List.length_take]; omega) with ⟨j, hj, he, _, q⟩ | ⟨hno, _, q⟩
  ·rw [q]; rfl
  ·exfalso
   refine hp fun j hj x y hx hy e => ?_
   have hy : y = s.l[i] := by rw [List.getElem?_eq_getElem hi] at hy; injection hy with hy; exact hy.symm
   refine hno x (List.mem_of_getElem? (i := j) ?_) (by rw [e, hy])
   show (s.l.take i)[j]? = _
   rw [List.getElem?_take, if_pos hj]; exact hx
end Go.Am
end
