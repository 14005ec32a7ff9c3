/- The law. -/
import Derived.Test.YtkgmfmcpbgffpaaAg0
import Derived.Test.YtkgmfmcpbgffpaaAg1
import Derived.Test.YtkgmfmcpbgffpaaAl1
section
set_option maxRecDepth 100000
set_option maxHeartbeats 1000000
set_option linter.unusedVariables false
set_option linter.unusedSimpArgs false
namespace Go.Am
def LetP (x : Int) : Prop := (65 ≤ x ∧ x ≤ 90) ∨ (97 ≤ x ∧ x ≤ 122)
def DigP (x : Int) : Prop := 48 ≤ x ∧ x ≤ 57
def NbP (x : Int) : Prop := LetP x ∨ DigP x ∨ x = 95
def i6_ (s : ByteArray) : Prop := 1 ≤ s.size ∧ s.size ≤ 12 ∧ LetP (bAt s 0) ∧ ∀ i : Nat, i < s.size → NbP (bAt s i)
theorem letB (x : Int) : (if (decide (65 ≤ x)) = true then (if (decide (x ≤ 90)) = true then (some true) else (if (decide (97 ≤ x)) = true then (some (decide (x ≤ 122))) else (some false))) else (if (decide (97 ≤ x)) = true then (some (decide (x ≤ 122))) else (some false))) = some (says (LetP x)) := by
 unfold LetP
 by_cases h1 : 65 ≤ x <;> by_cases h2 : x ≤ 90 <;> by_cases h3 : 97 ≤ x <;> by_cases h4 : x ≤ 122 <;> simp [h1, h2, h3, h4, says]
theorem j8_ (x : Int) : bF_ x = some (says (LetP x)) := fX_ x _ (letB x)
theorem digB (x : Int) : (if (decide (48 ≤ x)) = true then (some (decide (x ≤ 57))) else (some false)) = some (says (DigP x)) := by
 unfold DigP
 by_cases h1 : 48 ≤ x <;> by_cases h2 : x ≤ 57 <;> simp [h1, h2, says]
theorem po_ (x : Int) : cV_ x = some (says (DigP x)) := f8_ x _ (digB x)
theorem k1_ (x : Int) : bY_ x = some (says (NbP x)) := by
 refine eR_ x _ ?_
 unfold bW_
 exact iI_ (j8_ x) fun _ => iI_ (po_ x) fun _ => lF_
theorem jT_ {s : ByteArray} {i : Nat} (h : i < s.size) : bU_ s (i : Int) = some (bAt s (i : Int)) := by
 unfold bU_; rw [if_pos ⟨by omega, by omega⟩]
theorem p9_ (s : ByteArray) (hs : s.size ≤ 1048576) : dw_ s = some (says (i6_ s)) := by
 refine g1_ s _ ?_
 unfold de_
 have hm := maxLen_eq
 refine jc_ (p := (1 ≤ (s.size : Int)) ∧ ((s.size : Int) ≤ 12) ∧ LetP (bAt s 0) ∧ ∀ x ∈ (s.data.toList.map fun b => (⟨b.toNat⟩ : Iv .u8)), NbP x.v) (h1_ fun h1 => h1_ fun h2 => ?_) ?_
 ·have b0 : bU_ s 0 = some (bAt s 0) := jT_ (i := 0) (by omega)
  rw [b0, Option.bind_some]
  refine ou_ (j8_ _) fun _ => ?_
  have hb : hw_ s = some ⟨false, s.data.toList.map fun b => ⟨b.toNat⟩⟩ := by unfold hw_; rw [if_pos (by omega)]
  rw [hb, Option.bind_some]
  refine eI_ (eG_ _ _ _ ?_)
  unfold bP_
  refine Eq.trans (if_pos rfl) ?_
  refine hJ_ (a := (⟨false, s.data.toList.map fun b => ⟨b.toNat⟩⟩ : Sl (Iv .u8))) (p := fun x : Iv .u8 => NbP x.v) ?_ fun i x hx he => ?_
  ·have : s.data.toList.length = s.size := by rw [Array.length_toList]; rfl
   simp only [List.length_map]; omega
  ·rw [he, Option.bind_some]
   have e : fV_ Go.Proofs.Try.prog md ext E_bool (T.fn 171 [] []) [.int .u8 x.v] = bY_ x.v := rfl
   rw [e, k1_, Option.bind_some]
   exact ⟨fun h => by rw [bQ_ h, if_neg (by simp)], fun h => by rw [bC_ h, if_pos (by simp)]⟩
 ·have hlen : s.data.toList.length = s.size := by rw [Array.length_toList]; rfl
  have hat : ∀ i : Nat, (h : i < s.size) → ((s.data.toList[i]'(by omega)).toNat : Int) = bAt s (i : Int) := fun i h => by
   unfold bAt; rw [dif_pos (by simpa using h)]; rfl
  refine ⟨fun w => ⟨by omega, by omega, w.2.2.1, fun i hi => ?_⟩, fun w => ⟨by have := w.1; omega, by have := w.2.1; omega, w.2.2.1, fun x hx => ?_⟩⟩
  ·rw [← hat i hi]
   exact w.2.2.2 ⟨(s.data.toList[i]'(by omega)).toNat⟩ (List.mem_map.2 ⟨_, List.getElem_mem (by omega), rfl⟩)
  ·obtain ⟨b, hb, rfl⟩ := List.mem_map.1 hx
   obtain ⟨i, hi, rfl⟩ := List.getElem_of_mem hb
   have := w.2.2.2 i (by omega)
   rw [← hat i (by omega)] at this; exact this
theorem in2 (a b c : Int) : ba_ a b c = some (says (b ≤ a ∧ a ≤ c)) := by
 refine gC_ a b c _ ?_
 unfold dd_
 exact h1_ fun _ => lF_
theorem fw_s : aC_ (S := (Int × ByteArray × Int)) (R := (Int × ByteArray)) (fun st1 => (if (decide (st1.2.2 < ((⟨#[115]⟩ : ByteArray).size : Int))) = true then ((bU_ (⟨#[115]⟩ : ByteArray) st1.2.2).bind fun y3 => (if (decide (y3 = 112)) = true then (some (.inl ((w4 (st1.1 + 1)), st1.2.1, (w4 (st1.2.2 + 1))))) else ((subB (⟨#[115]⟩ : ByteArray) st1.2.2 (w4 (st1.2.2 + 1))).bind fun y4 => ((catB st1.2.1 y4).bind fun y5 => (some (.inl (st1.1, y5, (w4 (st1.2.2 + 1))))))))) else (some (.inr (st1.1, st1.2.1))))) (0, ⟨#[]⟩, 0) = some (0, ⟨#[115]⟩) := aw_ (s' := ((0 : Int), (⟨#[115]⟩ : ByteArray), (1 : Int))) (by rfl) (ar_ (by rfl))
theorem fw_n : aC_ (S := (Int × ByteArray × Int)) (R := (Int × ByteArray)) (fun st1 => (if (decide (st1.2.2 < ((⟨#[110]⟩ : ByteArray).size : Int))) = true then ((bU_ (⟨#[110]⟩ : ByteArray) st1.2.2).bind fun y3 => (if (decide (y3 = 112)) = true then (some (.inl ((w4 (st1.1 + 1)), st1.2.1, (w4 (st1.2.2 + 1))))) else ((subB (⟨#[110]⟩ : ByteArray) st1.2.2 (w4 (st1.2.2 + 1))).bind fun y4 => ((catB st1.2.1 y4).bind fun y5 => (some (.inl (st1.1, y5, (w4 (st1.2.2 + 1))))))))) else (some (.inr (st1.1, st1.2.1))))) (0, ⟨#[]⟩, 0) = some (0, ⟨#[110]⟩) := aw_ (s' := ((0 : Int), (⟨#[110]⟩ : ByteArray), (1 : Int))) (by rfl) (ar_ (by rfl))
theorem fw_e : aC_ (S := (Int × ByteArray × Int)) (R := (Int × ByteArray)) (fun st1 => (if (decide (st1.2.2 < ((⟨#[]⟩ : ByteArray).size : Int))) = true then ((bU_ (⟨#[]⟩ : ByteArray) st1.2.2).bind fun y3 => (if (decide (y3 = 112)) = true then (some (.inl ((w4 (st1.1 + 1)), st1.2.1, (w4 (st1.2.2 + 1))))) else ((subB (⟨#[]⟩ : ByteArray) st1.2.2 (w4 (st1.2.2 + 1))).bind fun y4 => ((catB st1.2.1 y4).bind fun y5 => (some (.inl (st1.1, y5, (w4 (st1.2.2 + 1))))))))) else (some (.inr (st1.1, st1.2.1))))) (0, ⟨#[]⟩, 0) = some (0, ⟨#[]⟩) := ar_ (by rfl)
theorem fw_pp : aC_ (S := (Int × ByteArray × Int)) (R := (Int × ByteArray)) (fun st1 => (if (decide (st1.2.2 < ((⟨#[112, 112]⟩ : ByteArray).size : Int))) = true then ((bU_ (⟨#[112, 112]⟩ : ByteArray) st1.2.2).bind fun y3 => (if (decide (y3 = 112)) = true then (some (.inl ((w4 (st1.1 + 1)), st1.2.1, (w4 (st1.2.2 + 1))))) else ((subB (⟨#[112, 112]⟩ : ByteArray) st1.2.2 (w4 (st1.2.2 + 1))).bind fun y4 => ((catB st1.2.1 y4).bind fun y5 => (some (.inl (st1.1, y5, (w4 (st1.2.2 + 1))))))))) else (some (.inr (st1.1, st1.2.1))))) (0, ⟨#[]⟩, 0) = some (2, ⟨#[]⟩) := aw_ (s' := ((1 : Int), (⟨#[]⟩ : ByteArray), (1 : Int))) (by rfl) (aw_ (s' := ((2 : Int), (⟨#[]⟩ : ByteArray), (2 : Int))) (by rfl) (ar_ (by rfl)))
theorem fw_p : aC_ (S := (Int × ByteArray × Int)) (R := (Int × ByteArray)) (fun st1 => (if (decide (st1.2.2 < ((⟨#[112]⟩ : ByteArray).size : Int))) = true then ((bU_ (⟨#[112]⟩ : ByteArray) st1.2.2).bind fun y3 => (if (decide (y3 = 112)) = true then (some (.inl ((w4 (st1.1 + 1)), st1.2.1, (w4 (st1.2.2 + 1))))) else ((subB (⟨#[112]⟩ : ByteArray) st1.2.2 (w4 (st1.2.2 + 1))).bind fun y4 => ((catB st1.2.1 y4).bind fun y5 => (some (.inl (st1.1, y5, (w4 (st1.2.2 + 1))))))))) else (some (.inr (st1.1, st1.2.1))))) (0, ⟨#[]⟩, 0) = some (1, ⟨#[]⟩) := aw_ (s' := ((1 : Int), (⟨#[]⟩ : ByteArray), (1 : Int))) (by rfl) (ar_ (by rfl))
theorem fw_px : aC_ (S := (Int × ByteArray × Int)) (R := (Int × ByteArray)) (fun st1 => (if (decide (st1.2.2 < ((⟨#[112, 120]⟩ : ByteArray).size : Int))) = true then ((bU_ (⟨#[112, 120]⟩ : ByteArray) st1.2.2).bind fun y3 => (if (decide (y3 = 112)) = true then (some (.inl ((w4 (st1.1 + 1)), st1.2.1, (w4 (st1.2.2 + 1))))) else ((subB (⟨#[112, 120]⟩ : ByteArray) st1.2.2 (w4 (st1.2.2 + 1))).bind fun y4 => ((catB st1.2.1 y4).bind fun y5 => (some (.inl (st1.1, y5, (w4 (st1.2.2 + 1))))))))) else (some (.inr (st1.1, st1.2.1))))) (0, ⟨#[]⟩, 0) = some (1, ⟨#[120]⟩) := aw_ (s' := ((1 : Int), (⟨#[]⟩ : ByteArray), (1 : Int))) (by rfl) (aw_ (s' := ((1 : Int), (⟨#[120]⟩ : ByteArray), (2 : Int))) (by rfl) (ar_ (by rfl)))
theorem fw_x : aC_ (S := (Int × ByteArray × Int)) (R := (Int × ByteArray)) (fun st1 => (if (decide (st1.2.2 < ((⟨#[120]⟩ : ByteArray).size : Int))) = true then ((bU_ (⟨#[120]⟩ : ByteArray) st1.2.2).bind fun y3 => (if (decide (y3 = 112)) = true then (some (.inl ((w4 (st1.1 + 1)), st1.2.1, (w4 (st1.2.2 + 1))))) else ((subB (⟨#[120]⟩ : ByteArray) st1.2.2 (w4 (st1.2.2 + 1))).bind fun y4 => ((catB st1.2.1 y4).bind fun y5 => (some (.inl (st1.1, y5, (w4 (st1.2.2 + 1))))))))) else (some (.inr (st1.1, st1.2.1))))) (0, ⟨#[]⟩, 0) = some (0, ⟨#[120]⟩) := aw_ (s' := ((0 : Int), (⟨#[120]⟩ : ByteArray), (1 : Int))) (by rfl) (ar_ (by rfl))
def kidN (k : Int) : Int := if k = 18 ∨ k = 19 then 2 else if k = 20 ∨ k = 21 ∨ k = 22 then 1 else 0
def argW (k : Int) : ByteArray := if k ≤ 5 then ⟨#[115]⟩ else if k ≤ 10 then ⟨#[110]⟩ else if 21 ≤ k then ⟨#[120]⟩ else ⟨#[]⟩
def ArgP (k n : Int) (t : ByteArray) : Prop := if k ≤ 5 then (n = 0 ∧ (t.size : Int) ≤ 200 ∧ (k = 1 ∨ t ≠ ⟨#[]⟩)) else if k ≤ 10 then (t = ⟨#[]⟩ ∧ 0 ≤ n ∧ n ≤ 200) else if 21 ≤ k then (n = 0 ∧ i6_ t) else (n = 0 ∧ t = ⟨#[]⟩)
def NodeP (p : DPattern) : Prop := (1 ≤ p.Kind ∧ p.Kind ≤ 24) ∧ (p.Kids.l.length : Int) = kidN p.Kind ∧ ArgP p.Kind p.Num p.Text
theorem cw_ {k : Int} {w1 w r : ByteArray} {n : Int} (hk : k ≠ 1) (hw : cT_ k = some (w1, w)) (hl : aC_ (S := (Int × ByteArray × Int)) (R := (Int × ByteArray)) (fun st1 => (if (decide (st1.2.2 < (w.size : Int))) = true then ((bU_ w st1.2.2).bind fun y3 => (if (decide (y3 = 112)) = true then (some (.inl ((w4 (st1.1 + 1)), st1.2.1, (w4 (st1.2.2 + 1))))) else ((subB w st1.2.2 (w4 (st1.2.2 + 1))).bind fun y4 => ((catB st1.2.1 y4).bind fun y5 => (some (.inl (st1.1, y5, (w4 (st1.2.2 + 1))))))))) else (some (.inr (st1.1, st1.2.1))))) (0, ⟨#[]⟩, 0) = some (n, r)) : bu_ k = some (n, r) := by
 refine eg_ k _ ?_
 unfold cR_
 rw [if_neg (by simpa using hk), f0_ k _ hw, Option.bind_some, hl]; rfl
theorem o8_ {k : Int} (h : 1 ≤ k ∧ k ≤ 24) : bu_ k = some (kidN k, argW k) := by
 by_cases h1 : k = 1
 ·subst h1; exact eg_ 1 _ rfl
 have : k = 2 ∨ k = 3 ∨ k = 4 ∨ k = 5 ∨ k = 6 ∨ k = 7 ∨ k = 8 ∨ k = 9 ∨ k = 10 ∨ k = 11 ∨ k = 12 ∨ k = 13 ∨ k = 14 ∨ k = 15 ∨ k = 16 ∨ k = 17 ∨ k = 18 ∨ k = 19 ∨ k = 20 ∨ k = 21 ∨ k = 22 ∨ k = 23 ∨ k = 24 := by omega
 rcases this with rfl | rfl | rfl | rfl | rfl | rfl | rfl | rfl | rfl | rfl | rfl | rfl | rfl | rfl | rfl | rfl | rfl | rfl | rfl | rfl | rfl | rfl | rfl
 ·exact cw_ h1 rfl fw_s
 ·exact cw_ h1 rfl fw_s
 ·exact cw_ h1 rfl fw_s
 ·exact cw_ h1 rfl fw_s
 ·exact cw_ h1 rfl fw_n
 ·exact cw_ h1 rfl fw_n
 ·exact cw_ h1 rfl fw_n
 ·exact cw_ h1 rfl fw_n
 ·exact cw_ h1 rfl fw_n
 ·exact cw_ h1 rfl fw_e
 ·exact cw_ h1 rfl fw_e
 ·exact cw_ h1 rfl fw_e
 ·exact cw_ h1 rfl fw_e
 ·exact cw_ h1 rfl fw_e
 ·exact cw_ h1 rfl fw_e
 ·exact cw_ h1 rfl fw_e
 ·exact cw_ h1 rfl fw_pp
 ·exact cw_ h1 rfl fw_pp
 ·exact cw_ h1 rfl fw_p
 ·exact cw_ h1 rfl fw_px
 ·exact cw_ h1 rfl fw_px
 ·exact cw_ h1 rfl fw_x
 ·exact cw_ h1 rfl fw_x
theorem lO_ (t : ByteArray) : b2_ t = some (says ((t.size : Int) ≤ 200)) := by
 refine f3_ t _ ?_
 unfold cQ_
 exact lF_
theorem ql_ (k : Int) : dp_ k = some (says (2 ≤ k ∧ k ≤ 5)) := by
 refine g2_ k _ ?_
 unfold dz_
 exact eI_ (in2 _ _ _)
theorem pY_ (k : Int) : cd_ k = some (says (6 ≤ k ∧ k ≤ 10)) := by
 refine fb_ k _ ?_
 unfold ca_
 exact eI_ (in2 _ _ _)
theorem qA_ (k : Int) : cS_ k = some (says (21 ≤ k ∧ k ≤ 24)) := by
 refine f2_ k _ ?_
 unfold cU_
 exact eI_ (in2 _ _ _)
theorem p0_ (k : Int) : br_ k = some (says (1 ≤ k ∧ k ≤ 24)) := by
 refine d8_ k _ ?_
 unfold bs_
 exact eI_ (in2 _ _ _)
theorem arg2 (k n : Int) (t : ByteArray) (ht : t.size ≤ 1048576) : b0_ k n t = some (says ((1 ≤ k ∧ k ≤ 24) ∧ ArgP k n t)) := by
 refine eU_ k n t _ ?_
 unfold bV_
 rw [ql_, Option.bind_some, pY_, Option.bind_some, qA_, Option.bind_some, p0_, Option.bind_some]
 by_cases h1 : k = 1
 ·subst h1
  rw [if_pos (by decide)]
  refine jc_ (h1_ (c := n = 0) fun _ => eI_ (lO_ t)) ?_
  unfold ArgP
  rw [if_pos (by decide)]
  exact ⟨fun h => ⟨by decide, h.1, h.2, .inl rfl⟩, fun h => ⟨h.2.1, h.2.2.1⟩⟩
 rw [if_neg (by simpa using h1)]
 by_cases h5 : 2 ≤ k ∧ k ≤ 5
 ·rw [bQ_ h5, if_pos rfl]
  have e : ArgP k n t = (n = 0 ∧ (t.size : Int) ≤ 200 ∧ (k = 1 ∨ t ≠ ⟨#[]⟩)) := by unfold ArgP; rw [if_pos h5.2]
  rw [e]
  by_cases hn : n = 0
  ·rw [if_pos (by simpa using hn)]
   by_cases hz : t = ⟨#[]⟩
   ·rw [if_neg (by simp [hz]), bC_]
    rintro ⟨_, _, _, h | h⟩
    ·exact h1 h
    ·exact h hz
   ·rw [if_pos (by simp [hz])]
    refine jc_ (eI_ (lO_ t)) ⟨fun h => ⟨by omega, hn, h, .inr hz⟩, fun h => h.2.2.1⟩
  ·rw [if_neg (by simpa using hn), bC_ fun h => hn h.2.1]
 rw [bC_ h5, if_neg (by simp)]
 by_cases h10 : 6 ≤ k ∧ k ≤ 10
 ·rw [bQ_ h10, if_pos rfl]
  have e : ArgP k n t = (t = ⟨#[]⟩ ∧ 0 ≤ n ∧ n ≤ 200) := by unfold ArgP; rw [if_neg (by omega), if_pos h10.2]
  rw [e]
  exact jc_ (h1_ fun _ => eI_ (in2 _ _ _)) ⟨fun h => ⟨by omega, h⟩, fun h => h.2⟩
 rw [bC_ h10, if_neg (by simp)]
 by_cases h21 : 21 ≤ k ∧ k ≤ 24
 ·rw [bQ_ h21, if_pos rfl]
  have e : ArgP k n t = (n = 0 ∧ i6_ t) := by unfold ArgP; rw [if_neg (by omega), if_neg (by omega), if_pos h21.1]
  rw [e]
  exact jc_ (h1_ fun _ => eI_ (p9_ _ ht)) ⟨fun h => ⟨by omega, h⟩, fun h => h.2⟩
 rw [bC_ h21, if_neg (by simp)]
 by_cases hk : 1 ≤ k ∧ k ≤ 24
 ·rw [bQ_ hk, if_pos rfl]
  have e : ArgP k n t = (n = 0 ∧ t = ⟨#[]⟩) := by unfold ArgP; rw [if_neg (by omega), if_neg (by omega), if_neg (by omega)]
  rw [e]
  exact jc_ (h1_ fun _ => lF_) ⟨fun h => ⟨hk, h⟩, fun h => h.2⟩
 ·rw [bC_ hk, if_neg (by simp), bC_ fun h => hk h.1]
theorem qv_ (k : Int) : dl_ k = some (kidN k) := by
 refine g0_ k _ ?_
 unfold df_ kidN
 by_cases h1 : k = 18
 ·simp [h1]
 by_cases h2 : k = 19
 ·simp [h2]
 by_cases h3 : k = 20
 ·simp [h3]
 by_cases h4 : k = 21
 ·simp [h4]
 by_cases h5 : k = 22
 ·simp [h5]
 simp [h1, h2, h3, h4, h5]
inductive VP : DPattern → Prop
 | mk {p : DPattern} (h1 : NodeP p) (h2 : ∀ q ∈ p.Kids.l, VP q) : VP p
theorem VP.node {p : DPattern} (h : VP p) : NodeP p := by cases h with | mk h1 h2 => exact h1
theorem VP.kid {p q : DPattern} (h : VP p) (hq : q ∈ p.Kids.l) : VP q := by cases h with | mk h1 h2 => exact h2 q hq
theorem m4_ {α : Type} {l : List α} {i : Nat} (h : i < l.length) : l.drop i = l[i] :: l.drop (i + 1) := List.drop_eq_getElem_cons h
theorem count2 : ∀ p, SmPt p → ∀ c : Int, 0 ≤ c → c ≤ 60 → (VP p ∧ c + (nd p : Int) ≤ 60 → am_ p c = some (c + (nd p : Int))) ∧ (¬ (VP p ∧ c + (nd p : Int) ≤ 60) → am_ p c = some 61) := by
 refine cg_ fun p ih hs c hc0 hc => ?_
 suffices H : (VP p ∧ c + (nd p : Int) ≤ 60 → aU_ p c = some (c + (nd p : Int))) ∧ (¬ (VP p ∧ c + (nd p : Int) ≤ 60) → aU_ p c = some 61) from ⟨fun h => ck_ p c _ (H.1 h), fun h => ck_ p c _ (H.2 h)⟩
 have ht : p.Text.size ≤ 1048576 := by cases hs with | mk h1 h2 h3 => exact h1
 have hkl : p.Kids.l.length ≤ 1048576 := by cases hs with | mk h1 h2 h3 => exact h2
 have hnd := eQ_ p
 unfold aU_
 rw [ct_ (n := c + 1) (by omega) (by omega)]
 by_cases hl1 : 60 < c + 1
 ·rw [if_pos (by simpa using hl1)]
  exact ⟨fun h => by omega, fun _ => rfl⟩
 rw [if_neg (by simpa using hl1), arg2 _ _ _ ht, Option.bind_some]
 by_cases ha : (1 ≤ p.Kind ∧ p.Kind ≤ 24) ∧ ArgP p.Kind p.Num p.Text
 rotate_left
 ·rw [bC_ ha, if_pos (by simp)]
  exact ⟨fun h => absurd ⟨h.1.node.1, h.1.node.2.2⟩ ha, fun _ => rfl⟩
 rw [bQ_ ha, if_neg (by simp), qv_, Option.bind_some]
 by_cases hk : (p.Kids.l.length : Int) = kidN p.Kind
 rotate_left
 ·rw [if_pos (by simp [hk])]
  exact ⟨fun h => absurd h.1.node.2.1 hk, fun _ => rfl⟩
 rw [if_neg (by simp [hk])]
 have key : ∀ (m i : Nat), i + m = p.Kids.l.length → ∀ n : Int, 0 ≤ n → n ≤ 60 →
   ((∀ q ∈ p.Kids.l.drop i, VP q) ∧ n + (ndL (p.Kids.l.drop i) : Int) ≤ 60 → aC_ (S := (Int × Int)) (R := Int) (fun st1 => (if (decide (st1.2 < (p.Kids.l.length : Int))) = true then ((elt p.Kids st1.2).bind fun y4 => ((am_ y4 st1.1).bind fun y5 => (if (decide (60 < y5)) = true then (some (.inr y5)) else (some (.inl (y5, (w4 (st1.2 + 1)))))))) else (some (.inr st1.1)))) (n, (i : Int)) = some (n + (ndL (p.Kids.l.drop i) : Int))) ∧
   (¬ ((∀ q ∈ p.Kids.l.drop i, VP q) ∧ n + (ndL (p.Kids.l.drop i) : Int) ≤ 60) → aC_ (S := (Int × Int)) (R := Int) (fun st1 => (if (decide (st1.2 < (p.Kids.l.length : Int))) = true then ((elt p.Kids st1.2).bind fun y4 => ((am_ y4 st1.1).bind fun y5 => (if (decide (60 < y5)) = true then (some (.inr y5)) else (some (.inl (y5, (w4 (st1.2 + 1)))))))) else (some (.inr st1.1)))) (n, (i : Int)) = some 61) := by
  intro m
  induction m with
  | zero =>
   intro i hi n n1 n2
   have : i = p.Kids.l.length := by omega
   subst this
   simp only [List.drop_length, ndL]
   refine ⟨fun _ => ar_ ?_, fun h => absurd ⟨fun q hq => by simp at hq, by omega⟩ h⟩
   show (if (decide ((p.Kids.l.length : Int) < (p.Kids.l.length : Int))) = true then _ else _) = _
   rw [if_neg (by simp)]; simp
  | succ m ihm =>
   intro i hi n n1 n2
   have hlt : i < p.Kids.l.length := by omega
   have hd := m4_ hlt
   have hmem := List.getElem_mem hlt
   have hp := hh_ p.Kids.l[i]
   have ec : ((i + 1 : Nat) : Int) = (i : Int) + 1 := by simp
   obtain ⟨v1, v2⟩ := ih _ hmem (hs.kid hmem) n n1 n2
   rw [hd]; simp only [ndL]
   by_cases hv : VP p.Kids.l[i] ∧ n + (nd p.Kids.l[i] : Int) ≤ 60
   ·have w := v1 hv
    have hstep : ((fun st1 => (if (decide (st1.2 < (p.Kids.l.length : Int))) = true then ((elt p.Kids st1.2).bind fun y4 => ((am_ y4 st1.1).bind fun y5 => (if (decide (60 < y5)) = true then (some (.inr y5)) else (some (.inl (y5, (w4 (st1.2 + 1)))))))) else (some (.inr st1.1)))) : Int × Int → Option ((Int × Int) ⊕ Int)) (n, (i : Int)) = some (.inl (n + (nd p.Kids.l[i] : Int), (i : Int) + 1)) := by
     show (if (decide ((i : Int) < (p.Kids.l.length : Int))) = true then _ else _) = _
     rw [if_pos (by simpa using hlt), bl_ hlt, Option.bind_some]
     show ((am_ _ n).bind _) = _
     rw [w, Option.bind_some, if_neg (by simp; omega)]
     show some (Sum.inl (_, w4 ((i : Int) + 1))) = _
     rw [ct_ (by omega) (by omega)]
    obtain ⟨k1, k2⟩ := ihm (i + 1) (by omega) (n + (nd p.Kids.l[i] : Int)) (by omega) (by omega)
    rw [ec] at k1 k2
    refine ⟨fun h => ?_, fun h => aw_ hstep (k2 fun hh => h ⟨fun q hq => ?_, by omega⟩)⟩
    ·refine aw_ hstep ((k1 ⟨fun q hq => h.1 q (List.mem_cons_of_mem _ hq), by omega⟩).trans ?_)
     congr 1; omega
    ·rcases List.mem_cons.1 hq with e | e
     ·rw [e]; exact hv.1
     ·exact hh.1 q e
   ·have w := v2 hv
    refine ⟨fun h => absurd ⟨h.1 _ (List.mem_cons_self ..), by omega⟩ hv, fun _ => ar_ ?_⟩
    show (if (decide ((i : Int) < (p.Kids.l.length : Int))) = true then _ else _) = _
    rw [if_pos (by simpa using hlt), bl_ hlt, Option.bind_some]
    show ((am_ _ n).bind _) = _
    rw [w]; rfl
 obtain ⟨k1, k2⟩ := key p.Kids.l.length 0 (by omega) (c + 1) (by omega) (by omega)
 simp only [List.drop_zero] at k1 k2
 refine ⟨fun h => ?_, fun h => ?_⟩
 ·have k1 := k1 ⟨fun q hq => h.1.kid hq, by omega⟩
  have k1 : aC_ (S := (Int × Int)) (R := Int) (fun st1 => (if (decide (st1.2 < (p.Kids.l.length : Int))) = true then ((elt p.Kids st1.2).bind fun y4 => ((am_ y4 st1.1).bind fun y5 => (if (decide (60 < y5)) = true then (some (.inr y5)) else (some (.inl (y5, (w4 (st1.2 + 1)))))))) else (some (.inr st1.1)))) (c + 1, 0) = _ := k1
  rw [k1]
  show some (c + 1 + (ndL p.Kids.l : Int)) = _
  congr 1; omega
 ·have k2 := k2 fun hh => h ⟨.mk ⟨ha.1, hk, ha.2⟩ hh.1, by omega⟩
  have k2 : aC_ (S := (Int × Int)) (R := Int) (fun st1 => (if (decide (st1.2 < (p.Kids.l.length : Int))) = true then ((elt p.Kids st1.2).bind fun y4 => ((am_ y4 st1.1).bind fun y5 => (if (decide (60 < y5)) = true then (some (.inr y5)) else (some (.inl (y5, (w4 (st1.2 + 1)))))))) else (some (.inr st1.1)))) (c + 1, 0) = _ := k2
  rw [k2]; rfl
def VPat (p : DPattern) : Prop := VP p ∧ (nd p : Int) ≤ 60
theorem m3_ (p : DPattern) (h : SmPt p) : ay_ p = some (says (VPat p)) := by
 refine em_ p _ ?_
 unfold bA_
 obtain ⟨v1, v2⟩ := count2 p h 0 (by omega) (by omega)
 simp only [Int.zero_add] at v1 v2
 by_cases hv : VPat p
 ·rw [v1 hv, bQ_ hv]; simp [hv.2]
 ·rw [v2 hv, bC_ hv]; rfl
end Go.Am
end
