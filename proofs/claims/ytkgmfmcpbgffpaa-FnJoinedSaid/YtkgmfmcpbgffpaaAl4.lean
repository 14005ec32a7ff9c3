/- The law. -/
import Derived.Test.YtkgmfmcpbgffpaaAg3
import Derived.Test.YtkgmfmcpbgffpaaAl3
section
set_option maxRecDepth 100000
set_option maxHeartbeats 2000000
set_option linter.unusedVariables false
set_option linter.unusedSimpArgs false
namespace Go.Am
abbrev PhiT := Int → aa_ → Option (Bool × aa_)
theorem kO_ (a b : Sl DCapture) (h : a.l.length + b.l.length ≤ 100) : ∃ y, be_ ⟨false, [a, b]⟩ = some y ∧ y.l = a.l ++ b.l := by
 suffices H : ∃ y, bH_ ⟨false, [a, b]⟩ = some y ∧ y.l = a.l ++ b.l by
  obtain ⟨y, hy, hl⟩ := H; exact ⟨y, fr_ _ y hy, hl⟩
 unfold bH_
 have l1 : az_ (S := (Int × Int)) (R := Int) (fun st1 => (if (decide (st1.2 < ((⟨false, [a, b]⟩ : Sl (Sl DCapture)).l.length : Int))) = true then ((elt (⟨false, [a, b]⟩ : Sl (Sl DCapture)) st1.2).bind fun y2 => (if (decide ((w4 (st1.1 + (y2.l.length : Int))) < 0)) = true then none else (some (.inl ((w4 (st1.1 + (y2.l.length : Int))), (w4 (st1.2 + 1))))))) else (some (.inr st1.1)))) (0, 0) = some ((a.l.length : Int) + (b.l.length : Int)) := by
  refine au_ (s' := ((a.l.length : Int), 1)) ?_ (au_ (s' := ((a.l.length : Int) + (b.l.length : Int), 2)) ?_ (aj_ rfl))
  ·show (if decide ((w4 (0 + (a.l.length : Int))) < 0) = true then none else some (Sum.inl (w4 (0 + (a.l.length : Int)), w4 (0 + 1)))) = _
   rw [a4_ (by omega) (by omega), if_neg (by simp <;> omega), a4_ (by omega) (by omega), Int.zero_add]; rfl
  ·show (if decide ((w4 ((a.l.length : Int) + (b.l.length : Int))) < 0) = true then none else some (Sum.inl (w4 ((a.l.length : Int) + (b.l.length : Int)), w4 (1 + 1)))) = _
   rw [a4_ (by omega) (by omega), if_neg (by simp; omega), a4_ (by omega) (by omega)]; rfl
 have app : ∀ (x y : Sl DCapture), x.l.length + y.l.length ≤ 100 → ∃ w, appS 48 x y = some w ∧ w.l = x.l ++ y.l ∧ (x.z = false → w.z = false) := fun x y hxy => by
  unfold appS
  cases hy : y.l with
  | nil => exact ⟨x, rfl, by simp, id⟩
  | cons q l => rw [hy] at hxy; exact ⟨⟨false, x.l ++ (q :: l)⟩, by rw [if_pos (by omega)], rfl, fun _ => rfl⟩
 have l2 : ∀ z, ∃ w, az_ (S := (Int × (Sl DCapture))) (R := (Sl DCapture)) (fun st2 => (if (decide (st2.1 < ((⟨false, [a, b]⟩ : Sl (Sl DCapture)).l.length : Int))) = true then ((elt (⟨false, [a, b]⟩ : Sl (Sl DCapture)) st2.1).bind fun y8 => ((appS 48 st2.2 y8).bind fun y9 => (some (.inl ((w4 (st2.1 + 1)), y9))))) else (some (.inr st2.2)))) (0, ⟨z, []⟩) = some w ∧ w.l = a.l ++ b.l := fun z => by
  obtain ⟨w1, e1, e2, _⟩ := app ⟨z, []⟩ a (by simp; omega)
  obtain ⟨w2, e3, e4, _⟩ := app w1 b (by rw [e2]; simp; omega)
  refine ⟨w2, au_ (s' := (1, w1)) ?_ (au_ (s' := (2, w2)) ?_ (aj_ rfl)), by rw [e4, e2]; simp⟩
  ·show ((appS 48 ⟨z, []⟩ a).bind _) = _
   rw [e1]; rfl
  ·show ((appS 48 w1 b).bind _) = _
   rw [e3]; rfl
 rw [l1, Option.bind_some]
 have w0 : w4 ((a.l.length : Int) + (b.l.length : Int) - w4 (0 - 0)) = (a.l.length : Int) + (b.l.length : Int) := by
  rw [show w4 (0 - 0) = 0 from rfl, Int.sub_zero, a4_ (by omega) (by omega)]
 simp only [w0]
 rw [if_neg (by simp; omega), Option.bind_some]
 by_cases hp : 0 < (a.l.length : Int) + (b.l.length : Int)
 ·rw [if_pos (by simpa using hp)]
  have z1 : lA_ 48 ((⟨⟨#[]⟩, ⟨#[]⟩, 0, 0⟩ : DCapture) : DCapture) ((a.l.length : Int) + (b.l.length : Int)) = some ⟨false, List.replicate ((a.l.length : Int) + (b.l.length : Int)).toNat ⟨⟨#[]⟩, ⟨#[]⟩, 0, 0⟩⟩ := by
   unfold lA_; rw [if_pos (by omega)]
  rw [z1, Option.bind_some, if_pos (by simp; omega), Option.bind_some]
  obtain ⟨w, e1, e2⟩ := l2 false
  rw [e1, Option.bind_some, if_pos]
  ·exact ⟨w, rfl, e2⟩
  ·have : w.l.length ≠ 0 := fun h0 => by rw [e2, List.length_append] at h0; omega
   simp [this]
 ·rw [if_neg (by simpa using hp)]
  obtain ⟨w, e1, e2⟩ := l2 true
  exact ⟨w, by rw [e1]; rfl, e2⟩
abbrev hF_ (S : aa_) : (Sl DNamed) × ByteArray × Int × Int × Int × Int × Bool × Int × (Sl DCapture) × (Sl DCapture) × (Sl DMatch) := (S.env_, S.subject_, S.fuel_, S.steps_, S.start_, S.most_, S.isMere_, S.code_, S.now_, S.conds_, S.matches_)
abbrev NS (S : aa_) : aa_ := ⟨S.env_, S.subject_, S.fuel_, S.steps_, S.start_, S.now_, S.conds_, S.matches_, S.most_, S.isMere_, T.nilm, S.code_⟩
end Go.Am
end
