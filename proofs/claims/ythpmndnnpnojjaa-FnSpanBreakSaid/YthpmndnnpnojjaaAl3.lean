/- The law. -/
import Derived.Test.YthpmndnnpnojjaaAl2
import Derived.Test.YthpmndnnpnojjaaAg5
section
set_option maxRecDepth 100000
set_option maxHeartbeats 1000000
set_option linter.unusedVariables false
set_option linter.unusedSimpArgs false
namespace Go.Am
theorem os_ {s : ByteArray} {i : Nat} (h : i < s.size) : bAt s (i : Int) = ((s[i]'h).toNat : Int) := by
 unfold bAt
 rw [dif_pos (by simpa using h)]; rfl
theorem fw_ (s : ByteArray) (j : Int) : 0 ≤ bAt s j ∧ bAt s j < 256 := by
 unfold bAt
 split
 ·have := UInt8.toNat_lt s[j.toNat]; omega
 ·omega
def d6_ (t : ByteArray) (y : Int) : Prop := ∃ i : Nat, i < t.size ∧ bAt t i = y
theorem lG_ (t : ByteArray) (y : Int) (h0 : 0 ≤ y) (h1 : y < 256) : 0 ≤ firstIdx t y.toNat.toUInt8 ↔ d6_ t y := by
 unfold firstIdx d6_
 have key : ∀ i : Nat, (h : i < t.size) → ((t[i]! == y.toNat.toUInt8) = true ↔ bAt t i = y) := fun i h => by
  rw [os_ h, getElem!_pos t i h, beq_iff_eq]
  constructor
  ·intro e; rw [e]; simp; omega
  ·intro e; rw [← e]; simp
 cases hf : (List.range t.size).find? fun i => t[i]! == y.toNat.toUInt8 with
 | none =>
  rw [List.find?_eq_none] at hf
  refine ⟨fun h => by simp at h, fun ⟨i, hi, e⟩ => absurd ((key i hi).2 e) (by simpa using hf i (by simpa using hi))⟩
 | some i =>
  have hm := List.mem_of_find?_eq_some hf
  have hi : i < t.size := by simpa using hm
  have hp := List.find?_some hf
  exact ⟨fun _ => ⟨i, hi, (key i hi).1 hp⟩, fun _ => by simp⟩
theorem ka_ (t : ByteArray) (y : Int) (h : 0 ≤ y ∧ y < 256) : bi_ y t = some (says (d6_ t y)) := by
 refine g7_ y t _ ?_
 unfold dn_
 have e : cb_ t y = some (firstIdx t y.toNat.toUInt8) := by
  refine fs_ t y _ ?_
  unfold b7_
  have e2 : aY_ t y = some (firstIdx t y.toNat.toUInt8) := by
   refine cv_ t y _ ?_
   unfold aX_
   rw [cd_ t y _ rfl]; rfl
  rw [e2]; rfl
 rw [e, Option.bind_some, jE_, ed_ (lG_ t y h.1 h.2)]
end Go.Am
end
