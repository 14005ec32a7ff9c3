/- The law. -/
import Derived.Test.YtilalopohkdmdaaGreatAg1
import Derived.Test.YtilalopohkdmdaaGreatAg4
import Derived.Test.YtilalopohkdmdaaGreatAl24
import Derived.Test.YtilalopohkdmdaaGreatAl11
section
set_option maxRecDepth 100000
set_option maxHeartbeats 2000000
set_option linter.unusedVariables false
set_option linter.unusedSimpArgs false
namespace Go.Am
theorem Rz.symm {s : ByteArray} {S S' : aa_} (h : Rz s S S') : Rz s S' S := by cases h with | mk hE h4 h5 => exact .mk hE h4 h5
theorem PZ.symm {s : ByteArray} {r r' : Bool × aa_} (h : PZ s r r') : PZ s r' r := by
 rcases h with h | h | ⟨h1, h2, h3, h4, h5, h6⟩
 ·exact .inr (.inl h)
 ·exact .inl h
 ·exact .inr (.inr ⟨h1.symm, h3, h2, h4.symm, h4 ▸ h5, fun q => (h6 (h1 ▸ q)).symm⟩)
abbrev catP (p q : DPattern) : DPattern := ⟨19, 0, ⟨#[]⟩, ⟨false, [p, q]⟩⟩
theorem Rz.trans {s : ByteArray} {A B C : aa_} (h : Rz s A B) (k : Rz s B C) : Rz s A C := by
 cases h with
 | mk hE h4 h5 =>
  cases k with
  | mk hE' h4' h5' => exact .mk hE h4 h5
end Go.Am
end
