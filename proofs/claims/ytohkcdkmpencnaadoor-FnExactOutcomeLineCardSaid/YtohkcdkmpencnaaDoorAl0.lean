/- The law. -/
import Derived.Test.YtohkcdkmpencnaaDoorAd0
import Derived.Test.YtohkcdkmpencnaaDoorAm4
import Derived.Test.YtohkcdkmpencnaaDoorAm5
import Derived.Lib.CountLaws
section
set_option maxRecDepth 100000
set_option maxHeartbeats 1000000
set_option linter.unusedVariables false
set_option linter.unusedSimpArgs false
namespace Go.Am
open Go
abbrev bs (l : List UInt8) : ByteArray := ⟨l.toArray⟩
theorem bs_app (a b : List UInt8) : bs a ++ bs b = bs (a ++ b) := by
  apply ByteArray.ext
  simp [ByteArray.data_append]
theorem bs_size (a : List UInt8) : (bs a).size = a.length := by
  show a.toArray.size = _; simp
theorem cat_bs {a b : List UInt8} (h : a.length + b.length ≤ 9223372036854775807) : catB (bs a) (bs b) = some (bs (a ++ b)) := by
  unfold catB
  rw [if_pos (by rw [bs_size, bs_size]; exact h), bs_app]
def dd (u : Nat) : List UInt8 := if u = 0 then [] else Lib.decDigits u
theorem dd_step {u : Nat} (h : u ≠ 0) : dd u = dd (u / 10) ++ [UInt8.ofNat (48 + u % 10)] := by
  unfold dd
  rw [if_neg h, Lib.decDigits]
  by_cases h1 : u < 10
  · rw [dif_pos h1, if_pos (by omega), show u % 10 = u by omega]; rfl
  · rw [dif_neg h1, if_neg (by omega)]
theorem dd_len (u k : Nat) (h : u < 10 ^ k) : (dd u).length ≤ k := by
  induction k generalizing u with
  | zero => have : u = 0 := by simpa using h
            subst this; simp [dd]
  | succ k ih =>
    by_cases h0 : u = 0
    · subst h0; simp [dd]
    · rw [dd_step h0, List.length_append, List.length_singleton]
      have := ih (u / 10) (by rw [Nat.pow_succ] at h; omega)
      omega
theorem wrap_u8 {n : Int} (h0 : 0 ≤ n) (h1 : n < 256) : IntKind.u8.wrap n = n := by
  simp only [IntKind.wrap, IntKind.signed, IntKind.bits]
  simp
  omega
theorem digit_str {d : Nat} (h : d ≤ 9) : strS ((⟨false, [⟨(IntKind.u8.wrap (IntKind.i64.wrap (48 + (d : Int))))⟩]⟩ : Sl (Iv .u8))) = some (bs [UInt8.ofNat (48 + d)]) := by
  unfold strS
  rw [wrapB (by omega) (by omega), wrap_u8 (by omega) (by omega)]
  simp only [ofIv]
  rw [if_pos ⟨by omega, by omega⟩]
  simp only [Option.map_some]
  rw [show ((48 + (d : Int)).toNat) = 48 + d by omega]
end Go.Am
end
