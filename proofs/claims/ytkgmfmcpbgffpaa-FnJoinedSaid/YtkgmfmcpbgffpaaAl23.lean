/- The law. -/
import Derived.Test.YtkgmfmcpbgffpaaAg1
import Derived.Test.YtkgmfmcpbgffpaaAg3
import Derived.Test.YtkgmfmcpbgffpaaAl11
import Derived.Test.YtkgmfmcpbgffpaaAl22
section
set_option maxRecDepth 100000
set_option maxHeartbeats 2000000
set_option linter.unusedVariables false
set_option linter.unusedSimpArgs false
namespace Go.Am
theorem fp_ {α β γ : Type} {o : Option α} {f : α → Option β} {o' : Option γ} {Q : α → Prop} {P : β → γ → Prop} (h : Gv o Q) (k : ∀ y, Q y → Gt (f y) o' P) : Gt (o.bind f) o' P := fun r r' hr hr' => by
 obtain ⟨y, h1, h2⟩ := Option.bind_eq_some_iff.1 hr
 exact k y (h y h1) r r' h2 hr'
abbrev catP (p q : DPattern) : DPattern := ⟨19, 0, ⟨#[]⟩, ⟨false, [p, q]⟩⟩
abbrev altP (p q : DPattern) : DPattern := ⟨18, 0, ⟨#[]⟩, ⟨false, [p, q]⟩⟩
noncomputable def KK (n : Nat) (q : DPattern) (Φ : PhiT) : PhiT := fun e S => ((BG_impl_search_match n).1 (NS S) q e Φ).bind fun y => some (y.1, NS y.2)
noncomputable def AA (n : Nat) (p q : DPattern) (S : aa_) (c : Int) (Φ : PhiT) : Option (Bool × aa_) := ((BG_impl_search_match n).1 S p c Φ).bind fun y2 => if y2.1 = true then ((BG_impl_search_match n).1 (NS y2.2) q c Φ).bind (fun y4 => some (y4.1, NS y4.2)) else some (false, NS y2.2)
theorem oS_ {s : ByteArray} (hs : s.size ≤ 200) (c : Int) (hc : 0 ≤ c ∧ c ≤ (s.size : Int)) : aL_ 1 0 ⟨#[]⟩ s c = some c := by
 refine c8_ _ _ _ _ _ _ ?_
 obtain ⟨n, rfl⟩ : ∃ n : Nat, c = n := ⟨c.toNat, by omega⟩
 unfold b0_
 have e1 : subB s n (s.size : Int) = some (s.extract n s.size) := by unfold subB; rw [if_pos (by omega)]; simp
 have z : (⟨#[]⟩ : ByteArray).size = 0 := rfl
 have w : w4 ((n : Int) + ((⟨#[]⟩ : ByteArray).size : Int)) = n := by rw [z, a4_ (by omega) (by omega)]; simp
 simp only [decide_true, if_true, e1, Option.bind_some, jV_, w]
 rw [bs_ ⟨by rw [z]; omega, by rw [z]; simp; rfl⟩]
 rfl
end Go.Am
end
