/- A contract of the library as a function from outside. -/
import Derived.Test.YtnihabnkoegdjaaAm6
import Derived.Shelf.Strings.Repeat
section
set_option linter.unusedVariables false
set_option linter.unusedSimpArgs false
namespace Go.Am
open Go.Proofs Go.Shelf Go.RowKit
def rptB (s : ByteArray) (n : Int) : Option ByteArray := if 0 ≤ n ∧ n ≤ 1048576 ∧ s.size * n.toNat ≤ 1048576 then some ⟨(Lib.repeatL s.data.toList n.toNat).toArray⟩ else none
def rptE : List T → St → Option (T × St)
 | [.str s, .int .i64 n], σ => (rptB s n).map fun s => (.str s, σ)
 | _, _ => none
theorem rv_ {P : Program} {ρ : Ren} (L : Lays.n105 P ρ) (X : Builder.Extra P ρ) (args : List T) (σ : St) (r : T) (σ' : St) (h : rptE args σ = some (r, σ')) : fz_ P (ρ.f 105) args σ r σ' := by
 unfold rptE at h
 split at h
 ·rename_i σ1 x n
  obtain ⟨s, h1, h2⟩ := Option.map_eq_some_iff.1 h
  injection h2 with e1 e2; subst e1; subst e2
  unfold rptB at h1
  split at h1
  ·rename_i hc
   obtain ⟨c1, c2, c3⟩ := hc
   injection h1 with h1; subst h1
   refine rG_ ⟨_, _, L.f105, by kernel_rfl, rfl⟩ fun B0 w0 w vs E hi hbel hv => ?_
   obtain ⟨v1, v2, rfl, a1, a2⟩ := hv.two
   cases a1; cases a2
   obtain ⟨k, rfl⟩ : ∃ k : Nat, n = k := ⟨n.toNat, by omega⟩
   exact ⟨_, .str _, (Any.strings_Repeat L X x k w (by omega) (by simp at c3 ⊢; omega)).mono fun e w' ⟨q1, q2⟩ => ⟨q1, q2⟩⟩
  ·cases h1
 ·cases h
theorem tu_ (args : List T) (σ : St) (r : T) (σ' : St) (h : rptE args σ = some (r, σ')) : σ' = σ ∧ ∀ σ2, rptE args σ2 = some (r, σ2) := by
 unfold rptE at h
 split at h
 ·obtain ⟨s, h1, h2⟩ := Option.map_eq_some_iff.1 h
  injection h2 with e1 e2; subst e1; subst e2
  exact ⟨rfl, fun σ2 => by unfold rptE; simp only [h1, Option.map_some]⟩
 ·cases h
theorem qa_ {P : Program} {md : Nat → Md} {X : Ext} {f : Nat} {eb : ByteArray → T} (hi : ∀ a b, eb a = eb b → a = b) (hm : md f = .raw) (hX : X f = some rptE) {s : ByteArray} {n : Int} {r : ByteArray} (h : rptB s n = some r) (he : ∀ s, eb s = .str s) : semV P md X eb f [.str s, .int .i64 n] = some r := by
 refine g4_ hi fun σ => c0_.2 (.raw hm (.ext hX ?_))
 rw [he]; unfold rptE; simp only [h, Option.map_some]
end Go.Am
end
