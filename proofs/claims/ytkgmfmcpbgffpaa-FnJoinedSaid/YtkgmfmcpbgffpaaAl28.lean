/- The law. -/
import Derived.Test.YtkgmfmcpbgffpaaAg3
import Derived.Test.YtkgmfmcpbgffpaaAl27
section
set_option maxRecDepth 100000
set_option maxHeartbeats 4000000
set_option linter.unusedVariables false
set_option linter.unusedSimpArgs false
namespace Go.Am
def Pre (s t : ByteArray) (n : Nat) : Prop := n + t.size ≤ s.size ∧ s.extract n (n + t.size) = t
theorem jF_ {s t : ByteArray} (hs : s.size ≤ 200) (ht : t.size ≤ 200) (n : Nat) (hn : n ≤ s.size) : (Pre s t n → aL_ 1 0 t s n = some ((n + t.size : Nat) : Int)) ∧ (¬ Pre s t n → aL_ 1 0 t s n = some (-1)) := by
 have e1 : subB s n (s.size : Int) = some (s.extract n s.size) := by unfold subB; rw [if_pos (by omega)]; simp
 have w : w4 ((n : Int) + (t.size : Int)) = ((n + t.size : Nat) : Int) := by rw [a4_ (by omega) (by omega)]; omega
 have z : (s.extract n s.size).size = s.size - n := by rw [ByteArray.size_extract]; omega
 have z2 : (t.size ≤ (s.extract n s.size).size ∧ (s.extract n s.size).extract 0 t.size = t) ↔ Pre s t n := by
  unfold Pre
  rw [z, ByteArray.extract_extract]
  constructor
  ·rintro ⟨h1, h2⟩
   have : min (n + t.size) s.size = n + t.size := by omega
   rw [this] at h2
   exact ⟨by omega, h2⟩
  ·rintro ⟨h1, h2⟩
   have : min (n + t.size) s.size = n + t.size := by omega
   rw [this]
   exact ⟨by omega, h2⟩
 constructor
 ·intro h
  refine c8_ _ _ _ _ _ _ ?_
  unfold b0_
  simp only [decide_true, if_true, e1, Option.bind_some, jV_, w]
  rw [bs_ (z2.2 h)]
  rfl
 ·intro h
  refine c8_ _ _ _ _ _ _ ?_
  unfold b0_
  simp only [decide_true, if_true, e1, Option.bind_some, jV_, w]
  rw [aZ_ fun q => h (z2.1 q)]
  rfl
theorem uy_ {a b t u : ByteArray} (h : a ++ b = t ++ u) (hs : a.size = t.size) : a = t ∧ b = u := by
 have h1 := congrArg ByteArray.data h
 rw [ByteArray.data_append, ByteArray.data_append] at h1
 have h2 := Array.append_inj h1 (by simpa using hs)
 exact ⟨ByteArray.ext h2.1, ByteArray.ext h2.2⟩
theorem l5_ {s t u : ByteArray} (n : Nat) : Pre s (t ++ u) n ↔ Pre s t n ∧ Pre s u (n + t.size) := by
 unfold Pre
 rw [ByteArray.size_append]
 have e : s.extract n (n + (t.size + u.size)) = s.extract n (n + t.size) ++ s.extract (n + t.size) (n + t.size + u.size) := by
  rw [show n + (t.size + u.size) = n + t.size + u.size by omega]
  exact ByteArray.extract_eq_extract_append_extract _ (by omega) (by omega)
 rw [e]
 constructor
 ·rintro ⟨h1, h2⟩
  have := uy_ h2 (by rw [ByteArray.size_extract]; omega)
  exact ⟨⟨by omega, this.1⟩, by omega, this.2⟩
 ·rintro ⟨⟨h1, h2⟩, h3, h4⟩
  exact ⟨by omega, by rw [h2, h4]⟩
theorem kZ_ {s t : ByteArray} (hs : s.size ≤ 200) (ht : t.size ≤ 200) (n : Nat) (hn : n ≤ s.size) (h : Pre s t n) (Ψ : PhiT) (S : aa_) : SG s t Ψ n S = Ψ ((n + t.size : Nat) : Int) S := by
 unfold SG
 rw [(jF_ hs ht n hn).1 h, Option.bind_some, if_neg (by simp; omega)]
theorem nD_ {s t : ByteArray} (hs : s.size ≤ 200) (ht : t.size ≤ 200) (n : Nat) (hn : n ≤ s.size) (h : ¬ Pre s t n) (Ψ : PhiT) (S : aa_) : SG s t Ψ n S = some (true, S) := by
 unfold SG
 rw [(jF_ hs ht n hn).2 h, Option.bind_some, if_pos (by decide)]
theorem oH_ {s : ByteArray} (hs : s.size ≤ 200) {e : Int} (he : 0 ≤ e ∧ e ≤ (s.size : Int)) (Ψ : PhiT) (S : aa_) : SG s ⟨#[]⟩ Ψ e S = Ψ e S := by
 unfold SG
 rw [oS_ hs e he, Option.bind_some, if_neg (by simp; omega)]
theorem nW_ {s t : ByteArray} {f k : Int} (hs : s.size ≤ 200) (ht : t.size ≤ 200) {Φ Φ' : PhiT} {e : Int} {S S' : aa_} (he : 0 ≤ e ∧ e ≤ (s.size : Int)) (hr : Rd s f 0 S S') (h : ∀ e, 0 ≤ e ∧ e ≤ (s.size : Int) → Gt (Φ e S) (Φ' e S') (PD s f)) : Gt (SG s t Φ e S) (SG s t Φ' e S') (PD s f) := by
 obtain ⟨n, rfl⟩ : ∃ n : Nat, e = n := ⟨e.toNat, by omega⟩
 have hn : n ≤ s.size := by omega
 by_cases p : Pre s t n
 ·rw [kZ_ hs ht n hn p, kZ_ hs ht n hn p]
  exact h _ ⟨by omega, by have := p.1; omega⟩
 ·rw [nD_ hs ht n hn p, nD_ hs ht n hn p]
  exact aI_ (PD.rel true hr)
theorem pd_ {s t u : ByteArray} {f k : Int} (hs : s.size ≤ 200) (ht : t.size + u.size ≤ 200) {Φ Ψ : PhiT} {e : Int} {S S' : aa_} (he : 0 ≤ e ∧ e ≤ (s.size : Int)) (hr : Rd s f 0 S S') (h : ∀ e, 0 ≤ e ∧ e ≤ (s.size : Int) → Gt (Φ e S) (SG s u Ψ e S') (PD s f)) : Gt (SG s t Φ e S) (SG s (t ++ u) Ψ e S') (PD s f) := by
 obtain ⟨n, rfl⟩ : ∃ n : Nat, e = n := ⟨e.toNat, by omega⟩
 have hn : n ≤ s.size := by omega
 have htu : (t ++ u).size ≤ 200 := by rw [ByteArray.size_append]; omega
 by_cases p : Pre s t n
 ·have hn2 : n + t.size ≤ s.size := p.1
  rw [kZ_ hs (by omega) n hn p]
  have h := h ((n + t.size : Nat) : Int) ⟨by omega, by omega⟩
  by_cases p2 : Pre s u (n + t.size)
  ·rw [kZ_ hs (by omega) _ hn2 p2] at h
   rw [kZ_ hs htu n hn ((l5_ n).2 ⟨p, p2⟩), ByteArray.size_append, show n + (t.size + u.size) = n + t.size + u.size by omega]
   exact h
  ·rw [nD_ hs (by omega) _ hn2 p2] at h
   rw [nD_ hs htu n hn fun q => p2 ((l5_ n).1 q).2]
   exact h
 ·rw [nD_ hs (by omega) n hn p, nD_ hs htu n hn fun q => p ((l5_ n).1 q).1]
  exact aI_ (PD.rel true hr)
end Go.Am
end
