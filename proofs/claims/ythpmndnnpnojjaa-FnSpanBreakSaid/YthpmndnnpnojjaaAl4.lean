/- The law. -/
import Derived.Test.YthpmndnnpnojjaaAl3
import Derived.Test.YthpmndnnpnojjaaAg5
import Derived.Test.YthpmndnnpnojjaaAg3
import Derived.Test.YthpmndnnpnojjaaAg4
import Derived.Test.YthpmndnnpnojjaaAg2
section
set_option maxRecDepth 100000
set_option maxHeartbeats 2000000
set_option linter.unusedVariables false
set_option linter.unusedSimpArgs false
namespace Go.Am
abbrev PhiT := Int → ab_ → Option (Bool × ab_)
def EE : Nat := 30002
abbrev sI (env : Sl an_) (s : ByteArray) (F : Nat) (st start : Int) (nw cd : Sl ad_) (mt : Sl as_) : ab_ := ⟨env, s, (F : Int), st, start, nw, cd, mt, 0, false, T.nilm, 0⟩
abbrev sR (env : Sl an_) (s : ByteArray) (F : Nat) (st : Int) (cs : Sl ax_) (ou : Sl as_) (nw cd : Sl ad_) : ai_ := ⟨env, s, (F : Int), 1, st, cs, ou, nw, cd, false, false, false, 0⟩
structure Inv (F M : Nat) (nw cd : Sl ad_) (mt : Sl as_) (cs : Sl ax_) (ou : Sl as_) (nw2 cd2 : Sl ad_) : Prop where
 hF : F ≤ 20000
 hM : M ≤ F
 hnw : nw.l.length = nw2.l.length
 hcd : cd.l.length = cd2.l.length
 hcap : nw.l.length + cd.l.length ≤ 100
 hmt : mt.l.map (fun x => x.End) = ou.l.map (fun x => x.End)
 hml : mt.l.length ≤ 60
 hcl : cs.l.length + M ≤ F + 1
theorem Inv.len {F M : Nat} {nw cd : Sl ad_} {mt : Sl as_} {cs : Sl ax_} {ou : Sl as_} {nw2 cd2 : Sl ad_} (h : Inv F M nw cd mt cs ou nw2 cd2) : mt.l.length = ou.l.length := by
 have := congrArg List.length h.hmt; simpa using this
def Fin (S : ab_) (r : ai_) : Prop :=
 (r.code_ ≠ 0 ∧ S.code_ = r.code_ ∧ S.matches_.l = []) ∨ (r.code_ = 0 ∧ r.full_ = true ∧ r.stop_ = true ∧ S.code_ = 6 ∧ S.matches_.l.map (fun x => x.End) = r.out_.l.map (fun x => x.End) ∧ S.matches_.l.length ≤ 60) ∨
 (r.code_ = 0 ∧ r.full_ = false ∧ r.abort_ = true ∧ S.code_ = 0 ∧ S.matches_.l.map (fun x => x.End) = r.out_.l.map (fun x => x.End) ∧ S.matches_.l.length ≤ 60)
theorem Fin.over {S : ab_} {r : ai_} (h : Fin S r) : r.abort_ = true ∨ r.stop_ = true ∨ r.code_ ≠ 0 := by
 rcases h with h | h | h
 ·exact .inr (.inr h.1)
 ·exact .inr (.inl h.2.2.1)
 ·exact .inl h.2.2.1
structure Post (env : Sl an_) (s : ByteArray) (F : Nat) (b : Bool) (M : Nat) (start : Int) (cd : Sl ad_) (cs : Sl ax_) (cd2 : Sl ad_) (S' : ab_) (r' : ai_) : Prop where
 hs : r'.s_ = s
 hcs : ∃ x, r'.conts_.l = cs.l ++ x
 c1 : cd.l.length ≤ S'.conds_.l.length
 c2 : cd2.l.length ≤ r'.conds_.l.length
 go : b = true → ∃ M' nw' cd' mt' cs' ou' nw2' cd2', M' ≤ M ∧ S' = sI env s F ((F : Int) - M') start nw' cd' mt' ∧ r' = sR env s F ((F : Int) - M') cs' ou' nw2' cd2' ∧ Inv F M' nw' cd' mt' cs' ou' nw2' cd2' ∧ cd'.l.length = cd.l.length
 no : b = false → Fin S' r'
 c3 : r'.conds_.l.length ≤ 200
 c4 : b = true → (r'.conts_.l.length : Int) + ((F : Int) - r'.steps_) ≤ cs.l.length + M
def KOk (env : Sl an_) (s : ByteArray) (F M k : Nat) (start : Int) (Φ : PhiT) (C : List ax_) (c0 : Nat) : Prop :=
 ∀ M', M' ≤ M → ∀ nw cd mt cs ou nw2 cd2 (e n : Nat), Inv F M' nw cd mt cs ou nw2 cd2 → (∃ x, cs.l = C ++ x) → c0 ≤ e → e ≤ s.size → M' * EE + k + 2 ≤ n →
  ∃ b S' r', Φ (e : Int) (sI env s F ((F : Int) - M') start nw cd mt) = some (b, S') ∧ (BG_spec_l12Run_at n).2 (sR env s F ((F : Int) - M') cs ou nw2 cd2) (k : Int) (e : Int) = some ((), r') ∧ Post env s F b M' start cd cs cd2 S' r'
theorem KOk.mono {env : Sl an_} {s : ByteArray} {F M M2 k : Nat} {start : Int} {Φ : PhiT} {C C2 : List ax_} {c0 c2 : Nat} (h : KOk env s F M k start Φ C c0) (hM : M2 ≤ M) (hC : ∃ x, C2 = C ++ x) (hc : c0 ≤ c2) : KOk env s F M2 k start Φ C2 c2 := by
 intro M' hM' nw cd mt cs ou nw2 cd2 e n hi hx he hes hn
 obtain ⟨x, rfl⟩ := hC
 obtain ⟨y, hy⟩ := hx
 exact h M' (by omega) nw cd mt cs ou nw2 cd2 e n hi ⟨x ++ y, by rw [hy, List.append_assoc]⟩ (by omega) hes hn
theorem Post.trans {env : Sl an_} {s : ByteArray} {F : Nat} {b : Bool} {M M2 : Nat} {start : Int} {cd cda : Sl ad_} {cs csa : Sl ax_} {cd2 cd2a : Sl ad_} {S' : ab_} {r' : ai_}
  (h : Post env s F b M2 start cda csa cd2a S' r') (hM : M2 ≤ M) (hcs : ∃ x, csa.l = cs.l ++ x) (h1 : cda.l.length = cd.l.length) (h2 : cd2.l.length ≤ cd2a.l.length) (h4 : csa.l.length + M2 ≤ cs.l.length + M) : Post env s F b M start cd cs cd2 S' r' := by
 obtain ⟨x, hx⟩ := hcs
 obtain ⟨y, hy⟩ := h.hcs
 refine ⟨h.hs, ⟨x ++ y, by rw [hy, hx, List.append_assoc]⟩, by have := h.c1; omega, by have := h.c2; omega, fun hb => ?_, h.no, h.c3, fun hb => by have := h.c4 hb; omega⟩
 obtain ⟨M', nw', cd', mt', cs', ou', nw2', cd2', g1, g2, g3, g4, g5⟩ := h.go hb
 exact ⟨M', nw', cd', mt', cs', ou', nw2', cd2', by omega, g2, g3, g4, by omega⟩
section
variable {env : Sl an_} {s : ByteArray} {F M : Nat} {start : Int} {nw cd : Sl ad_} {mt : Sl as_} {cs : Sl ax_} {ou : Sl as_} {nw2 cd2 : Sl ad_}
theorem lf_ (a b : Sl ad_) (h : a.l.length + b.l.length ≤ 100) : ∃ y, bF_ ⟨false, [a, b]⟩ = some y ∧ y.l = a.l ++ b.l := by
 suffices H : ∃ y, a9_ ⟨false, [a, b]⟩ = some y ∧ y.l = a.l ++ b.l by
  obtain ⟨y, hy, hl⟩ := H; exact ⟨y, el_ _ y hy, hl⟩
 unfold a9_
 have l1 : ar_ (S := (Int × Int)) (R := Int) (fun st1 => (if (decide (st1.2 < ((⟨false, [a, b]⟩ : Sl (Sl ad_)).l.length : Int))) = true then ((elt (⟨false, [a, b]⟩ : Sl (Sl ad_)) st1.2).bind fun y2 => (if (decide ((w4 (st1.1 + (y2.l.length : Int))) < 0)) = true then none else (some (.inl ((w4 (st1.1 + (y2.l.length : Int))), (w4 (st1.2 + 1))))))) else (some (.inr st1.1)))) (0, 0) = some ((a.l.length : Int) + (b.l.length : Int)) := by
  refine aK_ (s' := ((a.l.length : Int), 1)) ?_ (aK_ (s' := ((a.l.length : Int) + (b.l.length : Int), 2)) ?_ (aw_ rfl))
  ·show (if decide ((w4 (0 + (a.l.length : Int))) < 0) = true then none else some (Sum.inl (w4 (0 + (a.l.length : Int)), w4 (0 + 1)))) = _
   rw [cR_ (by omega) (by omega), if_neg (by simp <;> omega), cR_ (by omega) (by omega), Int.zero_add]; rfl
  ·show (if decide ((w4 ((a.l.length : Int) + (b.l.length : Int))) < 0) = true then none else some (Sum.inl (w4 ((a.l.length : Int) + (b.l.length : Int)), w4 (1 + 1)))) = _
   rw [cR_ (by omega) (by omega), if_neg (by simp; omega), cR_ (by omega) (by omega)]; rfl
 have app : ∀ (x y : Sl ad_), x.l.length + y.l.length ≤ 100 → ∃ w, appS 48 x y = some w ∧ w.l = x.l ++ y.l ∧ (x.z = false → w.z = false) := fun x y hxy => by
  unfold appS
  cases hy : y.l with
  | nil => exact ⟨x, rfl, by simp, id⟩
  | cons q l => rw [hy] at hxy; exact ⟨⟨false, x.l ++ (q :: l)⟩, by rw [if_pos (by omega)], rfl, fun _ => rfl⟩
 have l2 : ∀ z, ∃ w, ar_ (S := (Int × (Sl ad_))) (R := (Sl ad_)) (fun st2 => (if (decide (st2.1 < ((⟨false, [a, b]⟩ : Sl (Sl ad_)).l.length : Int))) = true then ((elt (⟨false, [a, b]⟩ : Sl (Sl ad_)) st2.1).bind fun y8 => ((appS 48 st2.2 y8).bind fun y9 => (some (.inl ((w4 (st2.1 + 1)), y9))))) else (some (.inr st2.2)))) (0, ⟨z, []⟩) = some w ∧ w.l = a.l ++ b.l := fun z => by
  obtain ⟨w1, e1, e2, _⟩ := app ⟨z, []⟩ a (by simp; omega)
  obtain ⟨w2, e3, e4, _⟩ := app w1 b (by rw [e2]; simp; omega)
  refine ⟨w2, aK_ (s' := (1, w1)) ?_ (aK_ (s' := (2, w2)) ?_ (aw_ rfl)), by rw [e4, e2]; simp⟩
  ·show ((appS 48 ⟨z, []⟩ a).bind _) = _
   rw [e1]; rfl
  ·show ((appS 48 w1 b).bind _) = _
   rw [e3]; rfl
 rw [l1, Option.bind_some]
 have w0 : w4 ((a.l.length : Int) + (b.l.length : Int) - w4 (0 - 0)) = (a.l.length : Int) + (b.l.length : Int) := by
  rw [show w4 (0 - 0) = 0 from rfl, Int.sub_zero, cR_ (by omega) (by omega)]
 simp only [w0]
 rw [if_neg (by simp; omega), Option.bind_some]
 by_cases hp : 0 < (a.l.length : Int) + (b.l.length : Int)
 ·rw [if_pos (by simpa using hp)]
  have z1 : i0_ 48 ((⟨⟨#[]⟩, ⟨#[]⟩, 0, 0⟩ : ad_) : ad_) ((a.l.length : Int) + (b.l.length : Int)) = some ⟨false, List.replicate ((a.l.length : Int) + (b.l.length : Int)).toNat ⟨⟨#[]⟩, ⟨#[]⟩, 0, 0⟩⟩ := by
   unfold i0_; rw [if_pos (by omega)]
  rw [z1, Option.bind_some, if_pos (by simp; omega), Option.bind_some]
  obtain ⟨w, e1, e2⟩ := l2 false
  rw [e1, Option.bind_some, if_pos]
  ·exact ⟨w, rfl, e2⟩
  ·have : w.l.length ≠ 0 := fun h0 => by rw [e2, List.length_append] at h0; omega
   simp [this]
 ·rw [if_neg (by simpa using hp)]
  obtain ⟨w, e1, e2⟩ := l2 true
  exact ⟨w, by rw [e1]; rfl, e2⟩
end
end Go.Am
end
