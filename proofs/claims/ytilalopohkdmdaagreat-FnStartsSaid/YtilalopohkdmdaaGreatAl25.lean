/- The law. -/
import Derived.Test.YtilalopohkdmdaaGreatAg0
import Derived.Test.YtilalopohkdmdaaGreatAg2
import Derived.Test.YtilalopohkdmdaaGreatAl24
section
set_option maxRecDepth 100000
set_option maxHeartbeats 1000000
set_option linter.unusedVariables false
set_option linter.unusedSimpArgs false
namespace Go.Am
theorem tame_ok : ∀ p, VP p → ∃ q, a7_ p = some q ∧ qa_ q p := by
 refine jU_ fun p ih hv => ?_
 suffices H : ∃ q, dr_ p = some q ∧ qa_ q p by
  obtain ⟨q, h1, h2⟩ := H; exact ⟨q, iF_ _ _ h1, h2⟩
 have hnp := lr_ p
 have nd0 := hv.node
 unfold dr_
 have e1 : ((if (decide (p.Kind = 14)) = true then (some (decide (p.Kind = 14))) else (if (decide (p.Kind = 15)) = true then (some (decide (p.Kind = 15))) else (if (decide (p.Kind = 17)) = true then (some (decide (p.Kind = 17))) else (some (decide (p.Kind = 23)))))) : Option Bool) = some (decide (p.Kind = 14 ∨ p.Kind = 15 ∨ p.Kind = 17 ∨ p.Kind = 23)) := by
  by_cases h1 : p.Kind = 14
  ·simp [h1]
  ·by_cases h2 : p.Kind = 15
   ·simp [h2]
   ·by_cases h3 : p.Kind = 17
    ·simp [h3]
    ·simp [h1, h2, h3]
 rw [e1, Option.bind_some]
 by_cases hk : p.Kind = 14 ∨ p.Kind = 15 ∨ p.Kind = 17 ∨ p.Kind = 23
 ·rw [if_pos (by simpa using hk)]
  refine ⟨_, rfl, .mk ⟨by show (1 : Int) ≤ 11 ∧ (11 : Int) ≤ 24; decide, by show (0 : Int) = kidN 11; rfl, by show ArgP 11 0 ⟨#[]⟩; unfold ArgP; rw [if_neg (by omega), if_neg (by omega), if_neg (by omega)]; exact ⟨rfl, rfl⟩⟩ (fun q hq => by simp at hq), .mk (by show (11 : Int) ≠ 14 ∧ (11 : Int) ≠ 15 ∧ (11 : Int) ≠ 17; decide) (fun q hq => by simp at hq), ?_⟩
  rw [ks_]; show 1 + ndL [] ≤ _; unfold ndL; omega
 rw [if_neg (by simpa using hk)]
 have e2 : ((if (decide (p.Kind = 22)) = true then (some 21) else (some p.Kind)) : Option Int) = some (if p.Kind = 22 then 21 else p.Kind) := by
  by_cases h : p.Kind = 22
  ·simp [h]
  ·simp [h]
 rw [e2, Option.bind_some]
 have hkl : (p.Kids.l.length : Int) ≤ 2 := by
  rw [nd0.2.1]; unfold kidN; split
  ·omega
  ·split <;> omega
 have hf : ∀ q ∈ p.Kids.l, a7_ q = some ((a7_ q).getD q) := fun q hq => by
  obtain ⟨r, h, _⟩ := ih q hq (hv.kid hq); rw [h]; rfl
 rw [pB_ (fun q => (a7_ q).getD q) (a := p.Kids) (z0 := true) (by omega) (fun i x s hx hi hl he => ?_) (fun s => by rw [if_neg (by simp)]), Option.bind_some]
 rotate_left
 ·show (if decide ((i : Int) < (p.Kids.l.length : Int)) = true then _ else _) = _
  rw [if_pos (by simpa using hi), he, Option.bind_some, hf x hx, Option.bind_some]
  obtain ⟨z, l⟩ := s
  rw [bz_ (by simp at hl; omega), Option.bind_some, aU_ (by omega) (by omega)]; rfl
 have hkid : ∀ q ∈ p.Kids.l, qa_ ((a7_ q).getD q) q := fun q hq => by
  obtain ⟨r, h, hr⟩ := ih q hq (hv.kid hq); rw [h]; exact hr
 refine ⟨_, rfl, .mk ⟨?_, ?_, ?_⟩ ?_, .mk ?_ ?_, ?_⟩
 ·have := nd0.1
  show 1 ≤ (if p.Kind = 22 then 21 else p.Kind) ∧ (if p.Kind = 22 then 21 else p.Kind) ≤ 24
  split <;> omega
 ·show (((p.Kids.l.map _).length : Nat) : Int) = kidN (if p.Kind = 22 then 21 else p.Kind)
  rw [List.length_map, nd0.2.1]
  split
  ·rename_i h; rw [h]; rfl
  ·rfl
 ·show ArgP (if p.Kind = 22 then 21 else p.Kind) p.Num p.Text
  have := nd0.2.2
  split
  ·rename_i h; rw [h] at this; exact this
  ·exact this
 ·intro q hq
  obtain ⟨r, h1, rfl⟩ := List.mem_map.1 hq
  exact (hkid r h1).1
 ·have := nd0.1
  show (if p.Kind = 22 then 21 else p.Kind) ≠ 14 ∧ (if p.Kind = 22 then 21 else p.Kind) ≠ 15 ∧ (if p.Kind = 22 then 21 else p.Kind) ≠ 17
  split <;> omega
 ·intro q hq
  obtain ⟨r, h1, rfl⟩ := List.mem_map.1 hq
  exact (hkid r h1).2.1
 ·rw [ks_, ks_ p]
  have := ndL_mono (p.Kids.l.map fun q => (a7_ q).getD q) p.Kids.l (by simp) fun j h1 h2 => by
   rw [List.getElem_map]; exact (hkid _ (List.getElem_mem h2)).2.2
  show 1 + ndL (p.Kids.l.map _) ≤ _
  omega
theorem n7_ (c : Sl (Iv .u8)) (h : Bys c) : ∃ p, ft_ c = some p ∧ VP p ∧ CalmP p ∧ nd p ≤ 15 := by
 have h0 : cO_ ⟨c, 0, 0⟩ 0 := ⟨h, Int.le_refl _, Int.le_refl _, by decide⟩
 obtain ⟨m, s1, q1, q2, q3, q4⟩ := gr_ 4 h0 (by decide) (by decide) (by decide)
 obtain ⟨p, s', r1, r2, r3, _, _⟩ := pm_ q4 ⟨q2, by omega⟩ (by decide)
 obtain ⟨q, k1, k2, k3, k4⟩ := tame_ok p r2
 refine ⟨q, ju_ _ _ ?_, k2, k3, by omega⟩
 unfold fe_
 rw [q1, Option.bind_some, r1, Option.bind_some, k1]; rfl
def sX_ (i : Nat) (o : Sl DNamed) : Prop := o.l.map (·.Name) = names5.l.take i ∧ ∀ x ∈ o.l, VPat x.Pattern ∧ CalmP x.Pattern
theorem tame_loop : ∀ (m i : Nat), i + m = 5 → ∀ (c : Sl (Iv .u8)) (a sd : Int) (k : Nat) (o : Sl DNamed), cO_ ⟨c, a, sd⟩ k → k + m * 202 ≤ 1000000000 → sX_ i o →
  ∃ o', aD_ (S := (Int × (Sl (Iv .u8)) × Int × Int × (Sl DNamed))) (R := (Sl DNamed)) (fun st1 => (if (decide (st1.1 < ((⟨false, [⟨#[120]⟩, ⟨#[121]⟩, ⟨#[122]⟩, ⟨#[80, 97, 116]⟩, ⟨#[97, 95, 49]⟩]⟩ : Sl ByteArray).l.length : Int))) = true then ((elt (⟨false, [⟨#[120]⟩, ⟨#[121]⟩, ⟨#[122]⟩, ⟨#[80, 97, 116]⟩, ⟨#[97, 95, 49]⟩]⟩ : Sl ByteArray) st1.1).bind fun y2 => ((aI_ (⟨st1.2.1, st1.2.2.1, st1.2.2.2.1⟩ : ah_) 3).bind fun y3 => ((cF_ y3.2 y3.1).bind fun y4 => ((a7_ y4.1).bind fun y5 => ((appS 72 st1.2.2.2.2 (⟨false, [(⟨y2, y5⟩ : DNamed)]⟩ : Sl DNamed)).bind fun y6 => (some (.inl ((w4 (st1.1 + 1)), y4.2.code_, y4.2.at_, y4.2.seed_, y6)))))))) else (some (.inr st1.2.2.2.2)))) ((i : Int), c, a, sd, o) = some o' ∧ sX_ 5 o'
 | 0, i, hi, c, a, sd, k, o, h, hk, ho => ⟨o, al_ (if_neg (by simp; omega)), by rw [show 5 = i by omega]; exact ho⟩
 | m + 1, i, hi, c, a, sd, k, o, h, hk, ho => by
  have w : w4 ((i : Int) + 1) = ((i + 1 : Nat) : Int) := by rw [aU_ (by omega) (by omega)]; simp
  have hlt : i < names5.l.length := by show i < 5; omega
  obtain ⟨d, s2, r1, r2, r3, r4⟩ := gr_ 3 h (by omega) (by omega) (by omega)
  obtain ⟨p, s3, t1, t2, t3, _, t4⟩ := pm_ r4 ⟨r2, by omega⟩ (by omega)
  obtain ⟨q, k1, k2, k3, k4⟩ := tame_ok p t2
  obtain ⟨z, l⟩ := o
  have hol : l.map (·.Name) = names5.l.take i := ho.1
  have hll : l.length = i := by
   have := congrArg List.length hol
   rw [List.length_map, List.length_take] at this; omega
  obtain ⟨o', u1, u2⟩ := tame_loop m (i + 1) (by omega) s3.code_ s3.at_ s3.seed_ _ ⟨false, l ++ [⟨names5.l[i], q⟩]⟩ t4 (by omega) ⟨by
   show (l ++ [_]).map _ = _
   rw [List.map_append, hol, List.take_succ_eq_append_getElem hlt]; rfl, fun x hx => by
   rcases List.mem_append.1 hx with h' | h'
   ·exact ho.2 x h'
   ·rw [List.mem_singleton] at h'; subst h'; exact ⟨⟨k2, by show (nd q : Int) ≤ 60; omega⟩, k3⟩⟩
  refine ⟨o', aC_ ?_ u1, u2⟩
  rw [if_pos (by simp; omega)]
  have e : elt (⟨false, [⟨#[120]⟩, ⟨#[121]⟩, ⟨#[122]⟩, ⟨#[80, 97, 116]⟩, ⟨#[97, 95, 49]⟩]⟩ : Sl ByteArray) (i : Int) = some names5.l[i] := bK_ (s := names5) hlt
  simp only [e, Option.bind_some, r1, t1, k1, w]
  rw [bz_ (by omega), Option.bind_some]
theorem mw_ (c : Sl (Iv .u8)) (h : Bys c) : ∃ o, dV_ c = some o ∧ EnvP o ∧ oC_ o := by
 have h0 : cO_ ⟨c, 0, 0⟩ 0 := ⟨h, Int.le_refl _, Int.le_refl _, by decide⟩
 obtain ⟨o, r1, r2, r3⟩ := tame_loop 5 0 rfl c 0 0 0 ⟨false, []⟩ h0 (by decide) ⟨rfl, fun x hx => by simp at hx⟩
 have hn : o.l.map (·.Name) = names5.l := r2
 have hl : o.l.length = 5 := by have := congrArg List.length hn; rw [List.length_map] at this; exact this
 refine ⟨o, hx_ _ _ ?_, ⟨by omega, fun x hx => ⟨names5_ok _ ?_, (r3 x hx).1⟩, fun i _ hi j hj x y hx hy => ?_⟩, fun x hx => (r3 x hx).2⟩
 ·unfold dJ_
  rw [show ((0 : Nat) : Int) = 0 from rfl] at r1
  rw [r1]; rfl
 ·rw [← hn]; exact List.mem_map.2 ⟨x, hx, rfl⟩
 ·obtain ⟨h1, rfl⟩ := List.getElem?_eq_some_iff.1 hx
  obtain ⟨h2, rfl⟩ := List.getElem?_eq_some_iff.1 hy
  have a1 : names5.l[j]'(by rw [← hn]; simpa using h1) = o.l[j].Name := by simp [← hn]
  have a2 : names5.l[i]'(by rw [← hn]; simpa using h2) = o.l[i].Name := by simp [← hn]
  rw [← a1, ← a2]
  exact names5_nd j i _ _ hj
end Go.Am
end
