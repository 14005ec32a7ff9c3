/- The law. -/
import Derived.Test.YtkgmfmcpbgffpaaAg3
import Derived.Test.YtkgmfmcpbgffpaaAl9
section
set_option maxRecDepth 100000
set_option maxHeartbeats 2000000
set_option linter.unusedVariables false
set_option linter.unusedSimpArgs false
namespace Go.Am
section
variable {env : Sl DNamed} {s : ByteArray} {F M : Nat} {start : Int} {nw cd : Sl DCapture} {mt : Sl DMatch} {cs : Sl b7_} {ou : Sl DMatch} {nw2 cd2 : Sl DCapture} {S' : aa_} {r' : dY_} {b : Bool}
theorem rL_ (c : Nat) (e : Int) (hs : s.size ≤ 200) (hc : c ≤ s.size) : ∃ v : Int, fy_ s c e = some v ∧ aU_ s c e = some v ∧ (v < 0 ∨ (e < v ∧ (c : Int) ≤ v ∧ v ≤ s.size)) := by
 have hbody : ((fun st1 => (if (decide (st1.2 < (s.size : Int))) = true then ((aP_ s st1.2).bind fun y2 => (((if (decide (y2 = 40)) = true then (some (w4 (st1.1 + 1))) else (some st1.1)) : Option Int).bind fun y3 => ((aP_ s st1.2).bind fun y4 => (((if (decide (y4 = 41)) = true then (some (w4 (y3 - 1))) else (some y3)) : Option Int).bind fun y5 => (if (decide (y5 < 0)) = true then (some (.inr (.inr (-1)))) else (if (decide (y5 = 0)) = true then (if (decide ((e : Int) < (w4 (st1.2 + 1)))) = true then (some (.inr (.inr (w4 (st1.2 + 1))))) else (some (.inl (y5, (w4 (st1.2 + 1)))))) else (some (.inl (y5, (w4 (st1.2 + 1))))))))))) else (some (.inr (.inl ()))))) : Int × Int → Option ((Int × Int) ⊕ (Unit ⊕ Int))) = (fun st1 => (if (decide (st1.2 < (s.size : Int))) = true then ((aP_ s st1.2).bind fun y2 => (((if (decide (y2 = 40)) = true then (some (w4 (st1.1 + 1))) else (if (decide (y2 = 41)) = true then (some (w4 (st1.1 - 1))) else (some st1.1))) : Option Int).bind fun y3 => (if (decide (y3 < 0)) = true then (some (.inr (.inr (-1)))) else (if (decide (y3 = 0)) = true then (if (decide ((e : Int) < (w4 (st1.2 + 1)))) = true then (some (.inr (.inr (w4 (st1.2 + 1))))) else (some (.inl (y3, (w4 (st1.2 + 1)))))) else (some (.inl (y3, (w4 (st1.2 + 1))))))))) else (some (.inr (.inl ()))))) := by
  funext st
  show (if _ then _ else _) = (if _ then _ else _)
  split
  ·cases hb : aP_ s st.2 with
   | none => rfl
   | some y =>
    simp only [Option.bind_some]
    by_cases h40 : y = 40
    ·simp [h40]
    ·by_cases h41 : y = 41 <;> simp [h40, h41]
  ·rfl
 have key : ∀ (m j : Nat), j + m = s.size → ∀ d : Int, 0 ≤ d → d ≤ j → c ≤ j → ∃ z, az_ (S := (Int × Int)) (R := (Unit ⊕ Int)) (fun st1 => (if (decide (st1.2 < (s.size : Int))) = true then ((aP_ s st1.2).bind fun y2 => (((if (decide (y2 = 40)) = true then (some (w4 (st1.1 + 1))) else (if (decide (y2 = 41)) = true then (some (w4 (st1.1 - 1))) else (some st1.1))) : Option Int).bind fun y3 => (if (decide (y3 < 0)) = true then (some (.inr (.inr (-1)))) else (if (decide (y3 = 0)) = true then (if (decide ((e : Int) < (w4 (st1.2 + 1)))) = true then (some (.inr (.inr (w4 (st1.2 + 1))))) else (some (.inl (y3, (w4 (st1.2 + 1)))))) else (some (.inl (y3, (w4 (st1.2 + 1))))))))) else (some (.inr (.inl ()))))) (d, (j : Int)) = some z ∧ (z = .inl () ∨ z = .inr (-1) ∨ ∃ v : Int, z = .inr v ∧ e < v ∧ (c : Int) ≤ v ∧ v ≤ s.size) := by
  intro m
  induction m with
  | zero =>
   intro j hj d h0 h1 hcj
   refine ⟨.inl (), aj_ ?_, .inl rfl⟩
   show (if decide ((j : Int) < (s.size : Int)) = true then _ else _) = _
   rw [if_neg (by simp; omega)]
  | succ m ih =>
   intro j hj d h0 h1 hcj
   have hlt : j < s.size := by omega
   have ec : ((j + 1 : Nat) : Int) = (j : Int) + 1 := by simp
   have w1 : w4 ((j : Int) + 1) = (j : Int) + 1 := a4_ (by omega) (by omega)
   have hpos : decide ((j : Int) < (s.size : Int)) = true := by simpa using hlt
   have hmid : ∃ d' : Int, ((if (decide (bAt s j = 40)) = true then (some (w4 (d + 1))) else (if (decide (bAt s j = 41)) = true then (some (w4 (d - 1))) else (some d))) : Option Int) = some d' ∧ -1 ≤ d' ∧ d' ≤ j + 1 := by
    by_cases h40 : bAt s j = 40
    ·exact ⟨d + 1, by rw [if_pos (by simpa using h40), a4_ (by omega) (by omega)], by omega, by omega⟩
    ·by_cases h41 : bAt s j = 41
     ·exact ⟨d - 1, by rw [if_neg (by simpa using h40), if_pos (by simpa using h41), dT_ (by omega) (by omega)], by omega, by omega⟩
     ·exact ⟨d, by rw [if_neg (by simpa using h40), if_neg (by simpa using h41)], by omega, by omega⟩
   obtain ⟨d', q1, q2, q3⟩ := hmid
   have hb := bP_ hlt
   by_cases hneg : d' < 0
   ·refine ⟨.inr (-1), aj_ ?_, .inr (.inl rfl)⟩
    show (if decide ((j : Int) < (s.size : Int)) = true then ((aP_ s (j : Int)).bind _) else _) = _
    rw [if_pos hpos, hb, Option.bind_some, q1, Option.bind_some, if_pos (by simpa using hneg)]
   ·obtain ⟨z, z1, z2⟩ := ih (j + 1) (by omega) d' (by omega) (by omega) (by omega)
    rw [ec] at z1
    by_cases hz : d' = 0 ∧ e < (j : Int) + 1
    ·refine ⟨.inr ((j : Int) + 1), aj_ ?_, .inr (.inr ⟨_, rfl, hz.2, by omega, by omega⟩)⟩
     show (if decide ((j : Int) < (s.size : Int)) = true then ((aP_ s (j : Int)).bind _) else _) = _
     rw [if_pos hpos, hb, Option.bind_some, q1, Option.bind_some, if_neg (by simpa using hneg), if_pos (by simpa using hz.1)]
     show (if decide (e < w4 ((j : Int) + 1)) = true then some (Sum.inr (Sum.inr (w4 ((j : Int) + 1)))) else _) = _
     rw [w1, if_pos (by simpa using hz.2)]
    ·refine ⟨z, au_ ?_ z1, z2⟩
     show (if decide ((j : Int) < (s.size : Int)) = true then ((aP_ s (j : Int)).bind _) else _) = _
     rw [if_pos hpos, hb, Option.bind_some, q1, Option.bind_some, if_neg (by simpa using hneg)]
     by_cases hz0 : d' = 0
     ·rw [if_pos (by simpa using hz0)]
      show (if decide (e < w4 ((j : Int) + 1)) = true then _ else some (Sum.inl (d', w4 ((j : Int) + 1)))) = _
      rw [w1, if_neg (by simp; exact Int.not_lt.1 fun w => hz ⟨hz0, w⟩)]
     ·rw [if_neg (by simpa using hz0)]
      show some (Sum.inl (d', w4 ((j : Int) + 1))) = _
      rw [w1]
 obtain ⟨z, z1, z2⟩ := key (s.size - c) c (by omega) 0 (by omega) (by omega) (Nat.le_refl _)
 have hS : ∀ v, (Sum.elim (fun _ => some (-1)) (fun y1 => some y1) z : Option Int) = some v → fy_ s c e = some v ∧ aU_ s c e = some v := fun v hv => by
  refine ⟨kf_ s c e v ?_, iD_ s c e v ?_⟩
  ·unfold fs_; rw [hbody, z1]; exact hv
  ·unfold ee_; rw [z1]; exact hv
 rcases z2 with rfl | rfl | ⟨v, rfl, hv⟩
 ·obtain ⟨h1, h2⟩ := hS (-1) rfl
  exact ⟨-1, h1, h2, .inl (by omega)⟩
 ·obtain ⟨h1, h2⟩ := hS (-1) rfl
  exact ⟨-1, h1, h2, .inl (by omega)⟩
 ·obtain ⟨h1, h2⟩ := hS v rfl
  exact ⟨v, h1, h2, .inr hv⟩
end
end Go.Am
end
