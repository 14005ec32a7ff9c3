/- The law. -/
import Derived.Test.YtilalopohkdmdaaGreatAg0
import Derived.Test.YtilalopohkdmdaaGreatAg2
import Derived.Test.YtilalopohkdmdaaGreatAl13
import Derived.Test.YtilalopohkdmdaaGreatAl18
section
set_option maxRecDepth 100000
set_option maxHeartbeats 1000000
set_option linter.unusedVariables false
set_option linter.unusedSimpArgs false
namespace Go.Am
section
variable {s t : ByteArray} {m : DMatch}
abbrev mA (m : DMatch) : Nat := m.Start.toNat
abbrev mB (m : DMatch) : Nat := m.End.toNat
def FitM (s : ByteArray) (m : DMatch) : Prop := 0 ≤ m.Start ∧ m.Start ≤ m.End ∧ m.End ≤ s.size
theorem mAB (h : FitM s m) : (mA m : Int) = m.Start ∧ (mB m : Int) = m.End := ⟨Int.toNat_of_nonneg h.1, Int.toNat_of_nonneg (Int.le_trans h.1 h.2.1)⟩
theorem lp_ (h : FitM s m) : bP_ m s = some true := by
 obtain ⟨h1, h2, h3⟩ := h
 refine g0_ _ _ _ ?_
 unfold dj_
 rw [if_pos (by simpa using h1), if_pos (by simpa using h2)]
 simp [h3]
theorem pH_ (h : FitM s m) : dG_ s m = some (s.extract (mA m) (mB m)) := by
 obtain ⟨h1, h2, h3⟩ := h
 refine hx_ _ _ _ ?_
 unfold dK_
 rw [if_neg (by simp; omega), if_neg (by simp; omega), if_neg (by simp; omega)]
 unfold subB
 rw [if_pos (by omega)]; rfl
theorem nJ_ (h : FitM s m) : cj_ s m = some (s.extract 0 (mA m)) := by
 refine gL_ _ _ _ ?_
 unfold c2_
 rw [lp_ h, Option.bind_some, if_neg (by simp)]
 obtain ⟨h1, h2, h3⟩ := h
 unfold subB
 rw [if_pos (by omega)]; rfl
theorem og_ (h : FitM s m) : ct_ s m = some (s.extract (mB m) s.size) := by
 refine hc_ _ _ _ ?_
 unfold dd_
 rw [lp_ h, Option.bind_some, if_neg (by simp)]
 obtain ⟨h1, h2, h3⟩ := h
 unfold subB
 rw [if_pos (by omega)]; rfl
theorem hb_ {a b : ByteArray} (h : a.size + b.size ≤ 1000000) : catB a b = some (a ++ b) := by
 unfold catB; rw [if_pos (by omega)]
theorem hh_ (h : FitM s m) (hs : s.size + t.size ≤ 200) : aT_ s m t = some (s.extract 0 (mA m) ++ t ++ s.extract (mB m) s.size, 0) := by
 refine gl_ _ _ _ _ ?_
 unfold cM_
 have ab := mAB h
 rw [lp_ h, Option.bind_some, if_neg (by simp)]
 obtain ⟨h1, h2, h3⟩ := h
 have e1 : subB s 0 m.Start = some (s.extract 0 (mA m)) := by unfold subB; rw [if_pos (by omega)]; rfl
 have e2 : subB s m.End (s.size : Int) = some (s.extract (mB m) s.size) := by unfold subB; rw [if_pos (by omega)]; rfl
 have z1 : (s.extract 0 (mA m)).size = mA m := by rw [ByteArray.size_extract]; omega
 have z2 : (s.extract (mB m) s.size).size = s.size - mB m := by rw [ByteArray.size_extract]; omega
 rw [e1, Option.bind_some, hb_ (by omega), Option.bind_some, e2, Option.bind_some, hb_ (by rw [ByteArray.size_append]; omega), Option.bind_some, lC_, Option.bind_some, aU_ (by rw [ByteArray.size_append, ByteArray.size_append]; omega), if_neg (by simp)]
theorem js_ (h : FitM s m) : s.extract 0 (mA m) ++ s.extract (mA m) (mB m) ++ s.extract (mB m) s.size = s := by
 have ab := mAB h
 obtain ⟨h1, h2, h3⟩ := h
 rw [ByteArray.extract_append_extract, show min 0 (mA m) = 0 by omega, show max (mA m) (mB m) = mB m by omega, ByteArray.extract_append_extract, show min 0 (mB m) = 0 by omega, show max (mB m) s.size = s.size by omega, ByteArray.extract_zero_size]
theorem oO_ (h : FitM s m) (hs : s.size ≤ 15) (ht : t.size ≤ 3) : ∃ o, aT_ s m (s.extract (mA m) (mB m)) = some (s, 0) ∧ aT_ s m t = some (o, 0) ∧ o = s.extract 0 (mA m) ++ t ++ s.extract (mB m) s.size ∧ aT_ o ⟨m.Start, w4 (m.Start + (t.size : Int)), ⟨true, []⟩⟩ (s.extract (mA m) (mB m)) = some (s, 0) := by
 have h' := h
 have ab := mAB h
 obtain ⟨h1, h2, h3⟩ := h'
 have z0 : (s.extract (mA m) (mB m)).size = mB m - mA m := by rw [ByteArray.size_extract]; omega
 have z1 : (s.extract 0 (mA m)).size = mA m := by rw [ByteArray.size_extract]; omega
 have z2 : (s.extract (mB m) s.size).size = s.size - mB m := by rw [ByteArray.size_extract]; omega
 refine ⟨_, ?_, hh_ h (by omega), rfl, ?_⟩
 ·rw [hh_ h (by omega), js_ h]
 ·have w : w4 (m.Start + (t.size : Int)) = m.Start + t.size := aY_ (by omega) (by omega)
  have zo : (s.extract 0 (mA m) ++ t ++ s.extract (mB m) s.size).size = mA m + t.size + (s.size - mB m) := by rw [ByteArray.size_append, ByteArray.size_append, z1, z2]
  rw [w, hh_ (s := s.extract 0 (mA m) ++ t ++ s.extract (mB m) s.size) (m := ⟨m.Start, m.Start + (t.size : Int), ⟨true, []⟩⟩) ⟨h1, by show m.Start ≤ m.Start + _; omega, by show m.Start + _ ≤ _; rw [zo]; omega⟩ (by rw [zo]; omega)]
  have q1 : (s.extract 0 (mA m) ++ t ++ s.extract (mB m) s.size).extract 0 (mA m) = s.extract 0 (mA m) := by
   rw [ByteArray.append_assoc]
   exact ByteArray.extract_append_eq_left (by rw [z1])
  have q2 : (s.extract 0 (mA m) ++ t ++ s.extract (mB m) s.size).extract (m.Start + (t.size : Int)).toNat (s.extract 0 (mA m) ++ t ++ s.extract (mB m) s.size).size = s.extract (mB m) s.size :=
   ByteArray.extract_append_eq_right (by rw [ByteArray.size_append, z1]; omega) (by rw [ByteArray.size_append])
  show some ((_ : ByteArray).extract 0 m.Start.toNat ++ _ ++ (_ : ByteArray).extract (m.Start + (t.size : Int)).toNat _, (0 : Int)) = _
  rw [q2, show m.Start.toNat = mA m from rfl, q1, js_ h]
end
theorem jR_ (a : Sl (Iv .u8)) (h : ∀ x ∈ a.l, 0 ≤ x.v ∧ x.v ≤ 255) : e4_ a = some true := by
 refine g4_ _ _ ?_
 unfold da_
 by_cases hl : 1048576 < (a.l.length : Int)
 ·rw [if_pos (by simpa using hl)]
 rw [if_neg (by simpa using hl)]
 have hb : Bys a := ⟨h, by omega⟩
 obtain ⟨s, e1, hs⟩ := mo_ a hb
 obtain ⟨b1, e2, hb1⟩ := mR_ 1 a h (by omega)
 obtain ⟨p, e3, p1, p2, p3⟩ := m5_ b1 hb1
 obtain ⟨b2, e4, hb2⟩ := mR_ 2 a h (by omega)
 obtain ⟨t, e5, ht1, ht2⟩ := mh_ b2 hb2
 obtain ⟨b3, e6, hb3⟩ := mR_ 3 a h (by omega)
 obtain ⟨env, e7, hE, _, _⟩ := l8_ b3 hb3
 obtain ⟨w, s1, s2, s3, s4⟩ := oW_ s false (by omega)
 obtain ⟨x, x1, x2, x3, x4, x5⟩ := m7_ (f := 1000) hE ⟨p1, by omega⟩ (by omega) false (by omega) s1 s2 s3 s4
 rw [e1, Option.bind_some, e2, Option.bind_some, e3, Option.bind_some, e4, Option.bind_some, e5, Option.bind_some, e6, Option.bind_some, e7, Option.bind_some, x3, Option.bind_some]
 by_cases hc : x.2.2.2.2.2.2.2.1 = 0
 rotate_left
 ·rw [if_neg (by simp), if_pos (by simp [hc])]
 rw [if_neg (by simp), if_neg (by simp [hc])]
 generalize x.2.2.2.2.2.2.2.2.2.2 = L at *
 rw [g6_ (n := L.l.length) (r := .inl ()) (fun i hi => ?_) (if_neg (by simp))]
 ·rfl
 have hm : FitM s L.l[i] := (x5 _ (List.getElem_mem hi)).2
 obtain ⟨o, o1, o2, rfl, o3⟩ := oO_ (t := t) hm (by omega) (by omega)
 have z0 : (s.extract (mA L.l[i]) (mB L.l[i])).size ≤ 15 := by rw [ByteArray.size_extract]; omega
 have z1 : (s.extract 0 (mA L.l[i])).size ≤ 15 := by rw [ByteArray.size_extract]; omega
 have z2 : (s.extract (mB L.l[i]) s.size).size ≤ 15 := by rw [ByteArray.size_extract]; omega
 rw [if_pos (by simpa using hi), bC_ hi, Option.bind_some, pH_ hm, Option.bind_some, o1, Option.bind_some, o2, Option.bind_some, nJ_ hm, Option.bind_some, hb_ (by omega), Option.bind_some, og_ hm, Option.bind_some, hb_ (by rw [ByteArray.size_append]; omega), Option.bind_some, js_ hm, if_neg (by simp), if_neg (by simp), if_neg (by simp), if_neg (by simp), Option.bind_some, hb_ (by omega), Option.bind_some, Option.bind_some, hb_ (by rw [ByteArray.size_append]; omega), Option.bind_some, if_neg (by simp), o3, Option.bind_some, if_neg (by simp), if_neg (by simp), aY_ (by omega) (by omega)]
theorem law_FnReplaced {fu0 : Nat} {t0 : T} (h0 : Shp Go.Proofs.Tryz.prog fu0 22 [t0]) : ∃ σ', run Go.Proofs.Tryz.prog md ext 9 [t0] St.empty = some (.bool true, σ') := by
 obtain ⟨a, e0, ha⟩ := nM_ h0
 injection e0 with e0; subst e0
 exact ⟨_, gR_ (jR_ a ha.2) St.empty⟩
end Go.Am
end
