/- The law. -/
import Derived.Test.YtnihabnkoegdjaaAg0
import Derived.Test.YtnihabnkoegdjaaAl20
section
set_option maxRecDepth 100000
set_option maxHeartbeats 1000000
set_option linter.unusedVariables false
set_option linter.unusedSimpArgs false
namespace Go.Am
theorem sj_ {s : ag_} {k : Nat} {d : Int} (h : cC_ s k) (hd : 0 ≤ d ∧ d ≤ 3) (hk : k + 200 ≤ 1000000000) : ∃ p s', cc_ s d = some (p, s') ∧ VP p ∧ nd p ≤ 15 ∧ (d ≤ 2 → nd p ≤ 7) ∧ cC_ s' (k + 200) := by
 obtain ⟨n, rfl⟩ : ∃ n : Nat, d = n := ⟨d.toNat, by omega⟩
 have : ∀ n : Nat, n ≤ 3 → RD n ≤ 200 ∧ ND n ≤ 15 ∧ (n ≤ 2 → ND n ≤ 7) := by decide
 have := this n (by omega)
 have hb : bigN = 100000000000 := rfl
 obtain ⟨p, s', r1, r2, r3, r4⟩ := draw_ok n bigN (by rw [hb]; omega) (by omega) s k h (by omega)
 exact ⟨p, s', r1, r2, by omega, fun h2 => by have := this.2.2 (by omega); omega, r4.up (by omega) (by omega)⟩
theorem n3_ (c : Sl (Iv .u8)) (h : Bys c) : ∃ p, fh_ c = some p ∧ VP p ∧ CalmP p ∧ nd p ≤ 7 := by
 have h0 : cC_ ⟨c, 0, 0⟩ 0 := ⟨h, Int.le_refl _, Int.le_refl _, by decide⟩
 obtain ⟨m, s1, q1, q2, q3, q4⟩ := gC_ 3 h0 (by decide) (by decide) (by decide)
 obtain ⟨p, s', r1, r2, r3, r4, _⟩ := sj_ q4 ⟨q2, by omega⟩ (by decide)
 obtain ⟨q, k1, k2, k3, k4⟩ := calm_ok p r2
 refine ⟨q, jE_ _ _ ?_, k2, k3, by have := r4 (by omega); omega⟩
 unfold fo_
 rw [q1, Option.bind_some, r1, Option.bind_some, k1]; rfl
def to_ (o : Sl DNamed) (i : Nat) (st : Sl DNamed) : Prop := st.l.length = o.l.length ∧ ∀ (j : Nat) (h : j < st.l.length) (h2 : j < o.l.length), st.l[j].Name = o.l[j].Name ∧ VPat st.l[j].Pattern ∧ (j < i → CalmP st.l[j].Pattern)
theorem hu_ {o : Sl DNamed} (hl : o.l.length ≤ 100) : ∀ (m i : Nat), i + m = o.l.length → ∀ st : Sl DNamed, to_ o i st →
  ∃ st', aF_ (S := (Int × (Sl DNamed))) (R := (Sl DNamed)) (fun st1 => (if (decide (st1.1 < (st1.2.l.length : Int))) = true then ((elt st1.2 st1.1).bind fun y3 => ((bw_ y3.Pattern).bind fun y4 => ((elt st1.2 st1.1).bind fun y5 => (some (.inl ((w4 (st1.1 + 1)), (setS st1.2 st1.1 ((⟨y5.Name, y4⟩ : DNamed) : DNamed)))))))) else (some (.inr st1.2)))) ((i : Int), st) = some st' ∧ to_ o o.l.length st'
 | 0, i, hi, st, h => ⟨st, ao_ (if_neg (by have := h.1; simp; omega)), by rw [← hi]; simpa using h⟩
 | m + 1, i, hi, st, h => by
  obtain ⟨z, l⟩ := st
  obtain ⟨h1, h2⟩ := h
  have h1 : l.length = o.l.length := h1
  have hlt : i < l.length := by omega
  obtain ⟨n1, n2, n3⟩ := h2 i hlt (by omega)
  obtain ⟨q, k1, k2, k3, k4⟩ := calm_ok _ n2.1
  obtain ⟨st', r1, r2⟩ := hu_ hl m (i + 1) (by omega) ⟨z, l.set i ⟨l[i].Name, q⟩⟩ ⟨by simpa using h1, fun j hj hj2 => by
   have hj' : j < l.length := by simpa using hj
   by_cases e : i = j
   ·subst e
    simp only [List.getElem_set_self]
    exact ⟨n1, ⟨k2, by have := n2.2; omega⟩, fun _ => k3⟩
   ·simp only [List.getElem_set_ne e]
    obtain ⟨a1, a2, a3⟩ := h2 j hj' hj2
    exact ⟨a1, a2, fun hh => a3 (by omega)⟩⟩
  refine ⟨st', aC_ ?_ r1, r2⟩
  have e := bI_ (s := (⟨z, l⟩ : Sl DNamed)) (i := i) hlt
  rw [if_pos (by simpa using hlt)]
  simp only [e, Option.bind_some, k1]
  rw [aS_ (by omega) (by omega)]
  rfl
theorem mv_ (c : Sl (Iv .u8)) (h : Bys c) : ∃ o, dN_ c = some o ∧ EnvP o ∧ o.l.length ≤ 5 ∧ uF_ o := by
 have h0 : cC_ ⟨c, 0, 0⟩ 0 := ⟨h, Int.le_refl _, Int.le_refl _, by decide⟩
 obtain ⟨o, c', e1, ⟨hE1, hE2, hE3⟩, e2⟩ : ∃ o c', b5_ ⟨c, 0, 0⟩ = some (o, c') ∧ EnvP o ∧ o.l.length ≤ 5 := nX_ c h
 obtain ⟨st', r1, r2, r3⟩ := hu_ (by omega) o.l.length 0 (by omega) o ⟨rfl, fun j hj hj2 => ⟨rfl, (hE2 _ (List.getElem_mem hj)).2, fun h => by omega⟩⟩
 have hm : ∀ x ∈ st'.l, ∃ j, ∃ (h : j < st'.l.length), st'.l[j] = x := fun x hx => by
  obtain ⟨j, hj, rfl⟩ := List.getElem_of_mem hx; exact ⟨j, hj, rfl⟩
 refine ⟨st', hL_ _ _ ?_, ⟨by omega, fun x hx => ?_, ?_⟩, by omega, fun x hx => ?_⟩
 ·unfold dI_
  rw [e1, Option.bind_some]
  simp only
  rw [show (0 : Int) = ((0 : Nat) : Int) from rfl, r1]; rfl
 ·obtain ⟨j, hj, rfl⟩ := hm x hx
  obtain ⟨a1, a2, a3⟩ := r3 j hj (by omega)
  rw [a1]
  exact ⟨(hE2 _ (List.getElem_mem (by omega))).1, a2⟩
 ·intro i g1 g2 j hj x y hx hy
  obtain ⟨k1, rfl⟩ := List.getElem?_eq_some_iff.1 hx
  obtain ⟨k2, rfl⟩ := List.getElem?_eq_some_iff.1 hy
  rw [(r3 _ k1 (by omega)).1, (r3 _ k2 (by omega)).1]
  exact hE3 i g1 (by omega) j hj _ _ (List.getElem?_eq_getElem (by omega)) (List.getElem?_eq_getElem (by omega))
 ·obtain ⟨j, hj, rfl⟩ := hm x hx
  exact (r3 j hj (by omega)).2.2 (by omega)
end Go.Am
end
