/- The law. -/
import Derived.Test.YtkgmfmcpbgffpaaAg2
import Derived.Test.YtkgmfmcpbgffpaaAl2
section
set_option maxRecDepth 100000
set_option maxHeartbeats 1000000
set_option linter.unusedVariables false
set_option linter.unusedSimpArgs false
namespace Go.Am
theorem lG_ {α β : Type} (f : α → β) {a : Sl α} {z0 : Bool} {body : Int × Sl β → Option ((Int × Sl β) ⊕ Sl β)} (hn : a.l.length < 9223372036854775807)
  (h1 : ∀ (i : Nat) x (s : Sl β), x ∈ a.l → i < a.l.length → s.l.length = i → elt a (i : Int) = some x → body (i, s) = some (.inl ((i : Int) + 1, ⟨false, s.l ++ [f x]⟩)))
  (h2 : ∀ s, body ((a.l.length : Int), s) = some (.inr s)) : az_ body (0, ⟨z0, []⟩) = some ⟨z0 && a.l.isEmpty, a.l.map f⟩ := by
 suffices H : ∀ (k i : Nat), i + k = a.l.length → ∀ s : Sl β, s.l = (a.l.take i).map f → s.z = (z0 && (a.l.take i).isEmpty) → az_ body ((i : Int), s) = some ⟨z0 && a.l.isEmpty, a.l.map f⟩ by
  exact H a.l.length 0 (by simp) ⟨z0, []⟩ rfl (by simp)
 intro k
 induction k with
 | zero =>
  intro i hi s hs hz
  have : i = a.l.length := by omega
  subst this
  refine aj_ ((h2 s).trans ?_)
  obtain ⟨z, l⟩ := s
  simp only [List.take_length] at hs hz
  rw [hs, hz]
 | succ k ih =>
  intro i hi s hs hz
  have hlt : i < a.l.length := by omega
  have ec : ((i + 1 : Nat) : Int) = (i : Int) + 1 := by simp
  have e := h1 i a.l[i] s (List.getElem_mem hlt) hlt (by rw [hs]; simp; omega) (bm_ hlt)
  have w := ih (i + 1) (by omega) ⟨false, s.l ++ [f a.l[i]]⟩ (by rw [List.take_succ_eq_append_getElem hlt, List.map_append, hs]; rfl) (by rw [List.take_succ_eq_append_getElem hlt]; simp; intro _ hh; rw [hh] at hlt; simp at hlt)
  rw [ec] at w
  exact au_ e w
theorem copy1 : ∀ p, SmPt p → ∃ q, aR_ p = some q ∧ EqPt (cpPt p) q := by
 refine eL_ fun p ih hs => ?_
 have hkl : p.Kids.l.length ≤ 1048576 := by cases hs with | mk h1 h2 h3 => exact h2
 have hf : ∀ q ∈ p.Kids.l, aR_ q = some ((aR_ q).getD q) := fun q hq => by
  obtain ⟨r, h, _⟩ := ih q hq (hs.kid hq); rw [h]; rfl
 refine ⟨⟨p.Kind, p.Num, p.Text, ⟨true && p.Kids.l.isEmpty, p.Kids.l.map fun q => (aR_ q).getD q⟩⟩, gx_ p _ ?_, ?_⟩
 ·unfold dK_
  rw [lG_ (fun q => (aR_ q).getD q) (a := p.Kids) (z0 := true) (by omega) (fun i x s hx hi hl he => ?_) (fun s => by rw [if_neg (by simp)])]
  ·rfl
  ·show (if decide ((i : Int) < (p.Kids.l.length : Int)) = true then _ else _) = _
   rw [if_pos (by simpa using hi), he, Option.bind_some, hf x hx, Option.bind_some]
   obtain ⟨z, l⟩ := s
   rw [dH_ (by simp at hl; omega), Option.bind_some, a4_ (by omega) (by omega)]
   rfl
 ·rw [jY_]
  refine .mk rfl rfl rfl (by simp) fun i x y hx hy => ?_
  simp only [List.getElem?_map, Option.map_eq_some_iff] at hx hy
  obtain ⟨a, ha, rfl⟩ := hx
  obtain ⟨b, hb, rfl⟩ := hy
  rw [ha] at hb; injection hb with hb; subst hb
  have hm := List.mem_of_getElem? ha
  obtain ⟨r, h, hr⟩ := ih a hm (hs.kid hm)
  rw [h]; exact hr
end Go.Am
end
