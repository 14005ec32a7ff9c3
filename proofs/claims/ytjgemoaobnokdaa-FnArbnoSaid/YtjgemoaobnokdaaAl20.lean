/- The law. -/
import Derived.Test.YtjgemoaobnokdaaAd0
import Derived.Test.YtjgemoaobnokdaaAl18
import Derived.Test.YtjgemoaobnokdaaAl19
section
set_option maxRecDepth 100000
set_option maxHeartbeats 1000000
set_option linter.unusedVariables false
set_option linter.unusedSimpArgs false
namespace Go.Am
structure Bt (env : Sl DNamed) (s : ByteArray) (a b : Int) (S S' : aa_) : Prop where
 p : Pl env s S
 p' : Pl env s S'
 l : ends S' = ends S
 g : ∀ e ∈ ends S', a ≤ e ∧ e ≤ b
theorem sK_ (env : Sl DNamed) (s : ByteArray) (a b : Int) : Clo (Bt env s a b) where
 same h := ⟨h.p'.e.trans h.p.e.symm, h.p'.s.trans h.p.s.symm⟩
 upd _ _ _ _ _ _ _ _ _ _ h := ⟨⟨h.p.e, h.p.s, h.p.m, h.p.r⟩, ⟨h.p'.e, h.p'.s, h.p'.m, h.p'.r⟩, h.l, h.g⟩
noncomputable def gm_ (a b : Int) : PhiT := fun e S => if a ≤ e ∧ e ≤ b then FOUND e S else none
theorem oe_ (env : Sl DNamed) (s : ByteArray) (a b : Int) : PhiJ (Bt env s a b) (gm_ a b) FOUND := fun e S S' h h1 h2 r r' hr hr' => by
 unfold gm_ at hr
 by_cases hc : a ≤ e ∧ e ≤ b
 ·rw [if_pos hc] at hr
  rcases fN_ h.p h1 r hr with k | ⟨k1, k2, k3, k4⟩
  ·exact .inl k
  rcases fN_ h.p' h2 r' hr' with j | ⟨j1, j2, j3, j4⟩
  ·exact .inr (.inl j)
  refine .inr (.inr ⟨k1.trans j1.symm, ⟨k3, j3, by rw [k4, j4, h.l], fun x hx => ?_⟩, fun _ => ⟨k2, j2⟩⟩)
  rw [j4] at hx
  rcases List.mem_append.1 hx with hx | hx
  ·exact h.g x hx
  ·rw [List.mem_singleton] at hx; rw [hx]; exact hc
 ·rw [if_neg hc] at hr; cases hr
theorem p3_ {env : Sl DNamed} {s : ByteArray} {p : DPattern} (hE : EnvP env) (hv : VPat p) (hs : s.size ≤ 200) {a f : Int} (hf : 0 ≤ f ∧ f ≤ 20000) (ha : 0 ≤ a ∧ a ≤ s.size) {rx : Bool × aa_} (hx : Run0 env s f a p = some rx) (cx : rx.2.code_ = 0) : ∀ e ∈ ends rx.2, a ≤ e ∧ e ≤ s.size := by
 obtain ⟨F, rfl⟩ : ∃ F : Nat, f = F := ⟨f.toNat, by omega⟩
 obtain ⟨c, rfl⟩ : ∃ c : Nat, a = c := ⟨a.toNat, by omega⟩
 have hbig : bigN = 100000000000 := rfl
 have hEE : EE = 30002 := rfl
 have hi : Inv F F ⟨true, []⟩ ⟨true, []⟩ ⟨true, []⟩ ⟨false, [⟨⟨0, 0, ⟨#[]⟩, ⟨true, []⟩⟩, (c : Int), 0⟩]⟩ ⟨true, []⟩ ⟨true, []⟩ ⟨false, []⟩ := ⟨by omega, Nat.le_refl _, rfl, rfl, by decide, rfl, by decide, by simp; omega⟩
 have hfo : KOk env s F F 0 (c : Int) (gm_ c s.size) [⟨⟨0, 0, ⟨#[]⟩, ⟨true, []⟩⟩, (c : Int), 0⟩] c := by
  intro M' hM' nw cd mt cs ou nw2 cd2 e n hi hx he hes hn
  have := (lG_ (env := env) (s := s) (F := F) (M := F) (start := (c : Int)) (C := []) (x := ⟨⟨0, 0, ⟨#[]⟩, ⟨true, []⟩⟩, (c : Int), 0⟩) rfl) M' hM' nw cd mt cs ou nw2 cd2 e n hi hx (Nat.zero_le _) hes hn
  obtain ⟨b, S', r', h1, h2⟩ := this
  refine ⟨b, S', r', ?_, h2⟩
  unfold gm_
  rw [if_pos (by omega)]; exact h1
 obtain ⟨b, S', r', g1, _, _⟩ := o1_ hs (fun x hx => (hE.2.1 x hx).2.1) hE.1 F (c : Int) ⟨true, []⟩ ⟨true, []⟩ ⟨true, []⟩ _ ⟨true, []⟩ ⟨true, []⟩ _ p c 0 _ bigN bigN hi hv.1 (by omega) (by simp) hfo (by rw [hbig]; omega) (by rw [hbig, hEE]; omega)
 rw [show (F : Int) - F = 0 by omega] at g1
 have B := (oH_ 0 bigN bigN).1 (Fr0 env s F c) (Fr0 env s F c) p c FOUND (gm_ c s.size) (.mk ⟨Int.le_refl _, by omega, by omega⟩ ⟨Int.le_refl _, by omega, by omega⟩ ⟨Int.le_refl _, by omega⟩ (by decide) (fun m hm => by simp at hm)) (fun e S S' hr r r' h1 h2 => by
  unfold gm_ at h2
  by_cases hc : (c : Int) ≤ e ∧ e ≤ (s.size : Int)
  ·rw [if_pos hc] at h2; exact p1_ 0 e S S' hr r r' h1 h2
  ·rw [if_neg hc] at h2; cases h2) rx (b, S') hx g1
 have c1 : S'.code_ = 0 := by
  rcases B with B | B
  ·exact absurd cx (by rw [B.2]; decide)
  ·rw [← cx, B.2.1]
 have J := (kO_ (sK_ env s c s.size) bigN bigN).1 _ (Fr0 env s F c) p c (gm_ c s.size) FOUND ⟨⟨rfl, rfl, rfl, rfl⟩, ⟨rfl, rfl, rfl, rfl⟩, rfl, fun e he => by simp at he⟩ rfl rfl (oe_ env s c s.size) _ rx g1 hx
 rcases J with J | J | ⟨_, J, _⟩
 ·exact absurd c1 J.2
 ·exact absurd cx J.2
 ·exact J.g
noncomputable def jn_ (env : Sl DNamed) (q : DPattern) (s : ByteArray) (f e : Int) : List Int := match bO_ env q s e f with
 | some w => w.1.l.map (·.v)
 | none => []
theorem mJ_ {env : Sl DNamed} {s : ByteArray} {q : DPattern} {e f : Int} {w : Sl (Iv .i64) × Int} (hw : bO_ env q s e f = some w) {r : Bool × aa_} (h1 : Run0 env s f e q = some r) (h2 : r.2.code_ = 0) (h3 : w.1.l = r.2.matches_.l.map (fun x => ⟨x.End⟩)) : hI_ env s q e (jn_ env q s f e) := by
 refine ⟨f, r, h1, h2, ?_⟩
 unfold jn_
 rw [hw]
 simp only [h3, List.map_map]
 rfl
theorem r1_ (l : List (Iv .i64)) : l.map (fun x => (⟨x.v⟩ : Iv .i64)) = l := by
 induction l with
 | nil => rfl
 | cons x l ih => simp [ih]
end Go.Am
end
