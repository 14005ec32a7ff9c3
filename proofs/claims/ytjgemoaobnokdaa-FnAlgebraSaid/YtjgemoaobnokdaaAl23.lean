/- The law. -/
import Derived.Test.YtjgemoaobnokdaaAd0
import Derived.Test.YtjgemoaobnokdaaAl22
import Derived.Test.YtjgemoaobnokdaaAl12
section
set_option maxRecDepth 100000
set_option maxHeartbeats 2000000
set_option linter.unusedVariables false
set_option linter.unusedSimpArgs false
namespace Go.Am
theorem ur_ {env : Sl DNamed} {s : ByteArray} {f : Int} {p q : DPattern} {w : Sl (Iv .i64)} (hE : ∀ x ∈ env.l, VP x.Pattern) (hw : ∀ x ∈ w.l, 0 ≤ x.v ∧ x.v ≤ (s.size : Int)) (h : SamZ s p q) :
  Gt (IMF p w (0, env, s, f, 0, 0, 0, false, 0, ⟨true, []⟩, ⟨true, []⟩, ⟨true, []⟩)) (IMF q w (0, env, s, f, 0, 0, 0, false, 0, ⟨true, []⟩, ⟨true, []⟩, ⟨true, []⟩)) (fun x y => x.2.2.2.2.2.2.2.1 ≠ 0 ∨ y.2.2.2.2.2.2.2.1 ≠ 0 ∨ (x.2.2.2.2.2.2.2.2.2.2 = y.2.2.2.2.2.2.2.2.2.2 ∧ ∀ m ∈ x.2.2.2.2.2.2.2.2.2.2.l, m.Captures.l.length ≤ 100)) := by
 unfold IMF
 refine jB_ (fun (x1 x2 : Int × T11) => ∃ j A A', Rz s A A' ∧ x1 = (j, g1_ A) ∧ x2 = (j, g1_ A')) ⟨0, ⟨env, s, f, 0, 0, ⟨true, []⟩, ⟨true, []⟩, ⟨true, []⟩, 0, false, T.nilm, 0⟩, ⟨env, s, f, 0, 0, ⟨true, []⟩, ⟨true, []⟩, ⟨true, []⟩, 0, false, T.nilm, 0⟩, .mk hE (by simp) (fun m hm => by simp at hm), rfl, rfl⟩ fun x y hx => ?_
 obtain ⟨j, A, A', hA, rfl, rfl⟩ := hx
 cases hA with
 | @mk env' st mo f t f' t' nw cd mt me hE' h4 h5 =>
  refine cV_ (fun hj => aS_ kD_ fun v v' hv => ?_) fun _ => aN_ (.inr (.inr (.inr ⟨_, _, rfl, rfl, .inr (.inr ⟨rfl, h5⟩)⟩)))
  obtain ⟨rfl, hv⟩ := hv
  have hr : Rz s ⟨env', s, f, t, v.v, nw, cd, mt, mo, me, T.nilm, 0⟩ ⟨env', s, f', t', v.v, nw, cd, mt, mo, me, T.nilm, 0⟩ := .mk hE' h4 h5
  refine aS_ (h bigN bigN _ _ v.v _ _ (hw v hv) hr qU_) fun r r' hq => k8_ hq (fun b => b6_ fun _ => .inl ⟨_, rfl, fun _ => .inl b.2⟩) (fun b _ => b6_ fun _ => .inl ⟨_, rfl, fun _ => .inl b.2⟩) (fun b => bj_ fun _ => .inr (.inl ⟨_, rfl, fun _ => .inr (.inl b.2)⟩)) (fun b _ => bj_ fun _ => .inr (.inl ⟨_, rfl, fun _ => .inr (.inl b.2)⟩)) (fun _ _ hi => aN_ (.inr (.inr (.inl ⟨_, _, rfl, rfl, _, _, _, hi, rfl, rfl⟩)))) fun _ _ hi => aN_ (.inr (.inr (.inr ⟨_, _, rfl, rfl, ?_⟩)))
  rcases hi with k | k | ⟨k1, k2, k3, k4, k5, k6⟩
  ·exact .inl k.2
  ·exact .inr (.inl k.2)
  ·exact .inr (.inr ⟨k4, k5⟩)
end Go.Am
end
