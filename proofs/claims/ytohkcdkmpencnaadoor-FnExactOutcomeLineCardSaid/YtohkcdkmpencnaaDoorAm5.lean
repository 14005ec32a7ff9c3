/- Contracts of the library as functions from outside. -/
import Derived.Test.YtohkcdkmpencnaaDoorAm4
import Derived.Lib.AppendIntMem
import Derived.Shelf.Strconv.Itoa4
import Derived.Shelf.Strings.Replace
section
set_option linter.unusedVariables false
set_option linter.unusedSimpArgs false
namespace Go.Am
open Go.Proofs Go.Shelf Go.RowKit
theorem Rel.below {B0 : Nat} {w0 w w' : World} {E : Env} {σ : St} (h : Rel B0 w0 E σ w) (hb : Below w.heap.size w w') : Rel B0 w0 E σ w' ∧ Keep E σ w σ w' := by
  have cell : ∀ a u, w.cell? a = some u → w'.cell? a = some u := fun a u ha => by
    by_cases hl : a.block < w.heap.size
    · rw [hb.cell hl]; exact ha
    · have hn : w.heap[a.block]? = none := by simp; omega
      simp [World.cell?, hn] at ha
  refine ⟨⟨h.bel.trans (hb.mono h.hB), Nat.le_trans h.hB hb.size, fun a u k => cell a u (h.frz a u k), fun b e i k => ?_, h.jb, h.inj, h.dom, h.jep, fun b B e k1 k2 k3 => ?_, h.nof⟩, Nat.le_refl _, hb.size, fun b B k => ⟨B, k, Nat.le_refl _, fun _ e i hi => hb.block _ (h.jlt b e i hi).2.2⟩⟩
  · obtain ⟨a1, a2, a3⟩ := h.jlt b e i k
    exact ⟨a1, a2, Nat.lt_of_lt_of_le a3 hb.size⟩
  · obtain ⟨i, a1, a2, a3, arr, ty, fr, a4, a5⟩ := h.blk b B e k1 k2 k3
    exact ⟨i, a1, a2, a3, arr, ty, fr, by rw [hb.block _ (h.jlt b e i a1).2.2]; exact a4, a5⟩
theorem ext_of {P : Program} {f : Nat} {args : List T} {r : T} {σ : St} (he : Enter P f) (h : ∀ B0 w0 w vs E, Ini P B0 w0 → Below B0 w0 w → VL E vs args → ∃ v, V E v r ∧ Calls P f vs.toArray w fun e w' => e = .returned v ∧ Below w.heap.size w w') : SCall P f args σ r σ := by
  intro B0 w0 E w vs hR hv
  obtain ⟨v, h1, h2⟩ := h B0 w0.1 w vs E w0.2 hR.bel hv
  refine .inl ⟨he, h2.mono fun e w' ⟨e1, e2⟩ => ⟨v, e1, E, .refl E, ?_⟩⟩
  obtain ⟨k1, k2⟩ := hR.below e2
  exact ⟨k1, h1, k2⟩
def fmtB (n b : Int) : Option ByteArray := if b = 10 ∧ -9223372036854775808 ≤ n ∧ n ≤ 9223372036854775807 then some ⟨(Lib.itoa n).toArray⟩ else none
def fmtE : List T → St → Option (T × St)
  | [.int .i64 n, .int .i64 b], σ => (fmtB n b).map fun s => (.str s, σ)
  | _, _ => none
theorem VL.one {E : Env} {vs : List Value} {t : T} (h : VL E vs [t]) : ∃ v, vs = [v] ∧ V E v t := by
  match vs, h with
  | [v], h => exact ⟨v, rfl, h.head⟩
  | [], h => have := h.1; simp at this
  | _ :: _ :: _, h => have := h.1; simp at this
theorem VL.two {E : Env} {vs : List Value} {t u : T} (h : VL E vs [t, u]) : ∃ v w, vs = [v, w] ∧ V E v t ∧ V E w u := by
  match vs, h with
  | [v, w], h => exact ⟨v, w, rfl, h.head, h.tail.head⟩
  | [], h => have := h.1; simp at this
  | [_], h => have := h.1; simp at this
  | _ :: _ :: _ :: _, h => have := h.1; simp at this
theorem VL.three {E : Env} {vs : List Value} {t u s : T} (h : VL E vs [t, u, s]) : ∃ v w x, vs = [v, w, x] ∧ V E v t ∧ V E w u ∧ V E x s := by
  match vs, h with
  | [v, w, x], h => exact ⟨v, w, x, rfl, h.head, h.tail.head, h.tail.tail.head⟩
  | [], h => have := h.1; simp at this
  | [_], h => have := h.1; simp at this
  | [_, _], h => have := h.1; simp at this
  | _ :: _ :: _ :: _ :: _, h => have := h.1; simp at this
theorem fmt_ok {P : Program} {ρ : Ren} (L : LaysM.n173 P ρ) (hg : (P.globalNamed "internal/strconv.uint64pow10").isSome = true) (args : List T) (σ : St) (r : T) (σ' : St) (h : fmtE args σ = some (r, σ')) : SCall P (ρ.f 173) args σ r σ' := by
  unfold fmtE at h
  split at h
  · rename_i σ1 n b
    obtain ⟨s, h1, h2⟩ := Option.map_eq_some_iff.1 h
    injection h2 with e1 e2; subst e1; subst e2
    unfold fmtB at h1
    split at h1
    · rename_i hc
      obtain ⟨hb, c1, c2⟩ := hc
      injection h1 with h1; subst h1; subst hb
      refine ext_of ⟨_, _, L.f173, by kernel_rfl, rfl⟩ fun B0 w0 w vs E hi hbel hv => ?_
      obtain ⟨v1, v2, rfl, a1, a2⟩ := hv.two
      cases a1; cases a2
      have ht : Lib.TabIs P w "internal/strconv.uint64pow10" .u64 Lib.pow10Tab := by
        rcases (hi w hbel).1 with hn | ht
        · rw [hn] at hg; cases hg
        · exact ht
      refine ⟨_, .str _, (Any.strconv_FormatInt_10 L n c1 c2 w ht).mono fun e w' ⟨q1, k, os, q2⟩ => ⟨q1, ?_⟩⟩
      subst q2
      exact Lib.below_grow _ _ (Nat.le_refl _) _ _
    · cases h1
  · cases h
theorem fmt_x (args : List T) (σ : St) (r : T) (σ' : St) (h : fmtE args σ = some (r, σ')) : σ' = σ ∧ ∀ σ2, fmtE args σ2 = some (r, σ2) := by
  unfold fmtE at h
  split at h
  · obtain ⟨s, h1, h2⟩ := Option.map_eq_some_iff.1 h
    injection h2 with e1 e2; subst e1; subst e2
    exact ⟨rfl, fun σ2 => by unfold fmtE; simp only [h1, Option.map_some]⟩
  · cases h
theorem sem_fmt {P : Program} {md : Nat → Md} {X : Ext} {f : Nat} {eb : ByteArray → T} (hi : ∀ a b, eb a = eb b → a = b) (hm : md f = .raw) (hX : X f = some fmtE) {n b : Int} {r : ByteArray} (h : fmtB n b = some r) (he : ∀ s, eb s = .str s) : semV P md X eb f [.int .i64 n, .int .i64 b] = some r := by
  refine semV_intro hi fun σ => run_iff.2 (.raw hm (.ext hX ?_))
  rw [he]; unfold fmtE; simp only [h, Option.map_some]
def repB (s a b : ByteArray) : Option ByteArray := if s.size < 4294967281 ∧ 1 ≤ a.size ∧ s.size + Lib.countB s a * b.size ≤ 140737488355328 then some ⟨(Lib.replaceAll s.data.toList a.data.toList b.data.toList).toArray⟩ else none
def repE : List T → St → Option (T × St)
  | [.str s, .str a, .str b], σ => (repB s a b).map fun s => (.str s, σ)
  | _, _ => none
theorem rep_ok {P : Program} {ρ : Ren} (L : Lays.n155 P ρ) (X : Builder.Extra P ρ) (hg : P.globalNamed "internal/bytealg.MaxLen" = some (ρ.g 1)) (args : List T) (σ : St) (r : T) (σ' : St) (h : repE args σ = some (r, σ')) : SCall P (ρ.f 155) args σ r σ' := by
  unfold repE at h
  split at h
  · rename_i σ1 x a b
    obtain ⟨s, h1, h2⟩ := Option.map_eq_some_iff.1 h
    injection h2 with e1 e2; subst e1; subst e2
    unfold repB at h1
    split at h1
    · rename_i hc
      obtain ⟨c1, c2, c3⟩ := hc
      injection h1 with h1; subst h1
      refine ext_of ⟨_, _, L.f155, by kernel_rfl, rfl⟩ fun B0 w0 w vs E hi hbel hv => ?_
      obtain ⟨v1, v2, v3, rfl, a1, a2, a3⟩ := hv.three
      cases a1; cases a2; cases a3
      obtain ⟨m, hm⟩ := (hi w hbel).2 _ hg
      exact ⟨_, .str _, (Any.strings_ReplaceAll L X x a b m w c1 hm c2 c3).mono fun e w' ⟨q1, q2⟩ => ⟨q1, q2⟩⟩
    · cases h1
  · cases h
theorem rep_x (args : List T) (σ : St) (r : T) (σ' : St) (h : repE args σ = some (r, σ')) : σ' = σ ∧ ∀ σ2, repE args σ2 = some (r, σ2) := by
  unfold repE at h
  split at h
  · obtain ⟨s, h1, h2⟩ := Option.map_eq_some_iff.1 h
    injection h2 with e1 e2; subst e1; subst e2
    exact ⟨rfl, fun σ2 => by unfold repE; simp only [h1, Option.map_some]⟩
  · cases h
def numE (t : Int → Option ByteArray) : List T → St → Option (T × St)
  | [.int .i64 n], σ => (t n).map fun s => (.str s, σ)
  | _, _ => none
theorem num_ok {P : Program} {f : Nat} {t : Int → Option ByteArray} (he : Enter P f) (hc : ∀ n s w, t n = some s → Calls P f #[.int .i64 n] w fun e w' => e = .returned (.string s) ∧ Below w.heap.size w w') (args : List T) (σ : St) (r : T) (σ' : St) (h : numE t args σ = some (r, σ')) : SCall P f args σ r σ' := by
  unfold numE at h
  split at h
  · rename_i σ1 n
    obtain ⟨s, h1, h2⟩ := Option.map_eq_some_iff.1 h
    injection h2 with e1 e2; subst e1; subst e2
    refine ext_of he fun B0 w0 w vs E hi hbel hv => ?_
    obtain ⟨v1, rfl, a1⟩ := hv.one
    cases a1
    exact ⟨_, .str _, hc n s w h1⟩
  · cases h
theorem num_x (t : Int → Option ByteArray) (args : List T) (σ : St) (r : T) (σ' : St) (h : numE t args σ = some (r, σ')) : σ' = σ ∧ ∀ σ2, numE t args σ2 = some (r, σ2) := by
  unfold numE at h
  split at h
  · obtain ⟨s, h1, h2⟩ := Option.map_eq_some_iff.1 h
    injection h2 with e1 e2; subst e1; subst e2
    exact ⟨rfl, fun σ2 => by unfold numE; simp only [h1, Option.map_some]⟩
  · cases h
end Go.Am
end
