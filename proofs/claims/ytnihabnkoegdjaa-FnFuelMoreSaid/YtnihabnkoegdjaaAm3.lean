/- The abstract machine. -/
import Derived.Test.YtnihabnkoegdjaaAm2
import Derived.WalkKit
import Derived.ProofKit
import Derived.OpenShut
import Derived.ShutString
import Derived.ChangeOld
import Derived.SizedLaws
section
set_option linter.unusedVariables false
set_option linter.unusedSimpArgs false
namespace Go.Am
open Go.ChangeShapes Go.WideShapes Go.ChangeAt Go.RowKit
def gy_ (w : World) : Env := ⟨fun a => if w.frozen? a = true then none else w.cell? a, fun _ _ => none, fun _ => none, fun _ => none⟩
def St.empty : St := ⟨0, fun _ => none⟩
theorem oa_ (w : World) : Rel w.heap.size w (gy_ w) St.empty w where
 bel := Below.refl _ w
 hB := Nat.le_refl _
 frz := fun a u h => by
  simp only [gy_] at h
  split at h
  ·cases h
  ·exact h
 jlt := fun b e i h => by cases h
 jb := fun b e i h => by cases h
 inj := fun b e i b' e' i' h => by cases h
 dom := fun b B h => by cases h
 jep := fun b B e i h => by cases h
 blk := fun b B e h => by cases h
 oth := fun k p h => by cases h
 unf := fun a u h => by
  simp only [gy_] at h
  split at h
  ·cases h
  ·rename_i hf; simpa using hf
 gd := fun k fr h => by cases h
 nof := fun b B e i a u h => by cases h
theorem n7_ {w : World} {a b : Addr} (h1 : a.block = b.block) (h2 : a.off = b.off) : w.frozen? a = w.frozen? b := by unfold World.frozen?; rw [h1, h2]
theorem q7_ {w : World} {a : Addr} {u : Value} (h : w.cell? a = some u) (hf : w.frozen? a = false) : (gy_ w).F a = some u := by simp [gy_, h, hf]
def ShpF (P : Program) (S : TypeId → List T → Prop) : List TypeId → List T → Prop
 | [], ts => ts = []
 | t :: l, ts => ∃ a b, ts = a ++ b ∧ a.length = P.cellsOf t ∧ S t a ∧ ShpF P S l b
def Shp (P : Program) : Nat → TypeId → List T → Prop
 | 0, _, _ => False
 | d + 1, t, ts =>
  (aH_ P t = 1 ∧ ∃ b, ts = [.bool b]) ∨
  (b0_ P t = true ∧ ∃ k n, P.underlying t = some (.int k) ∧ ts = [.int k n] ∧ (Lit.int k n).wf = true) ∨
  (aH_ P t = 3 ∧ ∃ s, ts = [.str s] ∧ s.size ≤ maxLen) ∨
  (aH_ P t = 4 ∧ ∃ e, av_ P t = some e ∧ (ts = [.row true 0 []] ∨ ∃ els : List (List T), ts = [.row false els.length els.flatten] ∧ els.length ≤ maxLen ∧ ∀ el ∈ els, el.length = P.cellsOf e ∧ Shp P d e el)) ∨
  (aH_ P t = 7 ∧ ShpF P (Shp P d) ((b6_ P t).map (·.type)) ts)
def k7_ (P : Program) : List Field → Nat → Nat → Bool
 | [], o, n => o == n
 | f :: fs, o, n => f.offset == o && k7_ P fs (o + P.cellsOf f.type) n
def lB_ (P : Program) (S : List TypeId) : Bool := S.all fun t =>
 match P.underlying t with
 | some .bool | some (.int _) | some .string => true
 | some (.slice e) => S.contains e
 | some (.struct fs) => fs.toList.all (fun f => S.contains f.type) && k7_ P fs.toList 0 (P.cellsOf t)
 | _ => false
theorem kV_ {P : Program} {w : World} {S : TypeId → List T → Prop} {cs : List Value} : ∀ (fs : List Field) (o : Nat), k7_ P fs o cs.length = true → o ≤ cs.length →
  (∀ f ∈ fs, ∃ ts, VL (gy_ w) ((cs.drop f.offset).take (P.cellsOf f.type)) ts ∧ S f.type ts) → ∃ ts, VL (gy_ w) (cs.drop o) ts ∧ ShpF P S (fs.map (·.type)) ts
 | [], o, h, ho, _ => by
  simp only [k7_, beq_iff_eq] at h
  exact ⟨[], by rw [h, List.drop_length]; exact .nil _, rfl⟩
 | f :: fs, o, h, ho, hf => by
  simp only [k7_, Bool.and_eq_true, beq_iff_eq] at h
  obtain ⟨h1, h2⟩ := h
  have hle : ∀ (l : List Field) (o : Nat), k7_ P l o cs.length = true → o ≤ cs.length := by
   intro l
   induction l with
   | nil => intro o h; simp only [k7_, beq_iff_eq] at h; omega
   | cons g l ih => intro o h; simp only [k7_, Bool.and_eq_true] at h; have := ih _ h.2; omega
  have ho2 := hle fs _ h2
  obtain ⟨a, ha1, ha2⟩ := hf f (by simp)
  obtain ⟨b, hb1, hb2⟩ := kV_ fs (o + P.cellsOf f.type) h2 ho2 (fun g hg => hf g (by simp [hg]))
  subst h1
  refine ⟨a ++ b, ?_, a, b, rfl, ?_, ha2, hb2⟩
  ·have e : cs.drop f.offset = (cs.drop f.offset).take (P.cellsOf f.type) ++ cs.drop (f.offset + P.cellsOf f.type) := by
    rw [← List.drop_drop, List.take_append_drop]
   rw [e]; exact ha1.append hb1
  ·rw [← ha1.1, List.length_take, List.length_drop]; exact Nat.min_eq_left (by omega)
section
variable {H : Type} {enc : TypeId × Value → H} {P : Program} {w : World} {base : Nat} {sp : Nat → Bool} {held : Bool}
theorem qM_ {t : TypeId} (h : P.underlying t = some .bool) : aH_ P t = 1 := by simp [aH_, h]
theorem s1_ {t : TypeId} {k : IntKind} (h : P.underlying t = some (.int k)) : b0_ P t = true := by cases k <;> simp [b0_, aH_, h]
theorem sg_ {t : TypeId} (h : P.underlying t = some .string) : aH_ P t = 3 := by simp [aH_, h]
theorem mp_ {t e : TypeId} (h : P.underlying t = some (.slice e)) : aH_ P t = 4 := by simp [aH_, h]
theorem oD_ {t : TypeId} {fs : Array Field} (h : P.underlying t = some (.struct fs)) : aH_ P t = 7 := by simp [aH_, h]
theorem pr_ (a : Addr) (m k : Nat) : (a.add m).add k = a.add (m + k) := by
 unfold Addr.add
 by_cases h1 : m = 0 <;> by_cases h2 : k = 0 <;> simp [h1, h2, Nat.add_assoc]
theorem VL.flatten {E : Env} {c : Nat → List Value} {t : Nat → List T} : ∀ (n : Nat), (∀ i, i < n → VL E (c i) (t i)) → VL E ((List.range n).map c).flatten ((List.range n).map t).flatten
 | 0, _ => .nil _
 | n + 1, h => by
  simp only [List.range_succ, List.map_append, List.map_cons, List.map_nil, List.flatten_append, List.flatten_cons, List.flatten_nil, List.append_nil]
  exact (VL.flatten n fun i hi => h i (by omega)).append (h n (by omega))
theorem g1_ {a : Addr} {sz : Nat} {c : Nat → List Value} : ∀ (n : Nat), (∀ i, i < n → (c i).length = sz ∧ ∀ k, k < sz → w.cell? ((a.add (i * sz)).add k) = (c i)[k]?) →
  (((List.range n).map c).flatten).length = n * sz ∧ ∀ j u, (((List.range n).map c).flatten)[j]? = some u → w.cell? (a.add j) = some u
 | 0, _ => ⟨by simp, fun j u h => by simp at h⟩
 | n + 1, h => by
  obtain ⟨h1, h2⟩ := g1_ n fun i hi => h i (by omega)
  obtain ⟨h3, h4⟩ := h n (by omega)
  simp only [List.range_succ, List.map_append, List.map_cons, List.map_nil, List.flatten_append, List.flatten_cons, List.flatten_nil, List.append_nil]
  refine ⟨by rw [List.length_append, h1, h3, Nat.succ_mul], fun j u hj => ?_⟩
  by_cases hlt : j < n * sz
  ·rw [List.getElem?_append_left (by omega)] at hj
   exact h2 j u hj
  ·rw [List.getElem?_append_right (by omega), h1] at hj
   have hk := (List.getElem?_eq_some_iff.1 hj).1
   have := h4 (j - n * sz) (by omega)
   rw [hj, pr_, show n * sz + (j - n * sz) = j by omega] at this
   exact this
theorem hZ_ {S : List TypeId} (hS : lB_ P S = true) : ∀ (fuel : Nat) (t : TypeId) (cs : List Value) (x : DataW H × List MemPlace), t ∈ S → DataW.trod enc P w base sp held fuel t cs = some x → w.noneFrozen x.2 → ∃ ts, VL (gy_ w) cs ts ∧ Shp P fuel t ts
 | 0, t, cs, x, _, h, _ => by simp [DataW.trod] at h
 | fuel + 1, t, cs, x, ht, h, hz => by
  have hS0 := List.all_eq_true.1 hS t ht
  unfold DataW.trod at h
  split at h
  ·rename_i b hu
   exact ⟨[.bool b], .cons (.bool b) (.nil _), .inl ⟨qM_ hu, b, rfl⟩⟩
  ·rename_i k k' n hu
   split at h
   ·rename_i hc
    obtain ⟨rfl, hw⟩ := hc
    exact ⟨[.int k' n], .cons (.int _ _) (.nil _), .inr (.inl ⟨s1_ hu, k', n, hu, rfl, hw⟩)⟩
   ·cases h
  ·rename_i hu; simp [hu] at hS0
  ·rename_i s hu
   split at h
   ·rename_i hc
    exact ⟨[.str s], .cons (.str s) (.nil _), .inr (.inr (.inl ⟨sg_ hu, s, rfl, hc⟩))⟩
   ·cases h
  ·rename_i hu; simp [hu] at hS0
  ·rename_i hu; simp [hu] at hS0
  ·rename_i e hu
   exact ⟨[.row true 0 []], .cons .rown (.nil _), .inr (.inr (.inr (.inl ⟨mp_ hu, e, by simp [av_, hu], .inl rfl⟩)))⟩
  ·rename_i e a len cap hu
   simp only at h
   split at h
   ·rename_i hc
    obtain ⟨elems, h1, h2'⟩ := Option.bind_eq_some_iff.1 h
    obtain ⟨rest, h3', hx'⟩ := Option.map_eq_some_iff.1 h2'
    have hz1 : ∀ y ∈ elems, w.noneFrozen y.2 := fun y hy b off hm => hz b off (by rw [← hx']; simp only [List.mem_append, List.mem_flatMap]; exact .inr ⟨y, .inl hy, hm⟩)
    have hz2 : ∀ j, j < len * P.cellsOf e → w.frozen? (a.add j) = false := fun j hj => by
     have hl := mapM_some_length h1
     rw [List.length_range] at hl
     have := hz a.block (a.off + j) (by
      rw [← hx']; simp only [List.mem_append]; left
      simp only [MemPlace.row, List.mem_map, List.mem_range]
      exact ⟨j, Nat.lt_of_lt_of_le hj (by rw [← hl]; exact Nat.mul_le_mul_right _ (Nat.le_add_right _ _)), rfl⟩)
     rw [← this]
     exact n7_ (by unfold Addr.add; split <;> rfl) (by unfold Addr.add; split <;> simp_all)
    have hlen := mapM_some_length h1
    have hget : ∀ i, i < len → ∃ ci ti, w.cells? base (a.add (i * P.cellsOf e)) (P.cellsOf e) = some ci ∧ VL (gy_ w) ci ti ∧ Shp P fuel e ti := fun i hi => by
     have h2 := mapM_some_get h1 i i (by simp [hi])
     have hi' : i < elems.length := by rw [hlen]; simpa using hi
     rw [List.getElem?_eq_getElem hi'] at h2
     obtain ⟨ci, h3, h4⟩ := Option.bind_eq_some_iff.1 h2
     have hmem : e ∈ S := by simp [hu] at hS0; exact hS0
     obtain ⟨ti, h5, h6⟩ := hZ_ hS fuel e ci _ hmem h4 (hz1 _ (List.getElem_mem hi'))
     exact ⟨ci, ti, h3, h5, h6⟩
    have hch : ∃ (c : Nat → List Value) (tt : Nat → List T), ∀ i, i < len → w.cells? base (a.add (i * P.cellsOf e)) (P.cellsOf e) = some (c i) ∧ VL (gy_ w) (c i) (tt i) ∧ Shp P fuel e (tt i) := by
     have h0 : ∀ i, ∃ ci ti, i < len → (w.cells? base (a.add (i * P.cellsOf e)) (P.cellsOf e) = some ci ∧ VL (gy_ w) ci ti ∧ Shp P fuel e ti) := fun i => by
      by_cases hi : i < len
      ·obtain ⟨ci, ti, q⟩ := hget i hi; exact ⟨ci, ti, fun _ => q⟩
      ·exact ⟨[], [], fun q => absurd q hi⟩
     exact ⟨fun i => Classical.choose (h0 i), fun i => Classical.choose (Classical.choose_spec (h0 i)), fun i hi => Classical.choose_spec (Classical.choose_spec (h0 i)) hi⟩
    obtain ⟨c, tt, hct⟩ := hch
    obtain ⟨hl1, hl2⟩ := g1_ (w := w) (a := a) (sz := P.cellsOf e) (c := c) len fun i hi => by
     obtain ⟨_, q1, q2⟩ := World.cells?_some (hct i hi).1
     exact ⟨q1, q2⟩
    have hv := VL.flatten len fun i hi => (hct i hi).2.1
    refine ⟨[.row false len ((List.range len).map tt).flatten], .cons (V.row_iff.2 (.inr ⟨rfl, a, cap, ((List.range len).map c).flatten, rfl, hc.2.1, hv, fun j u hj => q7_ (hl2 j u hj) (hz2 j (by rw [← hl1]; exact (List.getElem?_eq_some_iff.1 hj).1))⟩)) (.nil _), .inr (.inr (.inr (.inl ⟨mp_ hu, e, by simp [av_, hu], .inr ⟨(List.range len).map tt, by simp, by simp; omega, fun el hel => ?_⟩⟩)))⟩
    obtain ⟨i, hi, rfl⟩ := List.mem_map.1 hel
    have hi' := List.mem_range.1 hi
    obtain ⟨_, q1, _⟩ := World.cells?_some (hct i hi').1
    exact ⟨by rw [← (hct i hi').2.1.1, q1], (hct i hi').2.2⟩
   ·cases h
  ·rename_i cs0 _ _ fs hu
   split at h
   ·rename_i hc
    obtain ⟨xs, h1, hx'⟩ := Option.map_eq_some_iff.1 h
    simp only [hu, Bool.and_eq_true, List.all_eq_true] at hS0
    have hf : b6_ P t = fs.toList := by simp [b6_, hu]
    obtain ⟨ts, k1, k2⟩ := kV_ (P := P) (w := w) (S := Shp P fuel) (cs := cs0) fs.toList 0 (by rw [hc]; exact hS0.2) (Nat.zero_le _) (fun f hf => by
     obtain ⟨i, hi, rfl⟩ := List.getElem_of_mem hf
     have h2 := mapM_some_get h1 i fs.toList[i] (by simp)
     have hi' : i < xs.length := by rw [mapM_some_length h1]; exact hi
     rw [List.getElem?_eq_getElem hi'] at h2
     have hmem := hS0.1 fs.toList[i] hf
     exact hZ_ hS fuel _ _ _ (by simpa using hmem) h2 (fun b off hm => hz b off (by rw [← hx']; simp only [List.mem_flatMap]; exact ⟨_, List.getElem_mem hi', hm⟩)))
    exact ⟨ts, by simpa using k1, .inr (.inr (.inr (.inr ⟨oD_ hu, by rw [hf]; exact k2⟩)))⟩
   ·cases h
  all_goals first | (cases h; done) | (rename_i hu; simp [hu] at hS0; done)
theorem rv_ {S : List TypeId} (hS : lB_ P S = true) {r : Reach} {b0 : Nat} {t : TypeId} {fs : Array Field} (ht : t ∈ S) (hu : P.underlying t = some (.struct fs)) {v : Value} {d : DataW H} {ps : List MemPlace} (hval : Value.okWide P w r b0 t v) (h : DataW.Trod enc P w base sp held t v d ps) (hz : w.noneFrozen ps) :
  ∃ fuel ts, V (gy_ w) v (.agg ts) ∧ Shp P fuel t ts := by
 obtain ⟨cs, rfl, _⟩ := okWide_struct hu hval
 obtain ⟨fuel, hf⟩ := h
 obtain ⟨ts, k1, k2⟩ := hZ_ hS fuel t _ _ ht hf hz
 exact ⟨fuel, ts, V.agg_iff.2 ⟨cs, rfl, k1⟩, k2⟩
theorem tI_ {S : List TypeId} (hS : lB_ P S = true) {t : TypeId} (ht : t ∈ S) {v : Value} {d : DataW H} {ps : List MemPlace} (hv : v.cells.toList = [v]) (h : DataW.Trod enc P w base sp held t v d ps) (hz : w.noneFrozen ps) :
  ∃ fuel x, V (gy_ w) v x ∧ Shp P fuel t [x] := by
 obtain ⟨fuel, hf⟩ := h
 obtain ⟨ts, k1, k2⟩ := hZ_ hS fuel t _ _ ht hf hz
 rw [hv] at k1
 match ts, k1 with
 | [x], k1 => exact ⟨fuel, x, k1.head, k2⟩
 | [], k1 => have := k1.1; simp at this
 | _ :: _ :: _, k1 => have := k1.1; simp at this
end
section
variable {P : Program} {vm : Nat → Md} {X : Ext}
theorem rY_ (hmix : P.follows .mixedOrders = true) (hX : ∀ f g args σ r σ', X f = some g → g args σ = some (r, σ') → gB_ P f args σ r σ') {f args σ r σ'} (h : EvP P vm X f args σ r σ') : gB_ P f args σ r σ' := by
 cases h with
 | raw _ h => exact sound hmix hX h
 | view _ h1 h2 h3 h4 h5 => exact ji_ h1 (sound hmix hX h2) h3 h4 h5
 | own _ h1 h2 h3 h4 h5 => exact kw_ h1 (sound hmix hX h2) h3 h4 h5
theorem rX_ {E : Env} {v : Value} {b : Bool} (h : V E v (.bool b)) : v = .bool b := by cases h; rfl
theorem tT_ {B0 : Nat} {w0 : World} : Ini P B0 w0 := fun _ _ => rfl
theorem rd_ (hmix : P.follows .mixedOrders = true) (hX : ∀ f g args σ r σ', X f = some g → g args σ = some (r, σ') → gB_ P f args σ r σ') {f : Nat} {args : List T} {σ' : St} {w : World} {vs : List Value}
  (hi : Ini P w.heap.size w) (hE : nP_ P f) (h : run P vm X f args St.empty = some (.bool true, σ')) (hv : VL (gy_ w) vs args) : Calls P f vs.toArray w fun e w' => e = .returned (.bool true) ∧ Below w.heap.size w w' := by
 rcases rY_ hmix hX (dJ_.1 h) w.heap.size ⟨w, hi⟩ (gy_ w) w vs (oa_ w) hv with ⟨_, hc⟩ | ⟨v, w', hc, _⟩
 ·refine hc.mono ?_
  rintro e w' ⟨v, rfl, E', _, k2, k3, _⟩
  rw [rX_ k3]
  exact ⟨rfl, k2.bel⟩
 ·rw [gg_ hE] at hc; cases hc
end
end Go.Am
end
section
set_option linter.unusedVariables false
set_option linter.unusedSimpArgs false
namespace Go.Am
open Classical
def hold (z : Bool) (σ : St) : Nat → T → Option (T × List Nat)
 | d + 1, .ref b e off n => (σ.blk b).bind fun B => if (z = true → B.st = true) ∧ e = B.ep ∧ B.low ≤ B.ep ∧ off = 0 ∧ B.cells.length = n * B.esz ∧ B.esz ≠ 0 ∧ B.cells.all T.one = true ∧ n ≠ 0 then (frzL (hold z σ d) B.cells).map fun q => (.row false n q.1, b :: q.2) else none
 | d + 1, .agg cs => (frzL (hold z σ d) cs).map fun q => (.agg q.1, q.2)
 | d + 1, .tup cs => (frzL (hold z σ d) cs).map fun q => (.tup q.1, q.2)
 | _, .emp => some (.row false 0 [], [])
 | _, .row true 0 [] => some (.row true 0 [], [])
 | _, .row zz n cs => if z = true then none else some (.row zz n cs, [])
 | _, .int k n => some (.int k n, [])
 | _, .bool b => some (.bool b, [])
 | _, .str s => some (.str s, [])
 | _, .nilp => some (.nilp, [])
 | _, .nilf => some (.nilf, [])
 | _, .nili => some (.nili, [])
 | _, .nilm => some (.nilm, [])
 | _, .fn f a b => if z = true then none else some (.fn f a b, [])
 | _, .vw cs => if z = true then none else some (.vw cs, [])
 | _, .ptr b e o m => if z = true then none else some (.ptr b e o m, [])
 | _, _ => none
theorem gS_ {z : Bool} {σ : St} {d : Nat} {zz : Bool} {n : Nat} {cs : List T} {v : T} {K : List Nat} (h : hold z σ d (.row zz n cs) = some (v, K)) : v = .row zz n cs ∧ K = [] := by
 cases zz <;> cases n <;> cases cs <;> cases d <;> simp [hold] at h <;> simp_all
theorem gO_ {z : Bool} {σ σ' : St} {d d' : Nat} {zz : Bool} {n : Nat} {cs : List T} {v : T} {K : List Nat} (h : hold z σ d (.row zz n cs) = some (v, K)) : hold z σ' d' (.row zz n cs) = some (v, K) := by
 cases zz <;> cases n <;> cases cs <;> cases d <;> cases d' <;> simp [hold] at h ⊢ <;> exact h
theorem gd_ {z : Bool} {σ : St} : ∀ (d : Nat) (t v : T) (S : List Nat), hold z σ d t = some (v, S) → frz σ d t = some (v, S)
 | 0, t, v, S, h => by
  cases t with
  | row zz n cs => obtain ⟨rfl, rfl⟩ := gS_ h; simp [frz]
  | _ => simp [hold] at h <;> simp [frz, h]
 | d + 1, t, v, S, h => by
  cases t with
  | ref b e off n =>
   simp only [hold] at h
   obtain ⟨B, hb, h1⟩ := Option.bind_eq_some_iff.1 h
   split at h1
   ·rename_i hc
    obtain ⟨⟨cs, S1⟩, h2, h3⟩ := Option.map_eq_some_iff.1 h1
    injection h3 with h3 h4; subst h3; subst h4
    have h5 := aE_ (g := frz σ d) (fun t v S' _ hh _ => gd_ d t v S' hh) h2
    have h6 : (B.cells.drop off).take (n * B.esz) = B.cells := by rw [hc.2.2.2.1, List.drop_zero, ← hc.2.2.2.2.1, List.take_length]
    simp only [frz, hb, Option.bind_some, h6, h5, Option.map_some]
    rw [if_pos ⟨by rw [hc.2.1]; exact hc.2.2.1, hc.2.2.2.2.2.1⟩]
   ·cases h1
  | agg cs =>
   simp only [hold] at h
   obtain ⟨⟨cs', S1⟩, h2, h3⟩ := Option.map_eq_some_iff.1 h
   injection h3 with h3 h4; subst h3; subst h4
   simp only [frz, aE_ (g := frz σ d) (fun t v S' _ hh _ => gd_ d t v S' hh) h2, Option.map_some]
  | tup cs =>
   simp only [hold] at h
   obtain ⟨⟨cs', S1⟩, h2, h3⟩ := Option.map_eq_some_iff.1 h
   injection h3 with h3 h4; subst h3; subst h4
   simp only [frz, aE_ (g := frz σ d) (fun t v S' _ hh _ => gd_ d t v S' hh) h2, Option.map_some]
  | row zz n cs => obtain ⟨rfl, rfl⟩ := gS_ h; simp [frz]
  | _ => simp [hold] at h <;> simp [frz, h]
theorem cK_ {z : Bool} {σ σ' : St} : ∀ (d : Nat) (t v : T) (S : List Nat), (∀ b ∈ S, σ'.blk b = σ.blk b) → hold z σ d t = some (v, S) → hold z σ' d t = some (v, S)
 | 0, t, v, S, hS, h => by cases t with
  | row zz n cs => exact gO_ h
  | _ => simp [hold] at h <;> simp [hold, h]
 | d + 1, t, v, S, hS, h => by
  cases t with
  | ref b e off n =>
   simp only [hold] at h
   obtain ⟨B, hb, h1⟩ := Option.bind_eq_some_iff.1 h
   split at h1
   ·rename_i hc
    obtain ⟨⟨cs, S1⟩, h2, h3⟩ := Option.map_eq_some_iff.1 h1
    injection h3 with h3 h4; subst h3; subst h4
    have h5 := aE_ (g := hold z σ' d) (fun t v S' _ hh hs => cK_ d t v S' (fun b' hb' => hS b' (by simp [hs b' hb'])) hh) h2
    simp only [hold, hS b (by simp), hb, Option.bind_some, h5, Option.map_some]
    rw [if_pos hc]
   ·cases h1
  | agg cs =>
   simp only [hold] at h
   obtain ⟨⟨cs', S1⟩, h2, h3⟩ := Option.map_eq_some_iff.1 h
   injection h3 with h3 h4; subst h3; subst h4
   simp only [hold, aE_ (g := hold z σ' d) (fun t v S' _ hh hs => cK_ d t v S' (fun b' hb' => hS b' (hs b' hb')) hh) h2, Option.map_some]
  | tup cs =>
   simp only [hold] at h
   obtain ⟨⟨cs', S1⟩, h2, h3⟩ := Option.map_eq_some_iff.1 h
   injection h3 with h3 h4; subst h3; subst h4
   simp only [hold, aE_ (g := hold z σ' d) (fun t v S' _ hh hs => cK_ d t v S' (fun b' hb' => hS b' (hs b' hb')) hh) h2, Option.map_some]
  | row zz n cs => exact gO_ h
  | _ => simp [hold] at h <;> simp [hold, h]
theorem bW_ {z : Bool} {σ : St} : ∀ (d : Nat) (t v : T) (S : List Nat), hold z σ d t = some (v, S) → ∀ d', d ≤ d' → hold z σ d' t = some (v, S)
 | 0, t, v, S, h, d', _ => by
  cases t with
  | row zz n cs => exact gO_ h
  | ref b e off n => simp [hold] at h
  | agg cs => simp [hold] at h
  | tup cs => simp [hold] at h
  | _ => cases d' <;> simp [hold] at h <;> simp [hold, h]
 | d + 1, t, v, S, h, d', hd => by
  obtain ⟨d', rfl⟩ : ∃ k, d' = k + 1 := ⟨d' - 1, by omega⟩
  cases t with
  | ref b e off n =>
   simp only [hold] at h
   obtain ⟨B, hb, h1⟩ := Option.bind_eq_some_iff.1 h
   split at h1
   ·rename_i hc
    obtain ⟨⟨cs, S1⟩, h2, h3⟩ := Option.map_eq_some_iff.1 h1
    injection h3 with h3 h4; subst h3; subst h4
    have h5 := aE_ (g := hold z σ d') (fun t v S' _ hh hs => bW_ d t v S' hh d' (by omega)) h2
    simp only [hold, hb, Option.bind_some, h5, Option.map_some]
    rw [if_pos hc]
   ·cases h1
  | agg cs =>
   simp only [hold] at h
   obtain ⟨⟨cs', S1⟩, h2, h3⟩ := Option.map_eq_some_iff.1 h
   injection h3 with h3 h4; subst h3; subst h4
   simp only [hold, aE_ (g := hold z σ d') (fun t v S' _ hh hs => bW_ d t v S' hh d' (by omega)) h2, Option.map_some]
  | tup cs =>
   simp only [hold] at h
   obtain ⟨⟨cs', S1⟩, h2, h3⟩ := Option.map_eq_some_iff.1 h
   injection h3 with h3 h4; subst h3; subst h4
   simp only [hold, aE_ (g := hold z σ d') (fun t v S' _ hh hs => bW_ d t v S' hh d' (by omega)) h2, Option.map_some]
  | row zz n cs => exact gO_ h
  | _ => simp [hold] at h <;> simp [hold, h]
theorem hO_ {σ : St} : ∀ (d : Nat) (t v : T) (S : List Nat), hold true σ d t = some (v, S) → own σ d t = some (v, S)
 | 0, t, v, S, h => by
  cases t with
  | row zz n cs => cases zz <;> cases n <;> cases cs <;> simp [hold] at h; (obtain ⟨rfl, rfl⟩ := h; simp [own])
  | _ => simp [hold] at h <;> simp [own, h]
 | d + 1, t, v, S, h => by
  cases t with
  | ref b e off n =>
   simp only [hold] at h
   obtain ⟨B, hb, h1⟩ := Option.bind_eq_some_iff.1 h
   split at h1
   ·rename_i hc
    obtain ⟨⟨cs, S1⟩, h2, h3⟩ := Option.map_eq_some_iff.1 h1
    injection h3 with h3 h4; subst h3; subst h4
    have h5 := aE_ (g := own σ d) (fun t v S' _ hh _ => hO_ d t v S' hh) h2
    simp only [own, hb, Option.bind_some, h5, Option.map_some]
    rw [if_pos ⟨hc.1 trivial, hc.2.1, hc.2.2.2.1, hc.2.2.2.2.1, hc.2.2.2.2.2.1⟩]
   ·cases h1
  | agg cs =>
   simp only [hold] at h
   obtain ⟨⟨cs', S1⟩, h2, h3⟩ := Option.map_eq_some_iff.1 h
   injection h3 with h3 h4; subst h3; subst h4
   simp only [own, aE_ (g := own σ d) (fun t v S' _ hh _ => hO_ d t v S' hh) h2, Option.map_some]
  | tup cs =>
   simp only [hold] at h
   obtain ⟨⟨cs', S1⟩, h2, h3⟩ := Option.map_eq_some_iff.1 h
   injection h3 with h3 h4; subst h3; subst h4
   simp only [own, aE_ (g := own σ d) (fun t v S' _ hh _ => hO_ d t v S' hh) h2, Option.map_some]
  | row zz n cs => cases zz <;> cases n <;> cases cs <;> simp [hold] at h; (obtain ⟨rfl, rfl⟩ := h; simp [own])
  | _ => simp [hold] at h <;> simp [own, h]
def isTop : T → Bool
 | .row true 0 [] => true
 | .emp => true
 | .ref .. => true
 | _ => false
inductive Ent where
 | box (b : Nat) (cells : List T)
 | frt (z : Bool) (w : Nat) (t v : T)
 | own (z : Bool) (w : Nat) (t v : T)
 | keep (F : List Nat) (σk : St)
 | flt (w : Nat) (t v : T)
def lE_ (σ : St) : Ent → List Nat → Prop
 | .box b cells, S => S = [b] ∧ ∃ B, σ.blk b = some B ∧ B.cells = cells ∧ B.ep = 0 ∧ B.low = 0 ∧ B.st = true
 | .frt z w t v, S => (isTop t = true ∧ (∀ b e o n B, t = .ref b e o n → σ.blk b = some B → w ≠ 0 → B.esz = w) ∧ ∃ k, hold z σ k t = some (v, S)) ∨ (v = .row false 0 [] ∧ ∃ b B, t = .ref b B.ep 0 0 ∧ S = [b] ∧ σ.blk b = some B ∧ B.st = true ∧ B.low ≤ B.ep ∧ B.esz = w ∧ w ≠ 0)
 | .own z w t v, S => isTop t = true ∧ (∀ b e o n B, t = .ref b e o n → σ.blk b = some B → w ≠ 0 → B.esz = w) ∧ ∃ k, hold z σ k t = some (v, S)
 | .keep F σk, S => S = F ∧ ∀ b ∈ F, σ.blk b = σk.blk b ∧ (σ.blk b).isSome = true
 | .flt w t v, S => (t = .row true 0 [] ∧ v = .row true 0 [] ∧ S = []) ∨ (t = .emp ∧ v = .row false 0 [] ∧ S = []) ∨ ∃ b B n, t = .ref b B.ep 0 n ∧ v = .row false n (B.cells.take (n * w)) ∧ S = [b] ∧ σ.blk b = some B ∧ B.st = true ∧ B.low ≤ B.ep ∧ B.esz = w ∧ w ≠ 0 ∧ n * w ≤ B.cells.length
theorem OwnOk.same {σ σ' : St} {z : Bool} {w : Nat} {t v : T} {S : List Nat} (h : isTop t = true ∧ (∀ b e o n B, t = .ref b e o n → σ.blk b = some B → w ≠ 0 → B.esz = w) ∧ ∃ k, hold z σ k t = some (v, S)) (hS : ∀ b ∈ S, σ'.blk b = σ.blk b) :
  isTop t = true ∧ (∀ b e o n B, t = .ref b e o n → σ'.blk b = some B → w ≠ 0 → B.esz = w) ∧ ∃ k, hold z σ' k t = some (v, S) := by
 obtain ⟨h1, h3, k, h2⟩ := h
 refine ⟨h1, fun b e o n B ht hB hw0 => ?_, k, cK_ k t v S hS h2⟩
 subst ht
 cases k with
 | zero => simp [hold] at h2
 | succ k =>
  simp only [hold] at h2
  obtain ⟨B', hb, h4⟩ := Option.bind_eq_some_iff.1 h2
  split at h4
  ·obtain ⟨q, _, h5⟩ := Option.map_eq_some_iff.1 h4
   injection h5 with _ h5
   rw [hS b (by rw [← h5]; simp)] at hB
   exact h3 b e o n B rfl hB hw0
  ·cases h4
theorem lE_.same {σ σ' : St} {e : Ent} {S : List Nat} (h : lE_ σ e S) (hS : ∀ b ∈ S, σ'.blk b = σ.blk b) : lE_ σ' e S := by
 cases e with
 | box b cells => obtain ⟨rfl, B, h1, h2⟩ := h; exact ⟨rfl, B, by rw [hS b (by simp), h1], h2⟩
 | frt z w t v =>
  rcases h with h | ⟨rfl, b, B, rfl, rfl, h1, h2⟩
  ·exact .inl (OwnOk.same h hS)
  ·exact .inr ⟨rfl, b, B, rfl, rfl, by rw [hS b (by simp), h1], h2⟩
 | keep F σk => obtain ⟨rfl, h1⟩ := h; exact ⟨rfl, fun b hb => by rw [hS b hb]; exact h1 b hb⟩
 | flt w t v =>
  rcases h with h | h | ⟨b, B, n, h1, h2, rfl, h3, h4⟩
  ·exact .inl h
  ·exact .inr (.inl h)
  ·exact .inr (.inr ⟨b, B, n, h1, h2, rfl, by rw [hS b (by simp), h3], h4⟩)
 | own z w t v => exact OwnOk.same h hS
def cY_ (σ : St) : List Ent → List Nat → Prop
 | [], F => F = []
 | e :: es, F => ∃ S F', F = S ++ F' ∧ lE_ σ e S ∧ cY_ σ es F'
theorem cY_.same {σ σ' : St} : ∀ {es : List Ent} {F : List Nat}, cY_ σ es F → (∀ b ∈ F, σ'.blk b = σ.blk b) → cY_ σ' es F
 | [], F, h, _ => h
 | e :: es, F, h, hS => by
  obtain ⟨S, F', rfl, h1, h2⟩ := h
  exact ⟨S, F', rfl, h1.same fun b hb => hS b (by simp [hb]), h2.same fun b hb => hS b (by simp [hb])⟩
theorem cY_.split {σ : St} : ∀ {es1 es2 : List Ent} {F : List Nat}, cY_ σ (es1 ++ es2) F → ∃ F1 F2, F = F1 ++ F2 ∧ cY_ σ es1 F1 ∧ cY_ σ es2 F2
 | [], es2, F, h => ⟨[], F, rfl, rfl, h⟩
 | e :: es1, es2, F, h => by
  obtain ⟨S, F', rfl, h1, h2⟩ := h
  obtain ⟨F1, F2, rfl, h3, h4⟩ := h2.split
  exact ⟨S ++ F1, F2, by simp, ⟨S, F1, rfl, h1, h3⟩, h4⟩
theorem cY_.join {σ : St} : ∀ {es1 es2 : List Ent} {F1 F2 : List Nat}, cY_ σ es1 F1 → cY_ σ es2 F2 → cY_ σ (es1 ++ es2) (F1 ++ F2)
 | [], es2, F1, F2, h1, h2 => by cases h1; exact h2
 | e :: es1, es2, F1, F2, h1, h2 => by
  obtain ⟨S, F', rfl, h3, h4⟩ := h1
  exact ⟨S, F' ++ F2, by simp, h3, h4.join h2⟩
theorem cY_.perm {σ : St} {es es' : List Ent} (hp : es.Perm es') : ∀ {F : List Nat}, cY_ σ es F → ∃ F', F.Perm F' ∧ cY_ σ es' F' := by
 induction hp with
 | nil => intro F h; exact ⟨F, .refl _, h⟩
 | cons e _ ih =>
  intro F h
  obtain ⟨S, F', rfl, h1, h2⟩ := h
  obtain ⟨F2, h3, h4⟩ := ih h2
  exact ⟨S ++ F2, h3.append_left S, S, F2, rfl, h1, h4⟩
 | swap e1 e2 l =>
  intro F h
  obtain ⟨S, F', rfl, h1, S2, F2, rfl, h2, h3⟩ := h
  refine ⟨S2 ++ (S ++ F2), ?_, S2, S ++ F2, rfl, h2, S, F2, rfl, h1, h3⟩
  rw [← List.append_assoc, ← List.append_assoc]
  exact List.Perm.append_right _ List.perm_append_comm
 | trans _ _ ih1 ih2 =>
  intro F h
  obtain ⟨F1, h1, h2⟩ := ih1 h
  obtain ⟨F2, h3, h4⟩ := ih2 h2
  exact ⟨F2, h1.trans h3, h4⟩
structure Heap (σ0 σ : St) (es : List Ent) : Prop where
 grow : Grow σ0 σ
 ex : ∃ F, cY_ σ es F ∧ F.Nodup ∧ ∀ b ∈ F, σ0.next ≤ b ∧ b < σ.next
theorem Heap.nil (σ : St) : Heap σ σ [] := ⟨.refl σ, [], rfl, by simp, by simp⟩
theorem Heap.perm {σ0 σ : St} {es es' : List Ent} (h : Heap σ0 σ es) (hp : es.Perm es') : Heap σ0 σ es' := by
 obtain ⟨F, h1, h2, h3⟩ := h.ex
 obtain ⟨F', h4, h5⟩ := h1.perm hp
 exact ⟨h.grow, F', h5, (h4.nodup_iff).1 h2, fun b hb => h3 b (h4.mem_iff.2 hb)⟩
theorem Heap.step {σ0 σ σ' : St} {es1 es2 es : List Ent} (h : Heap σ0 σ (es1 ++ es)) (hn : σ.next ≤ σ'.next)
  (hx : ∀ S, cY_ σ es1 S → S.Nodup → (∀ b ∈ S, σ0.next ≤ b ∧ b < σ.next) → ∃ S', cY_ σ' es2 S' ∧ S'.Nodup ∧ (∀ b ∈ S', b ∈ S ∨ (σ.next ≤ b ∧ b < σ'.next)) ∧ ∀ b, b < σ.next → b ∉ S → σ'.blk b = σ.blk b) : Heap σ0 σ' (es2 ++ es) := by
 obtain ⟨F, h1, h2, h3⟩ := h.ex
 obtain ⟨S, F', rfl, h4, h5⟩ := h1.split
 obtain ⟨n1, n2, n3⟩ := List.nodup_append.1 h2
 obtain ⟨S', k1, k2, k3, k4⟩ := hx S h4 n1 fun b hb => h3 b (by simp [hb])
 have hF : ∀ b ∈ F', b < σ.next ∧ b ∉ S := fun b hb => ⟨(h3 b (by simp [hb])).2, fun hs => n3 b hs b hb rfl⟩
 refine ⟨⟨Nat.le_trans h.grow.nx hn, fun i hi => ?_⟩, S' ++ F', k1.join (h5.same fun b hb => k4 b (hF b hb).1 (hF b hb).2), ?_, fun b hb => ?_⟩
 ·rw [k4 i (Nat.lt_of_lt_of_le hi h.grow.nx) (fun hs => by have := (h3 i (by simp [hs])).1; omega), h.grow.old i hi]
 ·refine List.nodup_append.2 ⟨k2, n2, fun a ha b hb => ?_⟩
  rintro rfl
  rcases k3 a ha with hs | ⟨hs, _⟩
  ·exact (hF a hb).2 hs
  ·have := (hF a hb).1; omega
 ·rcases List.mem_append.1 hb with hb | hb
  ·rcases k3 b hb with hs | ⟨hs, hs2⟩
   ·have := h3 b (by simp [hs]); exact ⟨this.1, by omega⟩
   ·exact ⟨by have := h.grow.nx; omega, hs2⟩
  ·have := h3 b (by simp [hb]); exact ⟨this.1, by omega⟩
theorem io_ {z : Bool} {σ : St} {d : Nat} {t v : T} {S : List Nat} (h : hold z σ d t = some (v, S)) : ∀ b ∈ S, (σ.blk b).isSome = true := fun b hb => by
 cases hc : σ.blk b with
 | some B => rfl
 | none => exact absurd hb (iD_ (B := aP_ [] 0) hc d _ _ (gd_ d t v S h)).2
theorem cY_.some {σ : St} : ∀ {es : List Ent} {F : List Nat}, cY_ σ es F → ∀ b ∈ F, (σ.blk b).isSome = true
 | [], F, h, b, hb => by cases h; cases hb
 | e :: es, F, h, b, hb => by
  obtain ⟨S, F', rfl, h1, h2⟩ := h
  rcases List.mem_append.1 hb with hb | hb
  ·cases e with
   | box b' cells => obtain ⟨rfl, B, h1, _⟩ := h1; simp at hb; subst hb; rw [h1]; rfl
   | frt z w t v =>
    rcases h1 with ⟨_, _, k, h1⟩ | ⟨rfl, b', B, rfl, rfl, h1, _⟩
    ·exact io_ h1 b hb
    ·simp at hb; subst hb; rw [h1]; rfl
   | own z w t v => obtain ⟨_, _, k, h1⟩ := h1; exact io_ h1 b hb
   | keep F σk => obtain ⟨rfl, h1⟩ := h1; exact (h1 b hb).2
   | flt w t v =>
    rcases h1 with ⟨_, _, rfl⟩ | ⟨_, _, rfl⟩ | ⟨b', B, n, _, _, rfl, h3, _⟩
    ·cases hb
    ·cases hb
    ·simp at hb; subst hb; rw [h3]; rfl
  ·exact h2.some b hb
theorem Heap.stepN {σ0 σ σ' : St} {es1 es2 es : List Ent} (h : Heap σ0 σ (es1 ++ es)) (hn : σ.next ≤ σ'.next) (hg : ∀ b, b < σ0.next → σ'.blk b = σ.blk b)
  (hx : ∀ S, cY_ σ es1 S → S.Nodup → (∀ b ∈ S, σ0.next ≤ b ∧ b < σ.next) → ∃ S', cY_ σ' es2 S' ∧ S'.Nodup ∧ (∀ b ∈ S', b ∈ S ∨ (σ0.next ≤ b ∧ b < σ'.next ∧ (σ.next ≤ b ∨ σ.blk b = none))) ∧ ∀ b, b < σ.next → (σ.blk b).isSome = true → b ∉ S → σ'.blk b = σ.blk b) : Heap σ0 σ' (es2 ++ es) := by
 obtain ⟨F, h1, h2, h3⟩ := h.ex
 obtain ⟨S, F', rfl, h4, h5⟩ := h1.split
 obtain ⟨n1, n2, n3⟩ := List.nodup_append.1 h2
 obtain ⟨S', k1, k2, k3, k4⟩ := hx S h4 n1 fun b hb => h3 b (by simp [hb])
 have hF : ∀ b ∈ F', b < σ.next ∧ b ∉ S ∧ (σ.blk b).isSome = true := fun b hb => ⟨(h3 b (by simp [hb])).2, fun hs => n3 b hs b hb rfl, h5.some b hb⟩
 refine ⟨⟨Nat.le_trans h.grow.nx hn, fun i hi => by rw [hg i hi, h.grow.old i hi]⟩, S' ++ F', k1.join (h5.same fun b hb => k4 b (hF b hb).1 (hF b hb).2.2 (hF b hb).2.1), ?_, fun b hb => ?_⟩
 ·refine List.nodup_append.2 ⟨k2, n2, fun a ha b hb => ?_⟩
  rintro rfl
  obtain ⟨f1, f2, f3⟩ := hF a hb
  rcases k3 a ha with hs | ⟨_, _, hs | hs⟩
  ·exact f2 hs
  ·omega
  ·rw [hs] at f3; cases f3
 ·rcases List.mem_append.1 hb with hb | hb
  ·rcases k3 b hb with hs | ⟨hs, hs2, _⟩
   ·have := h3 b (by simp [hs]); exact ⟨this.1, by omega⟩
   ·exact ⟨hs, hs2⟩
  ·have := h3 b (by simp [hb]); exact ⟨this.1, by omega⟩
theorem Heap.drop {σ0 σ : St} {e : Ent} {es : List Ent} (h : Heap σ0 σ (e :: es)) : Heap σ0 σ es :=
 Heap.step (es1 := [e]) (es2 := []) (es := es) h (Nat.le_refl _) fun S _ _ _ => ⟨[], rfl, by simp, by simp, fun _ _ _ => rfl⟩
def qs_ (i : Nat) (es : List Ent) : List Ent := match es[i]? with
 | some e => e :: es.eraseIdx i
 | none => es
theorem Heap.pull {σ0 σ : St} {es : List Ent} (h : Heap σ0 σ es) (i : Nat) : Heap σ0 σ (qs_ i es) := by
 unfold qs_
 split
 ·rename_i e he
  obtain ⟨hi, rfl⟩ := List.getElem?_eq_some_iff.1 he
  refine h.perm ?_
  have key : ∀ (l : List Ent) (i : Nat) (hi : i < l.length), l.Perm (l[i] :: l.eraseIdx i) := by
   intro l
   induction l with
   | nil => intro i hi; simp at hi
   | cons a l ih =>
    intro i hi
    cases i with
    | zero => exact .refl _
    | succ i => exact ((ih i (by simpa using hi)).cons a).trans (.swap _ _ _)
  exact key es i hi
 ·exact h
def sel : List Nat → List Ent → List Ent
 | [], _ => []
 | i :: is, es => match es[i]? with
  | some e => e :: sel is es
  | none => sel is es
def okSel : List Nat → Bool
 | [] => true
 | i :: is => is.all (fun j => !Nat.beq j i) && okSel is
def down (i j : Nat) : Nat := if j < i then j else j - 1
theorem kc_ {es : List Ent} {i : Nat} : ∀ (is : List Nat), (∀ j ∈ is, j ≠ i) → sel is es = sel (is.map (down i)) (es.eraseIdx i)
 | [], _ => rfl
 | j :: is, h => by
  have hj := h j (by simp)
  have e : (es.eraseIdx i)[down i j]? = es[j]? := by
   rw [List.getElem?_eraseIdx]
   unfold down
   by_cases hlt : j < i
   ·rw [if_pos hlt, if_pos hlt]
   ·rw [if_neg hlt, if_neg (by omega)]; congr 1; omega
  simp only [sel, List.map_cons, e]
  rw [kc_ is fun k hk => h k (by simp [hk])]
theorem ja_ {i : Nat} : ∀ (is : List Nat), (∀ j ∈ is, j ≠ i) → okSel is = true → okSel (is.map (down i)) = true
 | [], _, _ => rfl
 | j :: is, h, hk => by
  simp only [okSel, Bool.and_eq_true, List.all_eq_true, Bool.not_eq_true'] at hk
  simp only [List.map_cons, okSel, Bool.and_eq_true, List.all_eq_true, Bool.not_eq_true']
  refine ⟨fun k hk' => ?_, ja_ is (fun k hk' => h k (by simp [hk'])) hk.2⟩
  obtain ⟨k0, h0, rfl⟩ := List.mem_map.1 hk'
  have h1 := Nat.ne_of_beq_eq_false (hk.1 k0 h0)
  have h2 := h k0 (by simp [h0])
  have h3 := h j (by simp)
  have : down i k0 ≠ down i j := by unfold down; split <;> split <;> omega
  cases hb : Nat.beq (down i k0) (down i j) with
  | false => rfl
  | true => exact absurd (Nat.eq_of_beq_eq_true hb) this
theorem sel_perm : ∀ (is : List Nat) (es : List Ent), okSel is = true → ∃ rest, es.Perm (sel is es ++ rest)
 | [], es, _ => ⟨es, .refl _⟩
 | i :: is, es, h => by
  simp only [okSel, Bool.and_eq_true, List.all_eq_true, Bool.not_eq_true'] at h
  have hne : ∀ j ∈ is, j ≠ i := fun j hj => Nat.ne_of_beq_eq_false (h.1 j hj)
  simp only [sel]
  split
  ·rename_i e he
   obtain ⟨hi, rfl⟩ := List.getElem?_eq_some_iff.1 he
   obtain ⟨rest, hr⟩ := sel_perm (is.map (down i)) (es.eraseIdx i) (ja_ is hne h.2)
   rw [kc_ is hne]
   have key : ∀ (l : List Ent) (i : Nat) (hi : i < l.length), l.Perm (l[i] :: l.eraseIdx i) := by
    intro l
    induction l with
    | nil => intro i hi; simp at hi
    | cons a l ih =>
     intro i hi
     cases i with
     | zero => exact .refl _
     | succ i => exact ((ih i (by simpa using hi)).cons a).trans (.swap _ _ _)
   exact ⟨rest, (key es i hi).trans (hr.cons _)⟩
  ·exact sel_perm is es h.2
termination_by is => is.length
theorem Heap.sel {σ0 σ : St} {es es' : List Ent} (h : Heap σ0 σ es) (is : List Nat) (hk : okSel is = true) (he : Go.Am.sel is es = es') : Heap σ0 σ es' := by
 subst he
 obtain ⟨rest, hr⟩ := sel_perm is es hk
 have h := h.perm (hr.trans List.perm_append_comm)
 exact Heap.step (es1 := rest) (es2 := []) (es := Go.Am.sel is es) h (Nat.le_refl _) fun S _ _ _ => ⟨[], rfl, by simp, by simp, fun _ _ _ => rfl⟩
theorem f9_ {σ : St} {k : Option Nat} (h : σ.okK k = true) : σ.next ≤ σ.nid k ∨ (σ.blk (σ.nid k) = none ∧ σ.nid k < σ.next) := by
 cases k with
 | none => exact .inl (Nat.le_refl _)
 | some i =>
  simp only [St.okK, Bool.and_eq_true, decide_eq_true_eq, Option.isNone_iff_eq_none] at h
  exact .inr h
theorem ij_ {σ : St} {k : Option Nat} {B : Blk} (h : σ.okK k = true) : σ.nid k < (σ.pushK k B).next := by
 cases k with
 | none => simp [St.nid, St.pushK]
 | some i => simp only [St.okK, Bool.and_eq_true, decide_eq_true_eq] at h; exact h.2
theorem d3_ {σ : St} {k : Option Nat} {B : Blk} : σ.next ≤ (σ.pushK k B).next := by cases k <;> simp [St.pushK]
theorem bo_ {σ : St} {k : Option Nat} {B : Blk} {i : Nat} : (σ.pushK k B).blk i = if i = σ.nid k then some B else σ.blk i := rfl
theorem en_ {σ : St} {k : Option Nat} {B : Blk} {y : Nat} (hk : σ.okK k = true) (h : (σ.blk y).isSome = true) (hy : y < σ.next) : (σ.pushK k B).blk y = σ.blk y := by
 rw [bo_, if_neg]
 rintro rfl
 rcases f9_ hk with hf | ⟨hf, _⟩
 ·omega
 ·rw [hf] at h; cases h
theorem Heap.boxK {σ0 σ : St} {es : List Ent} (h : Heap σ0 σ es) {k : Option Nat} (hk : σ.okK k = true) (hb : ∀ i, k = some i → σ0.next ≤ i) (cells : List T) (n : Nat) : Heap σ0 (σ.pushK k (aP_ cells n)) (.box (σ.nid k) cells :: es) := by
 have h0 : σ0.next ≤ σ.nid k := by
  cases k with
  | none => exact h.grow.nx
  | some i => exact hb i rfl
 have hf := f9_ hk
 refine Heap.stepN (es1 := []) (es2 := [.box (σ.nid k) cells]) (es := es) h d3_ (fun b hb' => by rw [bo_, if_neg (by omega)]) fun S _ _ _ => ⟨[σ.nid k], ⟨[σ.nid k], [], rfl, ⟨rfl, aP_ cells n, by rw [bo_, if_pos rfl], rfl, rfl, rfl, rfl⟩, rfl⟩, by simp, fun b hb' => ?_, fun b hb' hs _ => ?_⟩
 ·simp only [List.mem_singleton] at hb'; subst hb'
  exact .inr ⟨h0, ij_ hk, hf.imp id fun h => h.1⟩
 ·rw [bo_, if_neg]
  rintro rfl
  rcases hf with hf | ⟨hf, _⟩
  ·omega
  ·rw [hf] at hs; cases hs
theorem Heap.look {σ0 σ : St} {b : Nat} {cells : List T} {es : List Ent} (h : Heap σ0 σ (.box b cells :: es)) : ∃ B, σ.blk b = some B ∧ B.cells = cells ∧ B.ep = 0 ∧ B.low = 0 ∧ B.st = true := by
 obtain ⟨F, ⟨S, F', _, ⟨_, h1⟩, _⟩, _⟩ := h.ex
 exact h1
theorem Heap.put {σ0 σ : St} {b : Nat} {cells cells' : List T} {es : List Ent} (h : Heap σ0 σ (.box b cells :: es)) {B : Blk} (h1 : B.cells = cells') (h2 : B.ep = 0) (h3 : B.low = 0) (h4 : B.st = true) : Heap σ0 (σ.set b B) (.box b cells' :: es) :=
 Heap.step (es1 := [.box b cells]) (es2 := [.box b cells']) (es := es) h (by simp) fun S hS _ _ => by
  obtain ⟨S1, F', rfl, ⟨rfl, _⟩, rfl⟩ := hS
  exact ⟨[b], ⟨[b], [], rfl, ⟨rfl, B, by simp, h1, h2, h3, h4⟩, rfl⟩, by simp, fun x hx => .inl (by simpa using hx), fun x _ hx => by simp at hx; rw [ct_, if_neg hx]⟩
end Go.Am
end
section
set_option linter.unusedVariables false
set_option linter.unusedSimpArgs false
namespace Go.Am
open Classical
def get : List (Nat × T) → Nat → Option T
 | [], _ => none
 | (i, v) :: l, j => match Nat.beq i j with
  | true => some v
  | false => get l j
def Sub (L : List (Nat × T)) (s : Nat → T) : Prop := ∀ j v, get L j = some v → s j = v
theorem hR_ {L : List (Nat × T)} {s : Nat → T} {j : Nat} {v : T} (h : Sub L s) (k : s j = v) : Sub ((j, v) :: L) s := fun i u hi => by
 simp only [get] at hi
 split at hi
 ·rename_i e; rw [Nat.eq_of_beq_eq_true e] at k; injection hi with hi; rw [k, hi]
 ·exact h i u hi
theorem q2_ {L : List (Nat × T)} {s : Nat → T} (h : Sub L s) (d : Nat) (v : T) : Sub ((d, v) :: L) (fun j => if j = d then v else s j) := fun i u hi => by
 simp only [get] at hi
 split at hi
 ·rename_i e; rw [Nat.eq_of_beq_eq_true e]; injection hi with hi; simp [hi]
 ·rename_i e
  have hne : i ≠ d := fun x => by subst x; rw [Nat.beq_refl] at e; cases e
  simp only [if_neg hne]; exact h i u hi
theorem get_mem : ∀ {L : List (Nat × T)} {j : Nat} {v : T}, get L j = some v → (j, v) ∈ L
 | [], _, _, h => by cases h
 | (i, u) :: L, j, v, h => by
  simp only [get] at h
  split at h
  ·rename_i e; injection h with h; rw [← Nat.eq_of_beq_eq_true e, h]; simp
  ·exact List.mem_cons_of_mem _ (get_mem h)
theorem ad_ {L L' : List (Nat × T)} {s : Nat → T} (h : Sub L s) (k : (L'.map fun p => get L p.1) = L'.map fun p => some p.2) : Sub L' s := fun j v hj => by
 have hm := get_mem hj
 obtain ⟨n, hn, e⟩ := List.getElem_of_mem hm
 have : (L'.map fun p => get L p.1)[n]? = (L'.map fun p => some p.2)[n]? := by rw [k]
 simp [hn, e] at this
 exact h j v this
def gE (g : Nat → Option T) : Operand → Option T
 | .tmp t => g t
 | .const v => T.ofV' v
 | .func f => some (.fn f [] [])
 | .global _ => none
def gEs (g : Nat → Option T) : List Operand → Option (List T)
 | [] => some []
 | x :: xs => match gE g x with
  | some v => match gEs g xs with
   | some vs => some (v :: vs)
   | none => none
  | none => none
def gPs (g : Nat → Option T) : List (Nat × Operand) → Option (List (Nat × T))
 | [] => some []
 | (i, x) :: xs => match gE g x with
  | some v => match gPs g xs with
   | some vs => some ((i, v) :: vs)
   | none => none
  | none => none
theorem ai_ {g : Nat → Option T} {s : Nat → T} (hg : ∀ j v, g j = some v → s j = v) {x : Operand} {v : T} (h : gE g x = some v) : evalO s x = some v := by
 cases x with
 | tmp t => simp only [evalO]; rw [hg t v h]
 | const u => exact h
 | func f => exact h
 | global u => cases h
theorem cw_ {g : Nat → Option T} {s : Nat → T} (hg : ∀ j v, g j = some v → s j = v) : ∀ {xs : List Operand} {vs : List T}, gEs g xs = some vs → bA_ s xs = some vs
 | [], _, h => h
 | x :: xs, vs, h => by
  simp only [gEs] at h
  split at h
  ·rename_i v hv
   split at h
   ·rename_i us hu
    simp only [bA_, ai_ hg hv, cw_ hg hu, Option.bind_some, Option.map_some]; exact h
   ·cases h
  ·cases h
theorem fN_ {g : Nat → Option T} {s : Nat → T} (hg : ∀ j v, g j = some v → s j = v) : ∀ {xs : List (Nat × Operand)} {vs : List (Nat × T)}, gPs g xs = some vs → dh_ s xs = some vs
 | [], _, h => h
 | (i, x) :: xs, vs, h => by
  simp only [gPs] at h
  split at h
  ·rename_i v hv
   split at h
   ·rename_i us hu
    simp only [dh_, ai_ hg hv, fN_ hg hu, Option.bind_some, Option.map_some]; exact h
   ·cases h
  ·cases h
def okP (P : Program) (t : TypeId) : Bool := Nat.beq (aH_ P t) 7 && (b6_ P t).all fun f => (szOf P f.type).isSome
def pOp (P : Program) (g : Nat → Option T) : Op → Option T
 | .move x => gE g x
 | .assign x => gE g x
 | .pick c a b => match gE g c with
  | some (.bool true) => gE g a
  | some (.bool false) => gE g b
  | _ => none
 | .build t parts => match aZ_ P t with
  | some z => match gPs g parts.toList with
   | some ps => match okP P t with
    | true => (et_ (fun i => (bu_ P t i).map fun (o, _, n) => (o, n)) z ps).map .agg
    | false => none
   | none => none
  | none => none
 | .load t a => match gE g a with
  | some (.vw cs) => part P t cs 0
  | _ => none
 | .nilCheck x => match gE g x with
  | some (.ptr b e o m) => some (.ptr b e o m)
  | some (.vw cs) => some (.vw cs)
  | some (.fn f a b) => some (.fn f a b)
  | _ => none
 | .binOp op t x y _ => match gE g x with
  | some x => match gE g y with
   | some y => binA P op t x y
   | none => none
  | none => none
 | .unOp op _ x => match gE g x with
  | some x => unA op x
  | none => none
 | .convert src dst x => match gE g x with
  | some (.int _ n) => match b0_ P src with
   | true => match P.underlying dst with
    | some (.int k) => some (.int k (k.wrap n))
    | _ => none
   | false => none
  | _ => none
 | .makeFunc (.func f) first caps => match gEs g first.toList with
  | some a => match gEs g caps.toList with
   | some b => some (.fn f a b)
   | none => none
  | none => none
 | .fieldAddr t x f => match gE g x with
  | some x => match bu_ P t f with
   | some (off, _, n) => match x with
    | .ptr b e o m => if n = 0 then none else if off + n ≤ m then some (.ptr b e (o + off) n) else none
    | .vw cs => if n = 0 then none else if off + n ≤ cs.length then some (.vw (cs.drop off)) else none
    | _ => none
   | none => none
  | none => none
 | .field t x f => match gE g x with
  | some (.agg cs) => match bu_ P t f with
   | some (off, ft, _) => part P ft cs off
   | none => none
  | _ => none
 | .extract x i => match gE g x with
  | some (.tup cs) => cs[i]?
  | _ => none
 | .call c => match c.callee with
  | .builtin .len => match gEs g c.args.toList with
   | some [x] => match c.argTypes.toList with
    | [t] => lenA P ⟨0, fun _ => none⟩ t x
    | _ => none
   | _ => none
  | _ => none
 | _ => none
theorem lv_ (P : Program) (σ σ' : St) (t : TypeId) (x : T) : lenA P σ t x = lenA P σ' t x := by cases x <;> rfl
theorem h5_ {P : Program} {g : Nat → Option T} {s : Nat → T} (hg : ∀ j v, g j = some v → s j = v) {op : Op} {v : T} (h : pOp P g op = some v) (k : Option Nat) (σ : St) (d : Option Nat) (ty : TypeId) (ps : String) (af : Array Edge) (gd : Option (Nat × Bool)) :
  aOp P k ⟨s, σ⟩ ⟨d, op, ty, ps, af, gd⟩ = some (.val v σ) := by
 unfold pOp at h
 split at h
 ·rw [tp_, ai_ hg h]; rfl
 ·rw [o0_, ai_ hg h]; rfl
 ·rename_i c a b
  split at h
  ·rename_i hc; rw [pN_, ai_ hg hc]; simp [ai_ hg h]
  ·rename_i hc; rw [pN_, ai_ hg hc]; simp [ai_ hg h]
  ·cases h
 ·rename_i t parts
  split at h
  ·rename_i z hz
   split at h
   ·rename_i p hp
    split at h
    ·rename_i hk
     simp only [okP, Bool.and_eq_true] at hk
     rw [qY_, hz, Option.bind_some, fN_ hg hp, Option.bind_some, pK_, if_pos ⟨Nat.eq_of_beq_eq_true hk.1, hk.2⟩, h]; rfl
    ·cases h
   ·cases h
  ·cases h
 ·split at h
  ·rename_i cs hc; rw [hv_, ai_ hg hc, Option.bind_some, lT_, h]; rfl
  ·cases h
 ·split at h
  ·rename_i hc; injection h with h; subst h; rw [hk_, ai_ hg hc]; rfl
  ·rename_i hc; injection h with h; subst h; rw [hk_, ai_ hg hc]; rfl
  ·rename_i hc; injection h with h; subst h; rw [hk_, ai_ hg hc]; rfl
  ·cases h
 ·split at h
  ·rename_i x hx
   split at h
   ·rename_i y hy; rw [he_, ai_ hg hx, Option.bind_some, ai_ hg hy, Option.bind_some, h]; rfl
   ·cases h
  ·cases h
 ·split at h
  ·rename_i x hx; rw [rE_, ai_ hg hx, Option.bind_some, h]; rfl
  ·cases h
 ·split at h
  ·rename_i hx
   split at h
   ·rename_i hk
    split at h
    ·rename_i k2 hu
     injection h with h; subst h
     rw [kF_, ai_ hg hx, Option.bind_some, ox_, if_pos hk, hu]; rfl
    ·cases h
   ·cases h
  ·cases h
 ·split at h
  ·rename_i a ha
   split at h
   ·rename_i b hb; injection h with h; subst h; rw [mX_, cw_ hg ha, Option.bind_some, cw_ hg hb]; rfl
   ·cases h
  ·cases h
 ·split at h
  ·rename_i x hx
   split at h
   ·rename_i off ft n hf
    split at h
    ·rename_i b e o m
     rw [ib_, ai_ hg hx, Option.bind_some, hf, Option.bind_some, mZ_]
     split at h
     ·cases h
     ·rename_i h0
      split at h
      ·rename_i h1; injection h with h; subst h; rw [if_neg h0, if_pos h1]
      ·cases h
    ·rename_i cs
     rw [ib_, ai_ hg hx, Option.bind_some, hf, Option.bind_some, nf_]
     split at h
     ·cases h
     ·rename_i h0
      split at h
      ·rename_i h1; injection h with h; subst h; rw [if_neg h0, if_pos h1]
      ·cases h
    ·cases h
   ·cases h
  ·cases h
 ·split at h
  ·rename_i cs hx
   split at h
   ·rename_i off ft n hf; rw [qN_, ai_ hg hx, Option.bind_some, hf, Option.bind_some, mP_, h]; rfl
   ·cases h
  ·cases h
 ·split at h
  ·rename_i cs hx; rw [ow_, ai_ hg hx, Option.bind_some, j1_, h]; rfl
  ·cases h
 ·rename_i c
  split at h
  ·rename_i hc
   split at h
   ·rename_i x hx
    split at h
    ·rename_i t ht
     obtain ⟨callee, args, ts⟩ := c
     simp only at hc hx ht
     subst hc
     rw [qp_, cw_ hg hx, Option.bind_some, ht, le_, lv_ P σ ⟨0, fun _ => none⟩, h]; rfl
    ·cases h
   ·cases h
  ·cases h
 ·cases h
def want (ops : Array Oper) (L : List (Nat × T)) (g : Option (Nat × Bool)) : Option Bool :=
 match g with
 | none => some true
 | some (j, w) => match ops[j]? with
  | some o => match o.dst with
   | some d => match get L d with
    | some (.bool b) => some (b == w)
    | some (.tup _) => some false
    | _ => none
   | none => none
  | none => none
theorem aJ_ {ops : Array Oper} {L : List (Nat × T)} {s : Nat → T} (hS : Sub L s) {o : Oper} {b : Bool} (h : want ops L o.guard = some b) : wantedA ops o s = b := by
 unfold want at h
 unfold wantedA
 split at h
 ·rename_i e; injection h with h; subst h; simp [e]
 ·rename_i j w e
  split at h
  ·rename_i o2 ho
   split at h
   ·rename_i d hd
    split at h
    ·rename_i b2 hb
     injection h with h; subst h
     simp only [e, ho, Option.bind_some, hd, hS _ _ hb]
    ·rename_i b2 hb
     injection h with h; subst h
     simp only [e, ho, Option.bind_some, hd, hS _ _ hb]
    ·cases h
   ·cases h
  ·cases h
structure Cmp where
 vw : Nat → Bool
 cm : Nat → Bool
 ck : Nat → Nat → Bool
 wk : Nat → Nat → Bool
inductive Mo where
 | q
 | d (b i : Nat)
 | c (b i : Nat) (W : Nat → Nat → Prop) (σs : St) (cm : Cmp)
def Wc : List (Nat × (Nat → Prop)) → Nat → Nat → Prop
 | [], _, _ => False
 | (k, R) :: l, c, x => bif Nat.beq k c then ¬ R x else Wc l c x
theorem Wc.nil {ck : Nat → Bool} {x : Nat} : ∀ c, ck c = false → ¬ Wc [] c x := fun _ _ h => h
theorem Wc.cons {ck : Nat → Bool} {x k : Nat} {R : Nat → Prop} {l : List (Nat × (Nat → Prop))} (h : ck k = true ∨ R x) (t : ∀ c, ck c = false → ¬ Wc l c x) : ∀ c, ck c = false → ¬ Wc ((k, R) :: l) c x := fun c hc hw => by
 unfold Wc at hw
 cases hk : Nat.beq k c with
 | true =>
  rw [hk] at hw
  have := Nat.eq_of_beq_eq_true hk
  subst this
  rcases h with h | h
  ·rw [h] at hc; cases hc
  ·exact hw h
 | false => rw [hk] at hw; exact t c hc hw
def BT (t : T) (x : Nat) : Prop := ∃ e o n, t = .ref x e o n
def RN : Nat → Prop := fun _ => False
def RB (b : Nat) (R : Nat → Prop) : Nat → Prop := fun x => x = b ∨ R x
def RT (t : T) (R : Nat → Prop) : Nat → Prop := fun x => BT t x ∨ R x
def eO_ (b : Nat) (W : Nat → Nat → Prop) (σs σ : St) : Prop := b ≤ σ.next ∧ ∀ x, x < b → (∀ c, ¬ W c x) → σ.blk x = σs.blk x
def Room (b i m : Nat) (σ : St) : Prop := b + i + m ≤ σ.next ∧ ∀ j, j < m → σ.blk (b + i + j) = none
theorem Room.nxt {b i m : Nat} {σ : St} (h : Room b i (m + 1) σ) : Room b (i + 1) m σ := ⟨by have := h.1; omega, fun j hj => by rw [show b + (i + 1) + j = b + i + (j + 1) by omega]; exact h.2 (j + 1) (by omega)⟩
def Mo.al : Mo → St → St → Prop
 | .c b i W σs cm, σ, σ' => (cm.cm i = true → σ' = σ) ∧ (∀ x, x < b → (∀ c, cm.ck c i = false → ¬ W c x) → σ'.blk x = σ.blk x) ∧ eO_ b W σs σ' ∧ eO_ b W σs σ
 | _, σ, σ' => σ' = σ
def Mo.lt : Mo → Nat → Prop
 | .c b i W _ cm, x => cm.cm i = true ∨ (x < b ∧ ∀ c, cm.ck c i = false → ¬ W c x)
 | _, _ => True
def Mo.wr : Mo → Nat → Prop
 | .c b i W _ cm, x => b ≤ x ∨ ∃ c, cm.wk c i = true ∧ W c x
 | _, _ => True
def Mo.nw : Mo → Nat → Prop
 | .c b _ _ _ _, x => b ≤ x
 | _, _ => True
def Mo.base : Mo → St → Prop
 | .c b _ _ _ _, σ0 => σ0.next ≤ b
 | _, _ => True
def Mo.seq : Mo → Bool
 | .c _ i _ _ cm => cm.cm i
 | _ => true
def Mo.chg : Mo → Bool
 | .d .. => false
 | .c _ i _ _ cm => !cm.vw i
 | .q => true
def Mo.vw : Mo → Bool
 | .c _ i _ _ cm => cm.vw i
 | _ => false
theorem Mo.al_blk {m : Mo} {σ σ' : St} {b : Nat} (h : m.al σ σ') (k : m.lt b) : σ'.blk b = σ.blk b := by
 cases m with
 | c b' i W σs cm =>
  rcases k with k | ⟨k1, k⟩
  ·rw [h.1 k]
  ·rw [h.2.1 b k1 k]
 | q => rw [show σ' = σ from h]
 | d b i => rw [show σ' = σ from h]
def isCall : Op → Bool
 | .call c => match c.callee with
  | .builtin _ => false
  | _ => true
 | _ => false
def isChg : Op → Bool
 | .call c => match c.callee with
  | .builtin .append => true
  | .builtin _ => false
  | _ => true
 | .store .. | .alloc .. | .box .. | .buildSlice .. | .makeSlice .. => true
 | _ => false
theorem jp_ {op : Op} (h : isCall op = true) : isChg op = true := by
 cases op with
 | call c => simp only [isCall, isChg] at h ⊢; split at h <;> first | (cases h; done) | (split <;> first | rfl | simp_all)
 | _ => cases h
def df_ (P : Program) (O : aM_) (ops : Array Oper) (k : Nat) (o : Oper) (s : Nat → T) (σ : St) : Option (T × St) :=
 if wantedA ops o s then
  (aOp P (some k) ⟨s, σ⟩ o).bind fun
   | .val v σ => some (v, σ)
   | .skip σ => some (.tup [], σ)
   | .call f args => O f args σ
 else some (.tup [], σ)
def opsC (P : Program) (O : aM_) (ops : Array Oper) (b : Nat) (W : Nat → Nat → Prop) (σs : St) (cm : Cmp) : Nat → List Oper → (Fr → Prop) → Fr → Prop
 | _, [], K, fr => K fr
 | i, o :: l, K, fr => match (isChg o.op && !cm.vw i) && wantedA ops o fr.s with
  | true => ∃ v σ', df_ P O ops (b + i) o fr.s fr.σ = some (v, σ') ∧ (∀ x, x < b → (∀ c, cm.wk c i = true → ¬ W c x) → σ'.blk x = fr.σ.blk x) ∧ eO_ b W σs σ' ∧ Room b (i + 1) l.length σ' ∧ opsC P O ops b W σs cm (i + 1) l K (fr.put o.dst v σ')
  | false => ∃ v, (∀ σ', (cm.cm i = true → σ' = fr.σ) → (∀ x, x < b → (∀ c, cm.ck c i = false → ¬ W c x) → σ'.blk x = fr.σ.blk x) → eO_ b W σs σ' → df_ P O ops (b + i) o fr.s σ' = some (v, σ')) ∧ opsC P O ops b W σs cm (i + 1) l K (fr.put o.dst v fr.σ)
def opsX (P : Program) (O : aM_) (ops : Array Oper) : Mo → List Oper → (Fr → Prop) → Fr → Prop
 | .q, l, K, fr => opsQ P O ops l K fr
 | .d b i, l, K, fr => opsD P O ops b i l K fr
 | .c b i W σs cm, l, K, fr => eO_ b W σs fr.σ → Room b i l.length fr.σ → opsC P O ops b W σs cm i l K fr
def nxM : Mo → Mo
 | .q => .q
 | .d b i => .d b (i + 1)
 | .c b i W σs cm => .c b (i + 1) W σs cm
section
variable {P : Program} {O : aM_} {ops : Array Oper} {m : Mo} {l : List Oper} {K : Fr → Prop} {s : Nat → T} {σ σ0 : St} {L : List (Nat × T)} {es : List Ent}
variable {d : Option Nat} {ty : TypeId} {ps : String} {af : Array Edge} {g : Option (Nat × Bool)}
theorem ub_ (k : K ⟨s, σ⟩) : opsX P O ops m [] K ⟨s, σ⟩ := by
 cases m with
 | q => exact k
 | d b i => exact k
 | c b i W σs cm => exact fun _ _ => k
theorem rJ_ {o : Oper} {v : T} (hw : wantedA ops o s = true) (h : ∀ k σ', m.al σ σ' → aOp P k ⟨s, σ'⟩ o = some (.val v σ')) (kk : opsX P O ops (nxM m) l K (Fr.put ⟨s, σ⟩ o.dst v σ)) : opsX P O ops m (o :: l) K ⟨s, σ⟩ := by
 cases m with
 | q => show opQ P O ops none o (opsQ P O ops l K) ⟨s, σ⟩; unfold opQ; simp only [hw, cond_true, h none σ rfl]; exact kk
 | d b i => show opD P O ops (b + i) o (opsD P O ops b (i + 1) l K) ⟨s, σ⟩; unfold opD; simp only [hw, cond_true, h (some (b + i)) σ rfl]; exact ⟨rfl, kk⟩
 | c b i W σs cm =>
  intro hA hR
  have hp : (Fr.put ⟨s, σ⟩ o.dst v σ).σ = σ := by cases o.dst <;> rfl
  have kk := kk (by rw [hp]; exact hA) (by rw [hp]; exact hR.nxt)
  have hs : ∀ σ', (cm.cm i = true → σ' = σ) → (∀ x, x < b → (∀ c, cm.ck c i = false → ¬ W c x) → σ'.blk x = σ.blk x) → eO_ b W σs σ' → df_ P O ops (b + i) o s σ' = some (v, σ') := fun σ' h'' h3 h' => by simp only [df_, hw, if_true, h (some (b + i)) σ' ⟨h'', h3, h', hA⟩, Option.bind_some]
  unfold opsC
  cases hc : (isChg o.op && !cm.vw i) && wantedA ops o s with
  | true => exact ⟨v, σ, hs σ (fun _ => rfl) (fun _ _ _ => rfl) hA, fun _ _ _ => rfl, hA, hR.nxt, kk⟩
  | false => exact ⟨v, hs, kk⟩
theorem uJ_ {o : Oper} (hw : wantedA ops o s = false) (kk : opsX P O ops (nxM m) l K (Fr.put ⟨s, σ⟩ o.dst (.tup []) σ)) : opsX P O ops m (o :: l) K ⟨s, σ⟩ := by
 cases m with
 | q => show opQ P O ops none o (opsQ P O ops l K) ⟨s, σ⟩; unfold opQ; simp only [hw, cond_false]; exact kk
 | d b i => show opD P O ops (b + i) o (opsD P O ops b (i + 1) l K) ⟨s, σ⟩; unfold opD; simp only [hw, cond_false]; exact kk
 | c b i W σs cm =>
  intro hA hR
  have hp : (Fr.put ⟨s, σ⟩ o.dst (.tup []) σ).σ = σ := by cases o.dst <;> rfl
  have kk := kk (by rw [hp]; exact hA) (by rw [hp]; exact hR.nxt)
  unfold opsC
  simp only [hw, Bool.and_false]
  exact ⟨.tup [], fun σ' _ _ _ => by simp [df_, hw], kk⟩
theorem jS_ {o : Oper} {f : Nat} {args : List T} {r : T} {σ' : St} (hm : m.chg = true) (hcl : isCall o.op = true) (hw : wantedA ops o s = true) (h : ∀ k σ, aOp P k ⟨s, σ⟩ o = some (.call f args)) (hc : O f args σ = some (r, σ')) (hn : σ.next ≤ σ'.next) (ho : ∀ x, x < σ.next → σ'.blk x = σ.blk x)
  (kk : opsX P O ops (nxM m) l K (Fr.put ⟨s, σ⟩ o.dst r σ')) : opsX P O ops m (o :: l) K ⟨s, σ⟩ := by
 cases m with
 | q => show opQ P O ops none o (opsQ P O ops l K) ⟨s, σ⟩; unfold opQ; simp only [hw, cond_true, h]; exact ⟨r, σ', hc, kk⟩
 | d b i => cases hm
 | c b i W σs cm =>
  intro hA hR
  have hA' : eO_ b W σs σ' := ⟨Nat.le_trans hA.1 hn, fun x hx hx' => by rw [ho x (Nat.lt_of_lt_of_le hx hA.1), hA.2 x hx hx']⟩
  have hR' : Room b (i + 1) l.length σ' := ⟨Nat.le_trans hR.nxt.1 hn, fun j hj => by rw [ho (b + (i + 1) + j) (by have : b + (i + 1) + l.length ≤ σ.next := hR.nxt.1; omega)]; exact hR.nxt.2 j hj⟩
  have hp : (Fr.put ⟨s, σ⟩ o.dst r σ').σ = σ' := by cases o.dst <;> rfl
  have kk := kk (by rw [hp]; exact hA') (by rw [hp]; exact hR')
  have hs : df_ P O ops (b + i) o s σ = some (r, σ') := by simp only [df_, hw, if_true, h, Option.bind_some, hc]
  have hm' : (!cm.vw i) = true := hm
  unfold opsC
  simp only [jp_ hcl, hm', hw, Bool.and_self]
  exact ⟨r, σ', hs, fun x hx _ => ho x (Nat.lt_of_lt_of_le hx hA.1), hA', hR', kk⟩
theorem tl_ {o : Oper} {f : Nat} {args : List T} {r : T} (hcl : isCall o.op = true) (hw : wantedA ops o s = true) (h : ∀ k σ, aOp P k ⟨s, σ⟩ o = some (.call f args)) (hc : O f args σ = some (r, σ)) (hv : m.vw = true → ∀ σ, O f args σ = some (r, σ)) (kk : opsX P O ops (nxM m) l K (Fr.put ⟨s, σ⟩ o.dst r σ)) : opsX P O ops m (o :: l) K ⟨s, σ⟩ := by
 cases m with
 | d b i => show opD P O ops (b + i) o (opsD P O ops b (i + 1) l K) ⟨s, σ⟩; unfold opD; simp only [hw, cond_true, h]; exact ⟨r, hc, kk⟩
 | q => exact jS_ rfl hcl hw h hc (Nat.le_refl _) (fun _ _ => rfl) kk
 | c b i W σs cm =>
  cases hvi : cm.vw i with
  | false => exact jS_ (by show (!cm.vw i) = true; rw [hvi]; rfl) hcl hw h hc (Nat.le_refl _) (fun _ _ => rfl) kk
  | true =>
   intro hA hR
   have hp : (Fr.put ⟨s, σ⟩ o.dst r σ).σ = σ := by cases o.dst <;> rfl
   have kk := kk (by rw [hp]; exact hA) (by rw [hp]; exact hR.nxt)
   unfold opsC
   simp only [hvi, Bool.not_true, Bool.and_false, Bool.false_and]
   exact ⟨r, fun σ' _ _ _ => by simp only [df_, hw, if_true, h, Option.bind_some, hv hvi σ'], kk⟩
def Mo.inb : Mo → Option Nat → Prop
 | .c b _ _ _ _, k => ∃ i, k = some i ∧ b ≤ i
 | _, k => k = none
def Cg (m : Mo) (k : Option Nat) (σ σ' : St) : Prop := σ.next ≤ σ'.next ∧ ∀ x, x < σ.next → k ≠ some x → σ'.blk x = σ.blk x ∨ (m.wr x ∧ (σ.blk x).isSome = true)
theorem Cg.c {b i : Nat} {W : Nat → Nat → Prop} {σs σ σ' : St} {cm : Cmp} {n : Nat} (h : Cg (.c b i W σs cm) (some (b + i)) σ σ') (hA : eO_ b W σs σ) (hR : Room b i (n + 1) σ) : (∀ x, x < b → (∀ c, cm.wk c i = true → ¬ W c x) → σ'.blk x = σ.blk x) ∧ eO_ b W σs σ' ∧ Room b (i + 1) n σ' := by
 have key : ∀ x, x < b → (∀ c, cm.wk c i = true → ¬ W c x) → σ'.blk x = σ.blk x := fun x hx hw => by
  rcases h.2 x (Nat.lt_of_lt_of_le hx hA.1) (fun e => by injection e with e; omega) with e | ⟨e | ⟨c, e1, e2⟩, _⟩
  ·exact e
  ·omega
  ·exact absurd e2 (hw c e1)
 refine ⟨key, ⟨Nat.le_trans hA.1 h.1, fun x hx hx' => ?_⟩, ⟨Nat.le_trans hR.nxt.1 h.1, fun j hj => ?_⟩⟩
 ·rw [key x hx fun c _ => hx' c, hA.2 x hx hx']
 ·have hn := hR.nxt.2 j hj
  rcases h.2 (b + (i + 1) + j) (by have := hR.nxt.1; omega) (fun e => by injection e with e; omega) with e | ⟨_, e⟩
  ·rw [e, hn]
  ·rw [hn] at e; cases e
theorem gY_ {o : Oper} (hm : m.chg = true) (hcl : isChg o.op = true) (hw : wantedA ops o s = true) (h : ∀ k, σ.okK k = true → m.inb k → ∃ v σ', aOp P k ⟨s, σ⟩ o = some (.val v σ') ∧ Cg m k σ σ' ∧ opsX P O ops (nxM m) l K (Fr.put ⟨s, σ⟩ o.dst v σ')) : opsX P O ops m (o :: l) K ⟨s, σ⟩ := by
 cases m with
 | q =>
  obtain ⟨v, σ', h1, _, h2⟩ := h none rfl rfl
  show opQ P O ops none o (opsQ P O ops l K) ⟨s, σ⟩; unfold opQ; simp only [hw, cond_true, h1]; exact h2
 | d b i => cases hm
 | c b i W σs cm =>
  intro hA hR
  have hok : σ.okK (some (b + i)) = true := by
   have h1 := hR.1; have h2 := hR.2 0 (by simp)
   simp only [St.okK, Bool.and_eq_true, decide_eq_true_eq, Option.isNone_iff_eq_none]
   simp only [List.length_cons] at h1
   exact ⟨by simpa using h2, by omega⟩
  obtain ⟨v, σ', h1, h2, kk⟩ := h _ hok ⟨_, rfl, by omega⟩
  obtain ⟨hW', hA', hR'⟩ := h2.c hA hR
  have hp : (Fr.put ⟨s, σ⟩ o.dst v σ').σ = σ' := by cases o.dst <;> rfl
  have kk := kk (by rw [hp]; exact hA') (by rw [hp]; exact hR')
  have hs : df_ P O ops (b + i) o s σ = some (v, σ') := by simp only [df_, hw, if_true, h1, Option.bind_some]
  have hm' : (!cm.vw i) = true := hm
  unfold opsC
  simp only [hcl, hm', hw, Bool.and_self]
  exact ⟨v, σ', hs, hW', hA', hR', kk⟩
theorem n8_ {o : Oper} {σ' : St} (hm : m.chg = true) (hcl : isChg o.op = true) (hw : wantedA ops o s = true) (h : ∀ k, aOp P k ⟨s, σ⟩ o = some (.skip σ')) (hg : ∀ k, Cg m k σ σ') (kk : opsX P O ops (nxM m) l K (Fr.put ⟨s, σ⟩ o.dst (.tup []) σ')) : opsX P O ops m (o :: l) K ⟨s, σ⟩ := by
 cases m with
 | q => show opQ P O ops none o (opsQ P O ops l K) ⟨s, σ⟩; unfold opQ; simp only [hw, cond_true, h]; exact kk
 | d b i => cases hm
 | c b i W σs cm =>
  intro hA hR
  obtain ⟨hW', hA', hR'⟩ := (hg (some (b + i))).c hA hR
  have hp : (Fr.put ⟨s, σ⟩ o.dst (.tup []) σ').σ = σ' := by cases o.dst <;> rfl
  have kk := kk (by rw [hp]; exact hA') (by rw [hp]; exact hR')
  have hs : df_ P O ops (b + i) o s σ = some (.tup [], σ') := by simp only [df_, hw, if_true, h, Option.bind_some]
  have hm' : (!cm.vw i) = true := hm
  unfold opsC
  simp only [hcl, hm', hw, Bool.and_self]
  exact ⟨_, σ', hs, hW', hA', hR', kk⟩
def putL (L : List (Nat × T)) (d : Option Nat) (v : T) : List (Nat × T) := match d with
 | some d => (d, v) :: L
 | none => L
theorem a0_ (hS : Sub L s) (d : Option Nat) (v : T) (σ : St) : Sub (putL L d v) (Fr.put ⟨s, σ⟩ d v σ).s := by
 cases d with
 | none => exact hS
 | some d => exact q2_ hS d v
theorem bT_ (d : Option Nat) (v : T) (σ σ' : St) : Fr.put ⟨s, σ⟩ d v σ' = ⟨(Fr.put ⟨s, σ⟩ d v σ).s, σ'⟩ := by cases d <;> rfl
def seg (P : Program) (ops : Array Oper) : Nat → List Oper → List (Nat × T) → Option (List (Nat × T))
 | 0, _, L => some L
 | _ + 1, [], _ => none
 | n + 1, o :: l, L => match want ops L o.guard with
  | some true => match pOp P (get L) o.op with
   | some v => seg P ops n l (putL L o.dst v)
   | none => none
  | some false => seg P ops n l (putL L o.dst (.tup []))
  | none => none
def nxN : Nat → Mo → Mo
 | 0, m => m
 | n + 1, m => nxN n (nxM m)
theorem seg_sound : ∀ {n : Nat} {l : List Oper} {L M : List (Nat × T)} {s : Nat → T} {m : Mo}, seg P ops n l L = some M → Sub L s → (∀ s', Sub M s' → opsX P O ops (nxN n m) (l.drop n) K ⟨s', σ⟩) → opsX P O ops m l K ⟨s, σ⟩
 | 0, l, L, M, s, m, h, hS, k => by injection h with h; subst h; exact k s hS
 | n + 1, [], L, M, s, m, h, hS, k => by cases h
 | n + 1, o :: l, L, M, s, m, h, hS, k => by
  simp only [seg] at h
  split at h
  ·rename_i hw
   split at h
   ·rename_i v hv
    refine rJ_ (aJ_ hS hw) (fun kk σ' _ => h5_ hS hv kk σ' _ _ _ _ _) ?_
    rw [bT_]
    exact seg_sound h (a0_ hS o.dst v σ) k
   ·cases h
  ·rename_i hw
   refine uJ_ (aJ_ hS hw) ?_
   rw [bT_]
   exact seg_sound h (a0_ hS o.dst _ σ) k
  ·cases h
theorem uO_ (n : Nat) (L' : List (Nat × T)) (hS : Sub L s) (h : ((seg P ops n l L).map fun M => L'.map fun p => get M p.1) = some (L'.map fun p => some p.2))
  (k : ∀ s', Sub L' s' → opsX P O ops (nxN n m) (l.drop n) K ⟨s', σ⟩) : opsX P O ops m l K ⟨s, σ⟩ := by
 obtain ⟨M, h1, h2⟩ := Option.map_eq_some_iff.1 h
 exact seg_sound h1 hS fun s' hM => k s' (ad_ hM h2)
theorem dc_ {op : Op} {v : T} (hw : want ops L g = some true) (hS : Sub L s) (h : ∀ k σ', m.al σ σ' → aOp P k ⟨s, σ'⟩ ⟨d, op, ty, ps, af, g⟩ = some (.val v σ'))
  (k : ∀ s', Sub (putL L d v) s' → opsX P O ops (nxM m) l K ⟨s', σ⟩) : opsX P O ops m (⟨d, op, ty, ps, af, g⟩ :: l) K ⟨s, σ⟩ :=
 rJ_ (aJ_ hS hw) h (by rw [bT_]; exact k _ (a0_ hS d v σ))
theorem jt_ {fo : Operand} {args : Array Operand} {ts : Array TypeId} {f : Nat} {a b as : List T} {r : T} (hw : want ops L g = some true) (hS : Sub L s) (hf : gE (get L) fo = some (.fn f a b)) (ha : gEs (get L) args.toList = some as)
  (hr : O f (a ++ as ++ b) σ = some (r, σ)) (hv : m.vw = true → ∀ σ, O f (a ++ as ++ b) σ = some (r, σ)) (k : ∀ s', Sub (putL L d r) s' → opsX P O ops (nxM m) l K ⟨s', σ⟩) : opsX P O ops m (⟨d, .call ⟨.value fo, args, ts⟩, ty, ps, af, g⟩ :: l) K ⟨s, σ⟩ :=
 tl_ rfl (aJ_ hS hw) (fun kk σ' => by rw [h3_, cw_ hS ha, Option.bind_some, ai_ hS hf]; rfl) hr hv (by rw [bT_]; exact k _ (a0_ hS d r σ))
theorem uu_ {x i : Operand} {t e : TypeId} {z : Bool} {n : Nat} {cs : List T} {kk : IntKind} {j : Int} {sz : Nat} (c rest : List T) (hw : want ops L g = some true) (hS : Sub L s) (hx : gE (get L) x = some (.row z n cs)) (hi : gE (get L) i = some (.int kk j))
  (he : av_ P t = some e) (hz : szOf P e = some sz) (hj : 0 ≤ j ∧ j < n) (hl : cs.length = n * sz) (hd : cs.drop (j.toNat * sz) = c ++ rest)
  (k : ∀ s', Sub (putL L d (.vw (c ++ rest))) s' → opsX P O ops (nxM m) l K ⟨s', σ⟩) : opsX P O ops m (⟨d, .indexAddr t x i, ty, ps, af, g⟩ :: l) K ⟨s, σ⟩ :=
 dc_ hw hS (fun kk σ' _ => by rw [gt_, ai_ hS hx, Option.bind_some, ai_ hS hi, Option.bind_some, sz_, he, Option.bind_some, hz, Option.bind_some, if_pos ⟨hj.1, hj.2, hl⟩, hd]; rfl) k
def bAt (s : ByteArray) (j : Int) : Int := if h : j.toNat < s.size then ((s[j.toNat]'h).toNat : Int) else 0
theorem sT_ {x i : Operand} {t : TypeId} {w : ByteArray} {kk : IntKind} {j : Int} (hw : want ops L g = some true) (hS : Sub L s) (hx : gE (get L) x = some (.str w)) (hi : gE (get L) i = some (.int kk j))
  (ht : aH_ P t = 3) (hj : 0 ≤ j ∧ j < w.size) (k : ∀ s', Sub (putL L d (.int .u8 (bAt w j))) s' → opsX P O ops (nxM m) l K ⟨s', σ⟩) : opsX P O ops m (⟨d, .index t x i, ty, ps, af, g⟩ :: l) K ⟨s, σ⟩ :=
 dc_ hw hS (fun kk σ' _ => by rw [p8_, ai_ hS hx, Option.bind_some, ai_ hS hi, Option.bind_some, mW_ P ht, dif_pos ⟨hj.1, by omega⟩]; simp only [Option.map_some, bAt]; rw [dif_pos (by omega)]) k
theorem uh_ {x y : Operand} {t u : TypeId} {a b : ByteArray} (hw : want ops L g = some true) (hS : Sub L s) (hx : gE (get L) x = some (.str a)) (hy : gE (get L) y = some (.str b)) (hb : a.size + b.size ≤ 9223372036854775807)
  (k : ∀ s', Sub (putL L d (.str (a ++ b))) s' → opsX P O ops (nxM m) l K ⟨s', σ⟩) : opsX P O ops m (⟨d, .binOp .add t x y u, ty, ps, af, g⟩ :: l) K ⟨s, σ⟩ :=
 dc_ hw hS (fun kk σ' _ => by rw [he_, ai_ hS hx, Option.bind_some, ai_ hS hy, Option.bind_some, oS_, sy_, if_pos hb]; rfl) k
theorem nm_ {o : Oper} {v : T} {σ' : St} (hw : wantedA ops o s = true) (h : aOp P none ⟨s, σ⟩ o = some (.val v σ')) (kk : opsX P O ops .q l K (Fr.put ⟨s, σ⟩ o.dst v σ')) : opsX P O ops .q (o :: l) K ⟨s, σ⟩ := by
 show opQ P O ops none o (opsQ P O ops l K) ⟨s, σ⟩
 unfold opQ; simp only [hw, cond_true, h]; exact kk
theorem Cg.push {m : Mo} {k : Option Nat} {σ : St} {B : Blk} (hk : σ.okK k = true) : Cg m k σ (σ.pushK k B) := ⟨d3_, fun x hx hn => by
 refine .inl ?_
 rw [bo_, if_neg]
 rintro rfl
 cases k with
 | none => simp [St.nid] at hx
 | some i => exact hn rfl⟩
theorem Mo.inb_base {m : Mo} {k : Option Nat} {σ0 : St} (h : m.inb k) (hb : m.base σ0) : ∀ i, k = some i → σ0.next ≤ i := fun i e => by
 cases m with
 | c b i' W σs cm => obtain ⟨j, rfl, h2⟩ := h; injection e with e; subst e; exact Nat.le_trans hb h2
 | _ => subst e; cases h
theorem Mo.inb_wr {m : Mo} {k : Option Nat} {σ : St} (h : m.inb k) : m.nw (σ.nid k) := by
 cases m with
 | c b i' W σs cm => obtain ⟨j, rfl, h2⟩ := h; exact h2
 | _ => trivial
theorem sO_ (hm : m.chg = true) (hb : m.base σ0) {x : Operand} {t : TypeId} {v : T} {cs : List T} (hw : want ops L g = some true) (hS : Sub L s) (hH : Heap σ0 σ es) (hx : gE (get L) x = some v) (hcs : v.cells = cs) (h1 : cs.all T.one = true)
  (k : ∀ b σ' s', m.nw b → Heap σ0 σ' (.box b cs :: es) → Sub (putL L d (.ptr b 0 0 cs.length)) s' → opsX P O ops (nxM m) l K ⟨s', σ'⟩) : opsX P O ops m (⟨d, .box t x, ty, ps, af, g⟩ :: l) K ⟨s, σ⟩ := by
 subst hcs
 refine gY_ hm rfl (aJ_ hS hw) fun kk hk hi => ⟨T.ptr (σ.nid kk) 0 0 v.cells.length, σ.pushK kk (aP_ v.cells v.cells.length), ?_, Cg.push hk, ?_⟩
 ·show ((evalO s x).bind fun x => if x.cells.all T.one = true ∧ σ.okK kk = true then some (ARes.val (T.ptr (σ.nid kk) 0 0 x.cells.length) (σ.pushK kk (aP_ x.cells x.cells.length))) else none) = _
  rw [ai_ hS hx, Option.bind_some, if_pos ⟨h1, hk⟩]
 ·rw [bT_]; exact k _ _ _ (Mo.inb_wr hi) (hH.boxK hk (Mo.inb_base hi hb) _ _) (a0_ hS d _ σ)
theorem lV_ (hm : m.chg = true) (hb : m.base σ0) {t : TypeId} {z : List T} (hw : want ops L g = some true) (hS : Sub L s) (hH : Heap σ0 σ es) (hz : aZ_ P t = some z)
  (k : ∀ b σ' s', m.nw b → Heap σ0 σ' (.box b z :: es) → Sub (putL L d (.ptr b 0 0 z.length)) s' → opsX P O ops (nxM m) l K ⟨s', σ'⟩) : opsX P O ops m (⟨d, .alloc t, ty, ps, af, g⟩ :: l) K ⟨s, σ⟩ := by
 refine gY_ hm rfl (aJ_ hS hw) fun kk hk hi => ⟨T.ptr (σ.nid kk) 0 0 z.length, σ.pushK kk (aP_ z z.length), ?_, Cg.push hk, ?_⟩
 ·show ((aZ_ P t).bind fun z => if σ.okK kk = true then some (ARes.val (T.ptr (σ.nid kk) 0 0 z.length) (σ.pushK kk (aP_ z z.length))) else none) = _
  rw [hz, Option.bind_some, if_pos hk]
 ·rw [bT_]; exact k _ _ _ (Mo.inb_wr hi) (hH.boxK hk (Mo.inb_base hi hb) _ _) (a0_ hS d _ σ)
theorem tj_ {x : Operand} {t : TypeId} {v : T} {cs : List T} (hw : want ops L g = some true) (hS : Sub L s) (hH : Heap σ0 σ es) (hx : gE (get L) x = some v) (hcs : v.cells = cs) (h1 : cs.all T.one = true)
  (k : ∀ b σ' s', Heap σ0 σ' (.box b cs :: es) → Sub (putL L d (.ptr b 0 0 cs.length)) s' → opsX P O ops .q l K ⟨s', σ'⟩) : opsX P O ops .q (⟨d, .box t x, ty, ps, af, g⟩ :: l) K ⟨s, σ⟩ :=
 sO_ (m := .q) rfl trivial hw hS hH hx hcs h1 fun b σ' s' _ => k b σ' s'
theorem q1_ {t : TypeId} {z : List T} (hw : want ops L g = some true) (hS : Sub L s) (hH : Heap σ0 σ es) (hz : aZ_ P t = some z)
  (k : ∀ b σ' s', Heap σ0 σ' (.box b z :: es) → Sub (putL L d (.ptr b 0 0 z.length)) s' → opsX P O ops .q l K ⟨s', σ'⟩) : opsX P O ops .q (⟨d, .alloc t, ty, ps, af, g⟩ :: l) K ⟨s, σ⟩ :=
 lV_ (m := .q) rfl trivial hw hS hH hz fun b σ' s' _ => k b σ' s'
theorem Heap.at {σ0 σ : St} {es : List Ent} {e : Ent} (h : Heap σ0 σ es) (i : Nat) (he : es[i]? = some e) : Heap σ0 σ (e :: es.eraseIdx i) := by
 have := h.pull i
 unfold qs_ at this
 rw [he] at this; exact this
theorem sP_ {a : Operand} {t : TypeId} {b e off n : Nat} {cells : List T} {v : T} (i : Nat) (hlt : m.lt b) (hw : want ops L g = some true) (hS : Sub L s) (hH : Heap σ0 σ es) (he : es[i]? = some (.box b cells)) (ha : gE (get L) a = some (.ptr b e off n)) (hv : part P t ((cells.drop off).take n) 0 = some v)
  (k : ∀ s', Sub (putL L d v) s' → opsX P O ops (nxM m) l K ⟨s', σ⟩) : opsX P O ops m (⟨d, .load t a, ty, ps, af, g⟩ :: l) K ⟨s, σ⟩ := by
 obtain ⟨B, h1, rfl, h3, h4, h5⟩ := (hH.at i he).look
 exact dc_ hw hS (fun kk σ' ha' => by rw [hv_, ai_ hS ha, Option.bind_some, em_, Mo.al_blk ha' hlt, h1, Option.bind_some, if_pos (by omega), hv]; rfl) k
def kd_ (P : Program) (t : TypeId) (cells : List T) (off n : Nat) (cs : List T) : Option (List T) :=
 match szOf P t with
 | some sz => if cs.length = sz ∧ sz ≤ n ∧ off + sz ≤ cells.length then some (splice cells off cs) else none
 | none => none
theorem mg_ (hm : m.chg = true) {a x : Operand} {t : TypeId} {b off n : Nat} {cells cells' cs : List T} {v : T} (hwr : m.wr b) (hw : want ops L g = some true) (hS : Sub L s) (hH : Heap σ0 σ (.box b cells :: es)) (ha : gE (get L) a = some (.ptr b 0 off n)) (hx : gE (get L) x = some v) (hcs : v.cells = cs) (h1 : cs.all T.one = true)
  (hc : kd_ P t cells off n cs = some cells')
  (k : ∀ σ' s', Heap σ0 σ' (.box b cells' :: es) → Sub (putL L d (.tup [])) s' → opsX P O ops (nxM m) l K ⟨s', σ'⟩) : opsX P O ops m (⟨d, .store t a x, ty, ps, af, g⟩ :: l) K ⟨s, σ⟩ := by
 obtain ⟨B, k1, rfl, k3, k4, k5⟩ := hH.look
 subst hcs
 unfold kd_ at hc
 split at hc
 ·rename_i sz hz
  split at hc
  ·rename_i hh
   injection hc with hc; subst hc
   refine n8_ (σ' := σ.set b { B with cells := splice B.cells off v.cells, low := B.ep, ver := B.ver + 1 }) hm rfl (aJ_ hS hw) (fun kk => ?_) (fun kk => ⟨Nat.le_refl _, fun x hx _ => ?_⟩) ?_
   ·rw [ng_, ai_ hS ha, Option.bind_some, ai_ hS hx, Option.bind_some, jg_, k1, Option.bind_some, hz, Option.bind_some, if_pos ⟨k5, k3.symm, hh.1, hh.2.1, hh.2.2, h1⟩]; rfl
   ·rw [ct_]; split
    ·rename_i e; subst e; exact .inr ⟨hwr, by rw [k1]; rfl⟩
    ·exact .inl rfl
   ·rw [bT_]; exact k _ _ (hH.put rfl k3 k3 k5) (a0_ hS d _ σ)
  ·cases hc
 ·cases hc
end
section
variable {P : Program} {O : aM_} {Q : aN_ → Fr → Prop} {s : Nat → T} {σ σ0 : St} {L : List (Nat × T)} {es : List Ent}
theorem Heap.bump {n : Nat} (h : Heap σ0 σ es) : Heap σ0 (σ.bump n) es :=
 Heap.step (es1 := []) (es2 := []) (es := es) h (by simp) fun S hS _ _ => ⟨[], rfl, by simp, by simp, fun b hb _ => by rw [j5_, if_pos hb]⟩
theorem rL_ {id : Nat} {ops : Array Oper} (hst : fZ_ ops = true) (hH : Heap σ0 σ es) (h : ∀ b σ', Heap σ0 σ' es → opsX P O ops (.d b 0) ops.toList (Q .normal) ⟨s, σ'⟩) : codeQ P O (.region id ops true) Q ⟨s, σ⟩ :=
 mJ_ hst (h σ.next (σ.bump ops.size) hH.bump)
theorem mk_ {c : Operand} {a b : Code} {t : Bool} (hS : Sub L s) (hc : gE (get L) c = some (.bool t)) (h1 : t = true → codeQ P O a Q ⟨s, σ⟩) (h2 : t = false → codeQ P O b Q ⟨s, σ⟩) : codeQ P O (.cond c a b) Q ⟨s, σ⟩ := by
 simp only [codeQ, ai_ hS hc]; exact ⟨h1, h2⟩
theorem ko_ {ops : Array Oper} {K K' : Fr → Prop} (hk : ∀ fr, K fr → K' fr) : ∀ {l : List Oper} {fr : Fr}, opsQ P O ops l K fr → opsQ P O ops l K' fr
 | [], fr, h => hk fr h
 | o :: l, fr, h => by
  have key : ∀ fr, opsQ P O ops l K fr → opsQ P O ops l K' fr := fun fr h => ko_ hk h
  simp only [opsQ, opQ] at h ⊢
  cases hw : wantedA ops o fr.s with
  | false => rw [hw] at h; exact key _ h
  | true =>
   rw [hw] at h
   simp only [cond_true] at h ⊢
   unfold resQ at h ⊢
   split at h
   ·exact key _ h
   ·exact key _ h
   ·obtain ⟨r, σ, h1, h2⟩ := h; exact ⟨r, σ, h1, key _ h2⟩
   ·exact h
theorem codeQ_mono : ∀ {c : Code} {Q Q' : aN_ → Fr → Prop} {fr : Fr}, (∀ x fr, Q x fr → Q' x fr) → codeQ P O c Q fr → codeQ P O c Q' fr := by
 intro c
 induction c with
 | skip => intro Q Q' fr hq h; exact hq _ _ h
 | region id ops draw =>
  intro Q Q' fr hq h
  cases draw with
  | false => exact ko_ (fun fr h => hq _ fr h) h
  | true => obtain ⟨fr', h1, h2⟩ := h; exact ⟨fr', h1, hq _ _ h2⟩
 | seq a b iha ihb =>
  intro Q Q' fr hq h
  refine iha (fun x fr h => ?_) h
  cases x with
  | normal => exact ihb hq h
  | exit i => exact hq _ _ h
  | ret => exact hq _ _ h
 | cond c a b iha ihb =>
  intro Q Q' fr hq h
  simp only [codeQ] at h ⊢
  unfold nv_ at h ⊢
  split at h
  ·exact ⟨fun e => iha hq (h.1 e), fun e => ihb hq (h.2 e)⟩
  ·exact h
 | block id c ih =>
  intro Q Q' fr hq h
  refine ih (fun x fr h => ?_) h
  cases x with
  | normal => exact hq _ _ h
  | exit i => exact hq _ _ h
  | ret => exact hq _ _ h
 | loop c ih =>
  intro Q Q' fr hq h
  obtain ⟨x, fr', h1, h2⟩ := h
  exact ⟨x, fr', h1, hq _ _ h2⟩
 | exit id => intro Q Q' fr hq h; exact hq _ _ h
 | ret => intro Q Q' fr hq h; exact hq _ _ h
 | _ => intro Q Q' fr hq h; exact h.elim
end
section
variable {S R : Type}
def iter (body : S → Option (S ⊕ R)) : Nat → S → Option R
 | 0, _ => none
 | n + 1, s => match body s with
  | some (.inl s') => iter body n s'
  | some (.inr r) => some r
  | none => none
noncomputable def aF_ (body : S → Option (S ⊕ R)) (s : S) : Option R := if h : ∃ n r, iter body n s = some r then some (Classical.choose (Classical.choose_spec h)) else none
theorem iq_ {body : S → Option (S ⊕ R)} : ∀ {n : Nat} {s : S} {r : R}, iter body n s = some r → ∀ m, n ≤ m → iter body m s = some r
 | 0, s, r, h, m, hm => by cases h
 | n + 1, s, r, h, m, hm => by
  obtain ⟨m, rfl⟩ : ∃ k, m = k + 1 := ⟨m - 1, by omega⟩
  simp only [iter] at h ⊢
  split at h
  ·exact iq_ h m (by omega)
  ·exact h
  ·cases h
theorem bK_ {body : S → Option (S ⊕ R)} {s : S} {r : R} : aF_ body s = some r ↔ ∃ n, iter body n s = some r := by
 unfold aF_
 constructor
 ·intro h
  split at h
  ·rename_i hx
   exact ⟨Classical.choose hx, by rw [Classical.choose_spec (Classical.choose_spec hx)]; exact h⟩
  ·cases h
 ·rintro ⟨n, h⟩
  have hx : ∃ n r, iter body n s = some r := ⟨n, r, h⟩
  rw [dif_pos hx]
  have h2 := Classical.choose_spec (Classical.choose_spec hx)
  have e1 := iq_ h (max n (Classical.choose hx)) (Nat.le_max_left _ _)
  have e2 := iq_ h2 (max n (Classical.choose hx)) (Nat.le_max_right _ _)
  rw [e1] at e2
  exact e2.symm
theorem aC_ {body : S → Option (S ⊕ R)} {s s' : S} {r : R} (h : body s = some (.inl s')) (k : aF_ body s' = some r) : aF_ body s = some r := by
 obtain ⟨n, hn⟩ := bK_.1 k
 exact bK_.2 ⟨n + 1, by simp only [iter, h, hn]⟩
theorem ao_ {body : S → Option (S ⊕ R)} {s : S} {r : R} (h : body s = some (.inr r)) : aF_ body s = some r := bK_.2 ⟨1, by simp only [iter, h]⟩
variable {P : Program} {O : aM_} {Q : aN_ → Fr → Prop}
def pG_ (Inv : S → Fr → Prop) (Fin : R → aN_ → Fr → Prop) : S ⊕ R → aN_ → Fr → Prop
 | .inl s, .normal, fr => Inv s fr
 | .inr r, .exit i, fr => Fin r (.exit i) fr
 | .inr r, .ret, fr => Fin r .ret fr
 | _, _, _ => False
theorem rQ_ {body : S → Option (S ⊕ R)} {c : Code} {s0 : S} {r : R} (Inv : S → Fr → Prop) (Fin : R → aN_ → Fr → Prop) (hb : aF_ body s0 = some r) {fr : Fr} (hi : Inv s0 fr)
  (hr : ∀ s x fr, body s = some x → Inv s fr → codeQ P O c (pG_ Inv Fin x) fr) (hk : ∀ x fr, Fin r x fr → Q x fr) : codeQ P O (.loop c) Q fr := by
 obtain ⟨n, hn⟩ := bK_.1 hb
 show pb_ (ed_ P O c) Q fr
 clear hb
 induction n generalizing s0 fr with
 | zero => cases hn
 | succ n ih =>
  simp only [iter] at hn
  unfold pb_
  rw [ks_]
  split at hn
  ·rename_i s' hs
   obtain ⟨x, fr', h1, h2⟩ := codeQ_sound (hr _ _ _ hs hi)
   cases x with
   | normal =>
    rw [h1]
    exact ih (fr := fr') h2 hn
   | exit i => exact h2.elim
   | ret => exact h2.elim
  ·rename_i r' hs
   injection hn with hn; subst hn
   obtain ⟨x, fr', h1, h2⟩ := codeQ_sound (hr _ _ _ hs hi)
   rw [h1]
   cases x with
   | normal => exact h2.elim
   | exit i => exact ⟨_, _, rfl, hk _ _ h2⟩
   | ret => exact ⟨_, _, rfl, hk _ _ h2⟩
  ·cases hn
end
end Go.Am
end
section
set_option linter.unusedVariables false
set_option linter.unusedSimpArgs false
namespace Go.Am
open Classical
class Enc (α : Type) where
 cells : α → List T
 w : Nat
 len : ∀ a, (cells a).length = w
 one : ∀ a, (cells a).all T.one = true
 pure : ∀ a, pureL (cells a) = true
 inj : ∀ a b, cells a = cells b → a = b
structure Sl (α : Type) where
 z : Bool
 l : List α
structure Iv (k : IntKind) where
 v : Int
def am_ {α : Type} [Enc α] : List α → List T
 | [] => []
 | a :: l => Enc.cells a ++ am_ l
def Sl.t {α : Type} [Enc α] (s : Sl α) : T := .row s.z s.l.length (am_ s.l)
section
variable {α : Type} [Enc α]
theorem cellsL_len : ∀ (l : List α), (am_ l).length = l.length * Enc.w α
 | [] => by simp [am_]
 | a :: l => by simp [am_, Enc.len, cellsL_len l, Nat.succ_mul, Nat.add_comm]
theorem cellsL_append : ∀ (l l' : List α), am_ (l ++ l') = am_ l ++ am_ l'
 | [], _ => rfl
 | a :: l, l' => by simp [am_, cellsL_append l l']
theorem cellsL_drop : ∀ (l : List α) (i : Nat), (am_ l).drop (i * Enc.w α) = am_ (l.drop i)
 | [], i => by simp [am_]
 | a :: l, 0 => by simp
 | a :: l, i + 1 => by
  simp only [am_, List.drop_succ_cons]
  rw [List.drop_append, List.drop_of_length_le (by rw [Enc.len, Nat.succ_mul]; omega), List.nil_append, Enc.len, show (i + 1) * Enc.w α - Enc.w α = i * Enc.w α by rw [Nat.succ_mul]; omega]
  exact cellsL_drop l i
theorem cellsL_take : ∀ (l : List α) (i : Nat), (am_ l).take (i * Enc.w α) = am_ (l.take i)
 | [], i => by simp [am_]
 | a :: l, 0 => by simp [am_]
 | a :: l, i + 1 => by
  simp only [am_, List.take_succ_cons]
  rw [List.take_append, List.take_of_length_le (by rw [Enc.len, Nat.succ_mul]; omega), Enc.len, show (i + 1) * Enc.w α - Enc.w α = i * Enc.w α by rw [Nat.succ_mul]; omega, cellsL_take l i]
theorem es_ (l : List α) (i : Nat) (x : α) (h : l[i]? = some x) : (am_ l).drop (i * Enc.w α) = Enc.cells x ++ am_ (l.drop (i + 1)) := by
 rw [cellsL_drop]
 obtain ⟨hi, rfl⟩ := List.getElem?_eq_some_iff.1 h
 rw [List.drop_eq_getElem_cons hi]; rfl
theorem cellsL_one : ∀ (l : List α), (am_ l).all T.one = true
 | [] => rfl
 | a :: l => by simp only [am_, List.all_append, Enc.one, cellsL_one l, Bool.and_self]
theorem pureL_append : ∀ (a b : List T), pureL (a ++ b) = (pureL a && pureL b)
 | [], b => by simp [pureL]
 | t :: a, b => by simp [pureL, pureL_append a b, Bool.and_assoc]
theorem cellsL_pure : ∀ (l : List α), pureL (am_ l) = true
 | [] => rfl
 | a :: l => by simp only [am_, pureL_append, Enc.pure, cellsL_pure l, Bool.and_self]
theorem cellsL_inj : ∀ (l l' : List α), l.length = l'.length → am_ l = am_ l' → l = l'
 | [], [], _, _ => rfl
 | [], _ :: _, h, _ => by simp at h
 | _ :: _, [], h, _ => by simp at h
 | a :: l, b :: l', h, k => by
  simp only [am_] at k
  have := List.append_inj k (by rw [Enc.len, Enc.len])
  rw [Enc.inj a b this.1, cellsL_inj l l' (by simpa using h) this.2]
@[simp] theorem Sl.one (s : Sl α) : s.t.one = true := (rfl)
@[simp] theorem Sl.cells (s : Sl α) : s.t.cells = [s.t] := (rfl)
@[simp] theorem Sl.pure (s : Sl α) : pureT s.t = true := cellsL_pure s.l
@[simp] theorem Sl.frz (s : Sl α) (σ : St) (d : Nat) : Go.Am.frz σ d s.t = some (s.t, []) := by cases d <;> rfl
theorem Sl.inj {a b : Sl α} (h : a.t = b.t) : a = b := by
 obtain ⟨z, l⟩ := a; obtain ⟨z', l'⟩ := b
 injection h with h1 h2 h3
 rw [show z = z' from h1, cellsL_inj l l' h2 h3]
@[simp] theorem Sl.inj_iff {a b : Sl α} : a.t = b.t ↔ a = b := ⟨Sl.inj, fun h => by rw [h]⟩
end
instance : Enc ByteArray := ⟨fun s => [.str s], 1, fun _ => rfl, fun _ => rfl, fun _ => rfl, fun a b h => by simpa using h⟩
instance : Enc Bool := ⟨fun s => [.bool s], 1, fun _ => rfl, fun _ => rfl, fun _ => rfl, fun a b h => by simpa using h⟩
instance (k : IntKind) : Enc (Iv k) := ⟨fun s => [.int k s.v], 1, fun _ => rfl, fun _ => rfl, fun _ => rfl, fun a b h => by cases a; cases b; simpa using h⟩
instance {α : Type} [Enc α] : Enc (Sl α) := ⟨fun s => [s.t], 1, fun _ => rfl, fun _ => rfl, fun s => by simp [pureL], fun a b h => by simpa using h⟩
def elt {α : Type} (s : Sl α) (i : Int) : Option α := if 0 ≤ i then s.l[i.toNat]? else none
theorem d5_ {α : Type} {s : Sl α} {i : Int} {x : α} (h : elt s i = some x) : 0 ≤ i ∧ i < s.l.length ∧ s.l[i.toNat]? = some x := by
 unfold elt at h
 split at h
 ·rename_i h0
  have := (List.getElem?_eq_some_iff.1 h).1
  exact ⟨h0, by omega, h⟩
 ·cases h
def aU_ (s : ByteArray) (i : Int) : Option Int := if 0 ≤ i ∧ i < s.size then some (bAt s i) else none
theorem if_ {s : ByteArray} {i x : Int} (h : aU_ s i = some x) : (0 ≤ i ∧ i < s.size) ∧ x = bAt s i := by
 unfold aU_ at h
 split at h
 ·rename_i h0; injection h with h; exact ⟨h0, h.symm⟩
 ·cases h
def catB (a b : ByteArray) : Option ByteArray := if a.size + b.size ≤ 9223372036854775807 then some (a ++ b) else none
theorem nz_ {a b c : ByteArray} (h : catB a b = some c) : a.size + b.size ≤ 9223372036854775807 ∧ c = a ++ b := by
 unfold catB at h
 split at h
 ·rename_i h0; injection h with h; exact ⟨h0, h.symm⟩
 ·cases h
def flat1 : T → Bool
 | .ref .. | .agg _ | .tup _ | .emp | .mp _ | .anyi => false
 | _ => true
def flat2 : T → Bool
 | .agg cs => cs.all flat1
 | t => flat1 t
def flat3 : T → Bool
 | .tup ts => ts.all flat2
 | t => flat2 t
theorem ky_ {σ : St} {d : Nat} {t : T} (h : flat1 t = true) : frz σ d t = some (t, []) := by cases t <;> cases d <;> simp [flat1] at h <;> simp [frz]
theorem kU_ {σ : St} {d : Nat} {t : T} (h : flat2 t = true) : frz σ (d + 1) t = some (t, []) := by
 cases t with
 | agg cs =>
  simp only [flat2, List.all_eq_true] at h
  simp only [frz, gI_ (f := frz σ d) (ts := cs) fun t ht => ky_ (h t ht), Option.map_some]
 | _ => exact ky_ h
theorem k5_ {σ : St} {d : Nat} {t : T} (h : flat3 t = true) : frz σ (d + 2) t = some (t, []) := by
 cases t with
 | tup cs =>
  simp only [flat3, List.all_eq_true] at h
  simp only [frz, gI_ (f := frz σ (d + 1)) (ts := cs) fun t ht => kU_ (h t ht), Option.map_some]
 | _ => exact kU_ h
theorem iI_ {σ : St} {ts : List T} (h : ts.all flat3 = true) : frzL (frz σ 4194304) ts = some (ts, []) := by
 simp only [List.all_eq_true] at h
 exact gI_ fun t ht => k5_ (h t ht)
def nums : Nat → List T → List (Nat × T)
 | _, [] => []
 | i, t :: ts => (i, t) :: nums (i + 1) ts
theorem e7_ (args : List T) : Sub (nums 0 args) (enterS args) := by
 have key : ∀ (ts : List T) (i : Nat) (j : Nat) (v : T), get (nums i ts) j = some v → i ≤ j ∧ ts[j - i]? = some v := by
  intro ts
  induction ts with
  | nil => intro i j v h; cases h
  | cons t ts ih =>
   intro i j v h
   simp only [nums, get] at h
   split at h
   ·rename_i e; have := Nat.eq_of_beq_eq_true e; subst this; simpa using h
   ·obtain ⟨h1, h2⟩ := ih (i + 1) j v h
    refine ⟨by omega, ?_⟩
    rw [show j - i = (j - (i + 1)) + 1 by omega]; simpa using h2
 intro j v h
 obtain ⟨_, h2⟩ := key args 0 j v h
 simp only [Nat.sub_zero] at h2
 simp [enterS, List.getD_eq_getElem?_getD, h2]
section
variable {P : Program} {s : Nat → T} {σ σ0 : St} {L : List (Nat × T)} {es : List Ent} {rs : List ResultVar} {l : List T}
theorem r_nil : resL P ⟨s, σ⟩ [] = some [] := rfl
theorem bs_ {t : Nat} {v : T} (hS : Sub L s) (h : get L t = some v) (k : resL P ⟨s, σ⟩ rs = some l) : resL P ⟨s, σ⟩ (.tmp t :: rs) = some (v :: l) := by
 simp only [resL, resV, hS t v h, k, Option.bind_some, Option.map_some]
theorem fG_ {a : Nat} {ty : TypeId} {b e off n : Nat} {cells : List T} {v : T} (hS : Sub L s) (hH : Heap σ0 σ (.box b cells :: es)) (h : get L a = some (.ptr b e off n)) (hv : part P ty ((cells.drop off).take n) 0 = some v)
  (k : resL P ⟨s, σ⟩ rs = some l) : resL P ⟨s, σ⟩ (.cell a ty :: rs) = some (v :: l) := by
 obtain ⟨B, h1, rfl, h3, h4, h5⟩ := hH.look
 simp only [resL, resV, hS a _ h, em_, h1, Option.bind_some, k, Option.map_some]
 rw [if_pos (by omega), hv]; rfl
end
def St.empty' : St := ⟨0, fun _ => none⟩
section
variable (P : Program) (md : Nat → Md) (X : Ext)
noncomputable def semV {β : Type} (eb : β → T) (f : Nat) (args : List T) : Option β :=
 if h : ∃ r, ∀ σ, run P md X f args σ = some (eb r, σ) then some (Classical.choose h) else none
noncomputable def iv_ {β : Type} (eb : β → T) (p : T) (args : List T) : Option β := match p with
 | .fn f a b => semV P md X eb f (a ++ args ++ b)
 | _ => none
end
section
variable {P : Program} {md : Nat → Md} {X : Ext} {β : Type} {eb : β → T} {f : Nat} {args : List T} {r : β}
theorem fI_ (h : semV P md X eb f args = some r) (σ : St) : run P md X f args σ = some (eb r, σ) := by
 unfold semV at h
 split at h
 ·rename_i hx; injection h with h; subst h; exact Classical.choose_spec hx σ
 ·cases h
theorem jl_ (hi : ∀ a b, eb a = eb b → a = b) (h : ∀ σ, run P md X f args σ = some (eb r, σ)) : semV P md X eb f args = some r := by
 have hx : ∃ r, ∀ σ, run P md X f args σ = some (eb r, σ) := ⟨r, h⟩
 unfold semV
 rw [dif_pos hx]
 have h1 := Classical.choose_spec hx St.empty'
 rw [h St.empty'] at h1
 injection h1 with h1; injection h1 with h1
 rw [← hi _ _ h1]
theorem jf_ {p : T} (h : iv_ P md X eb p args = some r) (σ : St) : ∃ f a b, p = .fn f a b ∧ run P md X f (a ++ args ++ b) σ = some (eb r, σ) := by
 unfold iv_ at h
 split at h
 ·exact ⟨_, _, _, rfl, fI_ h σ⟩
 ·cases h
variable {ops : Array Oper} {m : Mo} {l : List Oper} {K : Fr → Prop} {s : Nat → T} {σ : St} {L : List (Nat × T)}
variable {d : Option Nat} {ty : TypeId} {ps : String} {af : Array Edge} {g : Option (Nat × Bool)}
theorem pZ_ {fo : Operand} {as : Array Operand} {ts : Array TypeId} {a b xs : List T} (hw : want ops L g = some true) (hS : Sub L s) (hf : gE (get L) fo = some (.fn f a b)) (ha : gEs (get L) as.toList = some xs)
  (hr : semV P md X eb f (a ++ xs ++ b) = some r) (k : ∀ s', Sub (putL L d (eb r)) s' → opsX P (run P md X) ops (nxM m) l K ⟨s', σ⟩) : opsX P (run P md X) ops m (⟨d, .call ⟨.value fo, as, ts⟩, ty, ps, af, g⟩ :: l) K ⟨s, σ⟩ :=
 jt_ hw hS hf ha (fI_ hr σ) (fun _ σ => fI_ hr σ) k
theorem qU_ {fo : Operand} {as : Array Operand} {ts : Array TypeId} {xs : List T} {p : T} (hw : want ops L g = some true) (hS : Sub L s) (hf : gE (get L) fo = some p) (ha : gEs (get L) as.toList = some xs)
  (hr : iv_ P md X eb p xs = some r) (k : ∀ s', Sub (putL L d (eb r)) s' → opsX P (run P md X) ops (nxM m) l K ⟨s', σ⟩) : opsX P (run P md X) ops m (⟨d, .call ⟨.value fo, as, ts⟩, ty, ps, af, g⟩ :: l) K ⟨s, σ⟩ := by
 obtain ⟨f, a, b, rfl, h⟩ := jf_ hr σ
 refine jt_ hw hS hf ha h (fun _ σ' => ?_) k
 obtain ⟨f', a', b', e, h'⟩ := jf_ hr σ'
 injection e with e1 e2 e3
 subst e1; subst e2; subst e3
 exact h'
end
section
theorem hg_ {k : IntKind} : ∀ a b : Int, T.int k a = T.int k b → a = b := fun a b h => by injection h
theorem inj_bool : ∀ a b : Bool, T.bool a = T.bool b → a = b := fun a b h => by injection h
theorem inj_str : ∀ a b : ByteArray, T.str a = T.str b → a = b := fun a b h => by injection h
theorem jk_ {α : Type} [Enc α] : ∀ a b : Sl α, a.t = b.t → a = b := fun a b h => Sl.inj h
theorem inj_agg {α : Type} [Enc α] : ∀ a b : α, T.agg (Enc.cells a) = T.agg (Enc.cells b) → a = b := fun a b h => by injection h with h; exact Enc.inj a b h
variable {α β γ δ ε : Type} {e1 : α → T} {e2 : β → T} {e3 : γ → T} {e4 : δ → T} {e5 : ε → T}
theorem je_ (h1 : ∀ a b, e1 a = e1 b → a = b) (h2 : ∀ a b, e2 a = e2 b → a = b) : ∀ a b : α × β, T.tup [e1 a.1, e2 a.2] = T.tup [e1 b.1, e2 b.2] → a = b := fun a b h => by
 injection h with h; simp only [List.cons.injEq, and_true] at h
 exact Prod.ext (h1 _ _ h.1) (h2 _ _ h.2)
end
section
variable {P : Program} {O : aM_} {ops : Array Oper} {m : Mo} {l : List Oper} {K : Fr → Prop} {s : Nat → T} {σ : St} {L : List (Nat × T)}
variable {d : Option Nat} {ty : TypeId} {ps : String} {af : Array Edge} {g : Option (Nat × Bool)}
theorem uf_ {α : Type} [Enc α] {x i : Operand} {t e : TypeId} {sl : Sl α} {kk : IntKind} {j : Int} {y : α} (c : List T) (hw : want ops L g = some true) (hS : Sub L s) (hx : gE (get L) x = some sl.t) (hi : gE (get L) i = some (.int kk j))
  (he : av_ P t = some e) (hz : szOf P e = some (Enc.w α)) (hy : elt sl j = some y) (hc : Enc.cells y = c)
  (k : ∀ rest s', Sub (putL L d (.vw (c ++ rest))) s' → opsX P O ops (nxM m) l K ⟨s', σ⟩) : opsX P O ops m (⟨d, .indexAddr t x i, ty, ps, af, g⟩ :: l) K ⟨s, σ⟩ := by
 obtain ⟨h1, h2, h3⟩ := d5_ hy
 exact uu_ (cs := am_ sl.l) c (am_ (sl.l.drop (j.toNat + 1))) hw hS hx hi he hz ⟨h1, h2⟩ (cellsL_len _) (by rw [es_ _ _ _ h3, hc]) (fun s' => k _ s')
theorem q6_ {x i : Operand} {t : TypeId} {w : ByteArray} {kk : IntKind} {j y : Int} (hw : want ops L g = some true) (hS : Sub L s) (hx : gE (get L) x = some (.str w)) (hi : gE (get L) i = some (.int kk j))
  (ht : aH_ P t = 3) (hy : aU_ w j = some y) (k : ∀ s', Sub (putL L d (.int .u8 y)) s' → opsX P O ops (nxM m) l K ⟨s', σ⟩) : opsX P O ops m (⟨d, .index t x i, ty, ps, af, g⟩ :: l) K ⟨s, σ⟩ := by
 obtain ⟨h1, rfl⟩ := if_ hy
 exact sT_ hw hS hx hi ht h1 k
theorem sf_ {x y : Operand} {t u : TypeId} {a b c : ByteArray} (hw : want ops L g = some true) (hS : Sub L s) (hx : gE (get L) x = some (.str a)) (hy : gE (get L) y = some (.str b)) (hc : catB a b = some c)
  (k : ∀ s', Sub (putL L d (.str c)) s' → opsX P O ops (nxM m) l K ⟨s', σ⟩) : opsX P O ops m (⟨d, .binOp .add t x y u, ty, ps, af, g⟩ :: l) K ⟨s, σ⟩ := by
 obtain ⟨h1, rfl⟩ := nz_ hc
 exact uh_ hw hS hx hy h1 k
def subB (s : ByteArray) (lo hi : Int) : Option ByteArray := if 0 ≤ lo ∧ lo ≤ hi ∧ hi ≤ s.size then some (s.extract lo.toNat hi.toNat) else none
def gj_ (x : Option T) (d : Int) : Option Int := match x with
 | none => some d
 | some (.int _ i) => some i
 | _ => none
def gO (g : Nat → Option T) : Option Operand → Option (Option T)
 | none => some none
 | some x => match gE g x with
  | some v => some (some v)
  | none => none
theorem hP_ {g : Nat → Option T} {s : Nat → T} (hg : ∀ j v, g j = some v → s j = v) {x : Option Operand} {v : Option T} (h : gO g x = some v) : dP_ s x = some v := by
 cases x with
 | none => exact h
 | some x =>
  simp only [gO] at h
  split at h
  ·rename_i u hu; simp only [dP_, ai_ hg hu, Option.map_some]; exact h
  ·cases h
theorem hW_ {x : Option T} {n : Nat} {i : Int} (h : gj_ x n = some i) (h0 : 0 ≤ i) : boundA x n = some i.toNat ∧ okO x = true := by
 unfold gj_ at h
 split at h
 ·injection h with h; subst h; exact ⟨by simp [boundA], rfl⟩
 ·injection h with h; subst h; exact ⟨by simp [boundA, h0], rfl⟩
 ·cases h
theorem rS_ {x : Operand} {lo hi : Option Operand} {t : TypeId} {w y : ByteArray} {vlo vhi : Option T} {a b : Int} (hw : want ops L g = some true) (hS : Sub L s) (hx : gE (get L) x = some (.str w)) (hlo : gO (get L) lo = some vlo) (hhi : gO (get L) hi = some vhi)
  (ha : gj_ vlo 0 = some a) (hb : gj_ vhi w.size = some b) (ht : aH_ P t = 3) (hy : subB w a b = some y) (k : ∀ s', Sub (putL L d (.str y)) s' → opsX P O ops (nxM m) l K ⟨s', σ⟩) : opsX P O ops m (⟨d, .slice t x lo hi none, ty, ps, af, g⟩ :: l) K ⟨s, σ⟩ := by
 unfold subB at hy
 split at hy
 ·rename_i h
  injection hy with hy; subst hy
  obtain ⟨k1, k2⟩ := hW_ (n := 0) (x := vlo) (by simpa using ha) h.1
  obtain ⟨k3, k4⟩ := hW_ (n := w.size) hb (by omega)
  refine dc_ hw hS (fun kk σ' _ => ?_) k
  rw [j7_, ai_ hS hx, Option.bind_some, hP_ hS hlo, Option.bind_some, hP_ hS hhi, Option.bind_some, eL_, Option.bind_some, j6_, k2, k4]
  simp only [okO_none, Bool.and_self, if_true, m7_, ht, k1, k3, Option.bind_some]
  rw [if_pos ⟨by omega, by omega⟩]; rfl
 ·cases hy
def subS {α : Type} (s : Sl α) (lo hi : Int) : Option (Sl α) := if 0 ≤ lo ∧ lo ≤ hi ∧ hi ≤ s.l.length then some ⟨s.z, (s.l.drop lo.toNat).take (hi.toNat - lo.toNat)⟩ else none
theorem pV_ {α : Type} [Enc α] {x : Operand} {lo hi : Option Operand} {t e : TypeId} {w y : Sl α} {vlo vhi : Option T} {a b : Int} (hw : want ops L g = some true) (hS : Sub L s) (hx : gE (get L) x = some w.t) (hlo : gO (get L) lo = some vlo) (hhi : gO (get L) hi = some vhi)
  (ha : gj_ vlo 0 = some a) (hb : gj_ vhi w.l.length = some b) (he : av_ P t = some e) (hz : szOf P e = some (Enc.w α)) (hy : subS w a b = some y) (k : ∀ s', Sub (putL L d y.t) s' → opsX P O ops (nxM m) l K ⟨s', σ⟩) : opsX P O ops m (⟨d, .slice t x lo hi none, ty, ps, af, g⟩ :: l) K ⟨s, σ⟩ := by
 unfold subS at hy
 split at hy
 ·rename_i h
  injection hy with hy; subst hy
  obtain ⟨k1, k2⟩ := hW_ (n := 0) (x := vlo) (by simpa using ha) h.1
  obtain ⟨k3, k4⟩ := hW_ (n := w.l.length) hb (by omega)
  refine dc_ hw hS (fun kk σ' _ => ?_) k
  rw [j7_, ai_ hS hx, Option.bind_some, hP_ hS hlo, Option.bind_some, hP_ hS hhi, Option.bind_some, eL_, Option.bind_some, j6_, k2, k4]
  simp only [okO_none, Bool.and_self, if_true, Sl.t, m3_, he, hz, k1, k3, Option.bind_some]
  rw [if_pos ⟨by omega, by omega, cellsL_len _⟩, cellsL_drop, cellsL_take]
  have : ((w.l.drop a.toNat).take (b.toNat - a.toNat)).length = b.toNat - a.toNat := by simp; omega
  simp only [Option.map_some, this]
 ·cases hy
theorem all_nil : ([] : List T).all flat3 = true := rfl
theorem all_cons {t : T} {ts : List T} (h : flat3 t = true) (k : ts.all flat3 = true) : (t :: ts).all flat3 = true := by simp [h, k]
theorem pJ_ {α : Type} {c : Prop} [Decidable c] {A B : Option α} {r : α} (hc : c) (h : (if c then A else B) = some r) : A = some r := by rwa [if_pos hc] at h
theorem pS_ {α : Type} {c : Prop} [Decidable c] {A B : Option α} {r : α} (hc : ¬c) (h : (if c then A else B) = some r) : B = some r := by rwa [if_neg hc] at h
theorem ol_ {b : Bool} {p : Prop} (h : b = true) (k : b = false) : p := by rw [h] at k; cases k
theorem nE_ {b : Bool} {p : Prop} (h : ¬(b = true)) (k : b = true) : p := absurd k h
end
theorem bind_some {α β : Type} {x : Option α} {f : α → Option β} {r : β} (h : x.bind f = some r) : ∃ a, x = some a ∧ f a = some r := Option.bind_eq_some_iff.1 h
theorem ir_ {α : Type} {c : Prop} [Decidable c] {x : Option α} {r : α} (h : (if c then x else none) = some r) : c ∧ x = some r := by
 split at h
 ·rename_i hc; exact ⟨hc, h⟩
 ·cases h
section
variable {P : Program} {O : aM_} {Q : aN_ → Fr → Prop} {K : Fr → Prop} {fr : Fr}
end
end Go.Am
end
