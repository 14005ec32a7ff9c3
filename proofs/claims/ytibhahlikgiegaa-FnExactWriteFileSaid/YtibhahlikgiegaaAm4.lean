/- The abstract machine. -/
import Derived.Test.YtibhahlikgiegaaAm3
section
set_option linter.unusedVariables false
set_option linter.unusedSimpArgs false
namespace Go.Am
open Classical

theorem hold_weak {σ : St} : ∀ (d : Nat) (t v : T) (S : List Nat), hold true σ d t = some (v, S) → hold false σ d t = some (v, S)
  | 0, t, v, S, h => by
    cases t with
    | row zz n cs => cases zz <;> cases n <;> cases cs <;> simp [hold] at h ⊢ <;> exact h
    | _ => simp [hold] at h <;> simp [hold, h]
  | d + 1, t, v, S, h => by
    cases t with
    | ref b e off n =>
      simp only [hold] at h
      obtain ⟨B, hb, h1⟩ := Option.bind_eq_some_iff.1 h
      split at h1
      · rename_i hc
        obtain ⟨⟨cs, S1⟩, h2, h3⟩ := Option.map_eq_some_iff.1 h1
        injection h3 with h3 h4; subst h3; subst h4
        have h5 := frzL_congr (g := hold false σ d) (fun t v S' _ hh _ => hold_weak d t v S' hh) h2
        simp only [hold, hb, Option.bind_some, h5, Option.map_some]
        rw [if_pos ⟨(fun h => by cases h), hc.2⟩]
      · cases h1
    | agg cs =>
      simp only [hold] at h
      obtain ⟨⟨cs', S1⟩, h2, h3⟩ := Option.map_eq_some_iff.1 h
      injection h3 with h3 h4; subst h3; subst h4
      simp only [hold, frzL_congr (g := hold false σ d) (fun t v S' _ hh _ => hold_weak d t v S' hh) h2, Option.map_some]
    | tup cs =>
      simp only [hold] at h
      obtain ⟨⟨cs', S1⟩, h2, h3⟩ := Option.map_eq_some_iff.1 h
      injection h3 with h3 h4; subst h3; subst h4
      simp only [hold, frzL_congr (g := hold false σ d) (fun t v S' _ hh _ => hold_weak d t v S' hh) h2, Option.map_some]
    | row zz n cs => cases zz <;> cases n <;> cases cs <;> simp [hold] at h ⊢ <;> exact h
    | _ => simp [hold] at h <;> simp [hold, h]

theorem frzL_append {f : T → Option (T × List Nat)} : ∀ {a b va vb : List T} {Sa Sb : List Nat}, frzL f a = some (va, Sa) → frzL f b = some (vb, Sb) → frzL f (a ++ b) = some (va ++ vb, Sa ++ Sb)
  | [], b, va, vb, Sa, Sb, ha, hb => by simp [frzL] at ha; obtain ⟨rfl, rfl⟩ := ha; simpa using hb
  | t :: a, b, va, vb, Sa, Sb, ha, hb => by
    simp only [frzL] at ha
    obtain ⟨⟨v0, S0⟩, h1, h2⟩ := Option.bind_eq_some_iff.1 ha
    obtain ⟨⟨vs, S1⟩, h3, h4⟩ := Option.map_eq_some_iff.1 h2
    injection h4 with h4 h5; subst h4; subst h5
    simp only [List.cons_append, frzL, h1, Option.bind_some, frzL_append h3 hb, Option.map_some, List.append_assoc]

theorem frzLh_mono {z : Bool} {σ : St} {k k' : Nat} (hk : k ≤ k') {ts vs : List T} {F : List Nat} (h : frzL (hold z σ k) ts = some (vs, F)) : frzL (hold z σ k') ts = some (vs, F) :=
  frzL_congr (fun t v S _ hh _ => hold_mono k t v S hh k' hk) h

/-- Trees whose slices are held by entries, in their order. -/
inductive HL (z : Bool) : List T → List T → List Ent → Prop
  | nil : HL z [] [] []
  | leaf {t v ts vs es} (h : ∀ σ d, hold z σ d t = some (v, [])) (r : HL z ts vs es) : HL z (t :: ts) (v :: vs) es
  | own {z' w t v ts vs es} (hz : (!z || z') = true) (r : HL z ts vs es) : HL z (t :: ts) (v :: vs) (.own z' w t v :: es)
  | agg {cs us es1 ts vs es2} (a : HL z cs us es1) (r : HL z ts vs es2) : HL z (.agg cs :: ts) (.agg us :: vs) (es1 ++ es2)
  | tup {cs us es1 ts vs es2} (a : HL z cs us es1) (r : HL z ts vs es2) : HL z (.tup cs :: ts) (.tup us :: vs) (es1 ++ es2)

theorem HL.sound {σ : St} {z ts vs es} (h : HL z ts vs es) : ∀ {F : List Nat}, HeapR σ es F → ∃ k, frzL (hold z σ k) ts = some (vs, F) := by
  induction h with
  | nil => intro F hF; cases hF; exact ⟨0, rfl⟩
  | leaf h r ih => intro F hF; obtain ⟨k, hk⟩ := ih hF; exact ⟨k, by simp only [frzL, h, Option.bind_some, hk, Option.map_some, List.nil_append]⟩
  | @own z' w t v ts vs es hz r ih =>
    intro F hF
    obtain ⟨S, F', rfl, ⟨_, _, k', h1⟩, h2⟩ := hF
    obtain ⟨k, hk⟩ := ih h2
    have h3 : hold z σ (max k k') t = some (v, S) := by
      have h4 := hold_mono k' t v S h1 (max k k') (Nat.le_max_right _ _)
      cases z with
      | true => cases z' with
        | true => exact h4
        | false => cases hz
      | false => cases z' with
        | true => exact hold_weak _ _ _ _ h4
        | false => exact h4
    exact ⟨max k k', by simp only [frzL, h3, Option.bind_some, frzLh_mono (Nat.le_max_left k k') hk, Option.map_some]⟩
  | @agg cs us es1 ts vs es2 a r iha ihr =>
    intro F hF
    obtain ⟨F1, F2, rfl, h1, h2⟩ := hF.split
    obtain ⟨k1, q1⟩ := iha h1
    obtain ⟨k2, q2⟩ := ihr h2
    have h3 : hold z σ (max k1 k2 + 1) (.agg cs) = some (.agg us, F1) := by simp only [hold, frzLh_mono (Nat.le_max_left k1 k2) q1, Option.map_some]
    exact ⟨max k1 k2 + 1, by simp only [frzL, h3, Option.bind_some, frzLh_mono (Nat.le_succ_of_le (Nat.le_max_right k1 k2)) q2, Option.map_some]⟩
  | @tup cs us es1 ts vs es2 a r iha ihr =>
    intro F hF
    obtain ⟨F1, F2, rfl, h1, h2⟩ := hF.split
    obtain ⟨k1, q1⟩ := iha h1
    obtain ⟨k2, q2⟩ := ihr h2
    have h3 : hold z σ (max k1 k2 + 1) (.tup cs) = some (.tup us, F1) := by simp only [hold, frzLh_mono (Nat.le_max_left k1 k2) q1, Option.map_some]
    exact ⟨max k1 k2 + 1, by simp only [frzL, h3, Option.bind_some, frzLh_mono (Nat.le_succ_of_le (Nat.le_max_right k1 k2)) q2, Option.map_some]⟩

@[simp] theorem hold_int (z : Bool) (σ : St) (d : Nat) (k : IntKind) (n : Int) : hold z σ d (.int k n) = some (.int k n, []) := by cases d <;> rfl
@[simp] theorem hold_bool (z : Bool) (σ : St) (d : Nat) (b : Bool) : hold z σ d (.bool b) = some (.bool b, []) := by cases d <;> rfl
@[simp] theorem hold_str (z : Bool) (σ : St) (d : Nat) (s : ByteArray) : hold z σ d (.str s) = some (.str s, []) := by cases d <;> rfl
@[simp] theorem hold_nilp (z : Bool) (σ : St) (d : Nat) : hold z σ d .nilp = some (.nilp, []) := by cases d <;> rfl
@[simp] theorem hold_nilf (z : Bool) (σ : St) (d : Nat) : hold z σ d .nilf = some (.nilf, []) := by cases d <;> rfl
@[simp] theorem hold_nili (z : Bool) (σ : St) (d : Nat) : hold z σ d .nili = some (.nili, []) := by cases d <;> rfl
@[simp] theorem hold_nils (z : Bool) (σ : St) (d : Nat) : hold z σ d (.row true 0 []) = some (.row true 0 [], []) := by cases d <;> rfl
@[simp] theorem hold_pure {α : Type} [Enc α] (σ : St) (d : Nat) (s : Sl α) : hold false σ d s.t = some (s.t, []) := by
  obtain ⟨z, l⟩ := s
  cases z <;> cases l <;> cases d <;> simp [Sl.t, hold, cellsL]
@[simp] theorem hold_nilS {α : Type} [Enc α] (z : Bool) (σ : St) (d : Nat) : hold z σ d (Sl.t (⟨true, []⟩ : Sl α)) = some (Sl.t (⟨true, []⟩ : Sl α), []) := hold_nils z σ d

/-- Data that need no block of their own. -/
class Hld (z : Bool) (α : Type) [Enc α] : Prop where
  h : ∀ (a : α) (σ : St) (d : Nat), frzL (hold z σ d) (Enc.cells a) = some (Enc.cells a, [])
instance (z : Bool) : Hld z ByteArray := ⟨fun a σ d => by simp [Enc.cells]⟩
instance (z : Bool) : Hld z Bool := ⟨fun a σ d => by simp [Enc.cells]⟩
instance (z : Bool) (k : IntKind) : Hld z (Iv k) := ⟨fun a σ d => by simp [Enc.cells]⟩
instance {α : Type} [Enc α] : Hld false (Sl α) := ⟨fun a σ d => by simp [Enc.cells]⟩
theorem Hld.list {z : Bool} {α : Type} [Enc α] [Hld z α] (σ : St) (d : Nat) : ∀ l : List α, frzL (hold z σ d) (cellsL l) = some (cellsL l, [])
  | [] => rfl
  | a :: l => by simpa [cellsL] using frzL_append (Hld.h a σ d) (Hld.list σ d l)

def IsOne (t : T) : Prop := t.cells = [t] ∧ t.one = true
theorem isTop_one {t : T} (h : isTop t = true) : IsOne t := by
  cases t <;> simp [isTop] at h <;> exact ⟨rfl, rfl⟩

theorem Heap.head {σ0 σ : St} {e : Ent} {es : List Ent} (h : Heap σ0 σ (e :: es)) : ∃ S, EntOk σ e S ∧ S.Nodup ∧ ∀ b ∈ S, σ0.next ≤ b ∧ b < σ.next := by
  obtain ⟨F, ⟨S, F', rfl, h1, h2⟩, h3, h4⟩ := h.ex
  exact ⟨S, h1, (List.nodup_append.1 h3).1, fun b hb => h4 b (by simp [hb])⟩
theorem Heap.one {σ0 σ : St} {z w t v es} (h : Heap σ0 σ (.own z w t v :: es)) : IsOne t := by
  obtain ⟨S, h1, _⟩ := h.head
  exact isTop_one h1.1

/-- No slice yet. -/
theorem Heap.addNil {σ0 σ : St} {es : List Ent} (h : Heap σ0 σ es) (z : Bool) (w : Nat) : Heap σ0 σ (.own z w (.row true 0 []) (.row true 0 []) :: es) :=
  Heap.step (es1 := []) (es2 := [.own z w (.row true 0 []) (.row true 0 [])]) (es := es) h (Nat.le_refl _) fun S hS _ _ => ⟨[], ⟨[], [], rfl, ⟨rfl, (fun _ _ _ _ _ h _ _ => by cases h), 0, by simp⟩, rfl⟩, by simp, by simp, fun _ _ _ => rfl⟩
theorem Heap.addEmp {σ0 σ : St} {es : List Ent} (h : Heap σ0 σ es) (z : Bool) (w : Nat) : Heap σ0 σ (.own z w .emp (.row false 0 []) :: es) :=
  Heap.step (es1 := []) (es2 := [.own z w .emp (.row false 0 [])]) (es := es) h (Nat.le_refl _) fun S hS _ _ => ⟨[], ⟨[], [], rfl, ⟨rfl, (fun _ _ _ _ _ h _ _ => by cases h), 0, rfl⟩, rfl⟩, by simp, by simp, fun _ _ _ => rfl⟩

def enumV : Nat → List T → List (Nat × T)
  | _, [] => []
  | i, v :: vs => (i, v) :: enumV (i + 1) vs
def allV (sz : Nat) : List T → Prop
  | [] => True
  | v :: vs => v.cells.length = sz ∧ v.cells.all T.one = true ∧ allV sz vs

theorem allV_len {sz : Nat} : ∀ (vs : List T), allV sz vs → (vs.flatMap T.cells).length = vs.length * sz
  | [], _ => by simp
  | v :: vs, h => by
    have := allV_len vs h.2.2
    simp only [List.flatMap_cons, List.length_append, List.length_cons, Nat.succ_mul, h.1, this]; omega
theorem fill_full {sz : Nat} (zc : List T) (hz : zc.length = sz) : ∀ (vs pre : List T) (i : Nat), pre.length = i * sz → allV sz vs →
    fillA (fun i => some (i * sz, sz)) (pre ++ (List.replicate vs.length zc).flatten) (enumV i vs) = some (pre ++ vs.flatMap T.cells)
  | [], pre, i, hp, _ => by simp [enumV, fillA]
  | v :: vs, pre, i, hp, h => by
    obtain ⟨h1, h2, h3⟩ := h
    simp only [enumV, fillA_cons, Option.bind_some, fill1_eq]
    rw [if_pos ⟨h1, by simp [hp, List.replicate_succ, hz], h2⟩]
    have e : splice (pre ++ (List.replicate (v :: vs).length zc).flatten) (i * sz) v.cells = (pre ++ v.cells) ++ (List.replicate vs.length zc).flatten := by
      simp only [splice, List.length_cons, List.replicate_succ, List.flatten_cons]
      rw [List.take_append_of_le_length (by omega), List.take_of_length_le (by omega), List.drop_append, List.drop_of_length_le (by omega), List.nil_append, h1, hp, show i * sz + sz - i * sz = sz by omega, List.drop_append, List.drop_of_length_le (by omega), List.nil_append, hz, Nat.sub_self, List.drop_zero]
    rw [e, fill_full zc hz vs (pre ++ v.cells) (i + 1) (by rw [List.length_append, hp, h1, Nat.succ_mul]) h3]
    simp

section
variable {P : Program} {O : Oracle} {ops : Array Oper} {l : List Oper} {K : Fr → Prop} {s : Nat → T} {σ σ0 : St} {L : List (Nat × T)} {es ents : List Ent}
variable {d : Option Nat} {ty : TypeId} {ps : String} {af : Array Edge} {g : Option (Nat × Bool)}

theorem Heap.mkRowK {z : Bool} {n sz : Nat} {cs us : List T} (h : Heap σ0 σ (ents ++ es)) {k : Option Nat} (hk : σ.okK k = true) (hbk : ∀ i, k = some i → σ0.next ≤ i) (hsz : sz ≠ 0) (hn0 : n ≠ 0) (hl : cs.length = n * sz) (h1 : cs.all T.one = true) (hh : HL z cs us ents) :
    Heap σ0 (σ.pushK k (mkBlk cs sz)) (.own z sz (.ref (σ.nid k) 0 0 n) (.row false n us) :: es) := by
  have h0 : σ0.next ≤ σ.nid k := by
    cases k with
    | none => exact h.grow.nx
    | some i => exact hbk i rfl
  have hf := okK_free hk
  refine Heap.stepN (es1 := ents) (es2 := [.own z sz (.ref (σ.nid k) 0 0 n) (.row false n us)]) (es := es) h pushK_nx (fun b hb' => by rw [pushK_blk, if_neg (by omega)]) fun S hS hn hb => ?_
  have hs : ∀ b ∈ S, (σ.pushK k (mkBlk cs sz)).blk b = σ.blk b := fun b hb' => pushK_old hk (hS.some b hb') (hb b hb').2
  obtain ⟨kk, hkk⟩ := hh.sound (hS.same hs)
  have hself : (σ.pushK k (mkBlk cs sz)).blk (σ.nid k) = some (mkBlk cs sz) := by rw [pushK_blk, if_pos rfl]
  have hnot : σ.nid k ∉ S := fun hm => by
    rcases hf with hf | ⟨hf, _⟩
    · have := (hb _ hm).2; omega
    · have := hS.some _ hm; rw [hf] at this; cases this
  refine ⟨σ.nid k :: S, ⟨σ.nid k :: S, [], by simp, ⟨rfl, (fun b e o n B h hB _ => by injection h with h; subst h; rw [hself] at hB; injection hB with hB; subst hB; rfl), kk + 1, ?_⟩, rfl⟩, List.nodup_cons.2 ⟨hnot, hn⟩, ?_, fun b hb' hs' _ => pushK_old hk hs' hb'⟩
  · simp only [hold, hself, Option.bind_some, mkBlk_cells, hkk, Option.map_some]
    rw [if_pos (by simp only [mkBlk]; exact ⟨fun _ => trivial, trivial, Nat.le_refl _, trivial, hl, hsz, h1, hn0⟩)]
  · intro b hb'
    rcases List.mem_cons.1 hb' with rfl | h
    · exact .inr ⟨h0, nid_ltK hk, hf.imp id fun h => h.1⟩
    · exact .inl h
theorem Heap.mkRow {z : Bool} {n sz : Nat} {cs us : List T} (h : Heap σ0 σ (ents ++ es)) (hsz : sz ≠ 0) (hn0 : n ≠ 0) (hl : cs.length = n * sz) (h1 : cs.all T.one = true) (hh : HL z cs us ents) :
    Heap σ0 (σ.pushK none (mkBlk cs sz)) (.own z sz (.ref σ.next 0 0 n) (.row false n us) :: es) := h.mkRowK (k := none) rfl (fun _ e => by cases e) hsz hn0 hl h1 hh
/-- A block that nobody looks at. -/
theorem Heap.junk (h : Heap σ0 σ es) {k : Option Nat} (hk : σ.okK k = true) (hbk : ∀ i, k = some i → σ0.next ≤ i) (B : Blk) : Heap σ0 (σ.pushK k B) es := by
  have h0 : σ0.next ≤ σ.nid k := by
    cases k with
    | none => exact h.grow.nx
    | some i => exact hbk i rfl
  exact Heap.stepN (es1 := []) (es2 := []) (es := es) h pushK_nx (fun b hb' => by rw [pushK_blk, if_neg (by omega)]) fun S hS hn hb => ⟨[], rfl, by simp, by simp, fun b hb' hs' _ => pushK_old hk hs' hb'⟩

theorem allV_one {sz : Nat} : ∀ (vs : List T), allV sz vs → (vs.flatMap T.cells).all T.one = true
  | [], _ => rfl
  | v :: vs, h => by simp only [List.flatMap_cons, List.all_append, h.2.1, allV_one vs h.2.2, Bool.and_self]

theorem q_bsC {m : Mo} (hm : m.chg = true) (hmb : m.base σ0) {t e len sz : Nat} {parts : Array (Nat × Operand)} {z : Bool} {vs zc cs us : List T} {v : T} (hw : want ops L g = some true) (hS : Sub L s) (hH : Heap σ0 σ (ents ++ es)) (hg : gPs (get L) parts.toList = some (enumV 0 vs))
    (he : elemOfSl P t = some e) (hz : szOf P e = some sz) (hzz : zeroOf P e = some zc) (hl : (Nat.beq zc.length sz && Nat.beq vs.length len && Nat.ble (len * sz) 16777216 && !Nat.beq sz 0 && !Nat.beq len 0) = true) (hv : allV sz vs) (hc : vs.flatMap T.cells = cs)
    (hh : HL z cs us ents) (hr : T.row false len us = v)
    (kk : ∀ t' σ' s', IsOne t' → Heap σ0 σ' (.own z sz t' v :: es) → Sub (putL L d t') s' → opsX P O ops (nxM m) l K ⟨s', σ'⟩) : opsX P O ops m (⟨d, .buildSlice t len parts, ty, ps, af, g⟩ :: l) K ⟨s, σ⟩ := by
  simp only [Bool.and_eq_true, Bool.not_eq_true'] at hl
  obtain ⟨⟨⟨⟨l1, l2⟩, l3⟩, l4⟩, l5⟩ := hl
  have l1 := Nat.eq_of_beq_eq_true l1; have l2 := Nat.eq_of_beq_eq_true l2; have l3 := Nat.le_of_ble_eq_true l3; have l4 := Nat.ne_of_beq_eq_false l4; have l5 := Nat.ne_of_beq_eq_false l5
  subst hr
  have hlen : cs.length = len * sz := by rw [← hc, ← l2]; exact allV_len vs hv
  refine x_newC hm rfl (want_sound hS hw) fun k hk hi => ⟨T.ref (σ.nid k) 0 0 len, σ.pushK k (mkBlk cs sz), ?_, Cg.push hk, ?_⟩
  · rw [a_buildSlice, he, Option.bind_some, hz, Option.bind_some, hzz, Option.bind_some, gPs_sound hS hg, Option.bind_some, bldSlA_eq, if_pos ⟨l1, l3, l4, hk⟩]
    have := fill_full zc l1 vs [] 0 (by simp) hv
    simp only [List.nil_append, l2, hc] at this
    rw [this, if_neg l5]; rfl
  · rw [put_eq]; exact kk _ _ _ ⟨rfl, rfl⟩ (hH.mkRowK hk (Mo.inb_base hi hmb) l4 l5 hlen (by rw [← hc]; exact allV_one vs hv) hh) (sub_putL hS d _ σ)
theorem q_bs {t e len sz : Nat} {parts : Array (Nat × Operand)} {z : Bool} {vs zc cs us : List T} {v : T} (hw : want ops L g = some true) (hS : Sub L s) (hH : Heap σ0 σ (ents ++ es)) (hg : gPs (get L) parts.toList = some (enumV 0 vs))
    (he : elemOfSl P t = some e) (hz : szOf P e = some sz) (hzz : zeroOf P e = some zc) (hl : (Nat.beq zc.length sz && Nat.beq vs.length len && Nat.ble (len * sz) 16777216 && !Nat.beq sz 0 && !Nat.beq len 0) = true) (hv : allV sz vs) (hc : vs.flatMap T.cells = cs)
    (hh : HL z cs us ents) (hr : T.row false len us = v)
    (kk : ∀ t' σ' s', IsOne t' → Heap σ0 σ' (.own z sz t' v :: es) → Sub (putL L d t') s' → opsX P O ops .q l K ⟨s', σ'⟩) : opsX P O ops .q (⟨d, .buildSlice t len parts, ty, ps, af, g⟩ :: l) K ⟨s, σ⟩ :=
  q_bsC (m := .q) rfl trivial hw hS hH hg he hz hzz hl hv hc hh hr kk
/-- A literal of no elements. -/
theorem q_bs0 {m : Mo} (hm : m.chg = true) (hmb : m.base σ0) {t e sz : Nat} {z : Bool} {zc : List T} (hw : want ops L g = some true) (hS : Sub L s) (hH : Heap σ0 σ es)
    (he : elemOfSl P t = some e) (hz : szOf P e = some sz) (hzz : zeroOf P e = some zc) (hl : (Nat.beq zc.length sz && !Nat.beq sz 0) = true)
    (kk : ∀ t' σ' s', IsOne t' → Heap σ0 σ' (.own z sz t' (.row false 0 []) :: es) → Sub (putL L d t') s' → opsX P O ops (nxM m) l K ⟨s', σ'⟩) : opsX P O ops m (⟨d, .buildSlice t 0 #[], ty, ps, af, g⟩ :: l) K ⟨s, σ⟩ := by
  simp only [Bool.and_eq_true, Bool.not_eq_true'] at hl
  have l1 := Nat.eq_of_beq_eq_true hl.1; have l4 := Nat.ne_of_beq_eq_false hl.2
  refine x_newC hm rfl (want_sound hS hw) fun k hk hi => ⟨T.emp, σ.pushK k (mkBlk [] sz), ?_, Cg.push hk, ?_⟩
  · rw [a_buildSlice, he, Option.bind_some, hz, Option.bind_some, hzz, Option.bind_some]
    show (some []).bind _ = _
    rw [Option.bind_some, bldSlA_eq, if_pos ⟨l1, by omega, l4, hk⟩]; rfl
  · rw [put_eq]; exact kk _ _ _ ⟨rfl, rfl⟩ ((hH.junk hk (Mo.inb_base hi hmb) _).addEmp z sz) (sub_putL hS d _ σ)

/-- What a held slice is. -/
theorem hold_top {z : Bool} {k : Nat} {t : T} {zz : Bool} {n : Nat} {cs : List T} {S : List Nat} (ht : isTop t = true) (h : hold z σ k t = some (.row zz n cs, S)) :
    (t = .row true 0 [] ∧ zz = true ∧ n = 0 ∧ cs = [] ∧ S = []) ∨ (t = .emp ∧ zz = false ∧ n = 0 ∧ cs = [] ∧ S = []) ∨
    (zz = false ∧ ∃ b B S' k', t = .ref b B.ep 0 n ∧ σ.blk b = some B ∧ (z = true → B.st = true) ∧ B.low ≤ B.ep ∧ B.cells.length = n * B.esz ∧ B.esz ≠ 0 ∧ B.cells.all T.one = true ∧ frzL (hold z σ k') B.cells = some (cs, S') ∧ S = b :: S') := by
  cases t with
  | row z' n' cs' =>
    cases z' <;> cases n' <;> cases cs' <;> simp [isTop] at ht
    simp at h; obtain ⟨⟨rfl, rfl, rfl⟩, rfl⟩ := h; simp
  | emp => cases k <;> simp [hold] at h <;> (obtain ⟨⟨rfl, rfl, rfl⟩, rfl⟩ := h; simp)
  | ref b e off n' =>
    cases k with
    | zero => simp [hold] at h
    | succ k =>
      simp only [hold] at h
      obtain ⟨B, hb, h1⟩ := Option.bind_eq_some_iff.1 h
      split at h1
      · rename_i hc
        obtain ⟨⟨us, S1⟩, h2, h3⟩ := Option.map_eq_some_iff.1 h1
        injection h3 with h3 h4; injection h3 with h5 h6 h7
        subst h4; subst h5; subst h6; subst h7
        obtain ⟨c1, rfl, c3, rfl, c5, c6, c7, _⟩ := hc
        exact .inr (.inr ⟨rfl, b, B, S1, k, rfl, hb, c1, c3, c5, c6, c7, h2, rfl⟩)
      · cases h1
  | _ => simp [isTop] at ht

/-- Rows that are appended. -/
def appS {α : Type} (by_ : Nat) (a b : Sl α) : Option (Sl α) := match b.l with
  | [] => some a
  | _ :: _ => if (a.l.length + b.l.length) * by_ ≤ 1099511627776 then some ⟨false, a.l ++ b.l⟩ else none

theorem appS_some {α : Type} {by_ : Nat} {a b c : Sl α} (h : appS by_ a b = some c) : (b.l = [] ∧ c = a) ∨ (b.l ≠ [] ∧ (a.l.length + b.l.length) * by_ ≤ 1099511627776 ∧ c = ⟨false, a.l ++ b.l⟩) := by
  unfold appS at h
  split at h
  · rename_i e; injection h with h; exact .inl ⟨e, h.symm⟩
  · rename_i x xs e
    split at h
    · rename_i hc; injection h with h; exact .inr ⟨by rw [e]; simp, hc, h.symm⟩
    · cases h

/-- The state behind an append. -/
theorem app_state {α : Type} [Enc α] {z : Bool} {t1 : T} {a b : Sl α} {news : List T} {kx : Option Nat} (hkx : σ.okK kx = true) (hbk : ∀ i, kx = some i → σ0.next ≤ i) (hH : Heap σ0 σ (.own z (Enc.w α) t1 a.t :: ents ++ es)) (hb : b.l ≠ []) (h1 : news.all T.one = true)
    (hn : news.length = b.l.length * Enc.w α) (hsz : Enc.w α ≠ 0) (hh : ∀ S σ', HeapR σ ents S → S.Nodup → (∀ x ∈ S, σ'.blk x = σ.blk x) → ∃ S2 k, (∀ x ∈ S2, x ∈ S) ∧ S2.Nodup ∧ frzL (hold z σ' k) news = some (cellsL b.l, S2)) :
    ((t1 = .row true 0 [] ∨ t1 = .emp) ∧ a.l.length = 0 ∧ Heap σ0 (σ.pushK kx (mkBlk news (Enc.w α))) (.own z (Enc.w α) (.ref (σ.nid kx) 0 0 b.l.length) (Sl.t ⟨false, a.l ++ b.l⟩) :: es)) ∨
    (∃ x B, t1 = .ref x B.ep 0 a.l.length ∧ σ.blk x = some B ∧ B.cells.length = a.l.length * B.esz ∧ B.low ≤ B.ep ∧ B.esz = Enc.w α ∧ Heap σ0 (σ.set x { B with cells := B.cells ++ news, ep := B.ep + 1, ver := B.ver + 1 }) (.own z (Enc.w α) (.ref x (B.ep + 1) 0 (a.l.length + b.l.length)) (Sl.t ⟨false, a.l ++ b.l⟩) :: es)) := by
  obtain ⟨S, ⟨ht, hwd, k, h2⟩, _, _⟩ := hH.head
  have ea : a.t = .row a.z a.l.length (cellsL a.l) := rfl
  rw [ea] at h2
  have fresh : a.l = [] → Heap σ0 (σ.pushK kx (mkBlk news (Enc.w α))) (.own z (Enc.w α) (.ref (σ.nid kx) 0 0 b.l.length) (Sl.t ⟨false, a.l ++ b.l⟩) :: es) := fun ha => by
    have h0 : σ0.next ≤ σ.nid kx := by
      cases kx with
      | none => exact hH.grow.nx
      | some i => exact hbk i rfl
    have hf := okK_free hkx
    refine Heap.stepN (es1 := .own z (Enc.w α) t1 a.t :: ents) (es2 := [.own z (Enc.w α) (.ref (σ.nid kx) 0 0 b.l.length) (Sl.t ⟨false, a.l ++ b.l⟩)]) (es := es) hH pushK_nx (fun b hb' => by rw [pushK_blk, if_neg (by omega)]) fun F hF hnd hbd => ?_
    have hall := hF.some
    obtain ⟨S1, F1, rfl, h3, h4⟩ := hF
    have hs : ∀ y ∈ F1, (σ.pushK kx (mkBlk news (Enc.w α))).blk y = σ.blk y := fun y hy => pushK_old hkx (hall y (by simp [hy])) (hbd y (by simp [hy])).2
    obtain ⟨S2, k2, q1, q2, q3⟩ := hh F1 _ h4 (List.nodup_append.1 hnd).2.1 hs
    have hself : (σ.pushK kx (mkBlk news (Enc.w α))).blk (σ.nid kx) = some (mkBlk news (Enc.w α)) := by rw [pushK_blk, if_pos rfl]
    have hnot : σ.nid kx ∉ S2 := fun hm => by
      have hm := q1 _ hm
      rcases hf with hf | ⟨hf, _⟩
      · have := (hbd (σ.nid kx) (by simp [hm])).2; omega
      · have := hall (σ.nid kx) (by simp [hm]); rw [hf] at this; cases this
    refine ⟨σ.nid kx :: S2, ⟨σ.nid kx :: S2, [], by simp, ⟨rfl, (fun b e o n B h hB _ => by injection h with h; subst h; rw [hself] at hB; injection hB with hB; subst hB; rfl), k2 + 1, ?_⟩, rfl⟩, List.nodup_cons.2 ⟨hnot, q2⟩, ?_, fun y hy hys _ => pushK_old hkx hys hy⟩
    · simp only [hold, hself, Option.bind_some, mkBlk_cells, q3, Option.map_some, ha, List.nil_append, Sl.t]
      rw [if_pos (by simp only [mkBlk]; exact ⟨fun _ => trivial, trivial, Nat.le_refl _, trivial, hn, hsz, h1, fun e => hb (List.length_eq_zero_iff.1 e)⟩)]
    · intro y hy
      rcases List.mem_cons.1 hy with rfl | hy
      · exact .inr ⟨h0, nid_ltK hkx, hf.imp id fun h => h.1⟩
      · exact .inl (by simp [q1 _ hy])
  rcases hold_top ht h2 with ⟨rfl, hz, hn0, hcs, rfl⟩ | ⟨rfl, hz, hn0, hcs, rfl⟩ | ⟨hz, x, B, S', k', rfl, hB, c1, c3, c5, c6, c7, h3, rfl⟩
  · exact .inl ⟨.inl rfl, hn0, fresh (List.length_eq_zero_iff.1 hn0)⟩
  · exact .inl ⟨.inr rfl, hn0, fresh (List.length_eq_zero_iff.1 hn0)⟩
  · have hesz := hwd _ _ _ _ _ rfl hB hsz
    refine .inr ⟨x, B, rfl, hB, c5, c3, hesz, ?_⟩
    refine Heap.step (es1 := .own z (Enc.w α) (.ref x B.ep 0 a.l.length) a.t :: ents) (es2 := [.own z (Enc.w α) (.ref x (B.ep + 1) 0 (a.l.length + b.l.length)) (Sl.t ⟨false, a.l ++ b.l⟩)]) (es := es) hH (by simp) fun F hF hnd hbd => ?_
    obtain ⟨S1, F1, rfl, ⟨_, _, k5, h5⟩, h4⟩ := hF
    have : S1 = x :: S' := by
      have e1 := hold_mono k _ _ _ h2 (max k k5) (Nat.le_max_left _ _)
      have e2 := hold_mono k5 _ _ _ h5 (max k k5) (Nat.le_max_right _ _)
      rw [ea, e1] at e2; injection e2 with e2; injection e2 with _ e2; exact e2.symm
    subst this
    obtain ⟨n1, n2, n3⟩ := List.nodup_append.1 hnd
    have hxS : x ∉ S' := (List.nodup_cons.1 n1).1
    have hxF : x ∉ F1 := fun h => n3 x (by simp) x h rfl
    have hs : ∀ y ∈ F1, (σ.set x { B with cells := B.cells ++ news, ep := B.ep + 1, ver := B.ver + 1 }).blk y = σ.blk y := fun y hy => by
      have hne : y ≠ x := fun e => by subst e; exact hxF hy
      rw [set_blk, if_neg hne]
    obtain ⟨S2, k2, q1, q2, q3⟩ := hh F1 _ h4 n2 hs
    have h6 := frzL_congr (g := hold z (σ.set x { B with cells := B.cells ++ news, ep := B.ep + 1, ver := B.ver + 1 }) k') (fun t v S'' _ hq hq2 => hold_same k' t v S'' (fun y hy => by
      have hne : y ≠ x := fun e => by subst e; exact hxS (hq2 _ hy)
      rw [set_blk, if_neg hne]) hq) h3
    have h7 := frzL_append (frzLh_mono (Nat.le_max_left k' k2) h6) (frzLh_mono (Nat.le_max_right k' k2) q3)
    refine ⟨x :: (S' ++ S2), ⟨x :: (S' ++ S2), [], by simp, ⟨rfl, (fun b e o n B' h hB' _ => by injection h with h; subst h; rw [set_blk_self] at hB'; injection hB' with hB'; subst hB'; exact hesz), max k' k2 + 1, ?_⟩, rfl⟩, ?_, ?_, fun y hy hm => by
      have hne : y ≠ x := fun e => hm (by simp [e])
      rw [set_blk, if_neg hne]⟩
    · simp only [hold, set_blk_self, Option.bind_some, h7, Option.map_some, Sl.t, cellsL_append, List.length_append]
      rw [if_pos ⟨c1, trivial, by omega, trivial, by rw [c5, hn, hesz, Nat.add_mul], c6, by rw [List.all_append, c7, h1]; rfl, by have := List.length_pos_iff.2 hb; omega⟩]
    · refine List.nodup_cons.2 ⟨fun hm => ?_, List.nodup_append.2 ⟨(List.nodup_cons.1 n1).2, q2, fun a ha b hb => n3 a (by simp [ha]) b (q1 b hb)⟩⟩
      rcases List.mem_append.1 hm with hm | hm
      · exact hxS hm
      · exact hxF (q1 _ hm)
    · intro y hy
      refine .inl ?_
      rcases List.mem_cons.1 hy with rfl | hy
      · simp
      · rcases List.mem_append.1 hy with hy | hy
        · simp [hy]
        · simp [q1 _ hy]

/-- What is behind an append, in the abstract machine. -/
theorem app_run {α : Type} [Enc α] {z : Bool} {t1 y : T} {a b c : Sl α} {t t2 e by_ : Nat} {zc news : List T} {kx : Option Nat} (hkx : σ.okK kx = true) (hbk : ∀ i, kx = some i → σ0.next ≤ i) (hH : Heap σ0 σ (.own z (Enc.w α) t1 a.t :: ents ++ es)) (hc : appS by_ a b = some c)
    (he : elemOfSl P t = some e) (hz : szOf P e = some (Enc.w α)) (hby : bytesOf P e = some by_) (hzz : zeroOf P e = some zc) (hcl : (!isIntT P t2 && Nat.beq zc.length (Enc.w α) && !Nat.beq (Enc.w α) 0 && !Nat.beq by_ 0 && Nat.ble by_ 1048576) = true)
    (hy : newsA σ (Enc.w α) y = some (b.l.length, news)) (hsrc : srcOk P t2 y = true) (h1 : news.all T.one = true) (hn : news.length = b.l.length * Enc.w α)
    (hh : ∀ S σ', HeapR σ ents S → S.Nodup → (∀ x ∈ S, σ'.blk x = σ.blk x) → ∃ S2 k, (∀ x ∈ S2, x ∈ S) ∧ S2.Nodup ∧ frzL (hold z σ' k) news = some (cellsL b.l, S2))
    : ∃ t' σ', appendA P kx σ t t2 t1 y = some (t', σ') ∧ IsOne t' ∧ Heap σ0 σ' (.own z (Enc.w α) t' c.t :: es) ∧ σ.next ≤ σ'.next ∧ ∀ x, x < σ.next → kx ≠ some x → σ'.blk x = σ.blk x ∨ ((∃ e o n, t1 = .ref x e o n) ∧ (σ.blk x).isSome = true) := by
  simp only [Bool.and_eq_true, Bool.not_eq_true'] at hcl
  obtain ⟨⟨⟨⟨c1, c2⟩, c3⟩, c4⟩, c5⟩ := hcl
  have c2 := Nat.eq_of_beq_eq_true c2; have c3 := Nat.ne_of_beq_eq_false c3; have c4 := Nat.ne_of_beq_eq_false c4; have c5 := Nat.le_of_ble_eq_true c5
  have start : appendA P kx σ t t2 t1 y = match t1 with
      | .row true 0 [] => if b.l.length = 0 then some (t1, σ) else if b.l.length * by_ ≤ 2 ^ 40 ∧ σ.okK kx = true then some (.ref (σ.nid kx) 0 0 b.l.length, σ.pushK kx (mkBlk news (Enc.w α))) else none
      | .emp => if b.l.length = 0 then some (t1, σ) else if b.l.length * by_ ≤ 2 ^ 40 ∧ σ.okK kx = true then some (.ref (σ.nid kx) 0 0 b.l.length, σ.pushK kx (mkBlk news (Enc.w α))) else none
      | .row false n cs => if b.l.length = 0 then some (t1, σ) else none
      | .ref x ep off n => (σ.blk x).bind fun B =>
          if b.l.length = 0 then (if B.esz = Enc.w α ∧ B.low ≤ ep then some (t1, σ) else none)
          else if off = 0 ∧ ep = B.ep ∧ B.esz = Enc.w α ∧ B.cells.length = n * Enc.w α ∧ (n + b.l.length) * by_ ≤ 2 ^ 40 then
            some (.ref x (ep + 1) 0 (n + b.l.length), σ.set x { B with cells := B.cells ++ news, ep := ep + 1, ver := B.ver + 1 })
          else none
      | _ => none := by
    unfold appendA
    rw [he, Option.bind_some, hz, Option.bind_some, hby, Option.bind_some, hzz, Option.bind_some, c1, if_neg (by simp), if_neg (by omega), hy, Option.bind_some]
    simp only
    rw [if_neg (by simp [h1, hsrc])]
    cases t1 with
    | row z n cs => cases z <;> cases n <;> cases cs <;> rfl
    | _ => rfl
  rw [start]
  rcases appS_some hc with ⟨hb, rfl⟩ | ⟨hb, hlim, rfl⟩
  · have hb0 : b.l.length = 0 := by rw [hb]; rfl
    have hH' : Heap σ0 σ (.own z (Enc.w α) t1 c.t :: es) := Heap.step (es1 := .own z (Enc.w α) t1 c.t :: ents) (es2 := [.own z (Enc.w α) t1 c.t]) (es := es) hH (Nat.le_refl _) fun F hF hnd hbd => by
      obtain ⟨S1, F1, rfl, h3, h4⟩ := hF
      exact ⟨S1, ⟨S1, [], by simp, h3, rfl⟩, (List.nodup_append.1 hnd).1, fun x hx => .inl (by simp [hx]), fun _ _ _ => rfl⟩
    obtain ⟨S, ⟨ht, hwd, k, h2⟩, _, _⟩ := hH.head
    have hone := isTop_one ht
    rcases hold_top ht h2 with ⟨rfl, _⟩ | ⟨rfl, _⟩ | ⟨_, x, B, S', k', rfl, hB, q1, q3, q5, q6, q7, h3, rfl⟩
    · exact ⟨_, σ, by simp [hb0], hone, hH', Nat.le_refl _, fun _ _ _ => .inl rfl⟩
    · exact ⟨_, σ, by simp [hb0], hone, hH', Nat.le_refl _, fun _ _ _ => .inl rfl⟩
    · refine ⟨_, σ, ?_, hone, hH', Nat.le_refl _, fun _ _ _ => .inl rfl⟩
      simp only [hB, Option.bind_some, hb0, if_true]
      rw [if_pos ⟨hwd _ _ _ _ _ rfl hB c3, q3⟩]
  · have hb0 : b.l.length ≠ 0 := fun h => hb (List.length_eq_zero_iff.1 h)
    rcases app_state hkx hbk hH hb h1 hn c3 hh with ⟨h | h, h0, hH'⟩ | ⟨x, B, rfl, hB, q5, q3, hesz, hH'⟩
    · subst h
      refine ⟨_, _, ?_, ⟨rfl, rfl⟩, hH', pushK_nx, fun x hx hne => .inl (by rw [pushK_blk, if_neg]; rintro rfl; cases kx with | none => simp [St.nid] at hx | some i => exact hne rfl)⟩
      simp only
      rw [if_neg hb0, if_pos ⟨by rw [h0] at hlim; simpa using hlim, hkx⟩]
    · subst h
      refine ⟨_, _, ?_, ⟨rfl, rfl⟩, hH', pushK_nx, fun x hx hne => .inl (by rw [pushK_blk, if_neg]; rintro rfl; cases kx with | none => simp [St.nid] at hx | some i => exact hne rfl)⟩
      simp only
      rw [if_neg hb0, if_pos ⟨by rw [h0] at hlim; simpa using hlim, hkx⟩]
    · refine ⟨_, _, ?_, ⟨rfl, rfl⟩, hH', Nat.le_refl _, fun y _ _ => ?_⟩
      rotate_left
      · by_cases e : y = x
        · subst e; exact .inr ⟨⟨_, _, _, rfl⟩, by rw [hB]; rfl⟩
        · exact .inl (by rw [set_blk, if_neg e])
      simp only [hB, Option.bind_some]
      rw [if_neg hb0, if_pos ⟨trivial, trivial, hesz, by rw [q5, hesz], hlim⟩]

/-- What a held slice shows when it is read. -/
theorem held_cells {α : Type} [Enc α] {z : Bool} {y : T} {b : Sl α} {t2 : TypeId} (hH : Heap σ0 σ (.own z (Enc.w α) y b.t :: es)) (hsz : Enc.w α ≠ 0) (hk : kindT P t2 = 4) :
    ∃ news, newsA σ (Enc.w α) y = some (b.l.length, news) ∧ srcOk P t2 y = true ∧ news.all T.one = true ∧ news.length = b.l.length * Enc.w α ∧
      ∀ S σ', HeapR σ [.own z (Enc.w α) y b.t] S → S.Nodup → (∀ x ∈ S, σ'.blk x = σ.blk x) → ∃ S2 k, (∀ x ∈ S2, x ∈ S) ∧ S2.Nodup ∧ frzL (hold z σ' k) news = some (cellsL b.l, S2) := by
  obtain ⟨S, ⟨ht, hwd, k, h2⟩, _, _⟩ := hH.head
  have eb : b.t = .row b.z b.l.length (cellsL b.l) := rfl
  have h2' := h2
  rw [eb] at h2
  have hs0 : y.isStr = false := by cases y <;> simp [isTop] at ht <;> rfl
  have hsrc : srcOk P t2 y = true := by simp [srcOk, hs0, hk]
  rcases hold_top ht h2 with ⟨rfl, hz, hn0, hcs, rfl⟩ | ⟨rfl, hz, hn0, hcs, rfl⟩ | ⟨hz, x, B, S', k', rfl, hB, c1, c3, c5, c6, c7, h3, rfl⟩
  · exact ⟨[], by simp [newsA, cellsOf, hn0], hsrc, rfl, by simp [hn0], fun S σ' _ _ _ => ⟨[], 0, by simp, by simp, by rw [hcs]; rfl⟩⟩
  · exact ⟨[], by simp [newsA, cellsOf, hn0], hsrc, rfl, by simp [hn0], fun S σ' _ _ _ => ⟨[], 0, by simp, by simp, by rw [hcs]; rfl⟩⟩
  · have hesz := hwd _ _ _ _ _ rfl hB hsz
    refine ⟨B.cells, ?_, hsrc, c7, by rw [c5, hesz], fun S σ' hR hnd hx => ?_⟩
    · have e : (B.cells.drop 0).take (b.l.length * B.esz) = B.cells := by rw [List.drop_zero, ← c5, List.take_length]
      simp only [newsA, cellsOf, hB, Option.bind_some, if_pos c3, e]
      rw [if_pos (by rw [c5, hesz])]
    · obtain ⟨S1, F1, rfl, ⟨_, _, k5, h5⟩, h4⟩ := hR
      cases h4
      have e : S1 = x :: S' := by
        have e1 := hold_mono k _ _ _ h2' (max k k5) (Nat.le_max_left _ _)
        have e2 := hold_mono k5 _ _ _ h5 (max k k5) (Nat.le_max_right _ _)
        rw [e1] at e2; injection e2 with e2; injection e2 with _ e2; exact e2.symm
      subst e
      refine ⟨S', k', fun y hy => by simp [hy], ?_, frzL_congr (fun t v S'' _ hq hq2 => hold_same k' t v S'' (fun y hy => hx y (by simp [hq2 y hy])) hq) h3⟩
      simp only [List.append_nil] at hnd
      exact (List.nodup_cons.1 hnd).2

/-- A held slice behind a held slice. -/
theorem q_appC {m : Mo} (hm : m.chg = true) (hmb : m.base σ0) {α : Type} [Enc α] {z : Bool} {x y : Operand} {t1 ty1 : T} {a b c : Sl α} {t t2 e by_ : Nat} {zc : List T} (hwr : ∀ b e o n, t1 = .ref b e o n → m.wr b) (hw : want ops L g = some true) (hS : Sub L s) (hH : Heap σ0 σ (.own z (Enc.w α) t1 a.t :: .own z (Enc.w α) ty1 b.t :: es))
    (hx : gE (get L) x = some t1) (hy : gE (get L) y = some ty1) (he : elemOfSl P t = some e) (hz : szOf P e = some (Enc.w α)) (hby : bytesOf P e = some by_) (hzz : zeroOf P e = some zc)
    (hcl : (!isIntT P t2 && Nat.beq zc.length (Enc.w α) && !Nat.beq (Enc.w α) 0 && !Nat.beq by_ 0 && Nat.ble by_ 1048576) = true) (hk : kindT P t2 = 4) (hc : appS by_ a b = some c)
    (kk : ∀ t' σ' s', IsOne t' → Heap σ0 σ' (.own z (Enc.w α) t' c.t :: es) → Sub (putL L d t') s' → opsX P O ops (nxM m) l K ⟨s', σ'⟩) : opsX P O ops m (⟨d, .call ⟨.builtin .append, #[x, y], #[t, t2]⟩, ty, ps, af, g⟩ :: l) K ⟨s, σ⟩ := by
  have hsz : Enc.w α ≠ 0 := by simp only [Bool.and_eq_true, Bool.not_eq_true'] at hcl; exact Nat.ne_of_beq_eq_false hcl.1.1.2
  obtain ⟨news, h1, h2, h3, h4, h5⟩ := held_cells (P := P) (t2 := t2) (hH.pull 1) hsz hk
  refine x_newC hm rfl (want_sound hS hw) fun kx hkx hi => ?_
  obtain ⟨t', σ', k1, k2, k3, k4, k5⟩ := app_run hkx (Mo.inb_base hi hmb) (ents := [.own z (Enc.w α) ty1 b.t]) hH hc he hz hby hzz hcl h1 h2 h3 h4 h5
  refine ⟨t', σ', ?_, ⟨k4, fun x hx hne => (k5 x hx hne).imp id fun h => ⟨by obtain ⟨⟨e, o, n, h1⟩, _⟩ := h; exact hwr x e o n h1, h.2⟩⟩, ?_⟩
  · have ev : evals s [x, y] = some [t1, ty1] := by simp only [evals, gE_sound hS hx, gE_sound hS hy, Option.bind_some, Option.map_some]
    show ((evals s [x, y]).bind fun args => match args, [t, t2] with | [x, y], [t, t2] => (appendA P kx σ t t2 x y).map fun (x, σ) => ARes.val x σ | _, _ => none) = _
    rw [ev, Option.bind_some]
    show (appendA P kx σ t t2 _ _).map _ = _
    rw [k1]; rfl
  · rw [put_eq]; exact kk _ _ _ k2 k3 (sub_putL hS d _ σ)
theorem q_app {α : Type} [Enc α] {z : Bool} {x y : Operand} {t1 ty1 : T} {a b c : Sl α} {t t2 e by_ : Nat} {zc : List T} (hw : want ops L g = some true) (hS : Sub L s) (hH : Heap σ0 σ (.own z (Enc.w α) t1 a.t :: .own z (Enc.w α) ty1 b.t :: es))
    (hx : gE (get L) x = some t1) (hy : gE (get L) y = some ty1) (he : elemOfSl P t = some e) (hz : szOf P e = some (Enc.w α)) (hby : bytesOf P e = some by_) (hzz : zeroOf P e = some zc)
    (hcl : (!isIntT P t2 && Nat.beq zc.length (Enc.w α) && !Nat.beq (Enc.w α) 0 && !Nat.beq by_ 0 && Nat.ble by_ 1048576) = true) (hk : kindT P t2 = 4) (hc : appS by_ a b = some c)
    (kk : ∀ t' σ' s', IsOne t' → Heap σ0 σ' (.own z (Enc.w α) t' c.t :: es) → Sub (putL L d t') s' → opsX P O ops .q l K ⟨s', σ'⟩) : opsX P O ops .q (⟨d, .call ⟨.builtin .append, #[x, y], #[t, t2]⟩, ty, ps, af, g⟩ :: l) K ⟨s, σ⟩ :=
  q_appC (m := .q) rfl trivial (fun _ _ _ _ _ => trivial) hw hS hH hx hy he hz hby hzz hcl hk hc kk

/-- A row behind a held slice. -/
theorem q_appRC {m : Mo} (hm : m.chg = true) (hmb : m.base σ0) {α : Type} [Enc α] {z : Bool} [Hld z α] {x y : Operand} {t1 : T} {a b c : Sl α} {t t2 e by_ : Nat} {zc : List T} (hwr : ∀ b e o n, t1 = .ref b e o n → m.wr b) (hw : want ops L g = some true) (hS : Sub L s) (hH : Heap σ0 σ (.own z (Enc.w α) t1 a.t :: es))
    (hx : gE (get L) x = some t1) (hy : gE (get L) y = some b.t) (he : elemOfSl P t = some e) (hz : szOf P e = some (Enc.w α)) (hby : bytesOf P e = some by_) (hzz : zeroOf P e = some zc)
    (hcl : (!isIntT P t2 && Nat.beq zc.length (Enc.w α) && !Nat.beq (Enc.w α) 0 && !Nat.beq by_ 0 && Nat.ble by_ 1048576) = true) (hk : kindT P t2 = 4) (hc : appS by_ a b = some c)
    (kk : ∀ t' σ' s', IsOne t' → Heap σ0 σ' (.own z (Enc.w α) t' c.t :: es) → Sub (putL L d t') s' → opsX P O ops (nxM m) l K ⟨s', σ'⟩) : opsX P O ops m (⟨d, .call ⟨.builtin .append, #[x, y], #[t, t2]⟩, ty, ps, af, g⟩ :: l) K ⟨s, σ⟩ := by
  have h1 : newsA σ (Enc.w α) b.t = some (b.l.length, cellsL b.l) := by simp only [newsA, Sl.t, cellsOf, Option.bind_some, cellsL_len, if_true]
  have h2 : srcOk P t2 b.t = true := by simp [srcOk, Sl.t, T.isStr, hk]
  refine x_newC hm rfl (want_sound hS hw) fun kx hkx hi => ?_
  obtain ⟨t', σ', k1, k2, k3, k4, k5⟩ := app_run hkx (Mo.inb_base hi hmb) (ents := []) hH hc he hz hby hzz hcl h1 h2 (cellsL_one b.l) (cellsL_len b.l) (fun S σ' _ _ _ => ⟨[], 0, by simp, by simp, Hld.list σ' 0 b.l⟩)
  refine ⟨t', σ', ?_, ⟨k4, fun x hx hne => (k5 x hx hne).imp id fun h => ⟨by obtain ⟨⟨e, o, n, h1⟩, _⟩ := h; exact hwr x e o n h1, h.2⟩⟩, ?_⟩
  · have ev : evals s [x, y] = some [t1, b.t] := by simp only [evals, gE_sound hS hx, gE_sound hS hy, Option.bind_some, Option.map_some]
    show ((evals s [x, y]).bind fun args => match args, [t, t2] with | [x, y], [t, t2] => (appendA P kx σ t t2 x y).map fun (x, σ) => ARes.val x σ | _, _ => none) = _
    rw [ev, Option.bind_some]
    show (appendA P kx σ t t2 _ _).map _ = _
    rw [k1]; rfl
  · rw [put_eq]; exact kk _ _ _ k2 k3 (sub_putL hS d _ σ)
theorem q_appR {α : Type} [Enc α] {z : Bool} [Hld z α] {x y : Operand} {t1 : T} {a b c : Sl α} {t t2 e by_ : Nat} {zc : List T} (hw : want ops L g = some true) (hS : Sub L s) (hH : Heap σ0 σ (.own z (Enc.w α) t1 a.t :: es))
    (hx : gE (get L) x = some t1) (hy : gE (get L) y = some b.t) (he : elemOfSl P t = some e) (hz : szOf P e = some (Enc.w α)) (hby : bytesOf P e = some by_) (hzz : zeroOf P e = some zc)
    (hcl : (!isIntT P t2 && Nat.beq zc.length (Enc.w α) && !Nat.beq (Enc.w α) 0 && !Nat.beq by_ 0 && Nat.ble by_ 1048576) = true) (hk : kindT P t2 = 4) (hc : appS by_ a b = some c)
    (kk : ∀ t' σ' s', IsOne t' → Heap σ0 σ' (.own z (Enc.w α) t' c.t :: es) → Sub (putL L d t') s' → opsX P O ops .q l K ⟨s', σ'⟩) : opsX P O ops .q (⟨d, .call ⟨.builtin .append, #[x, y], #[t, t2]⟩, ty, ps, af, g⟩ :: l) K ⟨s, σ⟩ :=
  q_appRC (m := .q) rfl trivial (fun _ _ _ _ _ => trivial) hw hS hH hx hy he hz hby hzz hcl hk hc kk

theorem cellsL_replicate {α : Type} [Enc α] (x : α) : ∀ n, cellsL (List.replicate n x) = (List.replicate n (Enc.cells x)).flatten
  | 0 => rfl
  | n + 1 => by simp only [List.replicate_succ, cellsL, List.flatten_cons, cellsL_replicate x n]

/-- A row of zeros. -/
def mkS {α : Type} (by_ : Nat) (x : α) (n c : Int) : Option (Sl α) := if 0 ≤ n ∧ n ≤ c ∧ c * by_ ≤ 1099511627776 ∧ c ≤ 1099511627776 ∧ (n = 0 → c = 0) then some ⟨false, List.replicate n.toNat x⟩ else none
theorem q_make {α : Type} [Enc α] {z : Bool} {x y : Operand} {k1 k2 : IntKind} {n c : Int} {t e by_ : Nat} {x0 : α} {r : Sl α} (hz0 : ∀ σ d, frzL (hold z σ d) (Enc.cells x0) = some (Enc.cells x0, [])) (hw : want ops L g = some true) (hS : Sub L s) (hH : Heap σ0 σ es)
    (hx : gE (get L) x = some (.int k1 n)) (hy : gE (get L) y = some (.int k2 c)) (he : elemOfSl P t = some e) (hz : szOf P e = some (Enc.w α)) (hby : bytesOf P e = some by_) (hzz : zeroOf P e = some (Enc.cells x0)) (hsz : Nat.beq (Enc.w α) 0 = false) (hc : mkS by_ x0 n c = some r)
    (kk : ∀ t' σ' s', IsOne t' → Heap σ0 σ' (.own z (Enc.w α) t' r.t :: es) → Sub (putL L d t') s' → opsX P O ops .q l K ⟨s', σ'⟩) : opsX P O ops .q (⟨d, .makeSlice t x y, ty, ps, af, g⟩ :: l) K ⟨s, σ⟩ := by
  have hsz := Nat.ne_of_beq_eq_false hsz
  unfold mkS at hc
  split at hc
  · rename_i hh
    injection hc with hc; subst hc
    have hlen : ((List.replicate n.toNat (Enc.cells x0)).flatten).length = n.toNat * Enc.w α := by simp [Enc.len]
    have hfr : ∀ (σ' : St) (m : Nat), frzL (hold z σ' 0) (cellsL (List.replicate m x0)) = some (cellsL (List.replicate m x0), []) := fun σ' m => by
      induction m with
      | zero => rfl
      | succ m ih => simpa [List.replicate_succ, cellsL] using frzL_append (hz0 σ' 0) ih
    have hrow : Sl.t (⟨false, List.replicate n.toNat x0⟩ : Sl α) = .row false n.toNat (cellsL (List.replicate n.toNat x0)) := by simp [Sl.t]
    by_cases hn0 : n = 0
    · have hc0 := hh.2.2.2.2 hn0
      refine x_new (v := .emp) (σ' := σ.pushK none (mkBlk ((List.replicate n.toNat (Enc.cells x0)).flatten) (Enc.w α))) (want_sound hS hw) ?_ ?_
      · rw [a_makeSlice, gE_sound hS hx, Option.bind_some, gE_sound hS hy, Option.bind_some, mkSlA_int, he, Option.bind_some, hz, Option.bind_some, hby, Option.bind_some, hzz, Option.bind_some, if_pos ⟨hh.1, hh.2.1, hh.2.2.1, hh.2.2.2.1, Enc.len x0, hsz, rfl⟩, if_pos ⟨hn0, hc0⟩]
      · rw [put_eq]
        refine kk _ _ _ ⟨rfl, rfl⟩ ?_ (sub_putL hS d _ σ)
        rw [hrow, hn0]
        exact (hH.junk (k := none) rfl (fun _ e => by cases e) _).addEmp z _
    · refine x_new (v := .ref σ.next 0 0 n.toNat) (σ' := σ.pushK none (mkBlk ((List.replicate n.toNat (Enc.cells x0)).flatten) (Enc.w α))) (want_sound hS hw) ?_ ?_
      · rw [a_makeSlice, gE_sound hS hx, Option.bind_some, gE_sound hS hy, Option.bind_some, mkSlA_int, he, Option.bind_some, hz, Option.bind_some, hby, Option.bind_some, hzz, Option.bind_some, if_pos ⟨hh.1, hh.2.1, hh.2.2.1, hh.2.2.2.1, Enc.len x0, hsz, rfl⟩, if_neg fun w => hn0 w.1]; rfl
      · rw [put_eq]
        refine kk _ _ _ ⟨rfl, rfl⟩ ?_ (sub_putL hS d _ σ)
        rw [hrow, ← cellsL_replicate]
        refine Heap.step (es1 := []) (es2 := [.own z (Enc.w α) (.ref σ.next 0 0 n.toNat) (.row false n.toNat (cellsL (List.replicate n.toNat x0)))]) (es := es) hH (by simp) fun S hS _ _ => ?_
        refine ⟨[σ.next], ⟨[σ.next], [], rfl, ⟨rfl, (fun b e o n B h hB _ => by injection h with h; subst h; rw [push_blk_self] at hB; injection hB with hB; subst hB; rfl), 1, ?_⟩, rfl⟩, by simp, fun b hb => by simp at hb; subst hb; exact .inr ⟨Nat.le_refl _, by simp⟩, fun b hb _ => by rw [push_blk, if_neg (by omega)]⟩
        simp only [hold, push_blk_self, Option.bind_some, mkBlk_cells, hfr, Option.map_some]
        rw [if_pos (by simp only [mkBlk]; exact ⟨fun _ => trivial, trivial, Nat.le_refl _, trivial, by rw [cellsL_replicate]; exact hlen, hsz, cellsL_one _, by have := hh.1; omega⟩)]
  · cases hc

/-- How many elements a held slice has. -/
theorem q_lenH {α : Type} [Enc α] {z : Bool} {x : Operand} {w : Nat} {t1 : T} {a : Sl α} {t : TypeId} {m : Mo} (hw : want ops L g = some true) (hS : Sub L s) (hH : Heap σ0 σ (.own z w t1 a.t :: es)) (hx : gE (get L) x = some t1) (hk : kindT P t = 4)
    (kk : ∀ s', Sub (putL L d (.int .i64 a.l.length)) s' → opsX P O ops (nxM m) l K ⟨s', σ⟩) : opsX P O ops m (⟨d, .call ⟨.builtin .len, #[x], #[t]⟩, ty, ps, af, g⟩ :: l) K ⟨s, σ⟩ := by
  obtain ⟨S, ⟨ht, hwd, k, h2⟩, _, _⟩ := hH.head
  have ea : a.t = .row a.z a.l.length (cellsL a.l) := rfl
  rw [ea] at h2
  have hl : lenA P σ t t1 = some (.int .i64 a.l.length) := by
    rcases hold_top ht h2 with ⟨rfl, hz, hn0, hcs, rfl⟩ | ⟨rfl, hz, hn0, hcs, rfl⟩ | ⟨hz, x, B, S', k', rfl, hB, _⟩
    · simp [hk, hn0]
    · simp [hk, hn0]
    · simp [hk]
  refine q_val hw hS (fun kk σ' _ => ?_) kk
  have ev : evals s [x] = some [t1] := by simp only [evals, gE_sound hS hx, Option.bind_some, Option.map_some]
  rw [a_len]
  show (evals s [x]).bind _ = _
  rw [ev, Option.bind_some, lenR_eq, lenA_st P σ' σ, hl]; rfl
end

/-! ### elements of held slices -/
section
variable {P : Program} {O : Oracle} {ops : Array Oper} {l : List Oper} {K : Fr → Prop} {s : Nat → T} {σ σ0 : St} {L : List (Nat × T)} {es ents : List Ent}
variable {d : Option Nat} {ty : TypeId} {ps : String} {af : Array Edge} {g : Option (Nat × Bool)}

theorem frzL_split {f : T → Option (T × List Nat)} : ∀ {ts vs : List T} {F : List Nat} (n : Nat), frzL f ts = some (vs, F) → ∃ F1 F2, F = F1 ++ F2 ∧ frzL f (ts.take n) = some (vs.take n, F1) ∧ frzL f (ts.drop n) = some (vs.drop n, F2)
  | ts, vs, F, 0, h => ⟨[], F, rfl, by simp [frzL], by simpa using h⟩
  | [], vs, F, n + 1, h => by simp [frzL] at h; obtain ⟨rfl, rfl⟩ := h; exact ⟨[], [], rfl, by simp [frzL], by simp [frzL]⟩
  | t :: ts, vs, F, n + 1, h => by
    simp only [frzL] at h
    obtain ⟨⟨v0, S0⟩, h1, h2⟩ := Option.bind_eq_some_iff.1 h
    obtain ⟨⟨us, S1⟩, h3, h4⟩ := Option.map_eq_some_iff.1 h2
    injection h4 with h4 h5; subst h4; subst h5
    obtain ⟨F1, F2, rfl, h6, h7⟩ := frzL_split n h3
    exact ⟨S0 ++ F1, F2, by simp, by simp only [List.take_succ_cons, frzL, h1, Option.bind_some, h6, Option.map_some], by simpa using h7⟩

/-- A held slice that has an element lies in a block. -/
theorem held_ref {α : Type} [Enc α] {z : Bool} {w : Nat} {t1 : T} {a : Sl α} {j : Int} {y : α} (hH : Heap σ0 σ (.own z w t1 a.t :: es)) (hy : elt a j = some y) : ∃ b ep, t1 = .ref b ep 0 a.l.length := by
  obtain ⟨S, ⟨ht, hwd, k, h2⟩, _, _⟩ := hH.head
  have ea : a.t = .row a.z a.l.length (cellsL a.l) := rfl
  rw [ea] at h2
  obtain ⟨q1, q2, q3⟩ := elt_some hy
  rcases hold_top ht h2 with ⟨rfl, hz, hn0, hcs, rfl⟩ | ⟨rfl, hz, hn0, hcs, rfl⟩ | ⟨hz, x, B, S', k', rfl, hB, _⟩
  · omega
  · omega
  · exact ⟨_, _, rfl⟩

/-- An element's cells, by the lengths. -/
theorem hold_esz {α : Type} [Enc α] {f : T → Option (T × List Nat)} {B : Blk} {a : List α} {S : List Nat} (h : B.cells.length = a.length * B.esz) (h3 : frzL f B.cells = some (cellsL a, S)) (hn : 0 < a.length) : B.esz = Enc.w α := by
  have h4 := frzL_length h3
  rw [cellsL_len, h] at h4
  exact (Nat.eq_of_mul_eq_mul_left hn h4).symm
theorem q_hidx {α : Type} [Enc α] {z : Bool} {w : Nat} {m : Mo} {x i : Operand} {t e : TypeId} {t1 : T} {a : Sl α} {kk : IntKind} {j : Int} {y : α} (hm : ∀ b e o n, t1 = .ref b e o n → m.lt b) (hw : want ops L g = some true) (hS : Sub L s) (hH : Heap σ0 σ (.own z w t1 a.t :: es)) (hx : gE (get L) x = some t1) (hi : gE (get L) i = some (.int kk j))
    (he : elemOfSl P t = some e) (hz : szOf P e = some (Enc.w α)) (hy : elt a j = some y)
    (k : ∀ b ep s', t1 = .ref b ep 0 a.l.length → Sub (putL L d (.ptr b ep (j.toNat * Enc.w α) (Enc.w α))) s' → opsX P O ops (nxM m) l K ⟨s', σ⟩) : opsX P O ops m (⟨d, .indexAddr t x i, ty, ps, af, g⟩ :: l) K ⟨s, σ⟩ := by
  obtain ⟨b, ep, hr⟩ := held_ref hH hy
  obtain ⟨q1, q2, q3⟩ := elt_some hy
  obtain ⟨S, ⟨ht, hwd, k', h2⟩, _, _⟩ := hH.head
  have ea : a.t = .row a.z a.l.length (cellsL a.l) := rfl
  rw [ea] at h2
  rcases hold_top ht h2 with ⟨rfl, hz, hn0, hcs, rfl⟩ | ⟨rfl, hz, hn0, hcs, rfl⟩ | ⟨hzz, x', B, S', k'', rfl, hB, c1, c3, c5, c6, c7, h3, rfl⟩
  · cases hr
  · cases hr
  · injection hr with e1 e2 _ _
    subst e1; subst e2
    refine q_val hw hS (fun kk σ' ha' => ?_) (fun s' => k x' B.ep s' rfl)
    rw [a_indexAddr, gE_sound hS hx, Option.bind_some, gE_sound hS hi, Option.bind_some, iA_ref, he, Option.bind_some, hz, Option.bind_some, Mo.al_blk ha' (hm _ _ _ _ rfl), hB, Option.bind_some, if_pos ⟨q1, q2, hold_esz c5 h3 (by omega)⟩, Nat.zero_add]; rfl

/-- A part of an element that shows no slice. -/
theorem q_hload {α : Type} [Enc α] {z : Bool} {w : Nat} {m : Mo} {ad : Operand} {t : TypeId} {t1 : T} {a : Sl α} {j : Int} {y : α} {b ep off n : Nat} {c : List T} {v : T} (hm : ∀ b e o n, t1 = .ref b e o n → m.lt b) (hw : want ops L g = some true) (hS : Sub L s) (hH : Heap σ0 σ (.own z w t1 a.t :: es)) (hr : t1 = .ref b ep 0 a.l.length)
    (ha : gE (get L) ad = some (.ptr b ep (j.toNat * Enc.w α + off) n)) (hy : elt a j = some y) (hc : Enc.cells y = c) (hag : aggOf P t = some false) (hv : c[off]? = some v) (hn : Nat.ble 1 n = true) (hlf : ∀ σ d t S, hold z σ d t = some (v, S) → t = v)
    (k : ∀ s', Sub (putL L d v) s' → opsX P O ops (nxM m) l K ⟨s', σ⟩) : opsX P O ops m (⟨d, .load t ad, ty, ps, af, g⟩ :: l) K ⟨s, σ⟩ := by
  obtain ⟨q1, q2, q3⟩ := elt_some hy
  obtain ⟨S, ⟨ht, hwd, k', h2⟩, _, _⟩ := hH.head
  have ea : a.t = .row a.z a.l.length (cellsL a.l) := rfl
  rw [ea] at h2
  rcases hold_top ht h2 with ⟨rfl, hz, hn0, hcs, rfl⟩ | ⟨rfl, hz, hn0, hcs, rfl⟩ | ⟨hzz, x', B, S', k'', rfl, hB, c1, c3, c5, c6, c7, h3, rfl⟩
  · cases hr
  · cases hr
  · injection hr with e1 e2 _ _
    subst e1; subst e2
    obtain ⟨F1, F2, _, _, h5⟩ := frzL_split (j.toNat * Enc.w α) h3
    rw [cellsL_at a.l j.toNat y q3, hc] at h5
    obtain ⟨F3, F4, _, _, h6⟩ := frzL_split off h5
    have hoff : off < c.length := (List.getElem?_eq_some_iff.1 hv).1
    have e1 : (c ++ cellsL (a.l.drop (j.toNat + 1))).drop off = v :: ((c ++ cellsL (a.l.drop (j.toNat + 1))).drop (off + 1)) := by
      rw [List.drop_eq_getElem_cons (by simp; omega)]
      congr 1
      rw [List.getElem_append_left hoff]
      exact (List.getElem?_eq_some_iff.1 hv).2
    rw [e1, List.drop_drop] at h6
    have hlen : (B.cells.drop (j.toNat * Enc.w α + off)) ≠ [] := fun h => by rw [h] at h6; simp [frzL] at h6
    obtain ⟨c0, cr, hcr⟩ := List.exists_cons_of_ne_nil hlen
    rw [hcr] at h6
    simp only [frzL] at h6
    obtain ⟨p, h7, h8⟩ := Option.bind_eq_some_iff.1 h6
    obtain ⟨q, h9, h10⟩ := Option.map_eq_some_iff.1 h8
    injection h10 with h10 _
    injection h10 with h10 _
    have hcv : c0 = v := hlf σ k'' c0 p.2 (by rw [h7, ← h10])
    refine q_val hw hS (fun kk σ' ha' => ?_) k
    rw [a_load, gE_sound hS ha, Option.bind_some, loadA_ptr, Mo.al_blk ha' (hm _ _ _ _ rfl), hB, Option.bind_some, if_pos c3, part_eq, hag, Option.bind_some, partA_false, hcr, hcv]
    have := Nat.le_of_ble_eq_true hn
    obtain ⟨n, rfl⟩ : ∃ k, n = k + 1 := ⟨n - 1, by omega⟩
    simp
theorem leaf_int {z : Bool} {k : IntKind} {n : Int} : ∀ (σ : St) (d : Nat) (t : T) (S : List Nat), hold z σ d t = some (.int k n, S) → t = .int k n := fun σ d t S h => by
  cases t with
  | row zz m cs => have := (hold_row h).1; cases this
  | ref b e o m =>
    cases d with
    | zero => simp [hold] at h
    | succ d =>
      simp only [hold] at h
      obtain ⟨B, _, h⟩ := Option.bind_eq_some_iff.1 h
      split at h
      · obtain ⟨q, _, h⟩ := Option.map_eq_some_iff.1 h; injection h with h _; cases h
      · cases h
  | agg cs => cases d <;> simp [hold] at h
  | tup cs => cases d <;> simp [hold] at h
  | emp => cases d <;> simp [hold] at h
  | _ => cases d <;> simp [hold] at h <;> simp_all
theorem leaf_bool {z : Bool} {n : Bool} : ∀ (σ : St) (d : Nat) (t : T) (S : List Nat), hold z σ d t = some (.bool n, S) → t = .bool n := fun σ d t S h => by
  cases t with
  | row zz m cs => have := (hold_row h).1; cases this
  | ref b e o m =>
    cases d with
    | zero => simp [hold] at h
    | succ d =>
      simp only [hold] at h
      obtain ⟨B, _, h⟩ := Option.bind_eq_some_iff.1 h
      split at h
      · obtain ⟨q, _, h⟩ := Option.map_eq_some_iff.1 h; injection h with h _; cases h
      · cases h
  | agg cs => cases d <;> simp [hold] at h
  | tup cs => cases d <;> simp [hold] at h
  | emp => cases d <;> simp [hold] at h
  | _ => cases d <;> simp [hold] at h <;> simp_all
theorem leaf_str {z : Bool} {n : ByteArray} : ∀ (σ : St) (d : Nat) (t : T) (S : List Nat), hold z σ d t = some (.str n, S) → t = .str n := fun σ d t S h => by
  cases t with
  | row zz m cs => have := (hold_row h).1; cases this
  | ref b e o m =>
    cases d with
    | zero => simp [hold] at h
    | succ d =>
      simp only [hold] at h
      obtain ⟨B, _, h⟩ := Option.bind_eq_some_iff.1 h
      split at h
      · obtain ⟨q, _, h⟩ := Option.map_eq_some_iff.1 h; injection h with h _; cases h
      · cases h
  | agg cs => cases d <;> simp [hold] at h
  | tup cs => cases d <;> simp [hold] at h
  | emp => cases d <;> simp [hold] at h
  | _ => cases d <;> simp [hold] at h <;> simp_all

/-- Another element in a row. -/
def setS {α : Type} (a : Sl α) (j : Int) (y : α) : Sl α := ⟨a.z, a.l.set j.toNat y⟩
theorem cellsL_set {α : Type} [Enc α] : ∀ (l : List α) (i : Nat) (x y : α), l[i]? = some x → cellsL (l.set i y) = (cellsL l).take (i * Enc.w α) ++ Enc.cells y ++ (cellsL l).drop (i * Enc.w α + Enc.w α)
  | [], i, x, y, h => by simp at h
  | a :: l, 0, x, y, h => by simp [cellsL, Enc.len]
  | a :: l, i + 1, x, y, h => by
    have ih := cellsL_set l i x y (by simpa using h)
    simp only [List.set_cons_succ, cellsL, ih]
    rw [List.take_append, List.drop_append, Enc.len, List.take_of_length_le (l := Enc.cells a) (by rw [Enc.len, Nat.succ_mul]; omega), List.drop_of_length_le (l := Enc.cells a) (by rw [Enc.len, Nat.succ_mul]; omega), show (i + 1) * Enc.w α - Enc.w α = i * Enc.w α by rw [Nat.succ_mul]; omega, show (i + 1) * Enc.w α + Enc.w α - Enc.w α = i * Enc.w α + Enc.w α by rw [Nat.succ_mul]; omega]
    simp

theorem splice_row (A c R vs : List T) (p o n w : Nat) (hA : A.length = p) (hc : c.length = w) (h : o + n ≤ w) :
    A ++ (c.take o ++ vs ++ c.drop (o + n)) ++ (A ++ (c ++ R)).drop (p + w) = (A ++ (c ++ R)).take (p + o) ++ vs ++ ((A ++ (c ++ R)).drop (p + o)).drop n := by
  subst hA; subst hc
  have e1 : (A ++ (c ++ R)).drop (A.length + c.length) = R := by rw [← List.drop_drop, List.drop_left, List.drop_left]
  have e2 : (A ++ (c ++ R)).take (A.length + o) = A ++ c.take o := by
    rw [List.take_append, List.take_of_length_le (by omega), Nat.add_sub_cancel_left, List.take_append_of_le_length (by omega)]
  have e3 : ((A ++ (c ++ R)).drop (A.length + o)).drop n = c.drop (o + n) ++ R := by
    rw [← List.drop_drop, List.drop_left, List.drop_drop, List.drop_append_of_le_length (by omega)]
  rw [e1, e2, e3]; simp
/-- A store into an element: at 'off' of its parts, with slices that are held. -/
theorem q_hstoreC {m : Mo} (hmc : m.chg = true) {α : Type} [Enc α] {w : Nat} {ad x : Operand} {t : TypeId} {t1 : T} {a : Sl α} {j : Int} {y y' : α} {b ep off n : Nat} {c us vs : List T} {v : T} (hwr : m.wr b) (hw : want ops L g = some true) (hS : Sub L s) (hH : Heap σ0 σ (.own true w t1 a.t :: ents ++ es)) (hr : t1 = .ref b ep 0 a.l.length)
    (ha : gE (get L) ad = some (.ptr b ep (j.toNat * Enc.w α + off) n)) (hx : gE (get L) x = some v) (hcs : v.cells = us) (h1 : us.all T.one = true) (hsz : szOf P t = some us.length) (hn : Nat.ble us.length n = true) (hy : elt a j = some y) (hc : Enc.cells y = c)
    (hh : HL true us vs ents) (hb : Nat.ble (off + us.length) (Enc.w α) = true) (hc' : Enc.cells y' = c.take off ++ vs ++ c.drop (off + us.length))
    (k : ∀ σ' s', Heap σ0 σ' (.own true w t1 (setS a j y').t :: es) → Sub (putL L d (.tup [])) s' → opsX P O ops (nxM m) l K ⟨s', σ'⟩) : opsX P O ops m (⟨d, .store t ad x, ty, ps, af, g⟩ :: l) K ⟨s, σ⟩ := by
  obtain ⟨q1, q2, q3⟩ := elt_some hy
  subst hr
  obtain ⟨S, ⟨ht, hwd, k', h2⟩, _, _⟩ := hH.head
  have ea : a.t = .row a.z a.l.length (cellsL a.l) := rfl
  rw [ea] at h2
  rcases hold_top ht h2 with ⟨hq, _⟩ | ⟨hq, _⟩ | ⟨hzz, x', B, S', k'', hq, hB, c1, c3, c5, c6, c7, h3, rfl⟩
  · cases hq
  · cases hq
  injection hq with e1 e2 _ _
  subst e1; subst e2
  have hesz := hold_esz c5 h3 (by omega)
  have hb := Nat.le_of_ble_eq_true hb
  have hn := Nat.le_of_ble_eq_true hn
  have hpos : j.toNat * Enc.w α + off + us.length ≤ B.cells.length := by
    rw [c5, hesz]
    have : (j.toNat + 1) * Enc.w α ≤ a.l.length * Enc.w α := Nat.mul_le_mul_right _ (by omega)
    rw [Nat.succ_mul] at this; omega
  have hcl : c.length = Enc.w α := by rw [← hc, Enc.len]
  obtain ⟨pos, hpos0⟩ : ∃ pos, pos = j.toNat * Enc.w α + off := ⟨_, rfl⟩
  have hvs : vs.length = us.length := by
    have h4 := Enc.len y'
    rw [hc'] at h4
    simp only [List.length_append, List.length_take, List.length_drop, hcl] at h4
    omega
  refine x_skipC (σ' := σ.set b { B with cells := splice B.cells pos us, low := B.ep, ver := B.ver + 1 }) hmc rfl (want_sound hS hw) (fun kk => ?_) (fun kk => ⟨Nat.le_refl _, fun y _ _ => by
    rw [set_blk]; split
    · rename_i e; subst e; exact .inr ⟨hwr, by rw [hB]; rfl⟩
    · exact .inl rfl⟩) ?_
  · rw [a_store, gE_sound hS ha, Option.bind_some, gE_sound hS hx, Option.bind_some, storeA_ptr, hB, Option.bind_some, hsz, Option.bind_some, hcs, if_pos ⟨c1 rfl, rfl, rfl, hn, hpos, h1⟩, hpos0]; rfl
  · rw [put_eq]
    refine k _ _ ?_ (sub_putL hS d _ σ)
    refine Heap.step (es1 := .own true w (.ref b B.ep 0 a.l.length) a.t :: ents) (es2 := [.own true w (.ref b B.ep 0 a.l.length) (setS a j y').t]) (es := es) hH (by simp) fun F hF hnd hbd => ?_
    obtain ⟨S1, F1, rfl, ⟨_, _, k5, h5⟩, h4⟩ := hF
    have : S1 = b :: S' := by
      have e1 := hold_mono k' _ _ _ h2 (max k' k5) (Nat.le_max_left _ _)
      have e2 := hold_mono k5 _ _ _ h5 (max k' k5) (Nat.le_max_right _ _)
      rw [ea, e1] at e2; injection e2 with e2; injection e2 with _ e2; exact e2.symm
    subst this
    obtain ⟨n1, n2, n3⟩ := List.nodup_append.1 hnd
    obtain ⟨n4, n5⟩ := List.nodup_cons.1 n1
    have hxF : b ∉ F1 := fun h => n3 b (by simp) b h rfl
    have hs : ∀ y, y ≠ b → (σ.set b { B with cells := splice B.cells pos us, low := B.ep, ver := B.ver + 1 }).blk y = σ.blk y := fun y hne => by rw [set_blk, if_neg hne]
    obtain ⟨k2, h6⟩ := hh.sound (h4.same fun x hx => hs x fun e => by subst e; exact hxF hx)
    obtain ⟨G1, G2, rfl, h7, h8⟩ := frzL_split pos h3
    obtain ⟨G3, G4, rfl, h9, h10⟩ := frzL_split us.length h8
    have cg : ∀ {ts ws : List T} {G : List Nat}, (∀ x ∈ G, x ∈ G1 ++ (G3 ++ G4)) → frzL (hold true σ k'') ts = some (ws, G) → frzL (hold true (σ.set b { B with cells := splice B.cells pos us, low := B.ep, ver := B.ver + 1 }) k'') ts = some (ws, G) := fun hG h =>
      frzL_congr (fun t v S'' _ hq hq2 => hold_same k'' t v S'' (fun x hx => hs x fun e => by subst e; exact n4 (hG _ (hq2 _ hx))) hq) h
    have r1 := cg (fun x hx => by simp [hx]) h7
    have r2 := cg (fun x hx => by simp [hx]) h10
    have r3 := frzL_append (frzL_append (frzLh_mono (Nat.le_max_left k'' k2) r1) (frzLh_mono (Nat.le_max_right k'' k2) h6)) (frzLh_mono (Nat.le_max_left k'' k2) r2)
    refine ⟨b :: (G1 ++ F1 ++ G4), ⟨b :: (G1 ++ F1 ++ G4), [], by simp, ⟨rfl, (fun b' e o n B' h hB' _ => by injection h with h; subst h; rw [set_blk_self] at hB'; injection hB' with hB'; subst hB'; show B.esz = w; exact hwd _ _ _ _ B rfl hB ‹w ≠ 0›), max k'' k2 + 1, ?_⟩, rfl⟩, ?_, ?_, fun y hy hm => hs y fun e => hm (by simp [e])⟩
    · have hcells : cellsL (setS a j y').l = (cellsL a.l).take pos ++ vs ++ ((cellsL a.l).drop pos).drop us.length := by
        simp only [setS]
        rw [cellsL_set a.l j.toNat y y' q3, hc', hpos0]
        have hd := cellsL_at a.l j.toNat y q3
        rw [hc] at hd
        have hsplit : cellsL a.l = (cellsL a.l).take (j.toNat * Enc.w α) ++ (c ++ cellsL (a.l.drop (j.toNat + 1))) := by rw [← hd, List.take_append_drop]
        have hl0 : ((cellsL a.l).take (j.toNat * Enc.w α)).length = j.toNat * Enc.w α := by
          rw [List.length_take, cellsL_len]
          have : (j.toNat + 1) * Enc.w α ≤ a.l.length * Enc.w α := Nat.mul_le_mul_right _ (by omega)
          rw [Nat.succ_mul] at this; omega
        generalize (cellsL a.l).take (j.toNat * Enc.w α) = A at hsplit hl0
        generalize cellsL (a.l.drop (j.toNat + 1)) = R at hsplit
        rw [hsplit]
        have := splice_row A c R vs (j.toNat * Enc.w α) off us.length (Enc.w α) hl0 hcl hb
        exact this
      simp only [hold, set_blk_self, Option.bind_some, splice_eq, Sl.t]
      have hll : (setS a j y').l.length = a.l.length := by simp [setS]
      simp only [splice_eq] at r3
      rw [hll, hcells, ← List.drop_drop]
      rw [← List.drop_drop] at r3
      have hall : (List.take pos B.cells ++ us ++ List.drop us.length (List.drop pos B.cells)).all T.one = true := by
        rw [List.all_append, List.all_append, h1, Bool.and_true, Bool.and_eq_true]
        rw [List.all_eq_true] at c7
        exact ⟨List.all_eq_true.2 fun x hx => c7 x (List.mem_of_mem_take hx), List.all_eq_true.2 fun x hx => c7 x (List.mem_of_mem_drop (List.mem_of_mem_drop hx))⟩
      have hz : (setS a j y').z = false := hzz
      rw [r3, if_pos ⟨fun _ => c1 rfl, trivial, Nat.le_refl _, trivial, by simp only [List.length_append, List.length_take, List.length_drop]; rw [← c5]; omega, c6, hall, by omega⟩, hz]
      try rfl
    · refine List.nodup_cons.2 ⟨fun hm => ?_, ?_⟩
      · simp only [List.mem_append] at hm
        rcases hm with (hm | hm) | hm
        · exact n4 (by simp [hm])
        · exact hxF hm
        · exact n4 (by simp [hm])
      · obtain ⟨u1, u2, u3⟩ := List.nodup_append.1 n5
        obtain ⟨u4, u5, u6⟩ := List.nodup_append.1 u2
        refine List.nodup_append.2 ⟨List.nodup_append.2 ⟨u1, n2, fun x hx y hy => n3 x (by simp [hx]) y hy⟩, u5, fun x hx y hy => ?_⟩
        rcases List.mem_append.1 hx with hx | hx
        · exact u3 x hx y (by simp [hy])
        · exact fun e => n3 y (by simp [hy]) x hx e.symm
    · intro x hx
      refine .inl ?_
      simp only [List.mem_cons, List.mem_append] at hx ⊢
      rcases hx with rfl | (hx | hx) | hx
      · simp
      · simp [hx]
      · simp [hx]
      · simp [hx]
theorem q_hstore {α : Type} [Enc α] {w : Nat} {ad x : Operand} {t : TypeId} {t1 : T} {a : Sl α} {j : Int} {y y' : α} {b ep off n : Nat} {c us vs : List T} {v : T} (hw : want ops L g = some true) (hS : Sub L s) (hH : Heap σ0 σ (.own true w t1 a.t :: ents ++ es)) (hr : t1 = .ref b ep 0 a.l.length)
    (ha : gE (get L) ad = some (.ptr b ep (j.toNat * Enc.w α + off) n)) (hx : gE (get L) x = some v) (hcs : v.cells = us) (h1 : us.all T.one = true) (hsz : szOf P t = some us.length) (hn : Nat.ble us.length n = true) (hy : elt a j = some y) (hc : Enc.cells y = c)
    (hh : HL true us vs ents) (hb : Nat.ble (off + us.length) (Enc.w α) = true) (hc' : Enc.cells y' = c.take off ++ vs ++ c.drop (off + us.length))
    (k : ∀ σ' s', Heap σ0 σ' (.own true w t1 (setS a j y').t :: es) → Sub (putL L d (.tup [])) s' → opsX P O ops .q l K ⟨s', σ'⟩) : opsX P O ops .q (⟨d, .store t ad x, ty, ps, af, g⟩ :: l) K ⟨s, σ⟩ :=
  q_hstoreC (m := .q) rfl trivial hw hS hH hr ha hx hcs h1 hsz hn hy hc hh hb hc' k
/-- Slices that are held may be held less strictly. -/
theorem Heap.weaken (h : Heap σ0 σ (ents ++ es)) (ho : (ents.all fun e => match e with | .own .. => true | _ => false) = true) : Heap σ0 σ ((ents.map fun e => match e with | .own _ w t v => .own false w t v | e => e) ++ es) :=
  Heap.step (es1 := ents) (es2 := ents.map _) (es := es) h (Nat.le_refl _) fun S hS hnd hbd => ⟨S, by
    clear h hnd hbd
    induction ents generalizing S with
    | nil => exact hS
    | cons e ents ih =>
      simp only [List.all_cons, Bool.and_eq_true] at ho
      obtain ⟨S1, F, rfl, h1, h2⟩ := hS
      refine ⟨S1, F, rfl, ?_, ih ho.2 F h2⟩
      cases e with
      | own z w t v =>
        obtain ⟨k1, k2, k, k3⟩ := h1
        refine ⟨k1, k2, k, ?_⟩
        cases z with
        | true => exact hold_weak _ _ _ _ k3
        | false => exact k3
      | box b cells => exact h1
      | keep F σk => exact h1
      | arr b w n cells => exact h1, hnd, fun b hb => .inl hb, fun _ _ _ => rfl⟩
end

/-! ### calls and ends -/
section
variable {P : Program} {md : Nat → Md} {X : Ext} {β : Type} {eb : β → T} {f : Nat} {r : β}
variable {ops : Array Oper} {m : Mo} {l : List Oper} {K : Fr → Prop} {s : Nat → T} {σ σ0 : St} {L : List (Nat × T)} {es ents : List Ent}
variable {d : Option Nat} {ty : TypeId} {ps : String} {af : Array Edge} {g : Option (Nat × Bool)}

theorem x_callS {O : Oracle} {o : Oper} {args : List T} {v : T} {σ' : St} (hw : wantedA ops o s = true) (h : aOp P none ⟨s, σ⟩ o = some (.call f args)) (hc : O f args σ = some (v, σ')) (kk : opsX P O ops .q l K (Fr.put ⟨s, σ⟩ o.dst v σ')) : opsX P O ops .q (o :: l) K ⟨s, σ⟩ := by
  show opQ P O ops none o (opsQ P O ops l K) ⟨s, σ⟩
  unfold opQ; simp only [hw, cond_true, h]; exact ⟨v, σ', hc, kk⟩
theorem hold_flat1 {σ : St} {d : Nat} {t : T} (h : flat1 t = true) : hold false σ d t = some (t, []) := by
  cases t with
  | row z n cs => cases z <;> cases n <;> cases cs <;> cases d <;> rfl
  | _ => cases d <;> simp [flat1] at h <;> rfl
theorem flat3_of {t : T} (h : flat1 t = true) : flat3 t = true := by cases t <;> simp_all [flat1, flat2, flat3]

theorem HL.frz {z : Bool} {ts vs : List T} (hH : Heap σ0 σ (ents ++ es)) (hh : HL z ts vs ents) : ∃ D S, frzL (frz σ D) ts = some (vs, S) ∧ HeapR σ ents S ∧ S.Nodup ∧ ∀ b ∈ S, σ0.next ≤ b ∧ b < σ.next := by
  obtain ⟨F, h1, h2, h3⟩ := hH.ex
  obtain ⟨F1, F2, rfl, h4, h5⟩ := h1.split
  obtain ⟨k, hk⟩ := hh.sound h4
  exact ⟨k, F1, frzL_congr (fun t v S _ hq _ => hold_frz k t v S hq) hk, h4, (List.nodup_append.1 h2).1, fun b hb => h3 b (by simp [hb])⟩

/-- A call in the tree's way with slices that are held; the result shows none. -/
theorem q_callH {z : Bool} {fo : Operand} {as : Array Operand} {tys : Array TypeId} {ts vs : List T} (hw : want ops L g = some true) (hS : Sub L s) (hf : gE (get L) fo = some (.fn f [] [])) (ha : gEs (get L) as.toList = some ts)
    (hv : md f = .view) (hH : Heap σ0 σ (ents ++ es)) (hh : HL z ts vs ents) (hr : semV P md X eb f vs = some r) (hl : leafT (eb r) = true)
    (k : ∀ s', Sub (putL L d (eb r)) s' → opsX P (run P md X) ops (nxM m) l K ⟨s', σ⟩) : opsX P (run P md X) ops m (⟨d, .call ⟨.value fo, as, tys⟩, ty, ps, af, g⟩ :: l) K ⟨s, σ⟩ := by
  obtain ⟨D, S, h1, _, _, _⟩ := hh.frz hH
  refine q_callV hw hS hf ha (r := eb r) ?_ k
  simp only [List.nil_append, List.append_nil]
  exact run_frz hv h1 hl (semV_spec hr (σ.mark S))

def Ent.weak : Ent → Ent
  | .own _ w t v => .own false w t v
  | e => e
def Ent.isOwn : Ent → Bool
  | .own .. => true
  | _ => false

theorem hold_mark {z : Bool} {σ : St} {S : List Nat} : ∀ (k : Nat) (t v : T) (F : List Nat), hold z σ k t = some (v, F) → hold false (σ.mark S) k t = some (v, F)
  | 0, t, v, F, h => by
    cases z with
    | true => have := hold_weak _ _ _ _ h; cases t with
      | row zz n cs => exact hold_row2 this
      | _ => simp [hold] at this <;> simp [hold, this]
    | false => cases t with
      | row zz n cs => exact hold_row2 h
      | _ => simp [hold] at h <;> simp [hold, h]
  | d + 1, t, v, F, h => by
    have h : hold false σ (d + 1) t = some (v, F) := by cases z with
      | true => exact hold_weak _ _ _ _ h
      | false => exact h
    cases t with
    | ref b e off n =>
      simp only [hold] at h
      obtain ⟨B, hb, h1⟩ := Option.bind_eq_some_iff.1 h
      split at h1
      · rename_i hc
        obtain ⟨⟨cs, S1⟩, h2, h3⟩ := Option.map_eq_some_iff.1 h1
        injection h3 with h3 h4; subst h3; subst h4
        have h5 := frzL_congr (g := hold false (σ.mark S) d) (fun t v S' _ hh _ => hold_mark d t v S' hh) h2
        simp only [hold, St.mark, hb, Option.map_some, Option.bind_some]
        have hm : ∀ B', B' = (if b ∈ S then { B with st := false } else B) → B'.cells = B.cells ∧ B'.ep = B.ep ∧ B'.low = B.low ∧ B'.esz = B.esz := fun B' h => by subst h; split <;> exact ⟨rfl, rfl, rfl, rfl⟩
        obtain ⟨m1, m2, m3, m4⟩ := hm _ rfl
        rw [m1, m2, m3, m4]
        rw [if_pos ⟨(fun h => by cases h), hc.2⟩]
        have h5' : frzL (hold false ⟨σ.next, fun i => Option.map (fun B => if i ∈ S then { B with st := false } else B) (σ.blk i)⟩ d) B.cells = some (cs, S1) := h5
        rw [h5']; rfl
      · cases h1
    | agg cs =>
      simp only [hold] at h
      obtain ⟨⟨cs', S1⟩, h2, h3⟩ := Option.map_eq_some_iff.1 h
      injection h3 with h3 h4; subst h3; subst h4
      simp only [hold, frzL_congr (g := hold false (σ.mark S) d) (fun t v S' _ hh _ => hold_mark d t v S' hh) h2, Option.map_some]
    | tup cs =>
      simp only [hold] at h
      obtain ⟨⟨cs', S1⟩, h2, h3⟩ := Option.map_eq_some_iff.1 h
      injection h3 with h3 h4; subst h3; subst h4
      simp only [hold, frzL_congr (g := hold false (σ.mark S) d) (fun t v S' _ hh _ => hold_mark d t v S' hh) h2, Option.map_some]
    | row zz n cs => exact hold_row2 h
    | _ => simp [hold] at h <;> simp [hold, h]

theorem HeapR.mark {S : List Nat} : ∀ {es : List Ent} {F : List Nat}, es.all Ent.isOwn = true → HeapR σ es F → HeapR (σ.mark S) (es.map Ent.weak) F
  | [], F, _, h => h
  | e :: es, F, ho, h => by
    simp only [List.all_cons, Bool.and_eq_true] at ho
    obtain ⟨S1, F', rfl, h1, h2⟩ := h
    refine ⟨S1, F', rfl, ?_, h2.mark ho.2⟩
    cases e with
    | own z w t v =>
      obtain ⟨k1, k2, k, k3⟩ := h1
      refine ⟨k1, fun b e o n B ht hB hw0 => ?_, k, hold_mark k t v S1 k3⟩
      obtain ⟨B', q1, q2⟩ := mark_blk hB
      have := k2 b e o n B' ht q1 hw0
      rw [q2]; split <;> exact this
    | _ => simp [Ent.isOwn] at ho

/-- As 'q_callH', for a result that may show them. -/
theorem q_callHn {z : Bool} {fo : Operand} {as : Array Operand} {tys : Array TypeId} {ts vs : List T} (hw : want ops L g = some true) (hS : Sub L s) (hf : gE (get L) fo = some (.fn f [] [])) (ha : gEs (get L) as.toList = some ts)
    (hv : md f = .view) (hH : Heap σ0 σ (ents ++ es)) (ho : ents.all Ent.isOwn = true) (hh : HL z ts vs ents) (hr : semV P md X eb f vs = some r) (hl : leafT (eb r) = false)
    (k : ∀ σ' s', Heap σ0 σ' (ents.map Ent.weak ++ es) → Sub (putL L d (eb r)) s' → opsX P (run P md X) ops .q l K ⟨s', σ'⟩) : opsX P (run P md X) ops .q (⟨d, .call ⟨.value fo, as, tys⟩, ty, ps, af, g⟩ :: l) K ⟨s, σ⟩ := by
  obtain ⟨D, S, h1, h2, h3, h4⟩ := hh.frz hH
  have hrun := run_frz' hv h1 hl (semV_spec hr (σ.mark S))
  have hH' : Heap σ0 (σ.mark S) (ents.map Ent.weak ++ es) := Heap.step (es1 := ents) (es2 := ents.map Ent.weak) (es := es) hH (by simp) fun S' hS' hnd hbd => by
    refine ⟨S', hS'.mark ho, hnd, fun b hb => .inl hb, fun b hb hm => ?_⟩
    have hSS : S' = S := by
      -- the same entries have the same blocks
      have key : ∀ {es : List Ent} {F F' : List Nat}, es.all Ent.isOwn = true → HeapR σ es F → HeapR σ es F' → F = F' := by
        intro es
        induction es with
        | nil => intro F F' _ h h'; rw [show F = [] from h, show F' = [] from h']
        | cons e es ih =>
          intro F F' ho h h'
          simp only [List.all_cons, Bool.and_eq_true] at ho
          obtain ⟨S1, F1, rfl, k1, k2⟩ := h
          obtain ⟨S2, F2, rfl, k3, k4⟩ := h'
          rw [ih ho.2 k2 k4]
          cases e with
          | own z w t v =>
            obtain ⟨_, _, k5, k6⟩ := k1
            obtain ⟨_, _, k7, k8⟩ := k3
            have e1 := hold_mono k5 _ _ _ k6 (max k5 k7) (Nat.le_max_left _ _)
            have e2 := hold_mono k7 _ _ _ k8 (max k5 k7) (Nat.le_max_right _ _)
            rw [e1] at e2; injection e2 with e2; injection e2 with _ e2; rw [e2]
          | _ => simp [Ent.isOwn] at ho
      exact key ho hS' h2
    subst hSS
    simp only [St.mark]
    cases hbb : σ.blk b with
    | none => rfl
    | some B => simp [hm]
  refine x_callS (f := f) (args := [] ++ ts ++ []) (v := eb r) (σ' := σ.mark S) (want_sound hS hw) (by rw [a_call, gEs_sound hS ha, Option.bind_some, gE_sound hS hf]; rfl) (by simpa using hrun) ?_
  rw [put_eq]
  exact k _ _ hH' (sub_putL hS d _ σ)

/-- What a function in the tree's way must show at its end. -/
def endW (P : Program) (rs : List ResultVar) (σ0 : St) (r : T) : AExit → Fr → Prop
  | .exit _, _ => False
  | .normal, fr => ∃ l D S, resL P fr rs = some l ∧ Go.Am.frz fr.σ D (tupOf l) = some (r, S) ∧ pureT r = true ∧ Grow σ0 fr.σ ∧ ∀ b ∈ S, σ0.next ≤ b
  | .ret, fr => ∃ l D S, resL P fr rs = some l ∧ Go.Am.frz fr.σ D (tupOf l) = some (r, S) ∧ pureT r = true ∧ Grow σ0 fr.σ ∧ ∀ b ∈ S, σ0.next ≤ b

theorem view_ofW {c : Code} {n : Nat} {rs : List ResultVar} {args : List T} {σ : St} {r : T} {D : Nat} (hv : md f = .view) (hX : X f = none) (hok : Ok P f c n rs) (hlen : args.length ≤ n) (hargs : frzL (Go.Am.frz σ D) args = some (args, []))
    (h : codeQ P (run P md X) c (endW P rs σ r) ⟨enterS args, σ⟩) : run P md X f args σ = some (r, σ) := by
  obtain ⟨fn, h1, h2, h3, h4, h5, h6⟩ := hok
  obtain ⟨x, fr, k1, k2⟩ := codeQ_sound h
  have hx : (x = .normal ∨ x = .ret) ∧ ∃ l D S, resL P fr rs = some l ∧ Go.Am.frz fr.σ D (tupOf l) = some (r, S) ∧ pureT r = true ∧ Grow σ fr.σ ∧ ∀ b ∈ S, σ.next ≤ b := by
    cases x with
    | normal => exact ⟨.inl rfl, k2⟩
    | ret => exact ⟨.inr rfl, k2⟩
    | exit i => exact k2.elim
  obtain ⟨hx, l, D2, S2, m1, m2, m3, m4, m5⟩ := hx
  have := run_view (P := P) (vm := md) (X := X) (σ := σ) (S2 := S2) (r' := r) hv hX h1 h2 h3 h4 (by rw [h5]; exact hlen) hargs (by rw [mark_nil]; exact k1) hx (by rw [resA, h6, m1]; rfl) m2 m3 (fun i hi => by rw [mark_nil]; exact m4.old i hi)
  rw [this, filter_new m5, mark_nil, mark_nil]
  simp

theorem semW_of {c : Code} {n : Nat} {rs : List ResultVar} {args : List T} (hi : ∀ a b, eb a = eb b → a = b) (hv : md f = .view) (hX : X f = none) (hok : Ok P f c n rs) (hlen : Nat.ble args.length n = true) (hf : args.all flat3 = true)
    (h : ∀ σ s, Sub (nums 0 args) s → Heap σ σ [] → codeQ P (run P md X) c (endW P rs σ (eb r)) ⟨s, σ⟩) : semV P md X eb f args = some r :=
  semV_intro hi fun σ => view_ofW hv hX hok (Nat.le_of_ble_eq_true hlen) (frzL_flat hf) (h σ _ (sub_enter args) (Heap.nil σ))

theorem end_W {rs : List ResultVar} {l : List T} {r : T} (hH : Heap σ0 σ es) (hl : resL P ⟨s, σ⟩ rs = some l) (hr : tupOf l = r) (hf : flat3 r = true) (hp : pureT r = true) : endW P rs σ0 r .ret ⟨s, σ⟩ :=
  ⟨l, 2, [], hl, by rw [hr]; exact frz_flat3 (d := 0) hf, hp, hH.grow, by simp⟩
theorem end_Wn {rs : List ResultVar} {r : T} {fr : Fr} (h : endW P rs σ0 r .ret fr) : endW P rs σ0 r .normal fr := h
/-- The end, with slices that are held. -/
theorem end_H {z : Bool} {rs : List ResultVar} {l : List T} {r : T} (hH : Heap σ0 σ (ents ++ es)) (hl : resL P ⟨s, σ⟩ rs = some l) (hh : HL z [tupOf l] [r] ents) (hp : pureT r = true) : endW P rs σ0 r .ret ⟨s, σ⟩ := by
  obtain ⟨D, S, h1, _, _, h4⟩ := hh.frz hH
  refine ⟨l, D, S, hl, ?_, hp, hH.grow, fun b hb => (h4 b hb).1⟩
  simp only [frzL] at h1
  obtain ⟨p, h5, h6⟩ := Option.bind_eq_some_iff.1 h1
  simp at h6
  obtain ⟨h6, h7⟩ := h6
  rw [h5]; rw [← h6, ← h7]

/-! ### functions whose result is owned -/
/-- How a result of this type lies: the tree, out of the slices that hold it, and their entries. -/
structure Shape (β : Type) where
  n : Nat
  tree : List T → β → T
  en : List T → β → List Ent
  eb : β → T
  ok : ∀ hs r, hs.length = n → HL true [tree hs r] [eb r] (en hs r)
  inj : ∀ a b, eb a = eb b → a = b

def OwnR (P : Program) (md : Nat → Md) (X : Ext) (Sh : Shape β) (f : Nat) (args : List T) (r : β) : Prop :=
  ∀ σ, ∃ hs σ', hs.length = Sh.n ∧ run P md X f args σ = some (Sh.tree hs r, σ') ∧ Heap σ σ' (Sh.en hs r)
noncomputable def semO (P : Program) (md : Nat → Md) (X : Ext) (Sh : Shape β) (f : Nat) (args : List T) : Option β :=
  if h : ∃ r, OwnR P md X Sh f args r then some (Classical.choose h) else none
theorem semO_spec {Sh : Shape β} {args : List T} (h : semO P md X Sh f args = some r) : OwnR P md X Sh f args r := by
  unfold semO at h
  split at h
  · rename_i hx; injection h with h; subst h; exact Classical.choose_spec hx
  · cases h
theorem OwnR.uniq {Sh : Shape β} {args : List T} {r r' : β} (h : OwnR P md X Sh f args r) (h' : OwnR P md X Sh f args r') : r = r' := by
  obtain ⟨hs, σ', h1, h2, h3⟩ := h St.empty'
  obtain ⟨hs', σ2, h4, h5, h6⟩ := h' St.empty'
  rw [h2] at h5; injection h5 with h5; injection h5 with h5 h7
  subst h7
  obtain ⟨D, S, k1, _⟩ := (Sh.ok hs r h1).frz (es := []) (by simpa using h3)
  obtain ⟨D', S', k2, _⟩ := (Sh.ok hs' r' h4).frz (es := []) (by simpa using h6)
  rw [← h5] at k2
  have := frzL_uniq k1 k2
  injection this with e _
  injection e with e _
  exact Sh.inj _ _ e
theorem semO_intro {Sh : Shape β} {args : List T} (h : OwnR P md X Sh f args r) : semO P md X Sh f args = some r := by
  have hx : ∃ r, OwnR P md X Sh f args r := ⟨r, h⟩
  unfold semO
  rw [dif_pos hx, OwnR.uniq (Classical.choose_spec hx) h]

def endOw (P : Program) (rs : List ResultVar) (σ0 : St) (Sh : Shape β) (r : β) : AExit → Fr → Prop
  | .exit _, _ => False
  | .normal, fr => ∃ l hs es, resL P fr rs = some l ∧ tupOf l = Sh.tree hs r ∧ hs.length = Sh.n ∧ Heap σ0 fr.σ (Sh.en hs r ++ es)
  | .ret, fr => ∃ l hs es, resL P fr rs = some l ∧ tupOf l = Sh.tree hs r ∧ hs.length = Sh.n ∧ Heap σ0 fr.σ (Sh.en hs r ++ es)

theorem end_Ow {Sh : Shape β} {rs : List ResultVar} {l : List T} {L1 : List Ent} (hs : List T) (es : List Ent) (hl : resL P ⟨s, σ⟩ rs = some l) (ht : tupOf l = Sh.tree hs r) (hn : hs.length = Sh.n) (hH : Heap σ0 σ L1) (he : L1 = Sh.en hs r ++ es) : endOw P rs σ0 Sh r .ret ⟨s, σ⟩ :=
  ⟨l, hs, es, hl, ht, hn, he ▸ hH⟩
theorem end_Own {Sh : Shape β} {rs : List ResultVar} {fr : Fr} (h : endOw P rs σ0 Sh r .ret fr) : endOw P rs σ0 Sh r .normal fr := h
theorem semO_of {Sh : Shape β} {c : Code} {n : Nat} {rs : List ResultVar} {args : List T} (hv : md f = .own) (hX : X f = none) (hok : Ok P f c n rs) (hlen : Nat.ble args.length n = true) (hf : args.all flat3 = true)
    (h : ∀ σ s, Sub (nums 0 args) s → Heap σ σ [] → codeQ P (run P md X) c (endOw P rs σ Sh r) ⟨s, σ⟩) : semO P md X Sh f args = some r := by
  refine semO_intro fun σ => ?_
  obtain ⟨fn, h1, h2, h3, h4, h5, h6⟩ := hok
  obtain ⟨x, fr, k1, k2⟩ := codeQ_sound (h σ _ (sub_enter args) (Heap.nil σ))
  have hx : (x = .normal ∨ x = .ret) ∧ ∃ l hs es, resL P fr rs = some l ∧ tupOf l = Sh.tree hs r ∧ hs.length = Sh.n ∧ Heap σ fr.σ (Sh.en hs r ++ es) := by
    cases x with
    | normal => exact ⟨.inl rfl, k2⟩
    | ret => exact ⟨.inr rfl, k2⟩
    | exit i => exact k2.elim
  obtain ⟨hx, l, hs, es, m1, m2, m3, m4⟩ := hx
  obtain ⟨F, q1, q2, q3⟩ := m4.ex
  obtain ⟨F1, F2, rfl, q4, q5⟩ := q1.split
  obtain ⟨k, hk⟩ := (Sh.ok hs r m3).sound q4
  have hown : own fr.σ k (tupOf l) = some (Sh.eb r, F1) := by
    rw [m2]
    simp only [frzL] at hk
    obtain ⟨p, h7, h8⟩ := Option.bind_eq_some_iff.1 hk
    simp at h8
    obtain ⟨h8, h9⟩ := h8
    exact hold_own _ _ _ _ (by rw [h7, ← h8, ← h9])
  have hrun := run_own (P := P) (vm := md) (X := X) (σ := σ) hv hX h1 h2 h3 h4 (by rw [h5]; exact Nat.le_of_ble_eq_true hlen) (frzL_flat hf) (by rw [mark_nil]; exact k1) hx (by rw [resA, h6, m1]; rfl) hown (fun b hb => (q3 b (by simp [hb])).1) (fun i hi => by rw [mark_nil]; exact m4.grow.old i hi)
  refine ⟨hs, σ.keep fr.σ F1, m3, by rw [hrun, m2], Grow.keep m4.grow.nx F1, F1, q4.same fun b hb => ?_, (List.nodup_append.1 q2).1, fun b hb => ?_⟩
  · have := (q3 b (by simp [hb])).1
    simp only [St.keep]; rw [if_neg (by omega), if_pos hb]
  · exact q3 b (by simp [hb])

/-- A call whose result is owned. -/
theorem q_callO (hm : m.chg = true) {Sh : Shape β} {z : Bool} {fo : Operand} {as : Array Operand} {tys : Array TypeId} {ts vs : List T} (hw : want ops L g = some true) (hS : Sub L s) (hf : gE (get L) fo = some (.fn f [] [])) (ha : gEs (get L) as.toList = some ts)
    (hv : md f = .own) (hH : Heap σ0 σ (ents ++ es)) (hh : HL z ts vs ents) (hr : semO P md X Sh f vs = some r)
    (k : ∀ hs σ' s', hs.length = Sh.n → Heap σ0 σ' (Sh.en hs r ++ (ents ++ es)) → Sub (putL L d (Sh.tree hs r)) s' → opsX P (run P md X) ops (nxM m) l K ⟨s', σ'⟩) : opsX P (run P md X) ops m (⟨d, .call ⟨.value fo, as, tys⟩, ty, ps, af, g⟩ :: l) K ⟨s, σ⟩ := by
  obtain ⟨D, S, h1, h2, h3, h4⟩ := hh.frz hH
  obtain ⟨hs, σ1, m1, m2, m3⟩ := semO_spec hr (σ.mark S)
  have hrun := run_frz_own hv h1 m2
  have hH' : Heap σ0 ⟨σ1.next, fun i => if i < σ.next then σ.blk i else σ1.blk i⟩ (Sh.en hs r ++ (ents ++ es)) := by
    refine Heap.step (es1 := []) (es2 := Sh.en hs r) (es := ents ++ es) hH m3.grow.nx fun S' hS' _ _ => ?_
    obtain ⟨F, q1, q2, q3⟩ := m3.ex
    refine ⟨F, q1.same fun b hb => ?_, q2, fun b hb => .inr (q3 b hb), fun b hb _ => ?_⟩
    · have := (q3 b hb).1
      simp only [mark_next] at this
      simp only; rw [if_neg (by omega)]
    · simp only; rw [if_pos hb]
  refine x_callC (f := f) (args := [] ++ ts ++ []) (r := Sh.tree hs r) (σ' := ⟨σ1.next, fun i => if i < σ.next then σ.blk i else σ1.blk i⟩) hm rfl (want_sound hS hw) (fun kk σ' => by rw [a_call, gEs_sound hS ha, Option.bind_some, gE_sound hS hf]; rfl) (by simpa using hrun) m3.grow.nx (fun x hx => by simp only; rw [if_pos hx]) ?_
  rw [put_eq]
  exact k _ _ _ m1 hH' (sub_putL hS d _ σ)
end
end Go.Am
end
