/- The abstract machine. -/
import Derived.Test.YtnihabnkoegdjaaAm3
section
set_option linter.unusedVariables false
set_option linter.unusedSimpArgs false
namespace Go.Am
open Classical
theorem gD_ {σ : St} : ∀ (d : Nat) (t v : T) (S : List Nat), hold true σ d t = some (v, S) → hold false σ d t = some (v, S)
 | 0, t, v, S, h => by
  cases t with
  | row zz n cs => cases zz <;> cases n <;> cases cs <;> simp [hold] at h ⊢ <;> exact h
  | _ => simp [hold] at h <;> simp [hold, h]
 | d + 1, t, v, S, h => by
  cases t with
  | ref b e off n =>
   simp only [hold] at h
   obtain ⟨B, hb, h1⟩ := Option.bind_eq_some_iff.1 h
   split at h1
   ·rename_i hc
    obtain ⟨⟨cs, S1⟩, h2, h3⟩ := Option.map_eq_some_iff.1 h1
    injection h3 with h3 h4; subst h3; subst h4
    have h5 := aE_ (g := hold false σ d) (fun t v S' _ hh _ => gD_ d t v S' hh) h2
    simp only [hold, hb, Option.bind_some, h5, Option.map_some]
    rw [if_pos ⟨(fun h => by cases h), hc.2⟩]
   ·cases h1
  | agg cs =>
   simp only [hold] at h
   obtain ⟨⟨cs', S1⟩, h2, h3⟩ := Option.map_eq_some_iff.1 h
   injection h3 with h3 h4; subst h3; subst h4
   simp only [hold, aE_ (g := hold false σ d) (fun t v S' _ hh _ => gD_ d t v S' hh) h2, Option.map_some]
  | tup cs =>
   simp only [hold] at h
   obtain ⟨⟨cs', S1⟩, h2, h3⟩ := Option.map_eq_some_iff.1 h
   injection h3 with h3 h4; subst h3; subst h4
   simp only [hold, aE_ (g := hold false σ d) (fun t v S' _ hh _ => gD_ d t v S' hh) h2, Option.map_some]
  | row zz n cs => cases zz <;> cases n <;> cases cs <;> simp [hold] at h ⊢ <;> exact h
  | _ => simp [hold] at h <;> simp [hold, h]
theorem bR_ {f : T → Option (T × List Nat)} : ∀ {a b va vb : List T} {Sa Sb : List Nat}, frzL f a = some (va, Sa) → frzL f b = some (vb, Sb) → frzL f (a ++ b) = some (va ++ vb, Sa ++ Sb)
 | [], b, va, vb, Sa, Sb, ha, hb => by simp [frzL] at ha; obtain ⟨rfl, rfl⟩ := ha; simpa using hb
 | t :: a, b, va, vb, Sa, Sb, ha, hb => by
  simp only [frzL] at ha
  obtain ⟨⟨v0, S0⟩, h1, h2⟩ := Option.bind_eq_some_iff.1 ha
  obtain ⟨⟨vs, S1⟩, h3, h4⟩ := Option.map_eq_some_iff.1 h2
  injection h4 with h4 h5; subst h4; subst h5
  simp only [List.cons_append, frzL, h1, Option.bind_some, bR_ h3 hb, Option.map_some, List.append_assoc]
theorem bb_ {z : Bool} {σ : St} {k k' : Nat} (hk : k ≤ k') {ts vs : List T} {F : List Nat} (h : frzL (hold z σ k) ts = some (vs, F)) : frzL (hold z σ k') ts = some (vs, F) :=
 aE_ (fun t v S _ hh _ => bW_ k t v S hh k' hk) h
inductive HL (z : Bool) : List T → List T → List Ent → Prop
 | nil : HL z [] [] []
 | leaf {t v ts vs es} (h : ∀ σ d, hold z σ d t = some (v, [])) (r : HL z ts vs es) : HL z (t :: ts) (v :: vs) es
 | own {z' w t v ts vs es} (hz : (!z || z') = true) (r : HL z ts vs es) : HL z (t :: ts) (v :: vs) (.own z' w t v :: es)
 | agg {cs us es1 ts vs es2} (a : HL z cs us es1) (r : HL z ts vs es2) : HL z (.agg cs :: ts) (.agg us :: vs) (es1 ++ es2)
 | tup {cs us es1 ts vs es2} (a : HL z cs us es1) (r : HL z ts vs es2) : HL z (.tup cs :: ts) (.tup us :: vs) (es1 ++ es2)
theorem HL.sound {σ : St} {z ts vs es} (h : HL z ts vs es) : ∀ {F : List Nat}, cY_ σ es F → ∃ k, frzL (hold z σ k) ts = some (vs, F) := by
 induction h with
 | nil => intro F hF; cases hF; exact ⟨0, rfl⟩
 | leaf h r ih => intro F hF; obtain ⟨k, hk⟩ := ih hF; exact ⟨k, by simp only [frzL, h, Option.bind_some, hk, Option.map_some, List.nil_append]⟩
 | @own z' w t v ts vs es hz r ih =>
  intro F hF
  obtain ⟨S, F', rfl, ⟨_, _, k', h1⟩, h2⟩ := hF
  obtain ⟨k, hk⟩ := ih h2
  have h3 : hold z σ (max k k') t = some (v, S) := by
   have h4 := bW_ k' t v S h1 (max k k') (Nat.le_max_right _ _)
   cases z with
   | true => cases z' with
    | true => exact h4
    | false => cases hz
   | false => cases z' with
    | true => exact gD_ _ _ _ _ h4
    | false => exact h4
  exact ⟨max k k', by simp only [frzL, h3, Option.bind_some, bb_ (Nat.le_max_left k k') hk, Option.map_some]⟩
 | @agg cs us es1 ts vs es2 a r iha ihr =>
  intro F hF
  obtain ⟨F1, F2, rfl, h1, h2⟩ := hF.split
  obtain ⟨k1, q1⟩ := iha h1
  obtain ⟨k2, q2⟩ := ihr h2
  have h3 : hold z σ (max k1 k2 + 1) (.agg cs) = some (.agg us, F1) := by simp only [hold, bb_ (Nat.le_max_left k1 k2) q1, Option.map_some]
  exact ⟨max k1 k2 + 1, by simp only [frzL, h3, Option.bind_some, bb_ (Nat.le_succ_of_le (Nat.le_max_right k1 k2)) q2, Option.map_some]⟩
 | @tup cs us es1 ts vs es2 a r iha ihr =>
  intro F hF
  obtain ⟨F1, F2, rfl, h1, h2⟩ := hF.split
  obtain ⟨k1, q1⟩ := iha h1
  obtain ⟨k2, q2⟩ := ihr h2
  have h3 : hold z σ (max k1 k2 + 1) (.tup cs) = some (.tup us, F1) := by simp only [hold, bb_ (Nat.le_max_left k1 k2) q1, Option.map_some]
  exact ⟨max k1 k2 + 1, by simp only [frzL, h3, Option.bind_some, bb_ (Nat.le_succ_of_le (Nat.le_max_right k1 k2)) q2, Option.map_some]⟩
@[simp] theorem mb_ (z : Bool) (σ : St) (d : Nat) (k : IntKind) (n : Int) : hold z σ d (.int k n) = some (.int k n, []) := by cases d <;> rfl
@[simp] theorem oI_ (z : Bool) (σ : St) (d : Nat) (b : Bool) : hold z σ d (.bool b) = some (.bool b, []) := by cases d <;> rfl
@[simp] theorem o7_ (z : Bool) (σ : St) (d : Nat) (s : ByteArray) : hold z σ d (.str s) = some (.str s, []) := by cases d <;> rfl
@[simp] theorem sl_ (z : Bool) (σ : St) (d : Nat) : hold z σ d .nilp = some (.nilp, []) := by cases d <;> rfl
@[simp] theorem s2_ (z : Bool) (σ : St) (d : Nat) : hold z σ d .nilf = some (.nilf, []) := by cases d <;> rfl
@[simp] theorem r4_ (z : Bool) (σ : St) (d : Nat) : hold z σ d .nili = some (.nili, []) := by cases d <;> rfl
@[simp] theorem ti_ (z : Bool) (σ : St) (d : Nat) : hold z σ d .nilm = some (.nilm, []) := by cases d <;> rfl
@[simp] theorem ni_ (z : Bool) (σ : St) (d : Nat) : hold z σ d (.row true 0 []) = some (.row true 0 [], []) := by cases d <;> rfl
@[simp] theorem nI_ {α : Type} [Enc α] (σ : St) (d : Nat) (s : Sl α) : hold false σ d s.t = some (s.t, []) := by
 obtain ⟨z, l⟩ := s
 cases z <;> cases l <;> cases d <;> simp [Sl.t, hold, am_]
@[simp] theorem on_ {α : Type} [Enc α] (z : Bool) (σ : St) (d : Nat) : hold z σ d (Sl.t (⟨true, []⟩ : Sl α)) = some (Sl.t (⟨true, []⟩ : Sl α), []) := ni_ z σ d
class Hld (z : Bool) (α : Type) [Enc α] : Prop where
 h : ∀ (a : α) (σ : St) (d : Nat), frzL (hold z σ d) (Enc.cells a) = some (Enc.cells a, [])
instance (z : Bool) : Hld z ByteArray := ⟨fun a σ d => by simp [Enc.cells]⟩
instance (z : Bool) : Hld z Bool := ⟨fun a σ d => by simp [Enc.cells]⟩
instance (z : Bool) (k : IntKind) : Hld z (Iv k) := ⟨fun a σ d => by simp [Enc.cells]⟩
instance {α : Type} [Enc α] : Hld false (Sl α) := ⟨fun a σ d => by simp [Enc.cells]⟩
theorem Hld.list {z : Bool} {α : Type} [Enc α] [Hld z α] (σ : St) (d : Nat) : ∀ l : List α, frzL (hold z σ d) (am_ l) = some (am_ l, [])
 | [] => rfl
 | a :: l => by simpa [am_] using bR_ (Hld.h a σ d) (Hld.list σ d l)
def ar_ (t : T) : Prop := t.cells = [t] ∧ t.one = true
theorem gR_ {t : T} (h : isTop t = true) : ar_ t := by
 cases t <;> simp [isTop] at h <;> exact ⟨rfl, rfl⟩
theorem Heap.head {σ0 σ : St} {e : Ent} {es : List Ent} (h : Heap σ0 σ (e :: es)) : ∃ S, lE_ σ e S ∧ S.Nodup ∧ ∀ b ∈ S, σ0.next ≤ b ∧ b < σ.next := by
 obtain ⟨F, ⟨S, F', rfl, h1, h2⟩, h3, h4⟩ := h.ex
 exact ⟨S, h1, (List.nodup_append.1 h3).1, fun b hb => h4 b (by simp [hb])⟩
theorem Heap.one {σ0 σ : St} {z w t v es} (h : Heap σ0 σ (.own z w t v :: es)) : ar_ t := by
 obtain ⟨S, h1, _⟩ := h.head
 exact gR_ h1.1
theorem Heap.addNil {σ0 σ : St} {es : List Ent} (h : Heap σ0 σ es) (z : Bool) (w : Nat) : Heap σ0 σ (.own z w (.row true 0 []) (.row true 0 []) :: es) :=
 Heap.step (es1 := []) (es2 := [.own z w (.row true 0 []) (.row true 0 [])]) (es := es) h (Nat.le_refl _) fun S hS _ _ => ⟨[], ⟨[], [], rfl, ⟨rfl, (fun _ _ _ _ _ h _ _ => by cases h), 0, by simp⟩, rfl⟩, by simp, by simp, fun _ _ _ => rfl⟩
theorem Heap.addEmp {σ0 σ : St} {es : List Ent} (h : Heap σ0 σ es) (z : Bool) (w : Nat) : Heap σ0 σ (.own z w .emp (.row false 0 []) :: es) :=
 Heap.step (es1 := []) (es2 := [.own z w .emp (.row false 0 [])]) (es := es) h (Nat.le_refl _) fun S hS _ _ => ⟨[], ⟨[], [], rfl, ⟨rfl, (fun _ _ _ _ _ h _ _ => by cases h), 0, rfl⟩, rfl⟩, by simp, by simp, fun _ _ _ => rfl⟩
def enumV : Nat → List T → List (Nat × T)
 | _, [] => []
 | i, v :: vs => (i, v) :: enumV (i + 1) vs
def allV (sz : Nat) : List T → Prop
 | [] => True
 | v :: vs => v.cells.length = sz ∧ v.cells.all T.one = true ∧ allV sz vs
theorem jB_ {sz : Nat} : ∀ (vs : List T), allV sz vs → (vs.flatMap T.cells).length = vs.length * sz
 | [], _ => by simp
 | v :: vs, h => by
  have := jB_ vs h.2.2
  simp only [List.flatMap_cons, List.length_append, List.length_cons, Nat.succ_mul, h.1, this]; omega
theorem h4_ {sz : Nat} (zc : List T) (hz : zc.length = sz) : ∀ (vs pre : List T) (i : Nat), pre.length = i * sz → allV sz vs →
  et_ (fun i => some (i * sz, sz)) (pre ++ (List.replicate vs.length zc).flatten) (enumV i vs) = some (pre ++ vs.flatMap T.cells)
 | [], pre, i, hp, _ => by simp [enumV, et_]
 | v :: vs, pre, i, hp, h => by
  obtain ⟨h1, h2, h3⟩ := h
  simp only [enumV, mA_, Option.bind_some, ph_]
  rw [if_pos ⟨h1, by simp [hp, List.replicate_succ, hz], h2⟩]
  have e : splice (pre ++ (List.replicate (v :: vs).length zc).flatten) (i * sz) v.cells = (pre ++ v.cells) ++ (List.replicate vs.length zc).flatten := by
   simp only [splice, List.length_cons, List.replicate_succ, List.flatten_cons]
   rw [List.take_append_of_le_length (by omega), List.take_of_length_le (by omega), List.drop_append, List.drop_of_length_le (by omega), List.nil_append, h1, hp, show i * sz + sz - i * sz = sz by omega, List.drop_append, List.drop_of_length_le (by omega), List.nil_append, hz, Nat.sub_self, List.drop_zero]
  rw [e, h4_ zc hz vs (pre ++ v.cells) (i + 1) (by rw [List.length_append, hp, h1, Nat.succ_mul]) h3]
  simp
section
variable {P : Program} {O : aM_} {ops : Array Oper} {l : List Oper} {K : Fr → Prop} {s : Nat → T} {σ σ0 : St} {L : List (Nat × T)} {es ents : List Ent}
variable {d : Option Nat} {ty : TypeId} {ps : String} {af : Array Edge} {g : Option (Nat × Bool)}
theorem Heap.mkRowK {z : Bool} {n sz : Nat} {cs us : List T} (h : Heap σ0 σ (ents ++ es)) {k : Option Nat} (hk : σ.okK k = true) (hbk : ∀ i, k = some i → σ0.next ≤ i) (hsz : sz ≠ 0) (hn0 : n ≠ 0) (hl : cs.length = n * sz) (h1 : cs.all T.one = true) (hh : HL z cs us ents) :
  Heap σ0 (σ.pushK k (aP_ cs sz)) (.own z sz (.ref (σ.nid k) 0 0 n) (.row false n us) :: es) := by
 have h0 : σ0.next ≤ σ.nid k := by
  cases k with
  | none => exact h.grow.nx
  | some i => exact hbk i rfl
 have hf := f9_ hk
 refine Heap.stepN (es1 := ents) (es2 := [.own z sz (.ref (σ.nid k) 0 0 n) (.row false n us)]) (es := es) h d3_ (fun b hb' => by rw [bo_, if_neg (by omega)]) fun S hS hn hb => ?_
 have hs : ∀ b ∈ S, (σ.pushK k (aP_ cs sz)).blk b = σ.blk b := fun b hb' => en_ hk (hS.some b hb') (hb b hb').2
 obtain ⟨kk, hkk⟩ := hh.sound (hS.same hs)
 have hself : (σ.pushK k (aP_ cs sz)).blk (σ.nid k) = some (aP_ cs sz) := by rw [bo_, if_pos rfl]
 have hnot : σ.nid k ∉ S := fun hm => by
  rcases hf with hf | ⟨hf, _⟩
  ·have := (hb _ hm).2; omega
  ·have := hS.some _ hm; rw [hf] at this; cases this
 refine ⟨σ.nid k :: S, ⟨σ.nid k :: S, [], by simp, ⟨rfl, (fun b e o n B h hB _ => by injection h with h; subst h; rw [hself] at hB; injection hB with hB; subst hB; rfl), kk + 1, ?_⟩, rfl⟩, List.nodup_cons.2 ⟨hnot, hn⟩, ?_, fun b hb' hs' _ => en_ hk hs' hb'⟩
 ·simp only [hold, hself, Option.bind_some, du_, hkk, Option.map_some]
  rw [if_pos (by simp only [aP_]; exact ⟨fun _ => trivial, trivial, Nat.le_refl _, trivial, hl, hsz, h1, hn0⟩)]
 ·intro b hb'
  rcases List.mem_cons.1 hb' with rfl | h
  ·exact .inr ⟨h0, ij_ hk, hf.imp id fun h => h.1⟩
  ·exact .inl h
theorem Heap.mkRow {z : Bool} {n sz : Nat} {cs us : List T} (h : Heap σ0 σ (ents ++ es)) (hsz : sz ≠ 0) (hn0 : n ≠ 0) (hl : cs.length = n * sz) (h1 : cs.all T.one = true) (hh : HL z cs us ents) :
  Heap σ0 (σ.pushK none (aP_ cs sz)) (.own z sz (.ref σ.next 0 0 n) (.row false n us) :: es) := h.mkRowK (k := none) rfl (fun _ e => by cases e) hsz hn0 hl h1 hh
theorem Heap.junk (h : Heap σ0 σ es) {k : Option Nat} (hk : σ.okK k = true) (hbk : ∀ i, k = some i → σ0.next ≤ i) (B : Blk) : Heap σ0 (σ.pushK k B) es := by
 have h0 : σ0.next ≤ σ.nid k := by
  cases k with
  | none => exact h.grow.nx
  | some i => exact hbk i rfl
 exact Heap.stepN (es1 := []) (es2 := []) (es := es) h d3_ (fun b hb' => by rw [bo_, if_neg (by omega)]) fun S hS hn hb => ⟨[], rfl, by simp, by simp, fun b hb' hs' _ => en_ hk hs' hb'⟩
theorem lW_ {sz : Nat} : ∀ (vs : List T), allV sz vs → (vs.flatMap T.cells).all T.one = true
 | [], _ => rfl
 | v :: vs, h => by simp only [List.flatMap_cons, List.all_append, h.2.1, lW_ vs h.2.2, Bool.and_self]
theorem t7_ {m : Mo} (hm : m.chg = true) (hmb : m.base σ0) {t e len sz : Nat} {parts : Array (Nat × Operand)} {z : Bool} {vs zc cs us : List T} {v : T} (hw : want ops L g = some true) (hS : Sub L s) (hH : Heap σ0 σ (ents ++ es)) (hg : gPs (get L) parts.toList = some (enumV 0 vs))
  (he : av_ P t = some e) (hz : szOf P e = some sz) (hzz : aZ_ P e = some zc) (hl : (Nat.beq zc.length sz && Nat.beq vs.length len && Nat.ble (len * sz) 16777216 && !Nat.beq sz 0 && !Nat.beq len 0) = true) (hv : allV sz vs) (hc : vs.flatMap T.cells = cs)
  (hh : HL z cs us ents) (hr : T.row false len us = v)
  (kk : ∀ t' σ' s', ar_ t' → Heap σ0 σ' (.own z sz t' v :: es) → Sub (putL L d t') s' → opsX P O ops (nxM m) l K ⟨s', σ'⟩) : opsX P O ops m (⟨d, .buildSlice t len parts, ty, ps, af, g⟩ :: l) K ⟨s, σ⟩ := by
 simp only [Bool.and_eq_true, Bool.not_eq_true'] at hl
 obtain ⟨⟨⟨⟨l1, l2⟩, l3⟩, l4⟩, l5⟩ := hl
 have l1 := Nat.eq_of_beq_eq_true l1; have l2 := Nat.eq_of_beq_eq_true l2; have l3 := Nat.le_of_ble_eq_true l3; have l4 := Nat.ne_of_beq_eq_false l4; have l5 := Nat.ne_of_beq_eq_false l5
 subst hr
 have hlen : cs.length = len * sz := by rw [← hc, ← l2]; exact jB_ vs hv
 refine gY_ hm rfl (aJ_ hS hw) fun k hk hi => ⟨T.ref (σ.nid k) 0 0 len, σ.pushK k (aP_ cs sz), ?_, Cg.push hk, ?_⟩
 ·rw [fT_, he, Option.bind_some, hz, Option.bind_some, hzz, Option.bind_some, fN_ hS hg, Option.bind_some, iE_, if_pos ⟨l1, l3, l4, hk⟩]
  have := h4_ zc l1 vs [] 0 (by simp) hv
  simp only [List.nil_append, l2, hc] at this
  rw [this, if_neg l5]; rfl
 ·rw [bT_]; exact kk _ _ _ ⟨rfl, rfl⟩ (hH.mkRowK hk (Mo.inb_base hi hmb) l4 l5 hlen (by rw [← hc]; exact lW_ vs hv) hh) (a0_ hS d _ σ)
theorem uw_ {m : Mo} (hm : m.chg = true) (hmb : m.base σ0) {t e sz : Nat} {z : Bool} {zc : List T} (hw : want ops L g = some true) (hS : Sub L s) (hH : Heap σ0 σ es)
  (he : av_ P t = some e) (hz : szOf P e = some sz) (hzz : aZ_ P e = some zc) (hl : (Nat.beq zc.length sz && !Nat.beq sz 0) = true)
  (kk : ∀ t' σ' s', ar_ t' → Heap σ0 σ' (.own z sz t' (.row false 0 []) :: es) → Sub (putL L d t') s' → opsX P O ops (nxM m) l K ⟨s', σ'⟩) : opsX P O ops m (⟨d, .buildSlice t 0 #[], ty, ps, af, g⟩ :: l) K ⟨s, σ⟩ := by
 simp only [Bool.and_eq_true, Bool.not_eq_true'] at hl
 have l1 := Nat.eq_of_beq_eq_true hl.1; have l4 := Nat.ne_of_beq_eq_false hl.2
 refine gY_ hm rfl (aJ_ hS hw) fun k hk hi => ⟨T.emp, σ.pushK k (aP_ [] sz), ?_, Cg.push hk, ?_⟩
 ·rw [fT_, he, Option.bind_some, hz, Option.bind_some, hzz, Option.bind_some]
  show (some []).bind _ = _
  rw [Option.bind_some, iE_, if_pos ⟨l1, by omega, l4, hk⟩]; rfl
 ·rw [bT_]; exact kk _ _ _ ⟨rfl, rfl⟩ ((hH.junk hk (Mo.inb_base hi hmb) _).addEmp z sz) (a0_ hS d _ σ)
theorem cP_ {z : Bool} {k : Nat} {t : T} {zz : Bool} {n : Nat} {cs : List T} {S : List Nat} (ht : isTop t = true) (h : hold z σ k t = some (.row zz n cs, S)) :
  (t = .row true 0 [] ∧ zz = true ∧ n = 0 ∧ cs = [] ∧ S = []) ∨ (t = .emp ∧ zz = false ∧ n = 0 ∧ cs = [] ∧ S = []) ∨
  (zz = false ∧ ∃ b B S' k', t = .ref b B.ep 0 n ∧ σ.blk b = some B ∧ (z = true → B.st = true) ∧ B.low ≤ B.ep ∧ B.cells.length = n * B.esz ∧ B.esz ≠ 0 ∧ B.cells.all T.one = true ∧ frzL (hold z σ k') B.cells = some (cs, S') ∧ S = b :: S') := by
 cases t with
 | row z' n' cs' =>
  cases z' <;> cases n' <;> cases cs' <;> simp [isTop] at ht
  simp at h; obtain ⟨⟨rfl, rfl, rfl⟩, rfl⟩ := h; simp
 | emp => cases k <;> simp [hold] at h <;> (obtain ⟨⟨rfl, rfl, rfl⟩, rfl⟩ := h; simp)
 | ref b e off n' =>
  cases k with
  | zero => simp [hold] at h
  | succ k =>
   simp only [hold] at h
   obtain ⟨B, hb, h1⟩ := Option.bind_eq_some_iff.1 h
   split at h1
   ·rename_i hc
    obtain ⟨⟨us, S1⟩, h2, h3⟩ := Option.map_eq_some_iff.1 h1
    injection h3 with h3 h4; injection h3 with h5 h6 h7
    subst h4; subst h5; subst h6; subst h7
    obtain ⟨c1, rfl, c3, rfl, c5, c6, c7, _⟩ := hc
    exact .inr (.inr ⟨rfl, b, B, S1, k, rfl, hb, c1, c3, c5, c6, c7, h2, rfl⟩)
   ·cases h1
 | _ => simp [isTop] at ht
def appS {α : Type} (by_ : Nat) (a b : Sl α) : Option (Sl α) := match b.l with
 | [] => some a
 | _ :: _ => if (a.l.length + b.l.length) * by_ ≤ 1099511627776 then some ⟨false, a.l ++ b.l⟩ else none
theorem gP_ {α : Type} {by_ : Nat} {a b c : Sl α} (h : appS by_ a b = some c) : (b.l = [] ∧ c = a) ∨ (b.l ≠ [] ∧ (a.l.length + b.l.length) * by_ ≤ 1099511627776 ∧ c = ⟨false, a.l ++ b.l⟩) := by
 unfold appS at h
 split at h
 ·rename_i e; injection h with h; exact .inl ⟨e, h.symm⟩
 ·rename_i x xs e
  split at h
  ·rename_i hc; injection h with h; exact .inr ⟨by rw [e]; simp, hc, h.symm⟩
  ·cases h
theorem oh_ {α : Type} [Enc α] {z : Bool} {t1 : T} {a b : Sl α} {news : List T} {kx : Option Nat} (hkx : σ.okK kx = true) (hbk : ∀ i, kx = some i → σ0.next ≤ i) (hH : Heap σ0 σ (.own z (Enc.w α) t1 a.t :: ents ++ es)) (hb : b.l ≠ []) (h1 : news.all T.one = true)
  (hn : news.length = b.l.length * Enc.w α) (hsz : Enc.w α ≠ 0) (hh : ∀ S σ', cY_ σ ents S → S.Nodup → (∀ x ∈ S, σ'.blk x = σ.blk x) → ∃ S2 k, (∀ x ∈ S2, x ∈ S) ∧ S2.Nodup ∧ frzL (hold z σ' k) news = some (am_ b.l, S2)) :
  ((t1 = .row true 0 [] ∨ t1 = .emp) ∧ a.l.length = 0 ∧ Heap σ0 (σ.pushK kx (aP_ news (Enc.w α))) (.own z (Enc.w α) (.ref (σ.nid kx) 0 0 b.l.length) (Sl.t ⟨false, a.l ++ b.l⟩) :: es)) ∨
  (∃ x B, t1 = .ref x B.ep 0 a.l.length ∧ σ.blk x = some B ∧ B.cells.length = a.l.length * B.esz ∧ B.low ≤ B.ep ∧ B.esz = Enc.w α ∧ Heap σ0 (σ.set x { B with cells := B.cells ++ news, ep := B.ep + 1, ver := B.ver + 1 }) (.own z (Enc.w α) (.ref x (B.ep + 1) 0 (a.l.length + b.l.length)) (Sl.t ⟨false, a.l ++ b.l⟩) :: es)) := by
 obtain ⟨S, ⟨ht, hwd, k, h2⟩, _, _⟩ := hH.head
 have ea : a.t = .row a.z a.l.length (am_ a.l) := rfl
 rw [ea] at h2
 have fresh : a.l = [] → Heap σ0 (σ.pushK kx (aP_ news (Enc.w α))) (.own z (Enc.w α) (.ref (σ.nid kx) 0 0 b.l.length) (Sl.t ⟨false, a.l ++ b.l⟩) :: es) := fun ha => by
  have h0 : σ0.next ≤ σ.nid kx := by
   cases kx with
   | none => exact hH.grow.nx
   | some i => exact hbk i rfl
  have hf := f9_ hkx
  refine Heap.stepN (es1 := .own z (Enc.w α) t1 a.t :: ents) (es2 := [.own z (Enc.w α) (.ref (σ.nid kx) 0 0 b.l.length) (Sl.t ⟨false, a.l ++ b.l⟩)]) (es := es) hH d3_ (fun b hb' => by rw [bo_, if_neg (by omega)]) fun F hF hnd hbd => ?_
  have hall := hF.some
  obtain ⟨S1, F1, rfl, h3, h4⟩ := hF
  have hs : ∀ y ∈ F1, (σ.pushK kx (aP_ news (Enc.w α))).blk y = σ.blk y := fun y hy => en_ hkx (hall y (by simp [hy])) (hbd y (by simp [hy])).2
  obtain ⟨S2, k2, q1, q2, q3⟩ := hh F1 _ h4 (List.nodup_append.1 hnd).2.1 hs
  have hself : (σ.pushK kx (aP_ news (Enc.w α))).blk (σ.nid kx) = some (aP_ news (Enc.w α)) := by rw [bo_, if_pos rfl]
  have hnot : σ.nid kx ∉ S2 := fun hm => by
   have hm := q1 _ hm
   rcases hf with hf | ⟨hf, _⟩
   ·have := (hbd (σ.nid kx) (by simp [hm])).2; omega
   ·have := hall (σ.nid kx) (by simp [hm]); rw [hf] at this; cases this
  refine ⟨σ.nid kx :: S2, ⟨σ.nid kx :: S2, [], by simp, ⟨rfl, (fun b e o n B h hB _ => by injection h with h; subst h; rw [hself] at hB; injection hB with hB; subst hB; rfl), k2 + 1, ?_⟩, rfl⟩, List.nodup_cons.2 ⟨hnot, q2⟩, ?_, fun y hy hys _ => en_ hkx hys hy⟩
  ·simp only [hold, hself, Option.bind_some, du_, q3, Option.map_some, ha, List.nil_append, Sl.t]
   rw [if_pos (by simp only [aP_]; exact ⟨fun _ => trivial, trivial, Nat.le_refl _, trivial, hn, hsz, h1, fun e => hb (List.length_eq_zero_iff.1 e)⟩)]
  ·intro y hy
   rcases List.mem_cons.1 hy with rfl | hy
   ·exact .inr ⟨h0, ij_ hkx, hf.imp id fun h => h.1⟩
   ·exact .inl (by simp [q1 _ hy])
 rcases cP_ ht h2 with ⟨rfl, hz, hn0, hcs, rfl⟩ | ⟨rfl, hz, hn0, hcs, rfl⟩ | ⟨hz, x, B, S', k', rfl, hB, c1, c3, c5, c6, c7, h3, rfl⟩
 ·exact .inl ⟨.inl rfl, hn0, fresh (List.length_eq_zero_iff.1 hn0)⟩
 ·exact .inl ⟨.inr rfl, hn0, fresh (List.length_eq_zero_iff.1 hn0)⟩
 ·have hesz := hwd _ _ _ _ _ rfl hB hsz
  refine .inr ⟨x, B, rfl, hB, c5, c3, hesz, ?_⟩
  refine Heap.step (es1 := .own z (Enc.w α) (.ref x B.ep 0 a.l.length) a.t :: ents) (es2 := [.own z (Enc.w α) (.ref x (B.ep + 1) 0 (a.l.length + b.l.length)) (Sl.t ⟨false, a.l ++ b.l⟩)]) (es := es) hH (by simp) fun F hF hnd hbd => ?_
  obtain ⟨S1, F1, rfl, ⟨_, _, k5, h5⟩, h4⟩ := hF
  have : S1 = x :: S' := by
   have e1 := bW_ k _ _ _ h2 (max k k5) (Nat.le_max_left _ _)
   have e2 := bW_ k5 _ _ _ h5 (max k k5) (Nat.le_max_right _ _)
   rw [ea, e1] at e2; injection e2 with e2; injection e2 with _ e2; exact e2.symm
  subst this
  obtain ⟨n1, n2, n3⟩ := List.nodup_append.1 hnd
  have hxS : x ∉ S' := (List.nodup_cons.1 n1).1
  have hxF : x ∉ F1 := fun h => n3 x (by simp) x h rfl
  have hs : ∀ y ∈ F1, (σ.set x { B with cells := B.cells ++ news, ep := B.ep + 1, ver := B.ver + 1 }).blk y = σ.blk y := fun y hy => by
   have hne : y ≠ x := fun e => by subst e; exact hxF hy
   rw [ct_, if_neg hne]
  obtain ⟨S2, k2, q1, q2, q3⟩ := hh F1 _ h4 n2 hs
  have h6 := aE_ (g := hold z (σ.set x { B with cells := B.cells ++ news, ep := B.ep + 1, ver := B.ver + 1 }) k') (fun t v S'' _ hq hq2 => cK_ k' t v S'' (fun y hy => by
   have hne : y ≠ x := fun e => by subst e; exact hxS (hq2 _ hy)
   rw [ct_, if_neg hne]) hq) h3
  have h7 := bR_ (bb_ (Nat.le_max_left k' k2) h6) (bb_ (Nat.le_max_right k' k2) q3)
  refine ⟨x :: (S' ++ S2), ⟨x :: (S' ++ S2), [], by simp, ⟨rfl, (fun b e o n B' h hB' _ => by injection h with h; subst h; rw [bO_] at hB'; injection hB' with hB'; subst hB'; exact hesz), max k' k2 + 1, ?_⟩, rfl⟩, ?_, ?_, fun y hy hm => by
   have hne : y ≠ x := fun e => hm (by simp [e])
   rw [ct_, if_neg hne]⟩
  ·simp only [hold, bO_, Option.bind_some, h7, Option.map_some, Sl.t, cellsL_append, List.length_append]
   rw [if_pos ⟨c1, trivial, by omega, trivial, by rw [c5, hn, hesz, Nat.add_mul], c6, by rw [List.all_append, c7, h1]; rfl, by have := List.length_pos_iff.2 hb; omega⟩]
  ·refine List.nodup_cons.2 ⟨fun hm => ?_, List.nodup_append.2 ⟨(List.nodup_cons.1 n1).2, q2, fun a ha b hb => n3 a (by simp [ha]) b (q1 b hb)⟩⟩
   rcases List.mem_append.1 hm with hm | hm
   ·exact hxS hm
   ·exact hxF (q1 _ hm)
  ·intro y hy
   refine .inl ?_
   rcases List.mem_cons.1 hy with rfl | hy
   ·simp
   ·rcases List.mem_append.1 hy with hy | hy
    ·simp [hy]
    ·simp [q1 _ hy]
theorem ly_ {α : Type} [Enc α] {z : Bool} {t1 y : T} {a b c : Sl α} {t t2 e by_ : Nat} {zc news : List T} {kx : Option Nat} (hkx : σ.okK kx = true) (hbk : ∀ i, kx = some i → σ0.next ≤ i) (hH : Heap σ0 σ (.own z (Enc.w α) t1 a.t :: ents ++ es)) (hc : appS by_ a b = some c)
  (he : av_ P t = some e) (hz : szOf P e = some (Enc.w α)) (hby : bY_ P e = some by_) (hzz : aZ_ P e = some zc) (hcl : (!b0_ P t2 && Nat.beq zc.length (Enc.w α) && !Nat.beq (Enc.w α) 0 && !Nat.beq by_ 0 && Nat.ble by_ 1048576) = true)
  (hy : ep_ σ (Enc.w α) y = some (b.l.length, news)) (hsrc : ex_ P t2 y = true) (h1 : news.all T.one = true) (hn : news.length = b.l.length * Enc.w α)
  (hh : ∀ S σ', cY_ σ ents S → S.Nodup → (∀ x ∈ S, σ'.blk x = σ.blk x) → ∃ S2 k, (∀ x ∈ S2, x ∈ S) ∧ S2.Nodup ∧ frzL (hold z σ' k) news = some (am_ b.l, S2))
  : ∃ t' σ', a7_ P kx σ t t2 t1 y = some (t', σ') ∧ ar_ t' ∧ Heap σ0 σ' (.own z (Enc.w α) t' c.t :: es) ∧ σ.next ≤ σ'.next ∧ ∀ x, x < σ.next → kx ≠ some x → σ'.blk x = σ.blk x ∨ ((∃ e o n, t1 = .ref x e o n) ∧ (σ.blk x).isSome = true) := by
 simp only [Bool.and_eq_true, Bool.not_eq_true'] at hcl
 obtain ⟨⟨⟨⟨c1, c2⟩, c3⟩, c4⟩, c5⟩ := hcl
 have c2 := Nat.eq_of_beq_eq_true c2; have c3 := Nat.ne_of_beq_eq_false c3; have c4 := Nat.ne_of_beq_eq_false c4; have c5 := Nat.le_of_ble_eq_true c5
 have start : a7_ P kx σ t t2 t1 y = match t1 with
   | .row true 0 [] => if b.l.length = 0 then some (t1, σ) else if b.l.length * by_ ≤ 2 ^ 40 ∧ σ.okK kx = true then some (.ref (σ.nid kx) 0 0 b.l.length, σ.pushK kx (aP_ news (Enc.w α))) else none
   | .emp => if b.l.length = 0 then some (t1, σ) else if b.l.length * by_ ≤ 2 ^ 40 ∧ σ.okK kx = true then some (.ref (σ.nid kx) 0 0 b.l.length, σ.pushK kx (aP_ news (Enc.w α))) else none
   | .row false n cs => if b.l.length = 0 then some (t1, σ) else none
   | .ref x ep off n => (σ.blk x).bind fun B =>
     if b.l.length = 0 then (if B.esz = Enc.w α ∧ B.low ≤ ep then some (t1, σ) else none)
     else if off = 0 ∧ ep = B.ep ∧ B.esz = Enc.w α ∧ B.cells.length = n * Enc.w α ∧ (n + b.l.length) * by_ ≤ 2 ^ 40 then
      some (.ref x (ep + 1) 0 (n + b.l.length), σ.set x { B with cells := B.cells ++ news, ep := ep + 1, ver := B.ver + 1 })
     else if off = 0 ∧ ep = B.ep ∧ B.esz = Enc.w α ∧ n * Enc.w α ≤ B.cells.length ∧ B.st = true ∧ (n + b.l.length) * by_ ≤ 2 ^ 40 then
      some (.ref x (ep + 2) 0 (n + b.l.length), σ.set x { B with cells := B.cells.take (n * Enc.w α) ++ news, ep := ep + 2, low := ep + 1, ver := B.ver + 2 })
     else none
   | _ => none := by
  unfold a7_
  rw [he, Option.bind_some, hz, Option.bind_some, hby, Option.bind_some, hzz, Option.bind_some, c1, if_neg (by simp), if_neg (by omega), hy, Option.bind_some]
  simp only
  rw [if_neg (by simp [h1, hsrc])]
  cases t1 with
  | row z n cs => cases z <;> cases n <;> cases cs <;> rfl
  | _ => rfl
 rw [start]
 rcases gP_ hc with ⟨hb, rfl⟩ | ⟨hb, hlim, rfl⟩
 ·have hb0 : b.l.length = 0 := by rw [hb]; rfl
  have hH' : Heap σ0 σ (.own z (Enc.w α) t1 c.t :: es) := Heap.step (es1 := .own z (Enc.w α) t1 c.t :: ents) (es2 := [.own z (Enc.w α) t1 c.t]) (es := es) hH (Nat.le_refl _) fun F hF hnd hbd => by
   obtain ⟨S1, F1, rfl, h3, h4⟩ := hF
   exact ⟨S1, ⟨S1, [], by simp, h3, rfl⟩, (List.nodup_append.1 hnd).1, fun x hx => .inl (by simp [hx]), fun _ _ _ => rfl⟩
  obtain ⟨S, ⟨ht, hwd, k, h2⟩, _, _⟩ := hH.head
  have hone := gR_ ht
  rcases cP_ ht h2 with ⟨rfl, _⟩ | ⟨rfl, _⟩ | ⟨_, x, B, S', k', rfl, hB, q1, q3, q5, q6, q7, h3, rfl⟩
  ·exact ⟨_, σ, by simp [hb0], hone, hH', Nat.le_refl _, fun _ _ _ => .inl rfl⟩
  ·exact ⟨_, σ, by simp [hb0], hone, hH', Nat.le_refl _, fun _ _ _ => .inl rfl⟩
  ·refine ⟨_, σ, ?_, hone, hH', Nat.le_refl _, fun _ _ _ => .inl rfl⟩
   simp only [hB, Option.bind_some, hb0, if_true]
   rw [if_pos ⟨hwd _ _ _ _ _ rfl hB c3, q3⟩]
 ·have hb0 : b.l.length ≠ 0 := fun h => hb (List.length_eq_zero_iff.1 h)
  rcases oh_ hkx hbk hH hb h1 hn c3 hh with ⟨h | h, h0, hH'⟩ | ⟨x, B, rfl, hB, q5, q3, hesz, hH'⟩
  ·subst h
   refine ⟨_, _, ?_, ⟨rfl, rfl⟩, hH', d3_, fun x hx hne => .inl (by rw [bo_, if_neg]; rintro rfl; cases kx with | none => simp [St.nid] at hx | some i => exact hne rfl)⟩
   simp only
   rw [if_neg hb0, if_pos ⟨by rw [h0] at hlim; simpa using hlim, hkx⟩]
  ·subst h
   refine ⟨_, _, ?_, ⟨rfl, rfl⟩, hH', d3_, fun x hx hne => .inl (by rw [bo_, if_neg]; rintro rfl; cases kx with | none => simp [St.nid] at hx | some i => exact hne rfl)⟩
   simp only
   rw [if_neg hb0, if_pos ⟨by rw [h0] at hlim; simpa using hlim, hkx⟩]
  ·refine ⟨_, _, ?_, ⟨rfl, rfl⟩, hH', Nat.le_refl _, fun y _ _ => ?_⟩
   rotate_left
   ·by_cases e : y = x
    ·subst e; exact .inr ⟨⟨_, _, _, rfl⟩, by rw [hB]; rfl⟩
    ·exact .inl (by rw [ct_, if_neg e])
   simp only [hB, Option.bind_some]
   rw [if_neg hb0, if_pos ⟨trivial, trivial, hesz, by rw [q5, hesz], hlim⟩]
theorem mB_ {α : Type} [Enc α] {z : Bool} {y : T} {b : Sl α} {t2 : TypeId} (hH : Heap σ0 σ (.own z (Enc.w α) y b.t :: es)) (hsz : Enc.w α ≠ 0) (hk : aH_ P t2 = 4) :
  ∃ news, ep_ σ (Enc.w α) y = some (b.l.length, news) ∧ ex_ P t2 y = true ∧ news.all T.one = true ∧ news.length = b.l.length * Enc.w α ∧
   ∀ S σ', cY_ σ [.own z (Enc.w α) y b.t] S → S.Nodup → (∀ x ∈ S, σ'.blk x = σ.blk x) → ∃ S2 k, (∀ x ∈ S2, x ∈ S) ∧ S2.Nodup ∧ frzL (hold z σ' k) news = some (am_ b.l, S2) := by
 obtain ⟨S, ⟨ht, hwd, k, h2⟩, _, _⟩ := hH.head
 have eb : b.t = .row b.z b.l.length (am_ b.l) := rfl
 have h2' := h2
 rw [eb] at h2
 have hs0 : y.isStr = false := by cases y <;> simp [isTop] at ht <;> rfl
 have hsrc : ex_ P t2 y = true := by simp [ex_, hs0, hk]
 rcases cP_ ht h2 with ⟨rfl, hz, hn0, hcs, rfl⟩ | ⟨rfl, hz, hn0, hcs, rfl⟩ | ⟨hz, x, B, S', k', rfl, hB, c1, c3, c5, c6, c7, h3, rfl⟩
 ·exact ⟨[], by simp [ep_, cellsOf, hn0], hsrc, rfl, by simp [hn0], fun S σ' _ _ _ => ⟨[], 0, by simp, by simp, by rw [hcs]; rfl⟩⟩
 ·exact ⟨[], by simp [ep_, cellsOf, hn0], hsrc, rfl, by simp [hn0], fun S σ' _ _ _ => ⟨[], 0, by simp, by simp, by rw [hcs]; rfl⟩⟩
 ·have hesz := hwd _ _ _ _ _ rfl hB hsz
  refine ⟨B.cells, ?_, hsrc, c7, by rw [c5, hesz], fun S σ' hR hnd hx => ?_⟩
  ·have e : (B.cells.drop 0).take (b.l.length * B.esz) = B.cells := by rw [List.drop_zero, ← c5, List.take_length]
   simp only [ep_, cellsOf, hB, Option.bind_some, if_pos c3, e]
   rw [if_pos (by rw [c5, hesz])]
  ·obtain ⟨S1, F1, rfl, ⟨_, _, k5, h5⟩, h4⟩ := hR
   cases h4
   have e : S1 = x :: S' := by
    have e1 := bW_ k _ _ _ h2' (max k k5) (Nat.le_max_left _ _)
    have e2 := bW_ k5 _ _ _ h5 (max k k5) (Nat.le_max_right _ _)
    rw [e1] at e2; injection e2 with e2; injection e2 with _ e2; exact e2.symm
   subst e
   refine ⟨S', k', fun y hy => by simp [hy], ?_, aE_ (fun t v S'' _ hq hq2 => cK_ k' t v S'' (fun y hy => hx y (by simp [hq2 y hy])) hq) h3⟩
   simp only [List.append_nil] at hnd
   exact (List.nodup_cons.1 hnd).2
theorem sx_ {m : Mo} (hm : m.chg = true) (hmb : m.base σ0) {α : Type} [Enc α] {z : Bool} {x y : Operand} {t1 ty1 : T} {a b c : Sl α} {t t2 e by_ : Nat} {zc : List T} (hwr : ∀ b e o n, t1 = .ref b e o n → m.wr b) (hw : want ops L g = some true) (hS : Sub L s) (hH : Heap σ0 σ (.own z (Enc.w α) t1 a.t :: .own z (Enc.w α) ty1 b.t :: es))
  (hx : gE (get L) x = some t1) (hy : gE (get L) y = some ty1) (he : av_ P t = some e) (hz : szOf P e = some (Enc.w α)) (hby : bY_ P e = some by_) (hzz : aZ_ P e = some zc)
  (hcl : (!b0_ P t2 && Nat.beq zc.length (Enc.w α) && !Nat.beq (Enc.w α) 0 && !Nat.beq by_ 0 && Nat.ble by_ 1048576) = true) (hk : aH_ P t2 = 4) (hc : appS by_ a b = some c)
  (kk : ∀ t' σ' s', ar_ t' → Heap σ0 σ' (.own z (Enc.w α) t' c.t :: es) → Sub (putL L d t') s' → opsX P O ops (nxM m) l K ⟨s', σ'⟩) : opsX P O ops m (⟨d, .call ⟨.builtin .append, #[x, y], #[t, t2]⟩, ty, ps, af, g⟩ :: l) K ⟨s, σ⟩ := by
 have hsz : Enc.w α ≠ 0 := by simp only [Bool.and_eq_true, Bool.not_eq_true'] at hcl; exact Nat.ne_of_beq_eq_false hcl.1.1.2
 obtain ⟨news, h1, h2, h3, h4, h5⟩ := mB_ (P := P) (t2 := t2) (hH.pull 1) hsz hk
 refine gY_ hm rfl (aJ_ hS hw) fun kx hkx hi => ?_
 obtain ⟨t', σ', k1, k2, k3, k4, k5⟩ := ly_ hkx (Mo.inb_base hi hmb) (ents := [.own z (Enc.w α) ty1 b.t]) hH hc he hz hby hzz hcl h1 h2 h3 h4 h5
 refine ⟨t', σ', ?_, ⟨k4, fun x hx hne => (k5 x hx hne).imp id fun h => ⟨by obtain ⟨⟨e, o, n, h1⟩, _⟩ := h; exact hwr x e o n h1, h.2⟩⟩, ?_⟩
 ·have ev : bA_ s [x, y] = some [t1, ty1] := by simp only [bA_, ai_ hS hx, ai_ hS hy, Option.bind_some, Option.map_some]
  show ((bA_ s [x, y]).bind fun args => match args, [t, t2] with | [x, y], [t, t2] => (a7_ P kx σ t t2 x y).map fun (x, σ) => ARes.val x σ | _, _ => none) = _
  rw [ev, Option.bind_some]
  show (a7_ P kx σ t t2 _ _).map _ = _
  rw [k1]; rfl
 ·rw [bT_]; exact kk _ _ _ k2 k3 (a0_ hS d _ σ)
theorem nS_ {m : Mo} (hm : m.chg = true) (hmb : m.base σ0) {α : Type} [Enc α] {z : Bool} [Hld z α] {x y : Operand} {t1 : T} {a b c : Sl α} {t t2 e by_ : Nat} {zc : List T} (hwr : ∀ b e o n, t1 = .ref b e o n → m.wr b) (hw : want ops L g = some true) (hS : Sub L s) (hH : Heap σ0 σ (.own z (Enc.w α) t1 a.t :: es))
  (hx : gE (get L) x = some t1) (hy : gE (get L) y = some b.t) (he : av_ P t = some e) (hz : szOf P e = some (Enc.w α)) (hby : bY_ P e = some by_) (hzz : aZ_ P e = some zc)
  (hcl : (!b0_ P t2 && Nat.beq zc.length (Enc.w α) && !Nat.beq (Enc.w α) 0 && !Nat.beq by_ 0 && Nat.ble by_ 1048576) = true) (hk : aH_ P t2 = 4) (hc : appS by_ a b = some c)
  (kk : ∀ t' σ' s', ar_ t' → Heap σ0 σ' (.own z (Enc.w α) t' c.t :: es) → Sub (putL L d t') s' → opsX P O ops (nxM m) l K ⟨s', σ'⟩) : opsX P O ops m (⟨d, .call ⟨.builtin .append, #[x, y], #[t, t2]⟩, ty, ps, af, g⟩ :: l) K ⟨s, σ⟩ := by
 have h1 : ep_ σ (Enc.w α) b.t = some (b.l.length, am_ b.l) := by simp only [ep_, Sl.t, cellsOf, Option.bind_some, cellsL_len, if_true]
 have h2 : ex_ P t2 b.t = true := by simp [ex_, Sl.t, T.isStr, hk]
 refine gY_ hm rfl (aJ_ hS hw) fun kx hkx hi => ?_
 obtain ⟨t', σ', k1, k2, k3, k4, k5⟩ := ly_ hkx (Mo.inb_base hi hmb) (ents := []) hH hc he hz hby hzz hcl h1 h2 (cellsL_one b.l) (cellsL_len b.l) (fun S σ' _ _ _ => ⟨[], 0, by simp, by simp, Hld.list σ' 0 b.l⟩)
 refine ⟨t', σ', ?_, ⟨k4, fun x hx hne => (k5 x hx hne).imp id fun h => ⟨by obtain ⟨⟨e, o, n, h1⟩, _⟩ := h; exact hwr x e o n h1, h.2⟩⟩, ?_⟩
 ·have ev : bA_ s [x, y] = some [t1, b.t] := by simp only [bA_, ai_ hS hx, ai_ hS hy, Option.bind_some, Option.map_some]
  show ((bA_ s [x, y]).bind fun args => match args, [t, t2] with | [x, y], [t, t2] => (a7_ P kx σ t t2 x y).map fun (x, σ) => ARes.val x σ | _, _ => none) = _
  rw [ev, Option.bind_some]
  show (a7_ P kx σ t t2 _ _).map _ = _
  rw [k1]; rfl
 ·rw [bT_]; exact kk _ _ _ k2 k3 (a0_ hS d _ σ)
theorem rO_ {α : Type} [Enc α] {z : Bool} [Hld z α] {x y : Operand} {t1 : T} {a b c : Sl α} {t t2 e by_ : Nat} {zc : List T} (hw : want ops L g = some true) (hS : Sub L s) (hH : Heap σ0 σ (.own z (Enc.w α) t1 a.t :: es))
  (hx : gE (get L) x = some t1) (hy : gE (get L) y = some b.t) (he : av_ P t = some e) (hz : szOf P e = some (Enc.w α)) (hby : bY_ P e = some by_) (hzz : aZ_ P e = some zc)
  (hcl : (!b0_ P t2 && Nat.beq zc.length (Enc.w α) && !Nat.beq (Enc.w α) 0 && !Nat.beq by_ 0 && Nat.ble by_ 1048576) = true) (hk : aH_ P t2 = 4) (hc : appS by_ a b = some c)
  (kk : ∀ t' σ' s', ar_ t' → Heap σ0 σ' (.own z (Enc.w α) t' c.t :: es) → Sub (putL L d t') s' → opsX P O ops .q l K ⟨s', σ'⟩) : opsX P O ops .q (⟨d, .call ⟨.builtin .append, #[x, y], #[t, t2]⟩, ty, ps, af, g⟩ :: l) K ⟨s, σ⟩ :=
 nS_ (m := .q) rfl trivial (fun _ _ _ _ _ => trivial) hw hS hH hx hy he hz hby hzz hcl hk hc kk
theorem dH_ {α : Type} [Enc α] (x : α) : ∀ n, am_ (List.replicate n x) = (List.replicate n (Enc.cells x)).flatten
 | 0 => rfl
 | n + 1 => by simp only [List.replicate_succ, am_, List.flatten_cons, dH_ x n]
theorem s6_ {α : Type} [Enc α] {z : Bool} {x : Operand} {w : Nat} {t1 : T} {a : Sl α} {t : TypeId} {m : Mo} (hw : want ops L g = some true) (hS : Sub L s) (hH : Heap σ0 σ (.own z w t1 a.t :: es)) (hx : gE (get L) x = some t1) (hk : aH_ P t = 4)
  (kk : ∀ s', Sub (putL L d (.int .i64 a.l.length)) s' → opsX P O ops (nxM m) l K ⟨s', σ⟩) : opsX P O ops m (⟨d, .call ⟨.builtin .len, #[x], #[t]⟩, ty, ps, af, g⟩ :: l) K ⟨s, σ⟩ := by
 obtain ⟨S, ⟨ht, hwd, k, h2⟩, _, _⟩ := hH.head
 have ea : a.t = .row a.z a.l.length (am_ a.l) := rfl
 rw [ea] at h2
 have hl : lenA P σ t t1 = some (.int .i64 a.l.length) := by
  rcases cP_ ht h2 with ⟨rfl, hz, hn0, hcs, rfl⟩ | ⟨rfl, hz, hn0, hcs, rfl⟩ | ⟨hz, x, B, S', k', rfl, hB, _⟩
  ·simp [hk, hn0]
  ·simp [hk, hn0]
  ·simp [hk]
 refine dc_ hw hS (fun kk σ' _ => ?_) kk
 have ev : bA_ s [x] = some [t1] := by simp only [bA_, ai_ hS hx, Option.bind_some, Option.map_some]
 rw [qp_]
 show (bA_ s [x]).bind _ = _
 rw [ev, Option.bind_some, le_, lv_ P σ' σ, hl]; rfl
end
section
variable {P : Program} {O : aM_} {ops : Array Oper} {l : List Oper} {K : Fr → Prop} {s : Nat → T} {σ σ0 : St} {L : List (Nat × T)} {es ents : List Ent}
variable {d : Option Nat} {ty : TypeId} {ps : String} {af : Array Edge} {g : Option (Nat × Bool)}
theorem bL_ {f : T → Option (T × List Nat)} : ∀ {ts vs : List T} {F : List Nat} (n : Nat), frzL f ts = some (vs, F) → ∃ F1 F2, F = F1 ++ F2 ∧ frzL f (ts.take n) = some (vs.take n, F1) ∧ frzL f (ts.drop n) = some (vs.drop n, F2)
 | ts, vs, F, 0, h => ⟨[], F, rfl, by simp [frzL], by simpa using h⟩
 | [], vs, F, n + 1, h => by simp [frzL] at h; obtain ⟨rfl, rfl⟩ := h; exact ⟨[], [], rfl, by simp [frzL], by simp [frzL]⟩
 | t :: ts, vs, F, n + 1, h => by
  simp only [frzL] at h
  obtain ⟨⟨v0, S0⟩, h1, h2⟩ := Option.bind_eq_some_iff.1 h
  obtain ⟨⟨us, S1⟩, h3, h4⟩ := Option.map_eq_some_iff.1 h2
  injection h4 with h4 h5; subst h4; subst h5
  obtain ⟨F1, F2, rfl, h6, h7⟩ := bL_ n h3
  exact ⟨S0 ++ F1, F2, by simp, by simp only [List.take_succ_cons, frzL, h1, Option.bind_some, h6, Option.map_some], by simpa using h7⟩
theorem pl_ {α : Type} [Enc α] {z : Bool} {w : Nat} {t1 : T} {a : Sl α} {j : Int} {y : α} (hH : Heap σ0 σ (.own z w t1 a.t :: es)) (hy : elt a j = some y) : ∃ b ep, t1 = .ref b ep 0 a.l.length := by
 obtain ⟨S, ⟨ht, hwd, k, h2⟩, _, _⟩ := hH.head
 have ea : a.t = .row a.z a.l.length (am_ a.l) := rfl
 rw [ea] at h2
 obtain ⟨q1, q2, q3⟩ := d5_ hy
 rcases cP_ ht h2 with ⟨rfl, hz, hn0, hcs, rfl⟩ | ⟨rfl, hz, hn0, hcs, rfl⟩ | ⟨hz, x, B, S', k', rfl, hB, _⟩
 ·omega
 ·omega
 ·exact ⟨_, _, rfl⟩
theorem jI_ {α : Type} [Enc α] {f : T → Option (T × List Nat)} {B : Blk} {a : List α} {S : List Nat} (h : B.cells.length = a.length * B.esz) (h3 : frzL f B.cells = some (am_ a, S)) (hn : 0 < a.length) : B.esz = Enc.w α := by
 have h4 := ic_ h3
 rw [cellsL_len, h] at h4
 exact (Nat.eq_of_mul_eq_mul_left hn h4).symm
theorem rB_ {α : Type} [Enc α] {z : Bool} {w : Nat} {m : Mo} {x i : Operand} {t e : TypeId} {t1 : T} {a : Sl α} {kk : IntKind} {j : Int} {y : α} (hm : ∀ b e o n, t1 = .ref b e o n → m.lt b) (hw : want ops L g = some true) (hS : Sub L s) (hH : Heap σ0 σ (.own z w t1 a.t :: es)) (hx : gE (get L) x = some t1) (hi : gE (get L) i = some (.int kk j))
  (he : av_ P t = some e) (hz : szOf P e = some (Enc.w α)) (hy : elt a j = some y)
  (k : ∀ b ep s', t1 = .ref b ep 0 a.l.length → Sub (putL L d (.ptr b ep (j.toNat * Enc.w α) (Enc.w α))) s' → opsX P O ops (nxM m) l K ⟨s', σ⟩) : opsX P O ops m (⟨d, .indexAddr t x i, ty, ps, af, g⟩ :: l) K ⟨s, σ⟩ := by
 obtain ⟨b, ep, hr⟩ := pl_ hH hy
 obtain ⟨q1, q2, q3⟩ := d5_ hy
 obtain ⟨S, ⟨ht, hwd, k', h2⟩, _, _⟩ := hH.head
 have ea : a.t = .row a.z a.l.length (am_ a.l) := rfl
 rw [ea] at h2
 rcases cP_ ht h2 with ⟨rfl, hz, hn0, hcs, rfl⟩ | ⟨rfl, hz, hn0, hcs, rfl⟩ | ⟨hzz, x', B, S', k'', rfl, hB, c1, c3, c5, c6, c7, h3, rfl⟩
 ·cases hr
 ·cases hr
 ·injection hr with e1 e2 _ _
  subst e1; subst e2
  refine dc_ hw hS (fun kk σ' ha' => ?_) (fun s' => k x' B.ep s' rfl)
  rw [gt_, ai_ hS hx, Option.bind_some, ai_ hS hi, Option.bind_some, pR_, he, Option.bind_some, hz, Option.bind_some, Mo.al_blk ha' (hm _ _ _ _ rfl), hB, Option.bind_some, if_pos ⟨q1, q2, jI_ c5 h3 (by omega)⟩, Nat.zero_add]; rfl
theorem p2_ {α : Type} [Enc α] {z : Bool} {w : Nat} {m : Mo} {ad : Operand} {t : TypeId} {t1 : T} {a : Sl α} {j : Int} {y : α} {b ep off n : Nat} {c : List T} {v : T} (hm : ∀ b e o n, t1 = .ref b e o n → m.lt b) (hw : want ops L g = some true) (hS : Sub L s) (hH : Heap σ0 σ (.own z w t1 a.t :: es)) (hr : t1 = .ref b ep 0 a.l.length)
  (ha : gE (get L) ad = some (.ptr b ep (j.toNat * Enc.w α + off) n)) (hy : elt a j = some y) (hc : Enc.cells y = c) (hag : iS_ P t = some false) (hv : c[off]? = some v) (hn : Nat.ble 1 n = true) (hlf : ∀ σ d t S, hold z σ d t = some (v, S) → t = v)
  (k : ∀ s', Sub (putL L d v) s' → opsX P O ops (nxM m) l K ⟨s', σ⟩) : opsX P O ops m (⟨d, .load t ad, ty, ps, af, g⟩ :: l) K ⟨s, σ⟩ := by
 obtain ⟨q1, q2, q3⟩ := d5_ hy
 obtain ⟨S, ⟨ht, hwd, k', h2⟩, _, _⟩ := hH.head
 have ea : a.t = .row a.z a.l.length (am_ a.l) := rfl
 rw [ea] at h2
 rcases cP_ ht h2 with ⟨rfl, hz, hn0, hcs, rfl⟩ | ⟨rfl, hz, hn0, hcs, rfl⟩ | ⟨hzz, x', B, S', k'', rfl, hB, c1, c3, c5, c6, c7, h3, rfl⟩
 ·cases hr
 ·cases hr
 ·injection hr with e1 e2 _ _
  subst e1; subst e2
  obtain ⟨F1, F2, _, _, h5⟩ := bL_ (j.toNat * Enc.w α) h3
  rw [es_ a.l j.toNat y q3, hc] at h5
  obtain ⟨F3, F4, _, _, h6⟩ := bL_ off h5
  have hoff : off < c.length := (List.getElem?_eq_some_iff.1 hv).1
  have e1 : (c ++ am_ (a.l.drop (j.toNat + 1))).drop off = v :: ((c ++ am_ (a.l.drop (j.toNat + 1))).drop (off + 1)) := by
   rw [List.drop_eq_getElem_cons (by simp; omega)]
   congr 1
   rw [List.getElem_append_left hoff]
   exact (List.getElem?_eq_some_iff.1 hv).2
  rw [e1, List.drop_drop] at h6
  have hlen : (B.cells.drop (j.toNat * Enc.w α + off)) ≠ [] := fun h => by rw [h] at h6; simp [frzL] at h6
  obtain ⟨c0, cr, hcr⟩ := List.exists_cons_of_ne_nil hlen
  rw [hcr] at h6
  simp only [frzL] at h6
  obtain ⟨p, h7, h8⟩ := Option.bind_eq_some_iff.1 h6
  obtain ⟨q, h9, h10⟩ := Option.map_eq_some_iff.1 h8
  injection h10 with h10 _
  injection h10 with h10 _
  have hcv : c0 = v := hlf σ k'' c0 p.2 (by rw [h7, ← h10])
  refine dc_ hw hS (fun kk σ' ha' => ?_) k
  rw [hv_, ai_ hS ha, Option.bind_some, em_, Mo.al_blk ha' (hm _ _ _ _ rfl), hB, Option.bind_some, if_pos c3, nc_, hag, Option.bind_some, ie_, hcr, hcv]
  have := Nat.le_of_ble_eq_true hn
  obtain ⟨n, rfl⟩ : ∃ k, n = k + 1 := ⟨n - 1, by omega⟩
  simp
theorem lY_ {z : Bool} {k : IntKind} {n : Int} : ∀ (σ : St) (d : Nat) (t : T) (S : List Nat), hold z σ d t = some (.int k n, S) → t = .int k n := fun σ d t S h => by
 cases t with
 | row zz m cs => have := (gS_ h).1; cases this
 | ref b e o m =>
  cases d with
  | zero => simp [hold] at h
  | succ d =>
   simp only [hold] at h
   obtain ⟨B, _, h⟩ := Option.bind_eq_some_iff.1 h
   split at h
   ·obtain ⟨q, _, h⟩ := Option.map_eq_some_iff.1 h; injection h with h _; cases h
   ·cases h
 | agg cs => cases d <;> simp [hold] at h
 | tup cs => cases d <;> simp [hold] at h
 | emp => cases d <;> simp [hold] at h
 | _ => cases d <;> simp [hold] at h <;> simp_all
theorem k8_ {z : Bool} {n : Bool} : ∀ (σ : St) (d : Nat) (t : T) (S : List Nat), hold z σ d t = some (.bool n, S) → t = .bool n := fun σ d t S h => by
 cases t with
 | row zz m cs => have := (gS_ h).1; cases this
 | ref b e o m =>
  cases d with
  | zero => simp [hold] at h
  | succ d =>
   simp only [hold] at h
   obtain ⟨B, _, h⟩ := Option.bind_eq_some_iff.1 h
   split at h
   ·obtain ⟨q, _, h⟩ := Option.map_eq_some_iff.1 h; injection h with h _; cases h
   ·cases h
 | agg cs => cases d <;> simp [hold] at h
 | tup cs => cases d <;> simp [hold] at h
 | emp => cases d <;> simp [hold] at h
 | _ => cases d <;> simp [hold] at h <;> simp_all
theorem mr_ {z : Bool} {n : ByteArray} : ∀ (σ : St) (d : Nat) (t : T) (S : List Nat), hold z σ d t = some (.str n, S) → t = .str n := fun σ d t S h => by
 cases t with
 | row zz m cs => have := (gS_ h).1; cases this
 | ref b e o m =>
  cases d with
  | zero => simp [hold] at h
  | succ d =>
   simp only [hold] at h
   obtain ⟨B, _, h⟩ := Option.bind_eq_some_iff.1 h
   split at h
   ·obtain ⟨q, _, h⟩ := Option.map_eq_some_iff.1 h; injection h with h _; cases h
   ·cases h
 | agg cs => cases d <;> simp [hold] at h
 | tup cs => cases d <;> simp [hold] at h
 | emp => cases d <;> simp [hold] at h
 | _ => cases d <;> simp [hold] at h <;> simp_all
def setS {α : Type} (a : Sl α) (j : Int) (y : α) : Sl α := ⟨a.z, a.l.set j.toNat y⟩
theorem hc_ {α : Type} [Enc α] : ∀ (l : List α) (i : Nat) (x y : α), l[i]? = some x → am_ (l.set i y) = (am_ l).take (i * Enc.w α) ++ Enc.cells y ++ (am_ l).drop (i * Enc.w α + Enc.w α)
 | [], i, x, y, h => by simp at h
 | a :: l, 0, x, y, h => by simp [am_, Enc.len]
 | a :: l, i + 1, x, y, h => by
  have ih := hc_ l i x y (by simpa using h)
  simp only [List.set_cons_succ, am_, ih]
  rw [List.take_append, List.drop_append, Enc.len, List.take_of_length_le (l := Enc.cells a) (by rw [Enc.len, Nat.succ_mul]; omega), List.drop_of_length_le (l := Enc.cells a) (by rw [Enc.len, Nat.succ_mul]; omega), show (i + 1) * Enc.w α - Enc.w α = i * Enc.w α by rw [Nat.succ_mul]; omega, show (i + 1) * Enc.w α + Enc.w α - Enc.w α = i * Enc.w α + Enc.w α by rw [Nat.succ_mul]; omega]
  simp
theorem jr_ (A c R vs : List T) (p o n w : Nat) (hA : A.length = p) (hc : c.length = w) (h : o + n ≤ w) :
  A ++ (c.take o ++ vs ++ c.drop (o + n)) ++ (A ++ (c ++ R)).drop (p + w) = (A ++ (c ++ R)).take (p + o) ++ vs ++ ((A ++ (c ++ R)).drop (p + o)).drop n := by
 subst hA; subst hc
 have e1 : (A ++ (c ++ R)).drop (A.length + c.length) = R := by rw [← List.drop_drop, List.drop_left, List.drop_left]
 have e2 : (A ++ (c ++ R)).take (A.length + o) = A ++ c.take o := by
  rw [List.take_append, List.take_of_length_le (by omega), Nat.add_sub_cancel_left, List.take_append_of_le_length (by omega)]
 have e3 : ((A ++ (c ++ R)).drop (A.length + o)).drop n = c.drop (o + n) ++ R := by
  rw [← List.drop_drop, List.drop_left, List.drop_drop, List.drop_append_of_le_length (by omega)]
 rw [e1, e2, e3]; simp
theorem ki_ {m : Mo} (hmc : m.chg = true) {α : Type} [Enc α] {w : Nat} {ad x : Operand} {t : TypeId} {t1 : T} {a : Sl α} {j : Int} {y y' : α} {b ep off n : Nat} {c us vs : List T} {v : T} (hwr : m.wr b) (hw : want ops L g = some true) (hS : Sub L s) (hH : Heap σ0 σ (.own true w t1 a.t :: ents ++ es)) (hr : t1 = .ref b ep 0 a.l.length)
  (ha : gE (get L) ad = some (.ptr b ep (j.toNat * Enc.w α + off) n)) (hx : gE (get L) x = some v) (hcs : v.cells = us) (h1 : us.all T.one = true) (hsz : szOf P t = some us.length) (hn : Nat.ble us.length n = true) (hy : elt a j = some y) (hc : Enc.cells y = c)
  (hh : HL true us vs ents) (hb : Nat.ble (off + us.length) (Enc.w α) = true) (hc' : Enc.cells y' = c.take off ++ vs ++ c.drop (off + us.length))
  (k : ∀ σ' s', Heap σ0 σ' (.own true w t1 (setS a j y').t :: es) → Sub (putL L d (.tup [])) s' → opsX P O ops (nxM m) l K ⟨s', σ'⟩) : opsX P O ops m (⟨d, .store t ad x, ty, ps, af, g⟩ :: l) K ⟨s, σ⟩ := by
 obtain ⟨q1, q2, q3⟩ := d5_ hy
 subst hr
 obtain ⟨S, ⟨ht, hwd, k', h2⟩, _, _⟩ := hH.head
 have ea : a.t = .row a.z a.l.length (am_ a.l) := rfl
 rw [ea] at h2
 rcases cP_ ht h2 with ⟨hq, _⟩ | ⟨hq, _⟩ | ⟨hzz, x', B, S', k'', hq, hB, c1, c3, c5, c6, c7, h3, rfl⟩
 ·cases hq
 ·cases hq
 injection hq with e1 e2 _ _
 subst e1; subst e2
 have hesz := jI_ c5 h3 (by omega)
 have hb := Nat.le_of_ble_eq_true hb
 have hn := Nat.le_of_ble_eq_true hn
 have hpos : j.toNat * Enc.w α + off + us.length ≤ B.cells.length := by
  rw [c5, hesz]
  have : (j.toNat + 1) * Enc.w α ≤ a.l.length * Enc.w α := Nat.mul_le_mul_right _ (by omega)
  rw [Nat.succ_mul] at this; omega
 have hcl : c.length = Enc.w α := by rw [← hc, Enc.len]
 obtain ⟨pos, hpos0⟩ : ∃ pos, pos = j.toNat * Enc.w α + off := ⟨_, rfl⟩
 have hvs : vs.length = us.length := by
  have h4 := Enc.len y'
  rw [hc'] at h4
  simp only [List.length_append, List.length_take, List.length_drop, hcl] at h4
  omega
 refine n8_ (σ' := σ.set b { B with cells := splice B.cells pos us, low := B.ep, ver := B.ver + 1 }) hmc rfl (aJ_ hS hw) (fun kk => ?_) (fun kk => ⟨Nat.le_refl _, fun y _ _ => by
  rw [ct_]; split
  ·rename_i e; subst e; exact .inr ⟨hwr, by rw [hB]; rfl⟩
  ·exact .inl rfl⟩) ?_
 ·rw [ng_, ai_ hS ha, Option.bind_some, ai_ hS hx, Option.bind_some, jg_, hB, Option.bind_some, hsz, Option.bind_some, hcs, if_pos ⟨c1 rfl, rfl, rfl, hn, hpos, h1⟩, hpos0]; rfl
 ·rw [bT_]
  refine k _ _ ?_ (a0_ hS d _ σ)
  refine Heap.step (es1 := .own true w (.ref b B.ep 0 a.l.length) a.t :: ents) (es2 := [.own true w (.ref b B.ep 0 a.l.length) (setS a j y').t]) (es := es) hH (by simp) fun F hF hnd hbd => ?_
  obtain ⟨S1, F1, rfl, ⟨_, _, k5, h5⟩, h4⟩ := hF
  have : S1 = b :: S' := by
   have e1 := bW_ k' _ _ _ h2 (max k' k5) (Nat.le_max_left _ _)
   have e2 := bW_ k5 _ _ _ h5 (max k' k5) (Nat.le_max_right _ _)
   rw [ea, e1] at e2; injection e2 with e2; injection e2 with _ e2; exact e2.symm
  subst this
  obtain ⟨n1, n2, n3⟩ := List.nodup_append.1 hnd
  obtain ⟨n4, n5⟩ := List.nodup_cons.1 n1
  have hxF : b ∉ F1 := fun h => n3 b (by simp) b h rfl
  have hs : ∀ y, y ≠ b → (σ.set b { B with cells := splice B.cells pos us, low := B.ep, ver := B.ver + 1 }).blk y = σ.blk y := fun y hne => by rw [ct_, if_neg hne]
  obtain ⟨k2, h6⟩ := hh.sound (h4.same fun x hx => hs x fun e => by subst e; exact hxF hx)
  obtain ⟨G1, G2, rfl, h7, h8⟩ := bL_ pos h3
  obtain ⟨G3, G4, rfl, h9, h10⟩ := bL_ us.length h8
  have cg : ∀ {ts ws : List T} {G : List Nat}, (∀ x ∈ G, x ∈ G1 ++ (G3 ++ G4)) → frzL (hold true σ k'') ts = some (ws, G) → frzL (hold true (σ.set b { B with cells := splice B.cells pos us, low := B.ep, ver := B.ver + 1 }) k'') ts = some (ws, G) := fun hG h =>
   aE_ (fun t v S'' _ hq hq2 => cK_ k'' t v S'' (fun x hx => hs x fun e => by subst e; exact n4 (hG _ (hq2 _ hx))) hq) h
  have r1 := cg (fun x hx => by simp [hx]) h7
  have r2 := cg (fun x hx => by simp [hx]) h10
  have r3 := bR_ (bR_ (bb_ (Nat.le_max_left k'' k2) r1) (bb_ (Nat.le_max_right k'' k2) h6)) (bb_ (Nat.le_max_left k'' k2) r2)
  refine ⟨b :: (G1 ++ F1 ++ G4), ⟨b :: (G1 ++ F1 ++ G4), [], by simp, ⟨rfl, (fun b' e o n B' h hB' _ => by injection h with h; subst h; rw [bO_] at hB'; injection hB' with hB'; subst hB'; show B.esz = w; exact hwd _ _ _ _ B rfl hB ‹w ≠ 0›), max k'' k2 + 1, ?_⟩, rfl⟩, ?_, ?_, fun y hy hm => hs y fun e => hm (by simp [e])⟩
  ·have hcells : am_ (setS a j y').l = (am_ a.l).take pos ++ vs ++ ((am_ a.l).drop pos).drop us.length := by
    simp only [setS]
    rw [hc_ a.l j.toNat y y' q3, hc', hpos0]
    have hd := es_ a.l j.toNat y q3
    rw [hc] at hd
    have hsplit : am_ a.l = (am_ a.l).take (j.toNat * Enc.w α) ++ (c ++ am_ (a.l.drop (j.toNat + 1))) := by rw [← hd, List.take_append_drop]
    have hl0 : ((am_ a.l).take (j.toNat * Enc.w α)).length = j.toNat * Enc.w α := by
     rw [List.length_take, cellsL_len]
     have : (j.toNat + 1) * Enc.w α ≤ a.l.length * Enc.w α := Nat.mul_le_mul_right _ (by omega)
     rw [Nat.succ_mul] at this; omega
    generalize (am_ a.l).take (j.toNat * Enc.w α) = A at hsplit hl0
    generalize am_ (a.l.drop (j.toNat + 1)) = R at hsplit
    rw [hsplit]
    have := jr_ A c R vs (j.toNat * Enc.w α) off us.length (Enc.w α) hl0 hcl hb
    exact this
   simp only [hold, bO_, Option.bind_some, kZ_, Sl.t]
   have hll : (setS a j y').l.length = a.l.length := by simp [setS]
   simp only [kZ_] at r3
   rw [hll, hcells, ← List.drop_drop]
   rw [← List.drop_drop] at r3
   have hall : (List.take pos B.cells ++ us ++ List.drop us.length (List.drop pos B.cells)).all T.one = true := by
    rw [List.all_append, List.all_append, h1, Bool.and_true, Bool.and_eq_true]
    rw [List.all_eq_true] at c7
    exact ⟨List.all_eq_true.2 fun x hx => c7 x (List.mem_of_mem_take hx), List.all_eq_true.2 fun x hx => c7 x (List.mem_of_mem_drop (List.mem_of_mem_drop hx))⟩
   have hz : (setS a j y').z = false := hzz
   rw [r3, if_pos ⟨fun _ => c1 rfl, trivial, Nat.le_refl _, trivial, by simp only [List.length_append, List.length_take, List.length_drop]; rw [← c5]; omega, c6, hall, by omega⟩, hz]
   try rfl
  ·refine List.nodup_cons.2 ⟨fun hm => ?_, ?_⟩
   ·simp only [List.mem_append] at hm
    rcases hm with (hm | hm) | hm
    ·exact n4 (by simp [hm])
    ·exact hxF hm
    ·exact n4 (by simp [hm])
   ·obtain ⟨u1, u2, u3⟩ := List.nodup_append.1 n5
    obtain ⟨u4, u5, u6⟩ := List.nodup_append.1 u2
    refine List.nodup_append.2 ⟨List.nodup_append.2 ⟨u1, n2, fun x hx y hy => n3 x (by simp [hx]) y hy⟩, u5, fun x hx y hy => ?_⟩
    rcases List.mem_append.1 hx with hx | hx
    ·exact u3 x hx y (by simp [hy])
    ·exact fun e => n3 y (by simp [hy]) x hx e.symm
  ·intro x hx
   refine .inl ?_
   simp only [List.mem_cons, List.mem_append] at hx ⊢
   rcases hx with rfl | (hx | hx) | hx
   ·simp
   ·simp [hx]
   ·simp [hx]
   ·simp [hx]
theorem oX_ {α : Type} [Enc α] {w : Nat} {ad x : Operand} {t : TypeId} {t1 : T} {a : Sl α} {j : Int} {y y' : α} {b ep off n : Nat} {c us vs : List T} {v : T} (hw : want ops L g = some true) (hS : Sub L s) (hH : Heap σ0 σ (.own true w t1 a.t :: ents ++ es)) (hr : t1 = .ref b ep 0 a.l.length)
  (ha : gE (get L) ad = some (.ptr b ep (j.toNat * Enc.w α + off) n)) (hx : gE (get L) x = some v) (hcs : v.cells = us) (h1 : us.all T.one = true) (hsz : szOf P t = some us.length) (hn : Nat.ble us.length n = true) (hy : elt a j = some y) (hc : Enc.cells y = c)
  (hh : HL true us vs ents) (hb : Nat.ble (off + us.length) (Enc.w α) = true) (hc' : Enc.cells y' = c.take off ++ vs ++ c.drop (off + us.length))
  (k : ∀ σ' s', Heap σ0 σ' (.own true w t1 (setS a j y').t :: es) → Sub (putL L d (.tup [])) s' → opsX P O ops .q l K ⟨s', σ'⟩) : opsX P O ops .q (⟨d, .store t ad x, ty, ps, af, g⟩ :: l) K ⟨s, σ⟩ :=
 ki_ (m := .q) rfl trivial hw hS hH hr ha hx hcs h1 hsz hn hy hc hh hb hc' k
end
section
variable {P : Program} {md : Nat → Md} {X : Ext} {β : Type} {eb : β → T} {f : Nat} {r : β}
variable {ops : Array Oper} {m : Mo} {l : List Oper} {K : Fr → Prop} {s : Nat → T} {σ σ0 : St} {L : List (Nat × T)} {es ents : List Ent}
variable {d : Option Nat} {ty : TypeId} {ps : String} {af : Array Edge} {g : Option (Nat × Bool)}
theorem nF_ {O : aM_} {o : Oper} {args : List T} {v : T} {σ' : St} (hw : wantedA ops o s = true) (h : aOp P none ⟨s, σ⟩ o = some (.call f args)) (hc : O f args σ = some (v, σ')) (kk : opsX P O ops .q l K (Fr.put ⟨s, σ⟩ o.dst v σ')) : opsX P O ops .q (o :: l) K ⟨s, σ⟩ := by
 show opQ P O ops none o (opsQ P O ops l K) ⟨s, σ⟩
 unfold opQ; simp only [hw, cond_true, h]; exact ⟨v, σ', hc, kk⟩
theorem mz_ {σ : St} {d : Nat} {t : T} (h : flat1 t = true) : hold false σ d t = some (t, []) := by
 cases t with
 | row z n cs => cases z <;> cases n <;> cases cs <;> cases d <;> rfl
 | _ => cases d <;> simp [flat1] at h <;> rfl
theorem jD_ {t : T} (h : flat1 t = true) : flat3 t = true := by cases t <;> simp_all [flat1, flat2, flat3]
theorem HL.frz {z : Bool} {ts vs : List T} (hH : Heap σ0 σ (ents ++ es)) (hh : HL z ts vs ents) : ∃ D S, frzL (frz σ D) ts = some (vs, S) ∧ cY_ σ ents S ∧ S.Nodup ∧ ∀ b ∈ S, σ0.next ≤ b ∧ b < σ.next := by
 obtain ⟨F, h1, h2, h3⟩ := hH.ex
 obtain ⟨F1, F2, rfl, h4, h5⟩ := h1.split
 obtain ⟨k, hk⟩ := hh.sound h4
 exact ⟨k, F1, aE_ (fun t v S _ hq _ => gd_ k t v S hq) hk, h4, (List.nodup_append.1 h2).1, fun b hb => h3 b (by simp [hb])⟩
theorem qX_ {z : Bool} {fo : Operand} {as : Array Operand} {tys : Array TypeId} {ts vs : List T} (hw : want ops L g = some true) (hS : Sub L s) (hf : gE (get L) fo = some (.fn f [] [])) (ha : gEs (get L) as.toList = some ts)
  (hv : md f = .view) (hH : Heap σ0 σ (ents ++ es)) (hh : HL z ts vs ents) (hr : semV P md X eb f vs = some r) (hl : leafT (eb r) = true)
  (k : ∀ s', Sub (putL L d (eb r)) s' → opsX P (run P md X) ops (nxM m) l K ⟨s', σ⟩) (hvw : m.vw = false) : opsX P (run P md X) ops m (⟨d, .call ⟨.value fo, as, tys⟩, ty, ps, af, g⟩ :: l) K ⟨s, σ⟩ := by
 obtain ⟨D, S, h1, _, _, _⟩ := hh.frz hH
 refine jt_ hw hS hf ha (r := eb r) ?_ (fun e => by rw [hvw] at e; cases e) k
 simp only [List.nil_append, List.append_nil]
 exact qD_ hv h1 hl (fI_ hr (σ.mark S))
def endW (P : Program) (rs : List ResultVar) (σ0 : St) (r : T) : aN_ → Fr → Prop
 | .exit _, _ => False
 | .normal, fr => ∃ l D S, resL P fr rs = some l ∧ Go.Am.frz fr.σ D (tupOf l) = some (r, S) ∧ pureT r = true ∧ Grow σ0 fr.σ ∧ ∀ b ∈ S, σ0.next ≤ b
 | .ret, fr => ∃ l D S, resL P fr rs = some l ∧ Go.Am.frz fr.σ D (tupOf l) = some (r, S) ∧ pureT r = true ∧ Grow σ0 fr.σ ∧ ∀ b ∈ S, σ0.next ≤ b
theorem mh_ {c : Code} {n : Nat} {rs : List ResultVar} {args : List T} {σ : St} {r : T} {D : Nat} (hv : md f = .view) (hX : X f = none) (hok : Ok P f c n rs) (hlen : args.length ≤ n) (hargs : frzL (Go.Am.frz σ D) args = some (args, []))
  (h : codeQ P (run P md X) c (endW P rs σ r) ⟨enterS args, σ⟩) : run P md X f args σ = some (r, σ) := by
 obtain ⟨fn, h1, h2, h3, h4, h5, h6⟩ := hok
 obtain ⟨x, fr, k1, k2⟩ := codeQ_sound h
 have hx : (x = .normal ∨ x = .ret) ∧ ∃ l D S, resL P fr rs = some l ∧ Go.Am.frz fr.σ D (tupOf l) = some (r, S) ∧ pureT r = true ∧ Grow σ fr.σ ∧ ∀ b ∈ S, σ.next ≤ b := by
  cases x with
  | normal => exact ⟨.inl rfl, k2⟩
  | ret => exact ⟨.inr rfl, k2⟩
  | exit i => exact k2.elim
 obtain ⟨hx, l, D2, S2, m1, m2, m3, m4, m5⟩ := hx
 have := pu_ (P := P) (vm := md) (X := X) (σ := σ) (S2 := S2) (r' := r) hv hX h1 h2 h3 h4 (by rw [h5]; exact hlen) hargs (by rw [eG_]; exact k1) hx (by rw [resA, h6, m1]; rfl) m2 m3 (fun i hi => by rw [eG_]; exact m4.old i hi)
 rw [this, mF_ m5, eG_, eG_]
 simp
theorem qo_ {c : Code} {n : Nat} {rs : List ResultVar} {args : List T} (hi : ∀ a b, eb a = eb b → a = b) (hv : md f = .view) (hX : X f = none) (hok : Ok P f c n rs) (hlen : Nat.ble args.length n = true) (hf : args.all flat3 = true)
  (h : ∀ σ s, Sub (nums 0 args) s → Heap σ σ [] → codeQ P (run P md X) c (endW P rs σ (eb r)) ⟨s, σ⟩) : semV P md X eb f args = some r :=
 jl_ hi fun σ => mh_ hv hX hok (Nat.le_of_ble_eq_true hlen) (iI_ hf) (h σ _ (e7_ args) (Heap.nil σ))
theorem sc_ {rs : List ResultVar} {l : List T} {r : T} (hH : Heap σ0 σ es) (hl : resL P ⟨s, σ⟩ rs = some l) (hr : tupOf l = r) (hf : flat3 r = true) (hp : pureT r = true) : endW P rs σ0 r .ret ⟨s, σ⟩ :=
 ⟨l, 2, [], hl, by rw [hr]; exact k5_ (d := 0) hf, hp, hH.grow, by simp⟩
theorem pn_ {z : Bool} {rs : List ResultVar} {l : List T} {r : T} (hH : Heap σ0 σ (ents ++ es)) (hl : resL P ⟨s, σ⟩ rs = some l) (hh : HL z [tupOf l] [r] ents) (hp : pureT r = true) : endW P rs σ0 r .ret ⟨s, σ⟩ := by
 obtain ⟨D, S, h1, _, _, h4⟩ := hh.frz hH
 refine ⟨l, D, S, hl, ?_, hp, hH.grow, fun b hb => (h4 b hb).1⟩
 simp only [frzL] at h1
 obtain ⟨p, h5, h6⟩ := Option.bind_eq_some_iff.1 h1
 simp at h6
 obtain ⟨h6, h7⟩ := h6
 rw [h5]; rw [← h6, ← h7]
structure fF_ (β : Type) where
 n : Nat
 tree : List T → β → T
 en : List T → β → List Ent
 eb : β → T
 ok : ∀ hs r, hs.length = n → HL true [tree hs r] [eb r] (en hs r)
 inj : ∀ a b, eb a = eb b → a = b
def OwnR (P : Program) (md : Nat → Md) (X : Ext) (Sh : fF_ β) (f : Nat) (args : List T) (r : β) : Prop :=
 ∀ σ, ∃ hs σ', hs.length = Sh.n ∧ run P md X f args σ = some (Sh.tree hs r, σ') ∧ Heap σ σ' (Sh.en hs r)
noncomputable def semO (P : Program) (md : Nat → Md) (X : Ext) (Sh : fF_ β) (f : Nat) (args : List T) : Option β :=
 if h : ∃ r, OwnR P md X Sh f args r then some (Classical.choose h) else none
theorem kI_ {Sh : fF_ β} {args : List T} (h : semO P md X Sh f args = some r) : OwnR P md X Sh f args r := by
 unfold semO at h
 split at h
 ·rename_i hx; injection h with h; subst h; exact Classical.choose_spec hx
 ·cases h
theorem OwnR.uniq {Sh : fF_ β} {args : List T} {r r' : β} (h : OwnR P md X Sh f args r) (h' : OwnR P md X Sh f args r') : r = r' := by
 obtain ⟨hs, σ', h1, h2, h3⟩ := h St.empty'
 obtain ⟨hs', σ2, h4, h5, h6⟩ := h' St.empty'
 rw [h2] at h5; injection h5 with h5; injection h5 with h5 h7
 subst h7
 obtain ⟨D, S, k1, _⟩ := (Sh.ok hs r h1).frz (es := []) (by simpa using h3)
 obtain ⟨D', S', k2, _⟩ := (Sh.ok hs' r' h4).frz (es := []) (by simpa using h6)
 rw [← h5] at k2
 have := dC_ k1 k2
 injection this with e _
 injection e with e _
 exact Sh.inj _ _ e
theorem mR_ {Sh : fF_ β} {args : List T} (h : OwnR P md X Sh f args r) : semO P md X Sh f args = some r := by
 have hx : ∃ r, OwnR P md X Sh f args r := ⟨r, h⟩
 unfold semO
 rw [dif_pos hx, OwnR.uniq (Classical.choose_spec hx) h]
def o6_ (P : Program) (rs : List ResultVar) (σ0 : St) (Sh : fF_ β) (r : β) : aN_ → Fr → Prop
 | .exit _, _ => False
 | .normal, fr => ∃ l hs es, resL P fr rs = some l ∧ tupOf l = Sh.tree hs r ∧ hs.length = Sh.n ∧ Heap σ0 fr.σ (Sh.en hs r ++ es)
 | .ret, fr => ∃ l hs es, resL P fr rs = some l ∧ tupOf l = Sh.tree hs r ∧ hs.length = Sh.n ∧ Heap σ0 fr.σ (Sh.en hs r ++ es)
theorem sW_ {Sh : fF_ β} {rs : List ResultVar} {l : List T} {L1 : List Ent} (hs : List T) (es : List Ent) (hl : resL P ⟨s, σ⟩ rs = some l) (ht : tupOf l = Sh.tree hs r) (hn : hs.length = Sh.n) (hH : Heap σ0 σ L1) (he : L1 = Sh.en hs r ++ es) : o6_ P rs σ0 Sh r .ret ⟨s, σ⟩ :=
 ⟨l, hs, es, hl, ht, hn, he ▸ hH⟩
theorem qK_ {Sh : fF_ β} {c : Code} {n : Nat} {rs : List ResultVar} {args : List T} (hv : md f = .own) (hX : X f = none) (hok : Ok P f c n rs) (hlen : Nat.ble args.length n = true) (hf : args.all flat3 = true)
  (h : ∀ σ s, Sub (nums 0 args) s → Heap σ σ [] → codeQ P (run P md X) c (o6_ P rs σ Sh r) ⟨s, σ⟩) : semO P md X Sh f args = some r := by
 refine mR_ fun σ => ?_
 obtain ⟨fn, h1, h2, h3, h4, h5, h6⟩ := hok
 obtain ⟨x, fr, k1, k2⟩ := codeQ_sound (h σ _ (e7_ args) (Heap.nil σ))
 have hx : (x = .normal ∨ x = .ret) ∧ ∃ l hs es, resL P fr rs = some l ∧ tupOf l = Sh.tree hs r ∧ hs.length = Sh.n ∧ Heap σ fr.σ (Sh.en hs r ++ es) := by
  cases x with
  | normal => exact ⟨.inl rfl, k2⟩
  | ret => exact ⟨.inr rfl, k2⟩
  | exit i => exact k2.elim
 obtain ⟨hx, l, hs, es, m1, m2, m3, m4⟩ := hx
 obtain ⟨F, q1, q2, q3⟩ := m4.ex
 obtain ⟨F1, F2, rfl, q4, q5⟩ := q1.split
 obtain ⟨k, hk⟩ := (Sh.ok hs r m3).sound q4
 have hown : own fr.σ k (tupOf l) = some (Sh.eb r, F1) := by
  rw [m2]
  simp only [frzL] at hk
  obtain ⟨p, h7, h8⟩ := Option.bind_eq_some_iff.1 hk
  simp at h8
  obtain ⟨h8, h9⟩ := h8
  exact hO_ _ _ _ _ (by rw [h7, ← h8, ← h9])
 have hrun := p6_ (P := P) (vm := md) (X := X) (σ := σ) hv hX h1 h2 h3 h4 (by rw [h5]; exact Nat.le_of_ble_eq_true hlen) (iI_ hf) (by rw [eG_]; exact k1) hx (by rw [resA, h6, m1]; rfl) hown (fun b hb => (q3 b (by simp [hb])).1) (fun i hi => by rw [eG_]; exact m4.grow.old i hi)
 refine ⟨hs, σ.keep fr.σ F1, m3, by rw [hrun, m2], Grow.keep m4.grow.nx F1, F1, q4.same fun b hb => ?_, (List.nodup_append.1 q2).1, fun b hb => ?_⟩
 ·have := (q3 b (by simp [hb])).1
  simp only [St.keep]; rw [if_neg (by omega), if_pos hb]
 ·exact q3 b (by simp [hb])
theorem qG_ (hm : m.chg = true) {Sh : fF_ β} {z : Bool} {fo : Operand} {as : Array Operand} {tys : Array TypeId} {ts vs : List T} (hw : want ops L g = some true) (hS : Sub L s) (hf : gE (get L) fo = some (.fn f [] [])) (ha : gEs (get L) as.toList = some ts)
  (hv : md f = .own) (hH : Heap σ0 σ (ents ++ es)) (hh : HL z ts vs ents) (hr : semO P md X Sh f vs = some r)
  (k : ∀ hs σ' s', hs.length = Sh.n → Heap σ0 σ' (Sh.en hs r ++ (ents ++ es)) → Sub (putL L d (Sh.tree hs r)) s' → opsX P (run P md X) ops (nxM m) l K ⟨s', σ'⟩) : opsX P (run P md X) ops m (⟨d, .call ⟨.value fo, as, tys⟩, ty, ps, af, g⟩ :: l) K ⟨s, σ⟩ := by
 obtain ⟨D, S, h1, h2, h3, h4⟩ := hh.frz hH
 obtain ⟨hs, σ1, m1, m2, m3⟩ := kI_ hr (σ.mark S)
 have hrun := iH_ hv h1 m2
 have hH' : Heap σ0 ⟨σ1.next, fun i => if i < σ.next then σ.blk i else σ1.blk i⟩ (Sh.en hs r ++ (ents ++ es)) := by
  refine Heap.step (es1 := []) (es2 := Sh.en hs r) (es := ents ++ es) hH m3.grow.nx fun S' hS' _ _ => ?_
  obtain ⟨F, q1, q2, q3⟩ := m3.ex
  refine ⟨F, q1.same fun b hb => ?_, q2, fun b hb => .inr (q3 b hb), fun b hb _ => ?_⟩
  ·have := (q3 b hb).1
   simp only [k1_] at this
   simp only; rw [if_neg (by omega)]
  ·simp only; rw [if_pos hb]
 refine jS_ (f := f) (args := [] ++ ts ++ []) (r := Sh.tree hs r) (σ' := ⟨σ1.next, fun i => if i < σ.next then σ.blk i else σ1.blk i⟩) hm rfl (aJ_ hS hw) (fun kk σ' => by rw [h3_, cw_ hS ha, Option.bind_some, ai_ hS hf]; rfl) (by simpa using hrun) m3.grow.nx (fun x hx => by simp only; rw [if_pos hx]) ?_
 rw [bT_]
 exact k _ _ _ m1 hH' (a0_ hS d _ σ)
end
end Go.Am
end
section
set_option linter.unusedVariables false
set_option linter.unusedSimpArgs false
namespace Go.Am
open Classical
def Lent (σ : St) (b : Nat) (cells : List T) : Prop := b < σ.next ∧ ∃ B, σ.blk b = some B ∧ B.cells = cells ∧ B.ep = 0 ∧ B.low = 0
def lK_ (σ : St) : List Nat → List (List T) → Prop
 | [], [] => True
 | b :: bs, c :: cs => Lent σ b c ∧ lK_ σ bs cs
 | _, _ => False
theorem Lent.grow {σ σ' : St} {b : Nat} {cells : List T} (h : Lent σ b cells) (g : Grow σ σ') : Lent σ' b cells := by
 obtain ⟨h1, B, h2, h3⟩ := h
 exact ⟨Nat.lt_of_lt_of_le h1 g.nx, B, by rw [g.old b h1, h2], h3⟩
theorem Heap.lent {σ0 σ : St} {b : Nat} {cells : List T} {es : List Ent} (h : Heap σ0 σ (.box b cells :: es)) : Lent σ b cells := by
 obtain ⟨S, ⟨rfl, B, h1, h2, h3, h4, _⟩, _, h5⟩ := h.head
 exact ⟨(h5 b (by simp)).2, B, h1, h2, h3, h4⟩
theorem uc_ {σ : St} {bs : List Nat} {c0 : List T} (h : lK_ σ bs [c0]) : ∃ b0, bs = [b0] ∧ Lent σ b0 c0 := by
 match bs, h with
 | [b0], h => exact ⟨b0, rfl, h.1⟩
theorem lent_ex : ∀ (cs : List (List T)), ∃ σ bs, lK_ σ bs cs := by
 intro cs
 have key : ∀ (cs : List (List T)) (k : Nat) (σ : St), (∀ i c, cs[i]? = some c → Lent σ (k + i) c) → lK_ σ (List.range' k cs.length) cs := by
  intro cs
  induction cs with
  | nil => intro k σ _; trivial
  | cons c cs ih =>
   intro k σ h
   exact ⟨h 0 c (by simp), ih (k + 1) σ fun i c hi => by have := h (i + 1) c (by simpa using hi); rwa [show k + (i + 1) = k + 1 + i by omega] at this⟩
 refine ⟨⟨cs.length, fun i => (cs[i]?).map fun c => aP_ c 1⟩, _, key cs 0 _ fun i c hi => ?_⟩
 exact ⟨by have := (List.getElem?_eq_some_iff.1 hi).1; simpa using this, aP_ c 1, by simp [hi], rfl, rfl, rfl⟩
section
variable {P : Program} {md : Nat → Md} {X : Ext} {β : Type} {eb : β → T} {f : Nat} {r : β}
variable {O : aM_} {ops : Array Oper} {m : Mo} {l : List Oper} {K : Fr → Prop} {s : Nat → T} {σ σ0 : St} {L : List (Nat × T)} {es ents : List Ent}
variable {d : Option Nat} {ty : TypeId} {ps : String} {af : Array Edge} {g : Option (Nat × Bool)}
theorem qi_ {a : Operand} {t : TypeId} {b e off n : Nat} {cells : List T} {v : T} (hlt : m.lt b) (hw : want ops L g = some true) (hS : Sub L s) (hH : Heap σ0 σ es) (hL : Lent σ0 b cells) (ha : gE (get L) a = some (.ptr b e off n)) (hv : part P t ((cells.drop off).take n) 0 = some v)
  (k : ∀ s', Sub (putL L d v) s' → opsX P O ops (nxM m) l K ⟨s', σ⟩) : opsX P O ops m (⟨d, .load t a, ty, ps, af, g⟩ :: l) K ⟨s, σ⟩ := by
 obtain ⟨_, B, h1, rfl, h3, h4⟩ := hL.grow hH.grow
 exact dc_ hw hS (fun kk σ' ha' => by rw [hv_, ai_ hS ha, Option.bind_some, em_, Mo.al_blk ha' hlt, h1, Option.bind_some, if_pos (by omega), hv]; rfl) k
def pg_ (P : Program) (md : Nat → Md) (X : Ext) (eb : β → T) (f : Nat) (mk : List Nat → List T) (cs : List (List T)) (r : β) : Prop := ∀ σ bs, lK_ σ bs cs → run P md X f (mk bs) σ = some (eb r, σ)
noncomputable def semL (P : Program) (md : Nat → Md) (X : Ext) (eb : β → T) (f : Nat) (mk : List Nat → List T) (cs : List (List T)) : Option β :=
 if h : ∃ r, pg_ P md X eb f mk cs r then some (Classical.choose h) else none
theorem nH_ {mk : List Nat → List T} {cs : List (List T)} (h : semL P md X eb f mk cs = some r) : pg_ P md X eb f mk cs r := by
 unfold semL at h
 split at h
 ·rename_i hx; injection h with h; subst h; exact Classical.choose_spec hx
 ·cases h
theorem mw_ {mk : List Nat → List T} {cs : List (List T)} (hi : ∀ a b, eb a = eb b → a = b) (h : pg_ P md X eb f mk cs r) : semL P md X eb f mk cs = some r := by
 have hx : ∃ r, pg_ P md X eb f mk cs r := ⟨r, h⟩
 unfold semL
 rw [dif_pos hx]
 obtain ⟨σ, bs, hl⟩ := lent_ex cs
 have h1 := Classical.choose_spec hx σ bs hl
 rw [h σ bs hl] at h1
 injection h1 with h1; injection h1 with h1
 rw [← hi _ _ h1]
theorem qL_ {c : Code} {n : Nat} {rs : List ResultVar} {mk : List Nat → List T} {cs : List (List T)} (hi : ∀ a b, eb a = eb b → a = b) (hv : md f = .view) (hX : X f = none) (hok : Ok P f c n rs) (hlen : ∀ bs, bs.length = cs.length → Nat.ble (mk bs).length n = true) (hf : ∀ bs, bs.length = cs.length → (mk bs).all flat3 = true)
  (h : ∀ σ bs s, lK_ σ bs cs → Sub (nums 0 (mk bs)) s → Heap σ σ [] → codeQ P (run P md X) c (endW P rs σ (eb r)) ⟨s, σ⟩) : semL P md X eb f mk cs = some r :=
 mw_ hi fun σ bs hl => by
  have hlb : bs.length = cs.length := by
   clear h hf hlen
   induction bs generalizing cs with
   | nil => cases cs with
    | nil => rfl
    | cons c cs => exact hl.elim
   | cons b bs ih => cases cs with
    | nil => exact hl.elim
    | cons c cs => simp [ih hl.2]
  exact mh_ hv hX hok (Nat.le_of_ble_eq_true (hlen bs hlb)) (iI_ (hf bs hlb)) (h σ bs _ hl (e7_ _) (Heap.nil σ))
end
def eqB : List T → List T → Bool
 | .int _ a :: xs, .int _ b :: ys => decide (a = b) && eqB xs ys
 | .bool a :: xs, .bool b :: ys => (a == b) && eqB xs ys
 | .str a :: xs, .str b :: ys => decide (a = b) && eqB xs ys
 | _, _ => true
def kO_ (P : Program) (t : TypeId) : T → T → Bool
 | .int k _, .int k' _ => b0_ P t && decide (k = k')
 | .bool _, .bool _ => Nat.beq (aH_ P t) 1
 | .str _, .str _ => Nat.beq (aH_ P t) 3
 | _, _ => false
def eqOk (P : Program) : Nat → Nat → Nat → List Field → List T → List T → Bool
 | _, _, _, [], [], [] => true
 | n + 1, d, i, f :: fs, xs, ys => (f.name != "_") && Nat.beq f.offset i && (match iS_ P f.type with
  | some false => match xs, ys with
   | x :: xs', y :: ys' => kO_ P f.type x y && eqOk P n d (i + 1) fs xs' ys'
   | _, _ => false
  | some true => match szOf P f.type, d with
   | some m, d' + 1 => Nat.beq (aH_ P f.type) 7 && (!P.stoodInHeld f.type) && Nat.ble m xs.length && Nat.ble m ys.length && eqOk P n d' 0 (b6_ P f.type) (xs.take m) (ys.take m) && eqOk P n (d' + 1) (i + m) fs (xs.drop m) (ys.drop m)
   | _, _ => false
  | none => false)
 | _, _, _, _, _, _ => false
theorem pw_ {P : Program} {t : TypeId} {x y : T} {n : Nat} (h : kO_ P t x y = true) : eqT P (n + 1) t x y = some (eqB [x] [y]) := by
 unfold kO_ at h
 split at h
 ·simp only [Bool.and_eq_true, decide_eq_true_eq] at h
  simp only [eqT, eqB]; rw [if_pos h]; simp
 ·simp only [eqT, eqB]; rw [if_pos (Nat.eq_of_beq_eq_true h)]; simp
 ·simp only [eqT, eqB]; rw [if_pos (Nat.eq_of_beq_eq_true h)]; simp
 ·cases h
theorem j0_ {P : Program} {t : TypeId} {x y : T} {xs ys : List T} (h : kO_ P t x y = true) : eqB (x :: xs) (y :: ys) = (eqB [x] [y] && eqB xs ys) := by
 unfold kO_ at h
 split at h <;> first | (simp [eqB]; done) | cases h
theorem fW_ {P : Program} : ∀ (n d i : Nat) (fs : List Field) (xs ys xs' ys' : List T), eqOk P n d i fs xs ys = true → eqB (xs ++ xs') (ys ++ ys') = (eqB xs ys && eqB xs' ys')
 | _, _, _, [], [], [], xs', ys', _ => by simp [eqB]
 | n, d, i, [], [], _ :: _, _, _, h => by cases n <;> simp [eqOk] at h
 | n, d, i, [], _ :: _, _, _, _, h => by cases n <;> simp [eqOk] at h
 | n + 1, d, i, f :: fs, xs, ys, xs', ys', h => by
  simp only [eqOk, Bool.and_eq_true] at h
  obtain ⟨_, h⟩ := h
  split at h
  ·split at h
   ·simp only [Bool.and_eq_true] at h
    rename_i x xs y ys
    rw [List.cons_append, List.cons_append, j0_ (xs := xs ++ xs') (ys := ys ++ ys') h.1, fW_ n d (i + 1) fs _ _ xs' ys' h.2, j0_ (xs := xs) (ys := ys) h.1, Bool.and_assoc]
   ·cases h
  ·split at h
   ·rename_i d1 m d' _
    simp only [Bool.and_eq_true] at h
    have e1 := fW_ n d' 0 (b6_ P f.type) (xs.take m) (ys.take m) (xs.drop m) (ys.drop m) h.1.2
    have e2 := fW_ n d' 0 (b6_ P f.type) (xs.take m) (ys.take m) (xs.drop m ++ xs') (ys.drop m ++ ys') h.1.2
    have e3 := fW_ n (d' + 1) (i + m) fs (xs.drop m) (ys.drop m) xs' ys' h.2
    rw [List.take_append_drop, List.take_append_drop] at e1
    rw [← List.append_assoc, ← List.append_assoc, List.take_append_drop, List.take_append_drop] at e2
    rw [e2, e3, e1, Bool.and_assoc]
   ·cases h
  ·cases h
theorem jN_ {P : Program} : ∀ (n d i k : Nat) (fs : List Field) (xs ys px py : List T), d ≤ k → px.length = i → py.length = i → eqOk P n d i fs xs ys = true → eqFs P (eqT P (k + 1)) (px ++ xs) (py ++ ys) fs = some (eqB xs ys)
 | _, _, _, _, [], [], [], px, py, _, _, _, _ => rfl
 | n, d, i, _, [], [], _ :: _, _, _, _, _, _, h => by cases n <;> simp [eqOk] at h
 | n, d, i, _, [], _ :: _, _, _, _, _, _, _, h => by cases n <;> simp [eqOk] at h
 | n + 1, d, i, k, f :: fs, xs, ys, px, py, hk, hx, hy, h => by
  simp only [eqOk, Bool.and_eq_true, bne_iff_ne, ne_eq] at h
  obtain ⟨⟨h1, h2⟩, h⟩ := h
  have h2 := Nat.eq_of_beq_eq_true h2
  simp only [eqFs, if_pos h1, nc_, h2]
  split at h
  ·rename_i ha
   split at h
   ·rename_i x xs y ys
    simp only [Bool.and_eq_true] at h
    have ih := jN_ n d (i + 1) k fs xs ys (px ++ [x]) (py ++ [y]) hk (by simp [hx]) (by simp [hy]) h.2
    simp only [List.append_assoc, List.singleton_append] at ih
    simp only [ha, Option.bind_some, ie_]
    have ex : (px ++ x :: xs)[i]? = some x := by rw [← hx, List.getElem?_append_right (Nat.le_refl _), Nat.sub_self]; rfl
    have ey : (py ++ y :: ys)[i]? = some y := by rw [← hy, List.getElem?_append_right (Nat.le_refl _), Nat.sub_self]; rfl
    rw [ex, ey, Option.bind_some, Option.bind_some, pw_ h.1, Option.bind_some, j0_ (xs := xs) (ys := ys) h.1]
    cases hb : eqB [x] [y] with
    | true => simp only [if_true, Bool.true_and]; exact ih
    | false => simp
   ·cases h
  ·rename_i ha
   split at h
   ·rename_i d1 m d' hm
    simp only [Bool.and_eq_true, Bool.not_eq_true'] at h
    obtain ⟨⟨⟨⟨⟨c1, c2⟩, c3⟩, c4⟩, c5⟩, c6⟩ := h
    have c3 := Nat.le_of_ble_eq_true c3; have c4 := Nat.le_of_ble_eq_true c4
    obtain ⟨k, rfl⟩ : ∃ k', k = k' + 1 := ⟨k - 1, by omega⟩
    have ih1 := jN_ n d' 0 k (b6_ P f.type) (xs.take m) (ys.take m) [] [] (by omega) rfl rfl c5
    have ih2 := jN_ n (d' + 1) (i + m) (k + 1) fs (xs.drop m) (ys.drop m) (px ++ xs.take m) (py ++ ys.take m) hk (by simp [hx]; omega) (by simp [hy]; omega) c6
    rw [List.append_assoc, List.append_assoc, List.take_append_drop, List.take_append_drop] at ih2
    have e1 := fW_ n d' 0 (b6_ P f.type) (xs.take m) (ys.take m) (xs.drop m) (ys.drop m) c5
    rw [List.take_append_drop, List.take_append_drop] at e1
    simp only [ha, Option.bind_some, my_, hm]
    rw [if_pos (by simp [hx]; omega), if_pos (by simp [hy]; omega), Option.bind_some, Option.bind_some]
    have ex : (px ++ xs).drop i = xs := by rw [← hx, List.drop_left]
    have ey : (py ++ ys).drop i = ys := by rw [← hy, List.drop_left]
    have et : eqT P (k + 1 + 1) f.type (.agg (xs.take m)) (.agg (ys.take m)) = some (eqB (xs.take m) (ys.take m)) := by
     rw [eqT, if_pos ⟨Nat.eq_of_beq_eq_true c1, c2⟩]; exact ih1
    rw [ex, ey, et, Option.bind_some, e1]
    cases hb : eqB (xs.take m) (ys.take m) with
    | true => simp only [if_true, Bool.true_and]; exact ih2
    | false => simp
   ·cases h
  ·cases h
def qv_ (P : Program) (t : TypeId) (xs ys : List T) : Bool := Nat.beq (aH_ P t) 7 && (!P.stoodInHeld t) && (!P.eqGuardType P.depth t) && eqOk P 100 6 0 (b6_ P t) xs ys
theorem oV_ {P : Program} {t : TypeId} {xs ys : List T} (h : qv_ P t xs ys = true) : eqA P t (.agg xs) (.agg ys) = some (eqB xs ys) := by
 simp only [qv_, Bool.and_eq_true, Bool.not_eq_true'] at h
 obtain ⟨⟨⟨h1, h2⟩, h3⟩, h4⟩ := h
 simp only [eqA, h3, if_true]
 rw [eqT, if_pos ⟨Nat.eq_of_beq_eq_true h1, h2⟩]
 exact jN_ 100 6 0 6 (b6_ P t) xs ys [] [] (Nat.le_refl _) rfl rfl h4
section
variable {P : Program} {O : aM_} {ops : Array Oper} {m : Mo} {l : List Oper} {K : Fr → Prop} {s : Nat → T} {σ : St} {L : List (Nat × T)}
variable {d : Option Nat} {ty : TypeId} {ps : String} {af : Array Edge} {g : Option (Nat × Bool)}
theorem uq_ {x y : Operand} {t u : TypeId} {xs ys : List T} {v : Bool} (hw : want ops L g = some true) (hS : Sub L s) (hx : gE (get L) x = some (.agg xs)) (hy : gE (get L) y = some (.agg ys)) (h : qv_ P t xs ys = true) (hv : eqB xs ys = v)
  (k : ∀ s', Sub (putL L d (.bool (!v))) s' → opsX P O ops (nxM m) l K ⟨s', σ⟩) : opsX P O ops m (⟨d, .binOp .neq t x y u, ty, ps, af, g⟩ :: l) K ⟨s, σ⟩ :=
 dc_ hw hS (fun kk σ' _ => by rw [he_, ai_ hS hx, Option.bind_some, ai_ hS hy, Option.bind_some]; simp only [binA, oV_ h, hv]; rfl) k
end
def oy_ (o : Oper) : Bool := (match o.op with
 | .alloc _ => true
 | .box _ _ => true
 | .buildSlice _ _ _ => true
 | .makeSlice _ _ _ => true
 | _ => false) && o.guard.isNone
def fE_ (ops : Array Oper) (i : Nat) : Bool := match ops[i]? with
 | some o => oy_ o
 | none => false
def wk1 (md : Nat → Md) (ops : Array Oper) (i : Nat) : Bool := match ops[i]? with
 | some o => match o.op with
  | .store .. => true
  | .call d => match d.callee with
   | .builtin .append => true
   | .value (.func f) => decide (md f = .raw)
   | .value (.tmp _) => true
   | _ => false
  | _ => false
 | none => false
def vwB (vs : List Nat) (md : Nat → Md) (ops : Array Oper) (i : Nat) : Bool := vs.elem i && !fE_ ops i && !wk1 md ops i
def bx_ (vs : List Nat) (md : Nat → Md) (ops : Array Oper) : List Nat := (List.range ops.size).filter fun i => match ops[i]? with
 | some o => isChg o.op && !vwB vs md ops i
 | none => false
def cmpB (vs : List Nat) (md : Nat → Md) (ops : Array Oper) (i : Nat) : Bool := (bx_ vs md ops).all fun k => bif Nat.blt k i then hh_ ((ancM ops).getD i 0) k else (Nat.beq k i || fE_ ops k || hh_ ((ancM ops).getD k 0) i)
def wkB (md : Nat → Md) (ops : Array Oper) (c i : Nat) : Bool := Nat.beq c i && wk1 md ops i
def cmp1 (ops : Array Oper) (k i : Nat) : Bool := bif Nat.blt k i then hh_ ((ancM ops).getD i 0) k else (Nat.beq k i || fE_ ops k || hh_ ((ancM ops).getD k 0) i)
def ckB (md : Nat → Md) (ops : Array Oper) (c i : Nat) : Bool := !wk1 md ops c || cmp1 ops c i
def oO_ (vs : List Nat) (md : Nat → Md) (ops : Array Oper) : Cmp := ⟨vwB vs md ops, cmpB vs md ops, ckB md ops, wkB md ops⟩
def ob_ (vs : List Nat) (md : Nat → Md) (ops : Array Oper) : Bool := (bx_ vs md ops).all fun i => (bx_ vs md ops).all fun j => !Nat.blt i j || fE_ ops j || hh_ ((ancM ops).getD j 0) i
def br_ (ch : List Nat) (c : Nat → Bool) : Nat := ch.foldr (fun k a => if c k then max (k + 1) a else a) 0
theorem c5_ {ch : List Nat} {c : Nat → Bool} {n : Nat} : br_ ch c ≤ n ↔ ∀ k ∈ ch, c k = true → k + 1 ≤ n := by
 induction ch with
 | nil => simp [br_]
 | cons a ch ih =>
  have e : br_ (a :: ch) c = if c a then max (a + 1) (br_ ch c) else br_ ch c := rfl
  rw [e]
  by_cases h : c a = true
  ·rw [if_pos h]
   constructor
   ·intro hle k hk hc
    rcases List.mem_cons.1 hk with rfl | hk
    ·omega
    ·exact ih.1 (by omega) k hk hc
   ·intro hall
    have := hall a (by simp) h
    have := ih.2 fun k hk hc => hall k (by simp [hk]) hc
    omega
  ·rw [if_neg h]
   exact ⟨fun hle k hk hc => by rcases List.mem_cons.1 hk with rfl | hk; exact absurd hc h; exact ih.1 hle k hk hc, fun hall => ih.2 fun k hk hc => hall k (by simp [hk]) hc⟩
theorem fk_ {ch : List Nat} {c c' : Nat → Bool} (h : ∀ k ∈ ch, c k = c' k) : br_ ch c = br_ ch c' := by
 apply Nat.le_antisymm
 ·exact c5_.2 fun k hk hc => c5_.1 (Nat.le_refl _) k hk (by rw [← h k hk]; exact hc)
 ·exact c5_.2 fun k hk hc => c5_.1 (Nat.le_refl _) k hk (by rw [h k hk]; exact hc)
theorem lU_ {ch : List Nat} {c : Nat → Bool} {i : Nat} (hi : i ∈ ch) (hc : c i = true) (h : ∀ k ∈ ch, c k = true → k ≤ i) : br_ ch c = i + 1 :=
 Nat.le_antisymm (c5_.2 fun k hk hck => by have := h k hk hck; omega) (c5_.1 (Nat.le_refl _) i hi hc)
theorem kt_ {ch : List Nat} {c : Nat → Bool} (h : br_ ch c ≠ 0) : ∃ k ∈ ch, c k = true ∧ br_ ch c = k + 1 := by
 induction ch with
 | nil => simp [br_] at h
 | cons a ch ih =>
  have e : br_ (a :: ch) c = if c a then max (a + 1) (br_ ch c) else br_ ch c := rfl
  rw [e] at h ⊢
  by_cases hc : c a = true
  ·rw [if_pos hc] at h ⊢
   by_cases hm : br_ ch c ≤ a + 1
   ·exact ⟨a, by simp, hc, by omega⟩
   ·obtain ⟨k, k1, k2, k3⟩ := ih (by omega)
    exact ⟨k, by simp [k1], k2, by omega⟩
  ·rw [if_neg hc] at h ⊢
   obtain ⟨k, k1, k2, k3⟩ := ih h
   exact ⟨k, by simp [k1], k2, k3⟩
def St.over (σ : St) (p : Nat → Bool) (Bk : Nat → Blk) : St := ⟨σ.next, fun i => if p i = true then some (Bk i) else σ.blk i⟩
theorem gG_ {σ : St} {p : Nat → Bool} {Bk : Nat → Blk} (h : ∀ i, p i = false) : σ.over p Bk = σ := St.ext' rfl fun i => by simp [St.over, h i]
theorem oi_ {σ : St} {p q r : Nat → Bool} {Bk : Nat → Blk} (h : ∀ i, r i = (p i || q i)) : (σ.over p Bk).over q Bk = σ.over r Bk := St.ext' rfl fun i => by
 simp only [St.over, h i]
 cases hq : q i <;> cases hp : p i <;> simp
theorem kb_ {σ : St} {p : Nat → Bool} {Bk : Nat → Blk} {x : Nat} : (σ.over p Bk).set x (Bk x) = σ.over (fun i => p i || decide (i = x)) Bk := St.ext' rfl fun i => by
 simp only [St.over, St.set]
 by_cases h : i = x
 ·subst h; simp
 ·simp [h]
section
variable {P : Program} {md : Nat → Md} {X : Ext} {O : aM_} {ops : Array Oper} {K : Fr → Prop} {s : Nat → T} {b : Nat} {W : Nat → Nat → Prop} {σs : St} {cm : Cmp}
theorem gX_ {i : Nat} {o : Oper} (ho : ops[i]? = some o) (s : Nat → T) (σ : St) : ef_ P O ops b i s σ = df_ P O ops (b + i) o s σ := by
 unfold ef_ df_; rw [ho]; rfl
theorem n2_ (hX : XOk X) {k : Nat} {o : Oper} {s : Nat → T} {σ σ' : St} {v : T} {x : Nat} {B : Blk} (h : df_ P (run P md X) ops k o s σ = some (v, σ')) (hk : k ≠ x) (hx : σ.blk x = none) (hl : x < σ.next) :
  df_ P (run P md X) ops k o s (σ.set x B) = some (v, σ'.set x B) ∧ σ'.blk x = none ∧ x < σ'.next := by
 unfold df_ at h ⊢
 have hk' : some k ≠ some x := fun e => hk (by injection e)
 split at h
 ·rename_i hw
  rw [if_pos hw]
  obtain ⟨r, h1, h2⟩ := Option.bind_eq_some_iff.1 h
  cases r with
  | val v' σ1 =>
   injection h2 with h2; injection h2 with e1 e2; subst e1; subst e2
   obtain ⟨a1, a2⟩ := oo_ (fr := ⟨s, σ⟩) (B := B) hk' hx hl h1
   have a1 : aOp P (some k) ⟨s, σ.set x B⟩ o = _ := a1
   rw [a1]; exact ⟨rfl, a2⟩
  | skip σ1 =>
   injection h2 with h2; injection h2 with e1 e2; subst e1; subst e2
   obtain ⟨a1, a2⟩ := l1_ (fr := ⟨s, σ⟩) (B := B) hk' hx hl h1
   have a1 : aOp P (some k) ⟨s, σ.set x B⟩ o = _ := a1
   rw [a1]; exact ⟨rfl, a2⟩
  | call f args =>
   have a1 := lQ_ (fr := ⟨s, σ⟩) (B := B) hk' hx hl h1
   have a1 : aOp P (some k) ⟨s, σ.set x B⟩ o = _ := a1
   rw [a1]; exact pU_ hX h2 hx hl
 ·rename_i hw
  rw [if_neg hw]
  injection h with h; injection h with e1 e2; subst e1; subst e2
  exact ⟨rfl, hx, hl⟩
theorem ke_ (hX : XOk X) {k : Nat} {o : Oper} {s : Nat → T} {σ σ' : St} {v : T} {Bk : Nat → Blk} (h : df_ P (run P md X) ops k o s σ = some (v, σ')) : ∀ (l : List Nat), (∀ x ∈ l, k ≠ x ∧ σ.blk x = none ∧ x < σ.next) → l.Nodup →
  df_ P (run P md X) ops k o s (σ.over (fun i => l.contains i) Bk) = some (v, σ'.over (fun i => l.contains i) Bk) ∧ ∀ x, x ∉ l → σ.blk x = none → x < σ.next → k ≠ x → (σ'.over (fun i => l.contains i) Bk).blk x = none ∧ x < σ'.next
 | [], _, _ => by
  rw [gG_ (fun i => by simp), gG_ (fun i => by simp)]
  exact ⟨h, fun x _ h1 h2 h3 => by obtain ⟨_, a, b⟩ := n2_ (B := aP_ [] 0) hX h h3 h1 h2; exact ⟨a, b⟩⟩
 | y :: l, hl, hn => by
  obtain ⟨n1, n2⟩ := List.nodup_cons.1 hn
  obtain ⟨y1, y2, y3⟩ := hl y (by simp)
  obtain ⟨k1, k2⟩ := ke_ hX (Bk := Bk) h l (fun x hx => hl x (by simp [hx])) n2
  have e : ∀ σ : St, (σ.over (fun i => l.contains i) Bk).set y (Bk y) = σ.over (fun i => (y :: l).contains i) Bk := fun σ => by
   rw [kb_]; congr 1; funext i
   rw [Bool.eq_iff_iff]; simp [or_comm]
  have hfree : (σ.over (fun i => l.contains i) Bk).blk y = none := by simp [St.over, n1, y2]
  obtain ⟨a1, a2, a3⟩ := n2_ (B := Bk y) hX k1 y1 hfree y3
  rw [e, e] at a1
  refine ⟨a1, fun x hx h1 h2 h3 => ?_⟩
  obtain ⟨c1, c2⟩ := k2 x (fun h => hx (by simp [h])) h1 h2 h3
  rw [← e]
  have hxy : x ≠ y := fun e => hx (by simp [e])
  refine ⟨?_, c2⟩
  rw [ct_, if_neg hxy]; exact c1
theorem pk_ {k : Nat} {o : Oper} {s : Nat → T} {σ σ' : St} {v : T} (hf : oy_ o = true) (h : df_ P O ops k o s σ = some (v, σ')) : ∃ C, σ' = σ.set k C ∧ ∀ σ2 : St, σ2.blk k = none → k < σ2.next → df_ P O ops k o s σ2 = some (v, σ2.set k C) := by
 obtain ⟨d, op, ty, ps, af, g⟩ := o
 simp only [oy_, Bool.and_eq_true, Option.isNone_iff_eq_none] at hf
 obtain ⟨hf, rfl⟩ := hf
 have hw : wantedA ops (⟨d, op, ty, ps, af, none⟩ : Oper) s = true := rfl
 have hok : ∀ σ2 : St, σ2.blk k = none → k < σ2.next → σ2.okK (some k) = true := fun σ2 h1 h2 => by simp [St.okK, h1, h2]
 unfold df_ at h ⊢
 rw [if_pos hw] at h
 cases op with
 | alloc t =>
  have e : ∀ σ2 : St, aOp P (some k) ⟨s, σ2⟩ ⟨d, .alloc t, ty, ps, af, none⟩ = (aZ_ P t).bind fun z => if σ2.okK (some k) = true then some (ARes.val (T.ptr k 0 0 z.length) (σ2.set k (aP_ z z.length))) else none := fun _ => rfl
  rw [e] at h
  cases hz : aZ_ P t with
  | none => rw [hz] at h; cases h
  | some z =>
   rw [hz, Option.bind_some] at h
   split at h
   ·injection h with h; injection h with h1 h2
    subst h1; subst h2
    refine ⟨aP_ z z.length, rfl, fun σ2 c1 c2 => ?_⟩
    rw [if_pos hw, e, hz, Option.bind_some, if_pos (hok σ2 c1 c2)]; rfl
   ·cases h
 | box t x =>
  have e : ∀ σ2 : St, aOp P (some k) ⟨s, σ2⟩ ⟨d, .box t x, ty, ps, af, none⟩ = (evalO s x).bind fun x => if x.cells.all T.one = true ∧ σ2.okK (some k) = true then some (ARes.val (T.ptr k 0 0 x.cells.length) (σ2.set k (aP_ x.cells x.cells.length))) else none := fun _ => rfl
  rw [e] at h
  cases hz : evalO s x with
  | none => rw [hz] at h; cases h
  | some z =>
   rw [hz, Option.bind_some] at h
   split at h
   ·rename_i hc
    injection h with h; injection h with h1 h2
    subst h1; subst h2
    refine ⟨aP_ z.cells z.cells.length, rfl, fun σ2 c1 c2 => ?_⟩
    rw [if_pos hw, e, hz, Option.bind_some, if_pos ⟨hc.1, hok σ2 c1 c2⟩]; rfl
   ·cases h
 | buildSlice t len parts =>
  have e : ∀ σ2 : St, aOp P (some k) ⟨s, σ2⟩ ⟨d, .buildSlice t len parts, ty, ps, af, none⟩ = (av_ P t).bind fun e => (szOf P e).bind fun sz => (aZ_ P e).bind fun z => (dh_ s parts.toList).bind fun ps =>
   if z.length = sz ∧ len * sz ≤ 2 ^ 24 ∧ sz ≠ 0 ∧ σ2.okK (some k) = true then (et_ (fun i => some (i * sz, sz)) ((List.replicate len z).flatten) ps).map fun cs => ARes.val (if len = 0 then .emp else .ref k 0 0 len) (σ2.set k (aP_ cs sz)) else none := fun _ => rfl
  rw [e] at h
  obtain ⟨r, h, hr⟩ := Option.bind_eq_some_iff.1 h
  obtain ⟨x1, h1, h⟩ := Option.bind_eq_some_iff.1 h
  obtain ⟨x2, h2, h⟩ := Option.bind_eq_some_iff.1 h
  obtain ⟨x3, h3, h⟩ := Option.bind_eq_some_iff.1 h
  obtain ⟨x4, h4, h⟩ := Option.bind_eq_some_iff.1 h
  split at h
  ·rename_i hc
   obtain ⟨cs, h5, h6⟩ := Option.map_eq_some_iff.1 h
   subst h6
   injection hr with hr; injection hr with hr1 hr2
   subst hr1; subst hr2
   refine ⟨aP_ cs x2, rfl, fun σ2 c1 c2 => ?_⟩
   rw [if_pos hw, e, h1, Option.bind_some, h2, Option.bind_some, h3, Option.bind_some, h4, Option.bind_some, if_pos ⟨hc.1, hc.2.1, hc.2.2.1, hok σ2 c1 c2⟩, h5]; rfl
  ·cases h
 | makeSlice t x y =>
  have e : ∀ σ2 : St, aOp P (some k) ⟨s, σ2⟩ ⟨d, .makeSlice t x y, ty, ps, af, none⟩ = (evalO s x).bind fun l => (evalO s y).bind fun c =>
   match l, c with
   | .int _ l, .int _ c => (av_ P t).bind fun e => (szOf P e).bind fun sz => (bY_ P e).bind fun by_ => (aZ_ P e).bind fun z =>
     if 0 ≤ l ∧ l ≤ c ∧ c * by_ ≤ 2 ^ 40 ∧ c ≤ 2 ^ 40 ∧ z.length = sz ∧ sz ≠ 0 ∧ σ2.okK (some k) = true then
      some (.val (if l = 0 ∧ c = 0 then .emp else .ref k 0 0 l.toNat) (σ2.set k (aP_ ((List.replicate l.toNat z).flatten) sz))) else none
   | _, _ => none := fun _ => rfl
  rw [e] at h
  obtain ⟨r, h, hr⟩ := Option.bind_eq_some_iff.1 h
  obtain ⟨x1, h1, h⟩ := Option.bind_eq_some_iff.1 h
  obtain ⟨x2, h2, h⟩ := Option.bind_eq_some_iff.1 h
  split at h
  ·obtain ⟨x3, h3, h⟩ := Option.bind_eq_some_iff.1 h
   obtain ⟨x4, h4, h⟩ := Option.bind_eq_some_iff.1 h
   obtain ⟨x5, h5, h⟩ := Option.bind_eq_some_iff.1 h
   obtain ⟨x6, h6, h⟩ := Option.bind_eq_some_iff.1 h
   split at h
   ·rename_i hc
    injection h with h; subst h
    injection hr with hr; injection hr with hr1 hr2
    subst hr1; subst hr2
    refine ⟨_, rfl, fun σ2 c1 c2 => ?_⟩
    rw [if_pos hw, e, h1, Option.bind_some, h2, Option.bind_some]
    simp only
    rw [h3, Option.bind_some, h4, Option.bind_some, h5, Option.bind_some, h6, Option.bind_some, if_pos ⟨hc.1, hc.2.1, hc.2.2.1, hc.2.2.2.1, hc.2.2.2.2.1, hc.2.2.2.2.2.1, hok σ2 c1 c2⟩]; rfl
   ·cases h
  ·cases h
 | _ => cases hf
theorem nC_ (vs : List Nat) (hcv : ∀ i, cm.vw i = vwB vs md ops i) (hf : e5_ ops) : ∀ n k (vals : Nat → T) (S : Nat → St), k + n = ops.size →
  (∀ i, i < k → ef_ P O ops b i (sl ops vals s (fun j => decide (j < i))) (S i) = some (vals i, S (i + 1)) ∧ (∀ x, x < b → (∀ c, cm.wk c i = true → ¬ W c x) → (S (i + 1)).blk x = (S i).blk x) ∧ eO_ b W σs (S (i + 1)) ∧ Room b (i + 1) (ops.size - (i + 1)) (S (i + 1)) ∧ (i ∉ bx_ vs md ops → S (i + 1) = S i ∧ ∀ σ', (cm.cm i = true → σ' = S i) → (∀ x, x < b → (∀ c, cm.ck c i = false → ¬ W c x) → σ'.blk x = (S i).blk x) → eO_ b W σs σ' → ef_ P O ops b i (sl ops vals s (fun j => decide (j < i))) σ' = some (vals i, σ'))) →
  eO_ b W σs (S k) → Room b k (ops.size - k) (S k) → opsC P O ops b W σs cm k (ops.toList.drop k) K ⟨sl ops vals s (fun j => decide (j < k)), S k⟩ →
  ∃ (vals' : Nat → T) (S' : Nat → St), S' 0 = S 0 ∧ (∀ i, i < ops.size → ef_ P O ops b i (sl ops vals' s (fun j => decide (j < i))) (S' i) = some (vals' i, S' (i + 1)) ∧ (∀ x, x < b → (∀ c, cm.wk c i = true → ¬ W c x) → (S' (i + 1)).blk x = (S' i).blk x) ∧ eO_ b W σs (S' (i + 1)) ∧ Room b (i + 1) (ops.size - (i + 1)) (S' (i + 1)) ∧ (i ∉ bx_ vs md ops → S' (i + 1) = S' i ∧ ∀ σ', (cm.cm i = true → σ' = S' i) → (∀ x, x < b → (∀ c, cm.ck c i = false → ¬ W c x) → σ'.blk x = (S' i).blk x) → eO_ b W σs σ' → ef_ P O ops b i (sl ops vals' s (fun j => decide (j < i))) σ' = some (vals' i, σ'))) ∧
   K ⟨sl ops vals' s (fun j => decide (j < ops.size)), S' ops.size⟩ := by
 intro n
 induction n with
 | zero =>
  intro k vals S hk h1 hA hR h2
  have : k = ops.size := by omega
  subst this
  rw [List.drop_of_length_le (by simp)] at h2
  exact ⟨vals, S, rfl, h1, h2⟩
 | succ n ih =>
  intro k vals S hk h1 hA hR h2
  have hlt : k < ops.size := by omega
  have ho : ops[k]? = some ops[k] := by simp [hlt]
  have hd : ops.toList.drop k = ops[k] :: ops.toList.drop (k + 1) := by
   rw [List.drop_eq_getElem_cons (by simpa using hlt)]; simp
  have hlen : (ops.toList.drop (k + 1)).length = ops.size - (k + 1) := by simp
  rw [hd] at h2
  have hmem : k ∈ bx_ vs md ops ↔ (isChg ops[k].op && !cm.vw k) = true := by
   rw [hcv]; simp [bx_, hlt, ho]
  have hR1 : Room b (k + 1) (ops.size - (k + 1)) (S k) := Room.nxt (by rw [show ops.size - (k + 1) + 1 = ops.size - k by omega]; exact hR)
  -- the value and the state behind the operation
  have key : ∃ v σ', df_ P O ops (b + k) ops[k] (sl ops vals s (fun j => decide (j < k))) (S k) = some (v, σ') ∧ (∀ x, x < b → (∀ c, cm.wk c k = true → ¬ W c x) → σ'.blk x = (S k).blk x) ∧ eO_ b W σs σ' ∧ Room b (k + 1) (ops.size - (k + 1)) σ' ∧ (k ∉ bx_ vs md ops → σ' = S k ∧ ∀ σ2, (cm.cm k = true → σ2 = S k) → (∀ x, x < b → (∀ c, cm.ck c k = false → ¬ W c x) → σ2.blk x = (S k).blk x) → eO_ b W σs σ2 → df_ P O ops (b + k) ops[k] (sl ops vals s (fun j => decide (j < k))) σ2 = some (v, σ2)) ∧
    opsC P O ops b W σs cm (k + 1) (ops.toList.drop (k + 1)) K (Fr.put ⟨sl ops vals s (fun j => decide (j < k)), S k⟩ ops[k].dst v σ') := by
   unfold opsC at h2
   cases hc : (isChg ops[k].op && !cm.vw k) && wantedA ops ops[k] (sl ops vals s (fun j => decide (j < k))) with
   | true =>
    simp only [hc] at h2
    obtain ⟨v, σ', q1, q0, q2, q2', q3⟩ := h2
    have hc := (Bool.and_eq_true _ _ ▸ hc : (isChg ops[k].op && !cm.vw k) = true ∧ _).1
    rw [hlen] at q2'
    exact ⟨v, σ', q1, q0, q2, q2', fun hn => absurd (hmem.2 hc) hn, q3⟩
   | false =>
    simp only [hc] at h2
    obtain ⟨v, q1, q3⟩ := h2
    exact ⟨v, S k, q1 _ (fun _ => rfl) (fun _ _ _ => rfl) hA, fun _ _ _ => rfl, hA, hR1, fun _ => ⟨rfl, q1⟩, q3⟩
  obtain ⟨v, σ', q1, q0, q2, q2', q3, q4⟩ := key
  let vals' : Nat → T := fun j => if j = k then v else vals j
  let S' : Nat → St := fun j => if j = k + 1 then σ' else S j
  have e1 : ∀ i, i ≤ k → sl ops vals' s (fun j => decide (j < i)) = sl ops vals s (fun j => decide (j < i)) := fun i hi => od_ fun j hj => by
   simp at hj
   simp only [vals']; rw [if_neg (by omega)]
  have e2 : (fun j => decide (j < k) || decide (j = k)) = (fun j => decide (j < k + 1)) := by
   funext j
   rw [Bool.eq_iff_iff]; simp; omega
  have e3 : ∀ i, i ≤ k → S' i = S i := fun i hi => by simp only [S']; rw [if_neg (by omega)]
  have e4 : S' (k + 1) = σ' := by simp [S']
  have e5 : vals' k = v := by simp [vals']
  obtain ⟨vals2, S2, r1, r2, r3⟩ := ih (k + 1) vals' S' (by omega) (fun i hi => by
   by_cases hik : i = k
   ·subst hik
    rw [e1 i (Nat.le_refl _), e3 i (Nat.le_refl _), e4, e5, gX_ ho]
    refine ⟨q1, q0, q2, q2', fun hn => ⟨(q3 hn).1, fun σ2 h2' h3' h2 => ?_⟩⟩
    rw [gX_ ho]; exact (q3 hn).2 σ2 h2' h3' h2
   ·rw [e1 i (by omega), e3 i (by omega), e3 (i + 1) (by omega), show vals' i = vals i from if_neg hik]
    exact h1 i (by omega)) (by rw [e4]; exact q2) (by rw [e4]; exact q2') (by
   have hp := lM_ (vals := vals') (s := s) hf ho (L := fun j => decide (j < k)) (by simp) (S k) σ'
   rw [e1 k (Nat.le_refl _), e2, e5] at hp
   rw [e4, ← hp]; exact q4)
  exact ⟨vals2, S2, by rw [r1, e3 0 (by omega)], r2, r3⟩
theorem lH_ (vs : List Nat) (hX : XOk X) (hst : fZ_ ops = true) (hch : ob_ vs md ops = true) {fr : Fr} (h : opsC P (run P md X) ops fr.σ.next W (fr.σ.bump ops.size) (oO_ vs md ops) 0 ops.toList K ⟨fr.s, fr.σ.bump ops.size⟩) : oJ_ P (run P md X) ops K fr := by
 have hf := eN_ hst
 obtain ⟨b, hb⟩ : ∃ b, b = fr.σ.next := ⟨_, rfl⟩
 obtain ⟨σs, hσs⟩ : ∃ σs, σs = fr.σ.bump ops.size := ⟨_, rfl⟩
 rw [← hb, ← hσs] at h
 have h0 : sl ops (fun _ => .tup []) fr.s (fun j => decide (j < 0)) = fr.s := by funext t; exact fY_ fun _ _ _ _ => by simp
 have hA0 : eO_ b W σs σs := ⟨by rw [hσs, k4_]; omega, fun _ _ _ => rfl⟩
 have hR0 : Room b 0 ops.size σs := ⟨by rw [hσs, k4_]; omega, fun j hj => by rw [hσs, j5_, if_neg (by omega)]⟩
 obtain ⟨vals, S, s0, h1, h2⟩ := nC_ (P := P) (O := run P md X) (K := K) (s := fr.s) (b := b) (W := W) (σs := σs) (cm := oO_ vs md ops) vs (fun _ => rfl) hf ops.size 0 (fun _ => .tup []) (fun _ => σs) (by omega) (fun i hi => absurd hi (by omega)) hA0 (by simpa using hR0) (by rw [h0]; simpa using h)
 -- the chain and the new boxes
 obtain ⟨ch, hchd⟩ : ∃ ch, ch = (bx_ vs md ops).filter fun i => !fE_ ops i := ⟨_, rfl⟩
 have hmem : ∀ i, i ∈ bx_ vs md ops → i < ops.size := fun i hi => by
  simp only [bx_, List.mem_filter, List.mem_range] at hi; exact hi.1
 have hchm : ∀ i, i ∈ ch ↔ i ∈ bx_ vs md ops ∧ fE_ ops i = false := fun i => by rw [hchd]; simp
 have hanc : ∀ i ∈ bx_ vs md ops, ∀ j ∈ ch, i < j → i ∈ (ancs ops).getD j [] := fun i hi j hj hij => by
  have hj := (hchm j).1 hj
  have := List.all_eq_true.1 (List.all_eq_true.1 hch i hi) j hj.1
  simp only [Bool.or_eq_true, Bool.not_eq_true', hj.2] at this
  rcases this with (h | h) | h
  ·have : Nat.blt i j = true := by simp [Nat.blt]; omega
   rw [this] at h; cases h
  ·cases h
  ·exact dX_.2 ⟨hmem i hi, h⟩
 have hflt : ∀ i, fE_ ops i = true → i ∈ bx_ vs md ops := fun i hi => by
  have hvw : vwB vs md ops i = false := by unfold vwB; rw [hi]; simp
  unfold fE_ at hi
  split at hi
  ·rename_i o ho
   have hlt : i < ops.size := (Array.getElem?_eq_some_iff.1 ho).1
   simp only [bx_, List.mem_filter, List.mem_range, ho, hvw, Bool.not_false, Bool.and_true]
   refine ⟨hlt, ?_⟩
   simp only [oy_, Bool.and_eq_true] at hi
   revert hi
   cases o.op <;> simp [isChg]
  ·cases hi
 obtain ⟨Bk, hBk⟩ : ∃ Bk : Nat → Blk, Bk = fun x => ((S (x - b + 1)).blk x).getD (aP_ [] 0) := ⟨_, rfl⟩
 -- which new boxes are there beside the chain
 let pX : (Nat → Bool) → Nat → Nat → Bool := fun c L x => decide (b ≤ x) && fE_ ops (x - b) && c (x - b) && decide (L ≤ x - b)
 let Sg : (Nat → Bool) → St := fun c => (S (br_ ch c)).over (pX c (br_ ch c)) Bk
 have hroom : ∀ j, j ≤ ops.size → Room b j (ops.size - j) (S j) ∧ eO_ b W σs (S j) := fun j hj => by
  cases j with
  | zero => rw [s0]; exact ⟨hR0, hA0⟩
  | succ j => exact ⟨(h1 j (by omega)).2.2.2.1, (h1 j (by omega)).2.2.1⟩
 have hle : ∀ c : Nat → Bool, br_ ch c ≤ ops.size := fun c => c5_.2 fun k hk _ => hmem k ((hchm k).1 hk).1
 have hfl : ∀ i, i < ops.size → fE_ ops i = true → S (i + 1) = (S i).set (b + i) (Bk (b + i)) ∧ ∀ σ2 : St, σ2.blk (b + i) = none → b + i < σ2.next → ef_ P (run P md X) ops b i (sl ops vals fr.s (fun j => decide (j < i))) σ2 = some (vals i, σ2.set (b + i) (Bk (b + i))) := fun i hi hfi => by
  unfold fE_ at hfi
  split at hfi
  ·rename_i o ho
   have := (h1 i hi).1
   rw [gX_ ho] at this
   obtain ⟨C, c1, c2⟩ := pk_ hfi this
   have hC : Bk (b + i) = C := by
    rw [hBk]; simp only [Nat.add_sub_cancel_left, c1, ct_, if_true, Option.getD_some]
   rw [hC]
   exact ⟨c1, fun σ2 h3 h4 => by rw [gX_ ho]; exact c2 σ2 h3 h4⟩
  ·cases hfi
 -- the states of the first order
 have hS : ∀ j, j ≤ ops.size → S j = Sg (fun k => decide (k < j)) := by
  intro j
  induction j with
  | zero =>
   intro _
   have e : br_ ch (fun k => decide (k < 0)) = 0 := Nat.le_zero.1 (c5_.2 fun k _ hk => by simp at hk)
   simp only [Sg, e]
   rw [gG_ fun i => by simp [pX]]
  | succ j ih =>
   intro hj
   have ih := ih (by omega)
   by_cases hc : j ∈ ch
   ·have e : br_ ch (fun k => decide (k < j + 1)) = j + 1 := lU_ hc (by simp) fun k _ hk => by simp at hk; omega
    simp only [Sg, e]
    rw [gG_ fun i => by simp only [pX, Bool.and_eq_false_iff, decide_eq_false_iff_not]; omega]
   ·have e : br_ ch (fun k => decide (k < j + 1)) = br_ ch (fun k => decide (k < j)) := fk_ fun k hk => by
     have : k ≠ j := fun e => hc (e ▸ hk)
     rw [Bool.eq_iff_iff]; simp; omega
    have hL : br_ ch (fun k => decide (k < j)) ≤ j := c5_.2 fun k _ hk => by simp at hk; omega
    by_cases hfj : fE_ ops j = true
    ·rw [(hfl j (by omega) hfj).1, ih]
     simp only [Sg, e]
     rw [kb_]
     congr 1
     funext x
     simp only [pX]
     rw [Bool.eq_iff_iff]
     simp only [Bool.or_eq_true, Bool.and_eq_true, decide_eq_true_eq]
     constructor
     ·rintro (h | rfl)
      ·exact ⟨⟨h.1.1, by omega⟩, h.2⟩
      ·rw [Nat.add_sub_cancel_left]; exact ⟨⟨⟨by omega, hfj⟩, by omega⟩, hL⟩
     ·rintro ⟨⟨⟨q1, q2⟩, q3⟩, q4⟩
      by_cases hx : x = b + j
      ·exact .inr hx
      ·exact .inl ⟨⟨⟨q1, q2⟩, by omega⟩, q4⟩
    ·have hn : j ∉ bx_ vs md ops := fun hm => hc ((hchm j).2 ⟨hm, by simpa using hfj⟩)
     rw [((h1 j (by omega)).2.2.2.2 hn).1, ih]
     simp only [Sg, e]
     congr 1
     funext x
     simp only [pX]
     rw [Bool.eq_iff_iff]
     simp only [Bool.and_eq_true, decide_eq_true_eq]
     constructor
     ·rintro ⟨⟨⟨q1, q2⟩, q3⟩, q4⟩; exact ⟨⟨⟨q1, q2⟩, by omega⟩, q4⟩
     ·rintro ⟨⟨⟨q1, q2⟩, q3⟩, q4⟩
      have : x - b ≠ j := fun e => by rw [e] at q2; exact hfj q2
      exact ⟨⟨⟨q1, q2⟩, by omega⟩, q4⟩
 have hOld : ∀ c, eO_ b W σs (Sg c) := fun c => by
  obtain ⟨q1, q2⟩ := (hroom _ (hle c)).2
  refine ⟨q1, fun x hx hx' => ?_⟩
  simp only [Sg, St.over]
  rw [if_neg (by simp only [pX, Bool.and_eq_true, decide_eq_true_eq]; omega)]
  exact q2 x hx hx'
 have hcg : ∀ c c', (∀ j ∈ bx_ vs md ops, c j = c' j) → Sg c = Sg c' := fun c c' hcc => by
  have e : br_ ch c = br_ ch c' := fk_ fun k hk => hcc k ((hchm k).1 hk).1
  simp only [Sg, e]
  congr 1
  funext x
  simp only [pX]
  by_cases hfx : fE_ ops (x - b) = true
  ·rw [hcc _ (hflt _ hfx)]
  ·simp [hfx]
 -- between what may write, the old blocks are as they were
 have hspan : ∀ x, x < b → ∀ d j, j + d ≤ ops.size → (∀ k, j ≤ k → k < j + d → ∀ c, wkB md ops c k = true → ¬ W c x) → (S (j + d)).blk x = (S j).blk x := by
  intro x hx d
  induction d with
  | zero => intro j _ _; rfl
  | succ d ih =>
   intro j hj hk
   rw [show j + (d + 1) = (j + d) + 1 by omega, (h1 (j + d) (by omega)).2.1 x hx (hk (j + d) (by omega) (by omega))]
   exact ih j (by omega) (fun k h1 h2 => hk k h1 (by omega))
 have hwch : ∀ c k, wkB md ops c k = true → k ∈ ch := fun c k hk => by
  simp only [wkB, Bool.and_eq_true] at hk
  have hk := hk.2
  have hvw : vwB vs md ops k = false := by unfold vwB; rw [hk]; simp
  unfold wk1 at hk
  split at hk
  ·rename_i o ho
   have hlt : k < ops.size := (Array.getElem?_eq_some_iff.1 ho).1
   have key : isChg o.op = true ∧ oy_ o = false := by
    obtain ⟨d, op, ty, ps, af, g⟩ := o
    cases op with
    | store t a x => exact ⟨rfl, rfl⟩
    | call d =>
     refine ⟨?_, rfl⟩
     obtain ⟨cal, as, ts⟩ := d
     cases cal with
     | builtin bi => cases bi <;> first | rfl | cases hk
     | _ => rfl
    | _ => cases hk
   refine (hchm k).2 ⟨?_, ?_⟩
   ·simp only [bx_, List.mem_filter, List.mem_range, ho, hvw, Bool.not_false, Bool.and_true]
    exact ⟨hlt, key.1⟩
   ·unfold fE_; rw [ho]; exact key.2
  ·cases hk
 have hcmp : ∀ i, i < ops.size → i ∉ bx_ vs md ops → ∀ c, (∀ k ∈ bx_ vs md ops, k ∈ (ancs ops).getD i [] → c k = true) → (∀ k ∈ bx_ vs md ops, i ∈ (ancs ops).getD k [] → c k = false) → (∀ k, k ∈ bx_ vs md ops → ∀ j, j ∈ bx_ vs md ops → j ∈ (ancs ops).getD k [] → c k = true → c j = true) → ∀ k, k ∈ ch → cmp1 ops k i = true → (k < i → k < br_ ch c) ∧ (i ≤ k → br_ ch c ≤ k) := by
  intro i hi hn c f1 f2 f4 k hkc hall
  have hkc' := (hchm k).1 hkc
  unfold cmp1 at hall
  rw [hkc'.2] at hall
  constructor
  ·intro hki
   have e : Nat.blt k i = true := by simp [Nat.blt]; omega
   rw [e] at hall
   have := f1 k hkc'.1 (dX_.2 ⟨hmem k hkc'.1, hall⟩)
   have := c5_.1 (Nat.le_refl (br_ ch c)) k hkc this
   omega
  ·intro hik
   have hne : k ≠ i := fun e => hn (e ▸ hkc'.1)
   have e : Nat.blt k i = false := by cases hb3 : Nat.blt k i with
    | false => rfl
    | true => have := Nat.le_of_ble_eq_true hb3; omega
   have e2 : Nat.beq k i = false := by cases hb2 : Nat.beq k i with
    | false => rfl
    | true => have := Nat.eq_of_beq_eq_true hb2; omega
   rw [e, e2] at hall
   have hck := f2 k hkc'.1 (dX_.2 ⟨hi, by simpa using hall⟩)
   by_cases hz : br_ ch c = 0
   ·omega
   ·obtain ⟨k', k1, k2, k3⟩ := kt_ hz
    rw [k3]
    have : ¬ k < k' := fun hkk => by
     have := f4 k' ((hchm k').1 k1).1 k hkc'.1 (hanc k hkc'.1 k' k1 hkk) k2
     rw [this] at hck; cases hck
    have : k ≠ k' := fun e => by rw [e, k2] at hck; cases hck
    omega
 have hold2 : ∀ i, i < ops.size → i ∉ bx_ vs md ops → ∀ c, (∀ k ∈ bx_ vs md ops, k ∈ (ancs ops).getD i [] → c k = true) → (∀ k ∈ bx_ vs md ops, i ∈ (ancs ops).getD k [] → c k = false) → (∀ k, k ∈ bx_ vs md ops → ∀ j, j ∈ bx_ vs md ops → j ∈ (ancs ops).getD k [] → c k = true → c j = true) → ∀ x, x < b → (∀ k d, wkB md ops d k = true → W d x → cmp1 ops k i = true) → (Sg c).blk x = (S i).blk x := by
  intro i hi hn c f1 f2 f4 x hx hcw
  have hsg : (Sg c).blk x = (S (br_ ch c)).blk x := by
   simp only [Sg, St.over]
   rw [if_neg (by simp only [pX, Bool.and_eq_true, decide_eq_true_eq]; omega)]
  rw [hsg]
  have hL := hle c
  rcases Nat.le_total (br_ ch c) i with h | h
  ·have := hspan x hx (i - br_ ch c) (br_ ch c) (by omega) (fun k a1 a2 d hd hW => by
    have := (hcmp i hi hn c f1 f2 f4 k (hwch d k hd) (hcw k d hd hW)).1 (by omega); omega)
   rw [show br_ ch c + (i - br_ ch c) = i by omega] at this
   exact this.symm
  ·have := hspan x hx (br_ ch c - i) i (by omega) (fun k a1 a2 d hd hW => by
    have := (hcmp i hi hn c f1 f2 f4 k (hwch d k hd) (hcw k d hd hW)).2 (by omega); omega)
   rw [show i + (br_ ch c - i) = br_ ch c by omega] at this
   exact this
 refine ⟨⟨sl ops vals fr.s (fun j => decide (j < ops.size)), Sg (fun j => decide (j < ops.size))⟩, ?_, by rw [← hS ops.size (Nat.le_refl _)]; exact h2⟩
 refine i8_ (P := P) (O := run P md X) (vals := vals) (s := fr.s) (Sg := Sg) (ch := bx_ vs md ops) hst rfl ?_ ?_ hcg hmem
 ·have e := hS 0 (Nat.zero_le _)
  rw [s0, hσs] at e
  rw [e]; exact hcg _ _ fun j _ => by simp
 ·intro i hi c hc
  rw [← hb]
  obtain ⟨f1, f2, f3, f4⟩ := hc
  -- what is done, up to where
  have hlast : ∀ i, fE_ ops i = true → c i = false → br_ ch c ≤ i := fun i hfi hci => by
   by_cases hz : br_ ch c = 0
   ·omega
   ·obtain ⟨k, k1, k2, k3⟩ := kt_ hz
    rw [k3]
    have k4 := (hchm k).1 k1
    have : ¬ i < k := fun hik => by
     have := f4 k k4.1 i (hflt i hfi) (hanc i (hflt i hfi) k k1 hik) k2
     rw [this] at hci; cases hci
    have : k ≠ i := fun e => by rw [e] at k4; rw [k4.2] at hfi; cases hfi
    omega
  by_cases hcmp : i ∈ ch ∨ (i ∉ bx_ vs md ops ∧ cmpB vs md ops i = true)
  ·have hlo : ∀ k ∈ bx_ vs md ops, k < i → c k = true := fun k hk hki => f1 k hk (by
    rcases hcmp with hic | ⟨_, hcm⟩
    ·exact hanc k hk i hic hki
    ·have := List.all_eq_true.1 hcm k hk
     have e : Nat.blt k i = true := by simp [Nat.blt]; omega
     rw [e] at this
     exact dX_.2 ⟨hmem k hk, this⟩)
   have hhi : ∀ k ∈ ch, i < k → c k = false := fun k hk hik => f2 k ((hchm k).1 hk).1 (by
    rcases hcmp with hic | ⟨_, hcm⟩
    ·exact hanc i ((hchm i).1 hic).1 k hk hik
    ·have := List.all_eq_true.1 hcm k ((hchm k).1 hk).1
     have e : Nat.blt k i = false := by cases hb3 : Nat.blt k i with
      | false => rfl
      | true => have := Nat.le_of_ble_eq_true hb3; omega
     have e2 : Nat.beq k i = false := by cases hb2 : Nat.beq k i with
      | false => rfl
      | true => have := Nat.eq_of_beq_eq_true hb2; omega
     rw [e, e2, ((hchm k).1 hk).2] at this
     exact dX_.2 ⟨hi, by simpa using this⟩)
   have e1 : br_ ch c = br_ ch (fun k => decide (k < i)) := fk_ fun k hk => by
    rcases Nat.lt_trichotomy k i with h | h | h
    ·rw [hlo k ((hchm k).1 hk).1 h]; simp [h]
    ·subst h; rw [f3]; simp
    ·rw [hhi k hk h]; simp; omega
   -- the boxes that have come early
   let l : List Nat := (((List.range ops.size).filter fun f => fE_ ops f && c f && decide (i < f)).map fun f => b + f)
   have hl : ∀ x, l.contains x = (decide (b ≤ x) && fE_ ops (x - b) && c (x - b) && decide (i < x - b)) := fun x => by
    rw [Bool.eq_iff_iff]
    simp only [l, List.contains_iff_mem, List.mem_map, List.mem_filter, List.mem_range, Bool.and_eq_true, decide_eq_true_eq]
    constructor
    ·rintro ⟨f, ⟨a1, ⟨a2, a3⟩, a4⟩, rfl⟩; rw [Nat.add_sub_cancel_left]; exact ⟨⟨⟨by omega, a2⟩, a3⟩, a4⟩
    ·rintro ⟨⟨⟨a1, a2⟩, a3⟩, a4⟩; exact ⟨x - b, ⟨hmem _ (hflt _ a2), ⟨a2, a3⟩, a4⟩, by omega⟩
   have hnd : l.Nodup := List.pairwise_map.2 (List.Pairwise.imp (fun h => by omega) (List.Pairwise.filter _ List.nodup_range))
   have hroom_i := (hroom i (by omega)).1
   have hlx : ∀ x ∈ l, b + i ≠ x ∧ (S i).blk x = none ∧ x < (S i).next := fun x hx => by
    have hx : l.contains x = true := by simpa using hx
    rw [hl] at hx
    simp only [Bool.and_eq_true, decide_eq_true_eq] at hx
    obtain ⟨⟨⟨a1, a2⟩, a3⟩, a4⟩ := hx
    have a5 := hmem _ (hflt _ a2)
    refine ⟨by omega, ?_, by have := hroom_i.1; omega⟩
    have := hroom_i.2 (x - b - i) (by omega)
    rwa [show b + i + (x - b - i) = x by omega] at this
   have ho : ops[i]? = some ops[i] := by simp [hi]
   have hstep := (h1 i hi).1
   rw [gX_ ho] at hstep ⊢
   have hrun := (ke_ hX (Bk := Bk) hstep l hlx hnd).1
   have g1 : Sg c = (S i).over (fun x => l.contains x) Bk := by
    rw [hS i (by omega)]
    simp only [Sg, e1]
    rw [oi_ (r := pX c (br_ ch (fun k => decide (k < i))))]
    intro x
    rw [hl]
    simp only [pX]
    rw [Bool.eq_iff_iff]
    simp only [Bool.or_eq_true, Bool.and_eq_true, decide_eq_true_eq]
    constructor
    ·rintro ⟨⟨⟨a1, a2⟩, a3⟩, a4⟩
     by_cases hxi : x - b < i
     ·exact .inl ⟨⟨⟨a1, a2⟩, hxi⟩, a4⟩
     ·have : x - b ≠ i := fun e => by rw [e] at a3; rw [a3] at f3; cases f3
      exact .inr ⟨⟨⟨a1, a2⟩, a3⟩, by omega⟩
    ·rintro (⟨⟨⟨a1, a2⟩, a3⟩, a4⟩ | ⟨⟨⟨a1, a2⟩, a3⟩, a4⟩)
     ·exact ⟨⟨⟨a1, a2⟩, hlo _ (hflt _ a2) a3⟩, a4⟩
     ·have : br_ ch (fun k => decide (k < i)) ≤ i := c5_.2 fun k _ hk => by simp at hk; omega
      exact ⟨⟨⟨a1, a2⟩, a3⟩, by omega⟩
   have g2 : Sg (fun j => c j || decide (j = i)) = (S (i + 1)).over (fun x => l.contains x) Bk := by
    rcases hcmp with hic | ⟨hn, _⟩
    ·have e2 : br_ ch (fun j => c j || decide (j = i)) = i + 1 := lU_ hic (by simp) fun k hk hkc => by
      rcases Nat.lt_trichotomy k i with h | h | h
      ·omega
      ·omega
      ·simp [hhi k hk h] at hkc; omega
     simp only [Sg, e2]
     congr 1
     funext x
     rw [hl]
     simp only [pX]
     rw [Bool.eq_iff_iff]
     simp only [Bool.or_eq_true, Bool.and_eq_true, decide_eq_true_eq]
     constructor
     ·rintro ⟨⟨⟨a1, a2⟩, a3 | a3⟩, a4⟩
      ·exact ⟨⟨⟨a1, a2⟩, a3⟩, by omega⟩
      ·omega
     ·rintro ⟨⟨⟨a1, a2⟩, a3⟩, a4⟩; exact ⟨⟨⟨a1, a2⟩, .inl a3⟩, by omega⟩
    ·rw [((h1 i hi).2.2.2.2 hn).1, ← g1]
     exact hcg _ _ fun j hj => by
      have : j ≠ i := fun e => hn (e ▸ hj)
      simp [this]
   rw [g1, g2]; exact hrun
  ·by_cases hfi : fE_ ops i = true
   ·have hLi := hlast i hfi f3
    obtain ⟨_, h4⟩ := hfl i hi hfi
    have hr := (hroom _ (hle c)).1
    have hfree : (Sg c).blk (b + i) = none := by
     simp only [Sg, St.over]
     rw [if_neg (by simp only [pX, Nat.add_sub_cancel_left, f3]; simp)]
     have := hr.2 (i - br_ ch c) (by omega)
     rwa [show b + br_ ch c + (i - br_ ch c) = b + i by omega] at this
    rw [h4 (Sg c) hfree (by show b + i < (S (br_ ch c)).next; have := hr.1; omega)]
    congr 2
    have e : br_ ch (fun j => c j || decide (j = i)) = br_ ch c := fk_ fun k hk => by
     have : k ≠ i := fun e => hcmp (.inl (e ▸ hk))
     simp [this]
    simp only [Sg, e]
    rw [kb_]
    congr 1
    funext x
    simp only [pX]
    rw [Bool.eq_iff_iff]
    simp only [Bool.or_eq_true, Bool.and_eq_true, decide_eq_true_eq]
    constructor
    ·rintro (h | rfl)
     ·exact ⟨⟨h.1.1, .inl h.1.2⟩, h.2⟩
     ·rw [Nat.add_sub_cancel_left]; exact ⟨⟨⟨by omega, hfi⟩, .inr rfl⟩, hLi⟩
    ·rintro ⟨⟨⟨a1, a2⟩, a3 | a3⟩, a4⟩
     ·exact .inl ⟨⟨⟨a1, a2⟩, a3⟩, a4⟩
     ·exact .inr (by omega)
   ·have hn : i ∉ bx_ vs md ops := fun hm => hcmp (.inl ((hchm i).2 ⟨hm, by simpa using hfi⟩))
    have e2 : Sg (fun j => c j || decide (j = i)) = Sg c := hcg _ _ fun j hj => by
     have : j ≠ i := fun e => hn (e ▸ hj)
     simp [this]
    rw [e2]
    exact ((h1 i hi).2.2.2.2 hn).2 _ (fun w => absurd (.inr ⟨hn, w⟩) hcmp) (fun x hx hW => hold2 i hi hn c f1 f2 f4 x hx fun k d hd hWd => by
     have hd' := hd
     simp only [wkB, Bool.and_eq_true] at hd'
     have e := Nat.eq_of_beq_eq_true hd'.1
     subst e
     cases hc1 : cmp1 ops d i with
     | true => rfl
     | false => exact absurd hWd (hW d (by show (!wk1 md ops d || cmp1 ops d i) = false; rw [hd'.2, hc1]; rfl))) (hOld c)
theorem eK_ {z : Bool} {σ : St} {k b e o n : Nat} {v : T} {S : List Nat} (h : hold z σ k (.ref b e o n) = some (v, S)) : b ∈ S := by
 cases k with
 | zero => cases h
 | succ k =>
  simp only [hold] at h
  obtain ⟨B, hB, h⟩ := Option.bind_eq_some_iff.1 h
  split at h
  ·obtain ⟨q, _, h⟩ := Option.map_eq_some_iff.1 h
   injection h with _ h; subst h; simp
  ·cases h
theorem qQ_ (vs : List Nat) (W : Nat → Nat → Prop) {Q : aN_ → Fr → Prop} {σ σ0 : St} {es : List Ent} {id : Nat} (hX : XOk X) (hst : fZ_ ops = true) (hch : ob_ vs md ops = true) (hH : Heap σ0 σ es)
  (h : ∀ B σs σ', σ0.next ≤ B → (∀ x cells, Ent.box x cells ∈ es → x < B) → (∀ z w t v, Ent.own z w t v ∈ es → ∀ b e o n, t = .ref b e o n → b < B) → Heap σ0 σ' es → opsX P (run P md X) ops (.c B 0 W σs (oO_ vs md ops)) ops.toList (Q .normal) ⟨s, σ'⟩) : codeQ P (run P md X) (.region id ops true) Q ⟨s, σ⟩ := by
 refine lH_ vs hX hst hch (W := W) ?_
 refine h σ.next (σ.bump ops.size) (σ.bump ops.size) hH.grow.nx (fun x cells hx => ?_) (fun z w t v hx b e o n ht => ?_) hH.bump ⟨by simp, fun _ _ _ => rfl⟩ ⟨by simp, fun j hj => by rw [j5_, if_neg (by omega)]⟩
 ·obtain ⟨n, hn, e⟩ := List.getElem_of_mem hx
  obtain ⟨F, h1, h2, h3⟩ := hH.ex
  obtain ⟨l1, l2, rfl⟩ := List.append_of_mem hx
  obtain ⟨F1, F2, rfl, h4, h5⟩ := h1.split
  obtain ⟨S, F', rfl, ⟨rfl, _⟩, _⟩ := h5
  exact (h3 x (by simp)).2
 ·obtain ⟨F, h1, h2, h3⟩ := hH.ex
  obtain ⟨l1, l2, rfl⟩ := List.append_of_mem hx
  obtain ⟨F1, F2, rfl, h4, h5⟩ := h1.split
  obtain ⟨S, F', rfl, ⟨_, _, k, h6⟩, _⟩ := h5
  subst ht
  exact (h3 b (by simp [eK_ h6])).2
end
theorem bl1 {bs : List Nat} {c : List T} (h : bs.length = [c].length) : ∃ b, bs = [b] := by
 rcases bs with _ | ⟨b, _ | ⟨x, l⟩⟩ <;> simp at h
 exact ⟨b, rfl⟩
end Go.Am
end
