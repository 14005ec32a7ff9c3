/- The abstract machine. -/
import Derived.Test.YtohkcdkmpencnaaDoorAm3
import Derived.Laws.Externs
section
set_option linter.unusedVariables false
set_option linter.unusedSimpArgs false
namespace Go.Am
open Classical
theorem hold_weak {σ : St} : ∀ (d : Nat) (t v : T) (S : List Nat), hold true σ d t = some (v, S) → hold false σ d t = some (v, S)
  | 0, t, v, S, h => by
    cases t with
    | row zz n cs => cases zz <;> cases n <;> cases cs <;> simp [hold] at h ⊢ <;> exact h
    | _ => simp [hold] at h <;> simp [hold, h]
  | d + 1, t, v, S, h => by
    cases t with
    | ref b e off n =>
      simp only [hold] at h
      obtain ⟨B, hb, h1⟩ := Option.bind_eq_some_iff.1 h
      split at h1
      · rename_i hc
        obtain ⟨⟨cs, S1⟩, h2, h3⟩ := Option.map_eq_some_iff.1 h1
        injection h3 with h3 h4; subst h3; subst h4
        have h5 := frzL_congr (g := hold false σ d) (fun t v S' _ hh _ => hold_weak d t v S' hh) h2
        simp only [hold, hb, Option.bind_some, h5, Option.map_some]
        rw [if_pos ⟨(fun h => by cases h), hc.2⟩]
      · cases h1
    | agg cs =>
      simp only [hold] at h
      obtain ⟨⟨cs', S1⟩, h2, h3⟩ := Option.map_eq_some_iff.1 h
      injection h3 with h3 h4; subst h3; subst h4
      simp only [hold, frzL_congr (g := hold false σ d) (fun t v S' _ hh _ => hold_weak d t v S' hh) h2, Option.map_some]
    | tup cs =>
      simp only [hold] at h
      obtain ⟨⟨cs', S1⟩, h2, h3⟩ := Option.map_eq_some_iff.1 h
      injection h3 with h3 h4; subst h3; subst h4
      simp only [hold, frzL_congr (g := hold false σ d) (fun t v S' _ hh _ => hold_weak d t v S' hh) h2, Option.map_some]
    | row zz n cs => cases zz <;> cases n <;> cases cs <;> simp [hold] at h ⊢ <;> exact h
    | _ => simp [hold] at h <;> simp [hold, h]
theorem frzL_append {f : T → Option (T × List Nat)} : ∀ {a b va vb : List T} {Sa Sb : List Nat}, frzL f a = some (va, Sa) → frzL f b = some (vb, Sb) → frzL f (a ++ b) = some (va ++ vb, Sa ++ Sb)
  | [], b, va, vb, Sa, Sb, ha, hb => by simp [frzL] at ha; obtain ⟨rfl, rfl⟩ := ha; simpa using hb
  | t :: a, b, va, vb, Sa, Sb, ha, hb => by
    simp only [frzL] at ha
    obtain ⟨⟨v0, S0⟩, h1, h2⟩ := Option.bind_eq_some_iff.1 ha
    obtain ⟨⟨vs, S1⟩, h3, h4⟩ := Option.map_eq_some_iff.1 h2
    injection h4 with h4 h5; subst h4; subst h5
    simp only [List.cons_append, frzL, h1, Option.bind_some, frzL_append h3 hb, Option.map_some, List.append_assoc]
theorem frzLh_mono {z : Bool} {σ : St} {k k' : Nat} (hk : k ≤ k') {ts vs : List T} {F : List Nat} (h : frzL (hold z σ k) ts = some (vs, F)) : frzL (hold z σ k') ts = some (vs, F) :=
  frzL_congr (fun t v S _ hh _ => hold_mono k t v S hh k' hk) h
inductive HL (z : Bool) : List T → List T → List Ent → Prop
  | nil : HL z [] [] []
  | leaf {t v ts vs es} (h : ∀ σ d, hold z σ d t = some (v, [])) (r : HL z ts vs es) : HL z (t :: ts) (v :: vs) es
  | own {z' w t v ts vs es} (hz : (!z || z') = true) (r : HL z ts vs es) : HL z (t :: ts) (v :: vs) (.own z' w t v :: es)
  | agg {cs us es1 ts vs es2} (a : HL z cs us es1) (r : HL z ts vs es2) : HL z (.agg cs :: ts) (.agg us :: vs) (es1 ++ es2)
  | tup {cs us es1 ts vs es2} (a : HL z cs us es1) (r : HL z ts vs es2) : HL z (.tup cs :: ts) (.tup us :: vs) (es1 ++ es2)
theorem HL.sound {σ : St} {z ts vs es} (h : HL z ts vs es) : ∀ {F : List Nat}, HeapR σ es F → ∃ k, frzL (hold z σ k) ts = some (vs, F) := by
  induction h with
  | nil => intro F hF; cases hF; exact ⟨0, rfl⟩
  | leaf h r ih => intro F hF; obtain ⟨k, hk⟩ := ih hF; exact ⟨k, by simp only [frzL, h, Option.bind_some, hk, Option.map_some, List.nil_append]⟩
  | @own z' w t v ts vs es hz r ih =>
    intro F hF
    obtain ⟨S, F', rfl, ⟨_, _, k', h1⟩, h2⟩ := hF
    obtain ⟨k, hk⟩ := ih h2
    have h3 : hold z σ (max k k') t = some (v, S) := by
      have h4 := hold_mono k' t v S h1 (max k k') (Nat.le_max_right _ _)
      cases z with
      | true => cases z' with
        | true => exact h4
        | false => cases hz
      | false => cases z' with
        | true => exact hold_weak _ _ _ _ h4
        | false => exact h4
    exact ⟨max k k', by simp only [frzL, h3, Option.bind_some, frzLh_mono (Nat.le_max_left k k') hk, Option.map_some]⟩
  | @agg cs us es1 ts vs es2 a r iha ihr =>
    intro F hF
    obtain ⟨F1, F2, rfl, h1, h2⟩ := hF.split
    obtain ⟨k1, q1⟩ := iha h1
    obtain ⟨k2, q2⟩ := ihr h2
    have h3 : hold z σ (max k1 k2 + 1) (.agg cs) = some (.agg us, F1) := by simp only [hold, frzLh_mono (Nat.le_max_left k1 k2) q1, Option.map_some]
    exact ⟨max k1 k2 + 1, by simp only [frzL, h3, Option.bind_some, frzLh_mono (Nat.le_succ_of_le (Nat.le_max_right k1 k2)) q2, Option.map_some]⟩
  | @tup cs us es1 ts vs es2 a r iha ihr =>
    intro F hF
    obtain ⟨F1, F2, rfl, h1, h2⟩ := hF.split
    obtain ⟨k1, q1⟩ := iha h1
    obtain ⟨k2, q2⟩ := ihr h2
    have h3 : hold z σ (max k1 k2 + 1) (.tup cs) = some (.tup us, F1) := by simp only [hold, frzLh_mono (Nat.le_max_left k1 k2) q1, Option.map_some]
    exact ⟨max k1 k2 + 1, by simp only [frzL, h3, Option.bind_some, frzLh_mono (Nat.le_succ_of_le (Nat.le_max_right k1 k2)) q2, Option.map_some]⟩
@[simp] theorem hold_int (z : Bool) (σ : St) (d : Nat) (k : IntKind) (n : Int) : hold z σ d (.int k n) = some (.int k n, []) := by cases d <;> rfl
@[simp] theorem hold_bool (z : Bool) (σ : St) (d : Nat) (b : Bool) : hold z σ d (.bool b) = some (.bool b, []) := by cases d <;> rfl
@[simp] theorem hold_str (z : Bool) (σ : St) (d : Nat) (s : ByteArray) : hold z σ d (.str s) = some (.str s, []) := by cases d <;> rfl
@[simp] theorem hold_nilp (z : Bool) (σ : St) (d : Nat) : hold z σ d .nilp = some (.nilp, []) := by cases d <;> rfl
@[simp] theorem hold_nilf (z : Bool) (σ : St) (d : Nat) : hold z σ d .nilf = some (.nilf, []) := by cases d <;> rfl
@[simp] theorem hold_nili (z : Bool) (σ : St) (d : Nat) : hold z σ d .nili = some (.nili, []) := by cases d <;> rfl
@[simp] theorem hold_nilm (z : Bool) (σ : St) (d : Nat) : hold z σ d .nilm = some (.nilm, []) := by cases d <;> rfl
@[simp] theorem hold_nils (z : Bool) (σ : St) (d : Nat) : hold z σ d (.row true 0 []) = some (.row true 0 [], []) := by cases d <;> rfl
@[simp] theorem hold_pure {α : Type} [Enc α] (σ : St) (d : Nat) (s : Sl α) : hold false σ d s.t = some (s.t, []) := by
  obtain ⟨z, l⟩ := s
  cases z <;> cases l <;> cases d <;> simp [Sl.t, hold, cellsL]
@[simp] theorem hold_nilS {α : Type} [Enc α] (z : Bool) (σ : St) (d : Nat) : hold z σ d (Sl.t (⟨true, []⟩ : Sl α)) = some (Sl.t (⟨true, []⟩ : Sl α), []) := hold_nils z σ d
class Hld (z : Bool) (α : Type) [Enc α] : Prop where
  h : ∀ (a : α) (σ : St) (d : Nat), frzL (hold z σ d) (Enc.cells a) = some (Enc.cells a, [])
instance (z : Bool) : Hld z ByteArray := ⟨fun a σ d => by simp [Enc.cells]⟩
instance (z : Bool) : Hld z Bool := ⟨fun a σ d => by simp [Enc.cells]⟩
instance (z : Bool) (k : IntKind) : Hld z (Iv k) := ⟨fun a σ d => by simp [Enc.cells]⟩
instance {α : Type} [Enc α] : Hld false (Sl α) := ⟨fun a σ d => by simp [Enc.cells]⟩
theorem Hld.list {z : Bool} {α : Type} [Enc α] [Hld z α] (σ : St) (d : Nat) : ∀ l : List α, frzL (hold z σ d) (cellsL l) = some (cellsL l, [])
  | [] => rfl
  | a :: l => by simpa [cellsL] using frzL_append (Hld.h a σ d) (Hld.list σ d l)
def IsOne (t : T) : Prop := t.cells = [t] ∧ t.one = true
theorem isTop_one {t : T} (h : isTop t = true) : IsOne t := by
  cases t <;> simp [isTop] at h <;> exact ⟨rfl, rfl⟩
theorem Heap.head {σ0 σ : St} {e : Ent} {es : List Ent} (h : Heap σ0 σ (e :: es)) : ∃ S, EntOk σ e S ∧ S.Nodup ∧ ∀ b ∈ S, σ0.next ≤ b ∧ b < σ.next := by
  obtain ⟨F, ⟨S, F', rfl, h1, h2⟩, h3, h4⟩ := h.ex
  exact ⟨S, h1, (List.nodup_append.1 h3).1, fun b hb => h4 b (by simp [hb])⟩
theorem Heap.one {σ0 σ : St} {z w t v es} (h : Heap σ0 σ (.own z w t v :: es)) : IsOne t := by
  obtain ⟨S, h1, _⟩ := h.head
  exact isTop_one h1.1
theorem Heap.addEmp {σ0 σ : St} {es : List Ent} (h : Heap σ0 σ es) (z : Bool) (w : Nat) : Heap σ0 σ (.own z w .emp (.row false 0 []) :: es) :=
  Heap.step (es1 := []) (es2 := [.own z w .emp (.row false 0 [])]) (es := es) h (Nat.le_refl _) fun S hS _ _ => ⟨[], ⟨[], [], rfl, ⟨rfl, (fun _ _ _ _ _ h _ _ => by cases h), 0, rfl⟩, rfl⟩, by simp, by simp, fun _ _ _ => rfl⟩
def enumV : Nat → List T → List (Nat × T)
  | _, [] => []
  | i, v :: vs => (i, v) :: enumV (i + 1) vs
def allV (sz : Nat) : List T → Prop
  | [] => True
  | v :: vs => v.cells.length = sz ∧ v.cells.all T.one = true ∧ allV sz vs
theorem allV_len {sz : Nat} : ∀ (vs : List T), allV sz vs → (vs.flatMap T.cells).length = vs.length * sz
  | [], _ => by simp
  | v :: vs, h => by
    have := allV_len vs h.2.2
    simp only [List.flatMap_cons, List.length_append, List.length_cons, Nat.succ_mul, h.1, this]; omega
theorem fill_full {sz : Nat} (zc : List T) (hz : zc.length = sz) : ∀ (vs pre : List T) (i : Nat), pre.length = i * sz → allV sz vs →
    fillA (fun i => some (i * sz, sz)) (pre ++ (List.replicate vs.length zc).flatten) (enumV i vs) = some (pre ++ vs.flatMap T.cells)
  | [], pre, i, hp, _ => by simp [enumV, fillA]
  | v :: vs, pre, i, hp, h => by
    obtain ⟨h1, h2, h3⟩ := h
    simp only [enumV, fillA_cons, Option.bind_some, fill1_eq]
    rw [if_pos ⟨h1, by simp [hp, List.replicate_succ, hz], h2⟩]
    have e : splice (pre ++ (List.replicate (v :: vs).length zc).flatten) (i * sz) v.cells = (pre ++ v.cells) ++ (List.replicate vs.length zc).flatten := by
      simp only [splice, List.length_cons, List.replicate_succ, List.flatten_cons]
      rw [List.take_append_of_le_length (by omega), List.take_of_length_le (by omega), List.drop_append, List.drop_of_length_le (by omega), List.nil_append, h1, hp, show i * sz + sz - i * sz = sz by omega, List.drop_append, List.drop_of_length_le (by omega), List.nil_append, hz, Nat.sub_self, List.drop_zero]
    rw [e, fill_full zc hz vs (pre ++ v.cells) (i + 1) (by rw [List.length_append, hp, h1, Nat.succ_mul]) h3]
    simp
section
variable {P : Program} {O : Oracle} {ops : Array Oper} {l : List Oper} {K : Fr → Prop} {s : Nat → T} {σ σ0 : St} {L : List (Nat × T)} {es ents : List Ent}
variable {d : Option Nat} {ty : TypeId} {ps : String} {af : Array Edge} {g : Option (Nat × Bool)}
theorem Heap.mkRowK {z : Bool} {n sz : Nat} {cs us : List T} (h : Heap σ0 σ (ents ++ es)) {k : Option Nat} (hk : σ.okK k = true) (hbk : ∀ i, k = some i → σ0.next ≤ i) (hsz : sz ≠ 0) (hn0 : n ≠ 0) (hl : cs.length = n * sz) (h1 : cs.all T.one = true) (hh : HL z cs us ents) :
    Heap σ0 (σ.pushK k (mkBlk cs sz)) (.own z sz (.ref (σ.nid k) 0 0 n) (.row false n us) :: es) := by
  have h0 : σ0.next ≤ σ.nid k := by
    cases k with
    | none => exact h.grow.nx
    | some i => exact hbk i rfl
  have hf := okK_free hk
  refine Heap.stepN (es1 := ents) (es2 := [.own z sz (.ref (σ.nid k) 0 0 n) (.row false n us)]) (es := es) h pushK_nx (fun b hb' => by rw [pushK_blk, if_neg (by omega)]) fun S hS hn hb => ?_
  have hs : ∀ b ∈ S, (σ.pushK k (mkBlk cs sz)).blk b = σ.blk b := fun b hb' => pushK_old hk (hS.some b hb') (hb b hb').2
  obtain ⟨kk, hkk⟩ := hh.sound (hS.same hs)
  have hself : (σ.pushK k (mkBlk cs sz)).blk (σ.nid k) = some (mkBlk cs sz) := by rw [pushK_blk, if_pos rfl]
  have hnot : σ.nid k ∉ S := fun hm => by
    rcases hf with hf | ⟨hf, _⟩
    · have := (hb _ hm).2; omega
    · have := hS.some _ hm; rw [hf] at this; cases this
  refine ⟨σ.nid k :: S, ⟨σ.nid k :: S, [], by simp, ⟨rfl, (fun b e o n B h hB _ => by injection h with h; subst h; rw [hself] at hB; injection hB with hB; subst hB; rfl), kk + 1, ?_⟩, rfl⟩, List.nodup_cons.2 ⟨hnot, hn⟩, ?_, fun b hb' hs' _ => pushK_old hk hs' hb'⟩
  · simp only [hold, hself, Option.bind_some, mkBlk_cells, hkk, Option.map_some]
    rw [if_pos (by simp only [mkBlk]; exact ⟨fun _ => trivial, trivial, Nat.le_refl _, trivial, hl, hsz, h1, hn0⟩)]
  · intro b hb'
    rcases List.mem_cons.1 hb' with rfl | h
    · exact .inr ⟨h0, nid_ltK hk, hf.imp id fun h => h.1⟩
    · exact .inl h
theorem Heap.junk (h : Heap σ0 σ es) {k : Option Nat} (hk : σ.okK k = true) (hbk : ∀ i, k = some i → σ0.next ≤ i) (B : Blk) : Heap σ0 (σ.pushK k B) es := by
  have h0 : σ0.next ≤ σ.nid k := by
    cases k with
    | none => exact h.grow.nx
    | some i => exact hbk i rfl
  exact Heap.stepN (es1 := []) (es2 := []) (es := es) h pushK_nx (fun b hb' => by rw [pushK_blk, if_neg (by omega)]) fun S hS hn hb => ⟨[], rfl, by simp, by simp, fun b hb' hs' _ => pushK_old hk hs' hb'⟩
theorem allV_one {sz : Nat} : ∀ (vs : List T), allV sz vs → (vs.flatMap T.cells).all T.one = true
  | [], _ => rfl
  | v :: vs, h => by simp only [List.flatMap_cons, List.all_append, h.2.1, allV_one vs h.2.2, Bool.and_self]
theorem q_bsC {m : Mo} (hm : m.chg = true) (hmb : m.base σ0) {t e len sz : Nat} {parts : Array (Nat × Operand)} {z : Bool} {vs zc cs us : List T} {v : T} (hw : want ops L g = some true) (hS : Sub L s) (hH : Heap σ0 σ (ents ++ es)) (hg : gPs (get L) parts.toList = some (enumV 0 vs))
    (he : elemOfSl P t = some e) (hz : szOf P e = some sz) (hzz : zeroOf P e = some zc) (hl : (Nat.beq zc.length sz && Nat.beq vs.length len && Nat.ble (len * sz) 16777216 && !Nat.beq sz 0 && !Nat.beq len 0) = true) (hv : allV sz vs) (hc : vs.flatMap T.cells = cs)
    (hh : HL z cs us ents) (hr : T.row false len us = v)
    (kk : ∀ t' σ' s', IsOne t' → Heap σ0 σ' (.own z sz t' v :: es) → Sub (putL L d t') s' → opsX P O ops (nxM m) l K ⟨s', σ'⟩) : opsX P O ops m (⟨d, .buildSlice t len parts, ty, ps, af, g⟩ :: l) K ⟨s, σ⟩ := by
  simp only [Bool.and_eq_true, Bool.not_eq_true'] at hl
  obtain ⟨⟨⟨⟨l1, l2⟩, l3⟩, l4⟩, l5⟩ := hl
  have l1 := Nat.eq_of_beq_eq_true l1; have l2 := Nat.eq_of_beq_eq_true l2; have l3 := Nat.le_of_ble_eq_true l3; have l4 := Nat.ne_of_beq_eq_false l4; have l5 := Nat.ne_of_beq_eq_false l5
  subst hr
  have hlen : cs.length = len * sz := by rw [← hc, ← l2]; exact allV_len vs hv
  refine x_newC hm rfl (want_sound hS hw) fun k hk hi => ⟨T.ref (σ.nid k) 0 0 len, σ.pushK k (mkBlk cs sz), ?_, Cg.push hk, ?_⟩
  · rw [a_buildSlice, he, Option.bind_some, hz, Option.bind_some, hzz, Option.bind_some, gPs_sound hS hg, Option.bind_some, bldSlA_eq, if_pos ⟨l1, l3, l4, hk⟩]
    have := fill_full zc l1 vs [] 0 (by simp) hv
    simp only [List.nil_append, l2, hc] at this
    rw [this, if_neg l5]; rfl
  · rw [put_eq]; exact kk _ _ _ ⟨rfl, rfl⟩ (hH.mkRowK hk (Mo.inb_base hi hmb) l4 l5 hlen (by rw [← hc]; exact allV_one vs hv) hh) (sub_putL hS d _ σ)
theorem hold_top {z : Bool} {k : Nat} {t : T} {zz : Bool} {n : Nat} {cs : List T} {S : List Nat} (ht : isTop t = true) (h : hold z σ k t = some (.row zz n cs, S)) :
    (t = .row true 0 [] ∧ zz = true ∧ n = 0 ∧ cs = [] ∧ S = []) ∨ (t = .emp ∧ zz = false ∧ n = 0 ∧ cs = [] ∧ S = []) ∨
    (zz = false ∧ ∃ b B S' k', t = .ref b B.ep 0 n ∧ σ.blk b = some B ∧ (z = true → B.st = true) ∧ B.low ≤ B.ep ∧ B.cells.length = n * B.esz ∧ B.esz ≠ 0 ∧ B.cells.all T.one = true ∧ frzL (hold z σ k') B.cells = some (cs, S') ∧ S = b :: S') := by
  cases t with
  | row z' n' cs' =>
    cases z' <;> cases n' <;> cases cs' <;> simp [isTop] at ht
    simp at h; obtain ⟨⟨rfl, rfl, rfl⟩, rfl⟩ := h; simp
  | emp => cases k <;> simp [hold] at h <;> (obtain ⟨⟨rfl, rfl, rfl⟩, rfl⟩ := h; simp)
  | ref b e off n' =>
    cases k with
    | zero => simp [hold] at h
    | succ k =>
      simp only [hold] at h
      obtain ⟨B, hb, h1⟩ := Option.bind_eq_some_iff.1 h
      split at h1
      · rename_i hc
        obtain ⟨⟨us, S1⟩, h2, h3⟩ := Option.map_eq_some_iff.1 h1
        injection h3 with h3 h4; injection h3 with h5 h6 h7
        subst h4; subst h5; subst h6; subst h7
        obtain ⟨c1, rfl, c3, rfl, c5, c6, c7, _⟩ := hc
        exact .inr (.inr ⟨rfl, b, B, S1, k, rfl, hb, c1, c3, c5, c6, c7, h2, rfl⟩)
      · cases h1
  | _ => simp [isTop] at ht
def appS {α : Type} (by_ : Nat) (a b : Sl α) : Option (Sl α) := match b.l with
  | [] => some a
  | _ :: _ => if (a.l.length + b.l.length) * by_ ≤ 1099511627776 then some ⟨false, a.l ++ b.l⟩ else none
theorem appS_some {α : Type} {by_ : Nat} {a b c : Sl α} (h : appS by_ a b = some c) : (b.l = [] ∧ c = a) ∨ (b.l ≠ [] ∧ (a.l.length + b.l.length) * by_ ≤ 1099511627776 ∧ c = ⟨false, a.l ++ b.l⟩) := by
  unfold appS at h
  split at h
  · rename_i e; injection h with h; exact .inl ⟨e, h.symm⟩
  · rename_i x xs e
    split at h
    · rename_i hc; injection h with h; exact .inr ⟨by rw [e]; simp, hc, h.symm⟩
    · cases h
theorem app_state {α : Type} [Enc α] {z : Bool} {t1 : T} {a b : Sl α} {news : List T} {kx : Option Nat} (hkx : σ.okK kx = true) (hbk : ∀ i, kx = some i → σ0.next ≤ i) (hH : Heap σ0 σ (.own z (Enc.w α) t1 a.t :: ents ++ es)) (hb : b.l ≠ []) (h1 : news.all T.one = true)
    (hn : news.length = b.l.length * Enc.w α) (hsz : Enc.w α ≠ 0) (hh : ∀ S σ', HeapR σ ents S → S.Nodup → (∀ x ∈ S, σ'.blk x = σ.blk x) → ∃ S2 k, (∀ x ∈ S2, x ∈ S) ∧ S2.Nodup ∧ frzL (hold z σ' k) news = some (cellsL b.l, S2)) :
    ((t1 = .row true 0 [] ∨ t1 = .emp) ∧ a.l.length = 0 ∧ Heap σ0 (σ.pushK kx (mkBlk news (Enc.w α))) (.own z (Enc.w α) (.ref (σ.nid kx) 0 0 b.l.length) (Sl.t ⟨false, a.l ++ b.l⟩) :: es)) ∨
    (∃ x B, t1 = .ref x B.ep 0 a.l.length ∧ σ.blk x = some B ∧ B.cells.length = a.l.length * B.esz ∧ B.low ≤ B.ep ∧ B.esz = Enc.w α ∧ Heap σ0 (σ.set x { B with cells := B.cells ++ news, ep := B.ep + 1, ver := B.ver + 1 }) (.own z (Enc.w α) (.ref x (B.ep + 1) 0 (a.l.length + b.l.length)) (Sl.t ⟨false, a.l ++ b.l⟩) :: es)) := by
  obtain ⟨S, ⟨ht, hwd, k, h2⟩, _, _⟩ := hH.head
  have ea : a.t = .row a.z a.l.length (cellsL a.l) := rfl
  rw [ea] at h2
  have fresh : a.l = [] → Heap σ0 (σ.pushK kx (mkBlk news (Enc.w α))) (.own z (Enc.w α) (.ref (σ.nid kx) 0 0 b.l.length) (Sl.t ⟨false, a.l ++ b.l⟩) :: es) := fun ha => by
    have h0 : σ0.next ≤ σ.nid kx := by
      cases kx with
      | none => exact hH.grow.nx
      | some i => exact hbk i rfl
    have hf := okK_free hkx
    refine Heap.stepN (es1 := .own z (Enc.w α) t1 a.t :: ents) (es2 := [.own z (Enc.w α) (.ref (σ.nid kx) 0 0 b.l.length) (Sl.t ⟨false, a.l ++ b.l⟩)]) (es := es) hH pushK_nx (fun b hb' => by rw [pushK_blk, if_neg (by omega)]) fun F hF hnd hbd => ?_
    have hall := hF.some
    obtain ⟨S1, F1, rfl, h3, h4⟩ := hF
    have hs : ∀ y ∈ F1, (σ.pushK kx (mkBlk news (Enc.w α))).blk y = σ.blk y := fun y hy => pushK_old hkx (hall y (by simp [hy])) (hbd y (by simp [hy])).2
    obtain ⟨S2, k2, q1, q2, q3⟩ := hh F1 _ h4 (List.nodup_append.1 hnd).2.1 hs
    have hself : (σ.pushK kx (mkBlk news (Enc.w α))).blk (σ.nid kx) = some (mkBlk news (Enc.w α)) := by rw [pushK_blk, if_pos rfl]
    have hnot : σ.nid kx ∉ S2 := fun hm => by
      have hm := q1 _ hm
      rcases hf with hf | ⟨hf, _⟩
      · have := (hbd (σ.nid kx) (by simp [hm])).2; omega
      · have := hall (σ.nid kx) (by simp [hm]); rw [hf] at this; cases this
    refine ⟨σ.nid kx :: S2, ⟨σ.nid kx :: S2, [], by simp, ⟨rfl, (fun b e o n B h hB _ => by injection h with h; subst h; rw [hself] at hB; injection hB with hB; subst hB; rfl), k2 + 1, ?_⟩, rfl⟩, List.nodup_cons.2 ⟨hnot, q2⟩, ?_, fun y hy hys _ => pushK_old hkx hys hy⟩
    · simp only [hold, hself, Option.bind_some, mkBlk_cells, q3, Option.map_some, ha, List.nil_append, Sl.t]
      rw [if_pos (by simp only [mkBlk]; exact ⟨fun _ => trivial, trivial, Nat.le_refl _, trivial, hn, hsz, h1, fun e => hb (List.length_eq_zero_iff.1 e)⟩)]
    · intro y hy
      rcases List.mem_cons.1 hy with rfl | hy
      · exact .inr ⟨h0, nid_ltK hkx, hf.imp id fun h => h.1⟩
      · exact .inl (by simp [q1 _ hy])
  rcases hold_top ht h2 with ⟨rfl, hz, hn0, hcs, rfl⟩ | ⟨rfl, hz, hn0, hcs, rfl⟩ | ⟨hz, x, B, S', k', rfl, hB, c1, c3, c5, c6, c7, h3, rfl⟩
  · exact .inl ⟨.inl rfl, hn0, fresh (List.length_eq_zero_iff.1 hn0)⟩
  · exact .inl ⟨.inr rfl, hn0, fresh (List.length_eq_zero_iff.1 hn0)⟩
  · have hesz := hwd _ _ _ _ _ rfl hB hsz
    refine .inr ⟨x, B, rfl, hB, c5, c3, hesz, ?_⟩
    refine Heap.step (es1 := .own z (Enc.w α) (.ref x B.ep 0 a.l.length) a.t :: ents) (es2 := [.own z (Enc.w α) (.ref x (B.ep + 1) 0 (a.l.length + b.l.length)) (Sl.t ⟨false, a.l ++ b.l⟩)]) (es := es) hH (by simp) fun F hF hnd hbd => ?_
    obtain ⟨S1, F1, rfl, ⟨_, _, k5, h5⟩, h4⟩ := hF
    have : S1 = x :: S' := by
      have e1 := hold_mono k _ _ _ h2 (max k k5) (Nat.le_max_left _ _)
      have e2 := hold_mono k5 _ _ _ h5 (max k k5) (Nat.le_max_right _ _)
      rw [ea, e1] at e2; injection e2 with e2; injection e2 with _ e2; exact e2.symm
    subst this
    obtain ⟨n1, n2, n3⟩ := List.nodup_append.1 hnd
    have hxS : x ∉ S' := (List.nodup_cons.1 n1).1
    have hxF : x ∉ F1 := fun h => n3 x (by simp) x h rfl
    have hs : ∀ y ∈ F1, (σ.set x { B with cells := B.cells ++ news, ep := B.ep + 1, ver := B.ver + 1 }).blk y = σ.blk y := fun y hy => by
      have hne : y ≠ x := fun e => by subst e; exact hxF hy
      rw [set_blk, if_neg hne]
    obtain ⟨S2, k2, q1, q2, q3⟩ := hh F1 _ h4 n2 hs
    have h6 := frzL_congr (g := hold z (σ.set x { B with cells := B.cells ++ news, ep := B.ep + 1, ver := B.ver + 1 }) k') (fun t v S'' _ hq hq2 => hold_same k' t v S'' (fun y hy => by
      have hne : y ≠ x := fun e => by subst e; exact hxS (hq2 _ hy)
      rw [set_blk, if_neg hne]) hq) h3
    have h7 := frzL_append (frzLh_mono (Nat.le_max_left k' k2) h6) (frzLh_mono (Nat.le_max_right k' k2) q3)
    refine ⟨x :: (S' ++ S2), ⟨x :: (S' ++ S2), [], by simp, ⟨rfl, (fun b e o n B' h hB' _ => by injection h with h; subst h; rw [set_blk_self] at hB'; injection hB' with hB'; subst hB'; exact hesz), max k' k2 + 1, ?_⟩, rfl⟩, ?_, ?_, fun y hy hm => by
      have hne : y ≠ x := fun e => hm (by simp [e])
      rw [set_blk, if_neg hne]⟩
    · simp only [hold, set_blk_self, Option.bind_some, h7, Option.map_some, Sl.t, cellsL_append, List.length_append]
      rw [if_pos ⟨c1, trivial, by omega, trivial, by rw [c5, hn, hesz, Nat.add_mul], c6, by rw [List.all_append, c7, h1]; rfl, by have := List.length_pos_iff.2 hb; omega⟩]
    · refine List.nodup_cons.2 ⟨fun hm => ?_, List.nodup_append.2 ⟨(List.nodup_cons.1 n1).2, q2, fun a ha b hb => n3 a (by simp [ha]) b (q1 b hb)⟩⟩
      rcases List.mem_append.1 hm with hm | hm
      · exact hxS hm
      · exact hxF (q1 _ hm)
    · intro y hy
      refine .inl ?_
      rcases List.mem_cons.1 hy with rfl | hy
      · simp
      · rcases List.mem_append.1 hy with hy | hy
        · simp [hy]
        · simp [q1 _ hy]
theorem app_run {α : Type} [Enc α] {z : Bool} {t1 y : T} {a b c : Sl α} {t t2 e by_ : Nat} {zc news : List T} {kx : Option Nat} (hkx : σ.okK kx = true) (hbk : ∀ i, kx = some i → σ0.next ≤ i) (hH : Heap σ0 σ (.own z (Enc.w α) t1 a.t :: ents ++ es)) (hc : appS by_ a b = some c)
    (he : elemOfSl P t = some e) (hz : szOf P e = some (Enc.w α)) (hby : bytesOf P e = some by_) (hzz : zeroOf P e = some zc) (hcl : (!isIntT P t2 && Nat.beq zc.length (Enc.w α) && !Nat.beq (Enc.w α) 0 && !Nat.beq by_ 0 && Nat.ble by_ 1048576) = true)
    (hy : newsA σ (Enc.w α) y = some (b.l.length, news)) (hsrc : srcOk P t2 y = true) (h1 : news.all T.one = true) (hn : news.length = b.l.length * Enc.w α)
    (hh : ∀ S σ', HeapR σ ents S → S.Nodup → (∀ x ∈ S, σ'.blk x = σ.blk x) → ∃ S2 k, (∀ x ∈ S2, x ∈ S) ∧ S2.Nodup ∧ frzL (hold z σ' k) news = some (cellsL b.l, S2))
    : ∃ t' σ', appendA P kx σ t t2 t1 y = some (t', σ') ∧ IsOne t' ∧ Heap σ0 σ' (.own z (Enc.w α) t' c.t :: es) ∧ σ.next ≤ σ'.next ∧ ∀ x, x < σ.next → kx ≠ some x → σ'.blk x = σ.blk x ∨ ((∃ e o n, t1 = .ref x e o n) ∧ (σ.blk x).isSome = true) := by
  simp only [Bool.and_eq_true, Bool.not_eq_true'] at hcl
  obtain ⟨⟨⟨⟨c1, c2⟩, c3⟩, c4⟩, c5⟩ := hcl
  have c2 := Nat.eq_of_beq_eq_true c2; have c3 := Nat.ne_of_beq_eq_false c3; have c4 := Nat.ne_of_beq_eq_false c4; have c5 := Nat.le_of_ble_eq_true c5
  have start : appendA P kx σ t t2 t1 y = match t1 with
      | .row true 0 [] => if b.l.length = 0 then some (t1, σ) else if b.l.length * by_ ≤ 2 ^ 40 ∧ σ.okK kx = true then some (.ref (σ.nid kx) 0 0 b.l.length, σ.pushK kx (mkBlk news (Enc.w α))) else none
      | .emp => if b.l.length = 0 then some (t1, σ) else if b.l.length * by_ ≤ 2 ^ 40 ∧ σ.okK kx = true then some (.ref (σ.nid kx) 0 0 b.l.length, σ.pushK kx (mkBlk news (Enc.w α))) else none
      | .row false n cs => if b.l.length = 0 then some (t1, σ) else none
      | .ref x ep off n => (σ.blk x).bind fun B =>
          if b.l.length = 0 then (if B.esz = Enc.w α ∧ B.low ≤ ep then some (t1, σ) else none)
          else if off = 0 ∧ ep = B.ep ∧ B.esz = Enc.w α ∧ B.cells.length = n * Enc.w α ∧ (n + b.l.length) * by_ ≤ 2 ^ 40 then
            some (.ref x (ep + 1) 0 (n + b.l.length), σ.set x { B with cells := B.cells ++ news, ep := ep + 1, ver := B.ver + 1 })
          else if off = 0 ∧ ep = B.ep ∧ B.esz = Enc.w α ∧ n * Enc.w α ≤ B.cells.length ∧ B.st = true ∧ (n + b.l.length) * by_ ≤ 2 ^ 40 then
            some (.ref x (ep + 2) 0 (n + b.l.length), σ.set x { B with cells := B.cells.take (n * Enc.w α) ++ news, ep := ep + 2, low := ep + 1, ver := B.ver + 2 })
          else none
      | _ => none := by
    unfold appendA
    rw [he, Option.bind_some, hz, Option.bind_some, hby, Option.bind_some, hzz, Option.bind_some, c1, if_neg (by simp), if_neg (by omega), hy, Option.bind_some]
    simp only
    rw [if_neg (by simp [h1, hsrc])]
    cases t1 with
    | row z n cs => cases z <;> cases n <;> cases cs <;> rfl
    | _ => rfl
  rw [start]
  rcases appS_some hc with ⟨hb, rfl⟩ | ⟨hb, hlim, rfl⟩
  · have hb0 : b.l.length = 0 := by rw [hb]; rfl
    have hH' : Heap σ0 σ (.own z (Enc.w α) t1 c.t :: es) := Heap.step (es1 := .own z (Enc.w α) t1 c.t :: ents) (es2 := [.own z (Enc.w α) t1 c.t]) (es := es) hH (Nat.le_refl _) fun F hF hnd hbd => by
      obtain ⟨S1, F1, rfl, h3, h4⟩ := hF
      exact ⟨S1, ⟨S1, [], by simp, h3, rfl⟩, (List.nodup_append.1 hnd).1, fun x hx => .inl (by simp [hx]), fun _ _ _ => rfl⟩
    obtain ⟨S, ⟨ht, hwd, k, h2⟩, _, _⟩ := hH.head
    have hone := isTop_one ht
    rcases hold_top ht h2 with ⟨rfl, _⟩ | ⟨rfl, _⟩ | ⟨_, x, B, S', k', rfl, hB, q1, q3, q5, q6, q7, h3, rfl⟩
    · exact ⟨_, σ, by simp [hb0], hone, hH', Nat.le_refl _, fun _ _ _ => .inl rfl⟩
    · exact ⟨_, σ, by simp [hb0], hone, hH', Nat.le_refl _, fun _ _ _ => .inl rfl⟩
    · refine ⟨_, σ, ?_, hone, hH', Nat.le_refl _, fun _ _ _ => .inl rfl⟩
      simp only [hB, Option.bind_some, hb0, if_true]
      rw [if_pos ⟨hwd _ _ _ _ _ rfl hB c3, q3⟩]
  · have hb0 : b.l.length ≠ 0 := fun h => hb (List.length_eq_zero_iff.1 h)
    rcases app_state hkx hbk hH hb h1 hn c3 hh with ⟨h | h, h0, hH'⟩ | ⟨x, B, rfl, hB, q5, q3, hesz, hH'⟩
    · subst h
      refine ⟨_, _, ?_, ⟨rfl, rfl⟩, hH', pushK_nx, fun x hx hne => .inl (by rw [pushK_blk, if_neg]; rintro rfl; cases kx with | none => simp [St.nid] at hx | some i => exact hne rfl)⟩
      simp only
      rw [if_neg hb0, if_pos ⟨by rw [h0] at hlim; simpa using hlim, hkx⟩]
    · subst h
      refine ⟨_, _, ?_, ⟨rfl, rfl⟩, hH', pushK_nx, fun x hx hne => .inl (by rw [pushK_blk, if_neg]; rintro rfl; cases kx with | none => simp [St.nid] at hx | some i => exact hne rfl)⟩
      simp only
      rw [if_neg hb0, if_pos ⟨by rw [h0] at hlim; simpa using hlim, hkx⟩]
    · refine ⟨_, _, ?_, ⟨rfl, rfl⟩, hH', Nat.le_refl _, fun y _ _ => ?_⟩
      rotate_left
      · by_cases e : y = x
        · subst e; exact .inr ⟨⟨_, _, _, rfl⟩, by rw [hB]; rfl⟩
        · exact .inl (by rw [set_blk, if_neg e])
      simp only [hB, Option.bind_some]
      rw [if_neg hb0, if_pos ⟨trivial, trivial, hesz, by rw [q5, hesz], hlim⟩]
theorem held_cells {α : Type} [Enc α] {z : Bool} {y : T} {b : Sl α} {t2 : TypeId} (hH : Heap σ0 σ (.own z (Enc.w α) y b.t :: es)) (hsz : Enc.w α ≠ 0) (hk : kindT P t2 = 4) :
    ∃ news, newsA σ (Enc.w α) y = some (b.l.length, news) ∧ srcOk P t2 y = true ∧ news.all T.one = true ∧ news.length = b.l.length * Enc.w α ∧
      ∀ S σ', HeapR σ [.own z (Enc.w α) y b.t] S → S.Nodup → (∀ x ∈ S, σ'.blk x = σ.blk x) → ∃ S2 k, (∀ x ∈ S2, x ∈ S) ∧ S2.Nodup ∧ frzL (hold z σ' k) news = some (cellsL b.l, S2) := by
  obtain ⟨S, ⟨ht, hwd, k, h2⟩, _, _⟩ := hH.head
  have eb : b.t = .row b.z b.l.length (cellsL b.l) := rfl
  have h2' := h2
  rw [eb] at h2
  have hs0 : y.isStr = false := by cases y <;> simp [isTop] at ht <;> rfl
  have hsrc : srcOk P t2 y = true := by simp [srcOk, hs0, hk]
  rcases hold_top ht h2 with ⟨rfl, hz, hn0, hcs, rfl⟩ | ⟨rfl, hz, hn0, hcs, rfl⟩ | ⟨hz, x, B, S', k', rfl, hB, c1, c3, c5, c6, c7, h3, rfl⟩
  · exact ⟨[], by simp [newsA, cellsOf, hn0], hsrc, rfl, by simp [hn0], fun S σ' _ _ _ => ⟨[], 0, by simp, by simp, by rw [hcs]; rfl⟩⟩
  · exact ⟨[], by simp [newsA, cellsOf, hn0], hsrc, rfl, by simp [hn0], fun S σ' _ _ _ => ⟨[], 0, by simp, by simp, by rw [hcs]; rfl⟩⟩
  · have hesz := hwd _ _ _ _ _ rfl hB hsz
    refine ⟨B.cells, ?_, hsrc, c7, by rw [c5, hesz], fun S σ' hR hnd hx => ?_⟩
    · have e : (B.cells.drop 0).take (b.l.length * B.esz) = B.cells := by rw [List.drop_zero, ← c5, List.take_length]
      simp only [newsA, cellsOf, hB, Option.bind_some, if_pos c3, e]
      rw [if_pos (by rw [c5, hesz])]
    · obtain ⟨S1, F1, rfl, ⟨_, _, k5, h5⟩, h4⟩ := hR
      cases h4
      have e : S1 = x :: S' := by
        have e1 := hold_mono k _ _ _ h2' (max k k5) (Nat.le_max_left _ _)
        have e2 := hold_mono k5 _ _ _ h5 (max k k5) (Nat.le_max_right _ _)
        rw [e1] at e2; injection e2 with e2; injection e2 with _ e2; exact e2.symm
      subst e
      refine ⟨S', k', fun y hy => by simp [hy], ?_, frzL_congr (fun t v S'' _ hq hq2 => hold_same k' t v S'' (fun y hy => hx y (by simp [hq2 y hy])) hq) h3⟩
      simp only [List.append_nil] at hnd
      exact (List.nodup_cons.1 hnd).2
theorem q_appC {m : Mo} (hm : m.chg = true) (hmb : m.base σ0) {α : Type} [Enc α] {z : Bool} {x y : Operand} {t1 ty1 : T} {a b c : Sl α} {t t2 e by_ : Nat} {zc : List T} (hwr : ∀ b e o n, t1 = .ref b e o n → m.wr b) (hw : want ops L g = some true) (hS : Sub L s) (hH : Heap σ0 σ (.own z (Enc.w α) t1 a.t :: .own z (Enc.w α) ty1 b.t :: es))
    (hx : gE (get L) x = some t1) (hy : gE (get L) y = some ty1) (he : elemOfSl P t = some e) (hz : szOf P e = some (Enc.w α)) (hby : bytesOf P e = some by_) (hzz : zeroOf P e = some zc)
    (hcl : (!isIntT P t2 && Nat.beq zc.length (Enc.w α) && !Nat.beq (Enc.w α) 0 && !Nat.beq by_ 0 && Nat.ble by_ 1048576) = true) (hk : kindT P t2 = 4) (hc : appS by_ a b = some c)
    (kk : ∀ t' σ' s', IsOne t' → Heap σ0 σ' (.own z (Enc.w α) t' c.t :: es) → Sub (putL L d t') s' → opsX P O ops (nxM m) l K ⟨s', σ'⟩) : opsX P O ops m (⟨d, .call ⟨.builtin .append, #[x, y], #[t, t2]⟩, ty, ps, af, g⟩ :: l) K ⟨s, σ⟩ := by
  have hsz : Enc.w α ≠ 0 := by simp only [Bool.and_eq_true, Bool.not_eq_true'] at hcl; exact Nat.ne_of_beq_eq_false hcl.1.1.2
  obtain ⟨news, h1, h2, h3, h4, h5⟩ := held_cells (P := P) (t2 := t2) (hH.pull 1) hsz hk
  refine x_newC hm rfl (want_sound hS hw) fun kx hkx hi => ?_
  obtain ⟨t', σ', k1, k2, k3, k4, k5⟩ := app_run hkx (Mo.inb_base hi hmb) (ents := [.own z (Enc.w α) ty1 b.t]) hH hc he hz hby hzz hcl h1 h2 h3 h4 h5
  refine ⟨t', σ', ?_, ⟨k4, fun x hx hne => (k5 x hx hne).imp id fun h => ⟨by obtain ⟨⟨e, o, n, h1⟩, _⟩ := h; exact hwr x e o n h1, h.2⟩⟩, ?_⟩
  · have ev : evals s [x, y] = some [t1, ty1] := by simp only [evals, gE_sound hS hx, gE_sound hS hy, Option.bind_some, Option.map_some]
    show ((evals s [x, y]).bind fun args => match args, [t, t2] with | [x, y], [t, t2] => (appendA P kx σ t t2 x y).map fun (x, σ) => ARes.val x σ | _, _ => none) = _
    rw [ev, Option.bind_some]
    show (appendA P kx σ t t2 _ _).map _ = _
    rw [k1]; rfl
  · rw [put_eq]; exact kk _ _ _ k2 k3 (sub_putL hS d _ σ)
theorem cellsL_replicate {α : Type} [Enc α] (x : α) : ∀ n, cellsL (List.replicate n x) = (List.replicate n (Enc.cells x)).flatten
  | 0 => rfl
  | n + 1 => by simp only [List.replicate_succ, cellsL, List.flatten_cons, cellsL_replicate x n]
def mkS {α : Type} (by_ : Nat) (x : α) (n c : Int) : Option (Sl α) := if 0 ≤ n ∧ n ≤ c ∧ c * by_ ≤ 1099511627776 ∧ c ≤ 1099511627776 ∧ (n = 0 → c = 0) then some ⟨false, List.replicate n.toNat x⟩ else none
theorem q_make {α : Type} [Enc α] {z : Bool} {x y : Operand} {k1 k2 : IntKind} {n c : Int} {t e by_ : Nat} {x0 : α} {r : Sl α} (hz0 : ∀ σ d, frzL (hold z σ d) (Enc.cells x0) = some (Enc.cells x0, [])) (hw : want ops L g = some true) (hS : Sub L s) (hH : Heap σ0 σ es)
    (hx : gE (get L) x = some (.int k1 n)) (hy : gE (get L) y = some (.int k2 c)) (he : elemOfSl P t = some e) (hz : szOf P e = some (Enc.w α)) (hby : bytesOf P e = some by_) (hzz : zeroOf P e = some (Enc.cells x0)) (hsz : Nat.beq (Enc.w α) 0 = false) (hc : mkS by_ x0 n c = some r)
    (kk : ∀ t' σ' s', IsOne t' → Heap σ0 σ' (.own z (Enc.w α) t' r.t :: es) → Sub (putL L d t') s' → opsX P O ops .q l K ⟨s', σ'⟩) : opsX P O ops .q (⟨d, .makeSlice t x y, ty, ps, af, g⟩ :: l) K ⟨s, σ⟩ := by
  have hsz := Nat.ne_of_beq_eq_false hsz
  unfold mkS at hc
  split at hc
  · rename_i hh
    injection hc with hc; subst hc
    have hlen : ((List.replicate n.toNat (Enc.cells x0)).flatten).length = n.toNat * Enc.w α := by simp [Enc.len]
    have hfr : ∀ (σ' : St) (m : Nat), frzL (hold z σ' 0) (cellsL (List.replicate m x0)) = some (cellsL (List.replicate m x0), []) := fun σ' m => by
      induction m with
      | zero => rfl
      | succ m ih => simpa [List.replicate_succ, cellsL] using frzL_append (hz0 σ' 0) ih
    have hrow : Sl.t (⟨false, List.replicate n.toNat x0⟩ : Sl α) = .row false n.toNat (cellsL (List.replicate n.toNat x0)) := by simp [Sl.t]
    by_cases hn0 : n = 0
    · have hc0 := hh.2.2.2.2 hn0
      refine x_new (v := .emp) (σ' := σ.pushK none (mkBlk ((List.replicate n.toNat (Enc.cells x0)).flatten) (Enc.w α))) (want_sound hS hw) ?_ ?_
      · rw [a_makeSlice, gE_sound hS hx, Option.bind_some, gE_sound hS hy, Option.bind_some, mkSlA_int, he, Option.bind_some, hz, Option.bind_some, hby, Option.bind_some, hzz, Option.bind_some, if_pos ⟨hh.1, hh.2.1, hh.2.2.1, hh.2.2.2.1, Enc.len x0, hsz, rfl⟩, if_pos ⟨hn0, hc0⟩]
      · rw [put_eq]
        refine kk _ _ _ ⟨rfl, rfl⟩ ?_ (sub_putL hS d _ σ)
        rw [hrow, hn0]
        exact (hH.junk (k := none) rfl (fun _ e => by cases e) _).addEmp z _
    · refine x_new (v := .ref σ.next 0 0 n.toNat) (σ' := σ.pushK none (mkBlk ((List.replicate n.toNat (Enc.cells x0)).flatten) (Enc.w α))) (want_sound hS hw) ?_ ?_
      · rw [a_makeSlice, gE_sound hS hx, Option.bind_some, gE_sound hS hy, Option.bind_some, mkSlA_int, he, Option.bind_some, hz, Option.bind_some, hby, Option.bind_some, hzz, Option.bind_some, if_pos ⟨hh.1, hh.2.1, hh.2.2.1, hh.2.2.2.1, Enc.len x0, hsz, rfl⟩, if_neg fun w => hn0 w.1]; rfl
      · rw [put_eq]
        refine kk _ _ _ ⟨rfl, rfl⟩ ?_ (sub_putL hS d _ σ)
        rw [hrow, ← cellsL_replicate]
        refine Heap.step (es1 := []) (es2 := [.own z (Enc.w α) (.ref σ.next 0 0 n.toNat) (.row false n.toNat (cellsL (List.replicate n.toNat x0)))]) (es := es) hH (by simp) fun S hS _ _ => ?_
        refine ⟨[σ.next], ⟨[σ.next], [], rfl, ⟨rfl, (fun b e o n B h hB _ => by injection h with h; subst h; rw [push_blk_self] at hB; injection hB with hB; subst hB; rfl), 1, ?_⟩, rfl⟩, by simp, fun b hb => by simp at hb; subst hb; exact .inr ⟨Nat.le_refl _, by simp⟩, fun b hb _ => by rw [push_blk, if_neg (by omega)]⟩
        simp only [hold, push_blk_self, Option.bind_some, mkBlk_cells, hfr, Option.map_some]
        rw [if_pos (by simp only [mkBlk]; exact ⟨fun _ => trivial, trivial, Nat.le_refl _, trivial, by rw [cellsL_replicate]; exact hlen, hsz, cellsL_one _, by have := hh.1; omega⟩)]
  · cases hc
end
section
variable {P : Program} {O : Oracle} {ops : Array Oper} {l : List Oper} {K : Fr → Prop} {s : Nat → T} {σ σ0 : St} {L : List (Nat × T)} {es ents : List Ent}
variable {d : Option Nat} {ty : TypeId} {ps : String} {af : Array Edge} {g : Option (Nat × Bool)}
theorem frzL_split {f : T → Option (T × List Nat)} : ∀ {ts vs : List T} {F : List Nat} (n : Nat), frzL f ts = some (vs, F) → ∃ F1 F2, F = F1 ++ F2 ∧ frzL f (ts.take n) = some (vs.take n, F1) ∧ frzL f (ts.drop n) = some (vs.drop n, F2)
  | ts, vs, F, 0, h => ⟨[], F, rfl, by simp [frzL], by simpa using h⟩
  | [], vs, F, n + 1, h => by simp [frzL] at h; obtain ⟨rfl, rfl⟩ := h; exact ⟨[], [], rfl, by simp [frzL], by simp [frzL]⟩
  | t :: ts, vs, F, n + 1, h => by
    simp only [frzL] at h
    obtain ⟨⟨v0, S0⟩, h1, h2⟩ := Option.bind_eq_some_iff.1 h
    obtain ⟨⟨us, S1⟩, h3, h4⟩ := Option.map_eq_some_iff.1 h2
    injection h4 with h4 h5; subst h4; subst h5
    obtain ⟨F1, F2, rfl, h6, h7⟩ := frzL_split n h3
    exact ⟨S0 ++ F1, F2, by simp, by simp only [List.take_succ_cons, frzL, h1, Option.bind_some, h6, Option.map_some], by simpa using h7⟩
theorem held_ref {α : Type} [Enc α] {z : Bool} {w : Nat} {t1 : T} {a : Sl α} {j : Int} {y : α} (hH : Heap σ0 σ (.own z w t1 a.t :: es)) (hy : elt a j = some y) : ∃ b ep, t1 = .ref b ep 0 a.l.length := by
  obtain ⟨S, ⟨ht, hwd, k, h2⟩, _, _⟩ := hH.head
  have ea : a.t = .row a.z a.l.length (cellsL a.l) := rfl
  rw [ea] at h2
  obtain ⟨q1, q2, q3⟩ := elt_some hy
  rcases hold_top ht h2 with ⟨rfl, hz, hn0, hcs, rfl⟩ | ⟨rfl, hz, hn0, hcs, rfl⟩ | ⟨hz, x, B, S', k', rfl, hB, _⟩
  · omega
  · omega
  · exact ⟨_, _, rfl⟩
theorem hold_esz {α : Type} [Enc α] {f : T → Option (T × List Nat)} {B : Blk} {a : List α} {S : List Nat} (h : B.cells.length = a.length * B.esz) (h3 : frzL f B.cells = some (cellsL a, S)) (hn : 0 < a.length) : B.esz = Enc.w α := by
  have h4 := frzL_length h3
  rw [cellsL_len, h] at h4
  exact (Nat.eq_of_mul_eq_mul_left hn h4).symm
theorem q_hidx {α : Type} [Enc α] {z : Bool} {w : Nat} {m : Mo} {x i : Operand} {t e : TypeId} {t1 : T} {a : Sl α} {kk : IntKind} {j : Int} {y : α} (hm : ∀ b e o n, t1 = .ref b e o n → m.lt b) (hw : want ops L g = some true) (hS : Sub L s) (hH : Heap σ0 σ (.own z w t1 a.t :: es)) (hx : gE (get L) x = some t1) (hi : gE (get L) i = some (.int kk j))
    (he : elemOfSl P t = some e) (hz : szOf P e = some (Enc.w α)) (hy : elt a j = some y)
    (k : ∀ b ep s', t1 = .ref b ep 0 a.l.length → Sub (putL L d (.ptr b ep (j.toNat * Enc.w α) (Enc.w α))) s' → opsX P O ops (nxM m) l K ⟨s', σ⟩) : opsX P O ops m (⟨d, .indexAddr t x i, ty, ps, af, g⟩ :: l) K ⟨s, σ⟩ := by
  obtain ⟨b, ep, hr⟩ := held_ref hH hy
  obtain ⟨q1, q2, q3⟩ := elt_some hy
  obtain ⟨S, ⟨ht, hwd, k', h2⟩, _, _⟩ := hH.head
  have ea : a.t = .row a.z a.l.length (cellsL a.l) := rfl
  rw [ea] at h2
  rcases hold_top ht h2 with ⟨rfl, hz, hn0, hcs, rfl⟩ | ⟨rfl, hz, hn0, hcs, rfl⟩ | ⟨hzz, x', B, S', k'', rfl, hB, c1, c3, c5, c6, c7, h3, rfl⟩
  · cases hr
  · cases hr
  · injection hr with e1 e2 _ _
    subst e1; subst e2
    refine q_val hw hS (fun kk σ' ha' => ?_) (fun s' => k x' B.ep s' rfl)
    rw [a_indexAddr, gE_sound hS hx, Option.bind_some, gE_sound hS hi, Option.bind_some, iA_ref, he, Option.bind_some, hz, Option.bind_some, Mo.al_blk ha' (hm _ _ _ _ rfl), hB, Option.bind_some, if_pos ⟨q1, q2, hold_esz c5 h3 (by omega)⟩, Nat.zero_add]; rfl
theorem leaf_int {z : Bool} {k : IntKind} {n : Int} : ∀ (σ : St) (d : Nat) (t : T) (S : List Nat), hold z σ d t = some (.int k n, S) → t = .int k n := fun σ d t S h => by
  cases t with
  | row zz m cs => have := (hold_row h).1; cases this
  | ref b e o m =>
    cases d with
    | zero => simp [hold] at h
    | succ d =>
      simp only [hold] at h
      obtain ⟨B, _, h⟩ := Option.bind_eq_some_iff.1 h
      split at h
      · obtain ⟨q, _, h⟩ := Option.map_eq_some_iff.1 h; injection h with h _; cases h
      · cases h
  | agg cs => cases d <;> simp [hold] at h
  | tup cs => cases d <;> simp [hold] at h
  | emp => cases d <;> simp [hold] at h
  | _ => cases d <;> simp [hold] at h <;> simp_all
def setS {α : Type} (a : Sl α) (j : Int) (y : α) : Sl α := ⟨a.z, a.l.set j.toNat y⟩
theorem cellsL_set {α : Type} [Enc α] : ∀ (l : List α) (i : Nat) (x y : α), l[i]? = some x → cellsL (l.set i y) = (cellsL l).take (i * Enc.w α) ++ Enc.cells y ++ (cellsL l).drop (i * Enc.w α + Enc.w α)
  | [], i, x, y, h => by simp at h
  | a :: l, 0, x, y, h => by simp [cellsL, Enc.len]
  | a :: l, i + 1, x, y, h => by
    have ih := cellsL_set l i x y (by simpa using h)
    simp only [List.set_cons_succ, cellsL, ih]
    rw [List.take_append, List.drop_append, Enc.len, List.take_of_length_le (l := Enc.cells a) (by rw [Enc.len, Nat.succ_mul]; omega), List.drop_of_length_le (l := Enc.cells a) (by rw [Enc.len, Nat.succ_mul]; omega), show (i + 1) * Enc.w α - Enc.w α = i * Enc.w α by rw [Nat.succ_mul]; omega, show (i + 1) * Enc.w α + Enc.w α - Enc.w α = i * Enc.w α + Enc.w α by rw [Nat.succ_mul]; omega]
    simp
theorem splice_row (A c R vs : List T) (p o n w : Nat) (hA : A.length = p) (hc : c.length = w) (h : o + n ≤ w) :
    A ++ (c.take o ++ vs ++ c.drop (o + n)) ++ (A ++ (c ++ R)).drop (p + w) = (A ++ (c ++ R)).take (p + o) ++ vs ++ ((A ++ (c ++ R)).drop (p + o)).drop n := by
  subst hA; subst hc
  have e1 : (A ++ (c ++ R)).drop (A.length + c.length) = R := by rw [← List.drop_drop, List.drop_left, List.drop_left]
  have e2 : (A ++ (c ++ R)).take (A.length + o) = A ++ c.take o := by
    rw [List.take_append, List.take_of_length_le (by omega), Nat.add_sub_cancel_left, List.take_append_of_le_length (by omega)]
  have e3 : ((A ++ (c ++ R)).drop (A.length + o)).drop n = c.drop (o + n) ++ R := by
    rw [← List.drop_drop, List.drop_left, List.drop_drop, List.drop_append_of_le_length (by omega)]
  rw [e1, e2, e3]; simp
theorem q_hstoreC {m : Mo} (hmc : m.chg = true) {α : Type} [Enc α] {w : Nat} {ad x : Operand} {t : TypeId} {t1 : T} {a : Sl α} {j : Int} {y y' : α} {b ep off n : Nat} {c us vs : List T} {v : T} (hwr : m.wr b) (hw : want ops L g = some true) (hS : Sub L s) (hH : Heap σ0 σ (.own true w t1 a.t :: ents ++ es)) (hr : t1 = .ref b ep 0 a.l.length)
    (ha : gE (get L) ad = some (.ptr b ep (j.toNat * Enc.w α + off) n)) (hx : gE (get L) x = some v) (hcs : v.cells = us) (h1 : us.all T.one = true) (hsz : szOf P t = some us.length) (hn : Nat.ble us.length n = true) (hy : elt a j = some y) (hc : Enc.cells y = c)
    (hh : HL true us vs ents) (hb : Nat.ble (off + us.length) (Enc.w α) = true) (hc' : Enc.cells y' = c.take off ++ vs ++ c.drop (off + us.length))
    (k : ∀ σ' s', Heap σ0 σ' (.own true w t1 (setS a j y').t :: es) → Sub (putL L d (.tup [])) s' → opsX P O ops (nxM m) l K ⟨s', σ'⟩) : opsX P O ops m (⟨d, .store t ad x, ty, ps, af, g⟩ :: l) K ⟨s, σ⟩ := by
  obtain ⟨q1, q2, q3⟩ := elt_some hy
  subst hr
  obtain ⟨S, ⟨ht, hwd, k', h2⟩, _, _⟩ := hH.head
  have ea : a.t = .row a.z a.l.length (cellsL a.l) := rfl
  rw [ea] at h2
  rcases hold_top ht h2 with ⟨hq, _⟩ | ⟨hq, _⟩ | ⟨hzz, x', B, S', k'', hq, hB, c1, c3, c5, c6, c7, h3, rfl⟩
  · cases hq
  · cases hq
  injection hq with e1 e2 _ _
  subst e1; subst e2
  have hesz := hold_esz c5 h3 (by omega)
  have hb := Nat.le_of_ble_eq_true hb
  have hn := Nat.le_of_ble_eq_true hn
  have hpos : j.toNat * Enc.w α + off + us.length ≤ B.cells.length := by
    rw [c5, hesz]
    have : (j.toNat + 1) * Enc.w α ≤ a.l.length * Enc.w α := Nat.mul_le_mul_right _ (by omega)
    rw [Nat.succ_mul] at this; omega
  have hcl : c.length = Enc.w α := by rw [← hc, Enc.len]
  obtain ⟨pos, hpos0⟩ : ∃ pos, pos = j.toNat * Enc.w α + off := ⟨_, rfl⟩
  have hvs : vs.length = us.length := by
    have h4 := Enc.len y'
    rw [hc'] at h4
    simp only [List.length_append, List.length_take, List.length_drop, hcl] at h4
    omega
  refine x_skipC (σ' := σ.set b { B with cells := splice B.cells pos us, low := B.ep, ver := B.ver + 1 }) hmc rfl (want_sound hS hw) (fun kk => ?_) (fun kk => ⟨Nat.le_refl _, fun y _ _ => by
    rw [set_blk]; split
    · rename_i e; subst e; exact .inr ⟨hwr, by rw [hB]; rfl⟩
    · exact .inl rfl⟩) ?_
  · rw [a_store, gE_sound hS ha, Option.bind_some, gE_sound hS hx, Option.bind_some, storeA_ptr, hB, Option.bind_some, hsz, Option.bind_some, hcs, if_pos ⟨c1 rfl, rfl, rfl, hn, hpos, h1⟩, hpos0]; rfl
  · rw [put_eq]
    refine k _ _ ?_ (sub_putL hS d _ σ)
    refine Heap.step (es1 := .own true w (.ref b B.ep 0 a.l.length) a.t :: ents) (es2 := [.own true w (.ref b B.ep 0 a.l.length) (setS a j y').t]) (es := es) hH (by simp) fun F hF hnd hbd => ?_
    obtain ⟨S1, F1, rfl, ⟨_, _, k5, h5⟩, h4⟩ := hF
    have : S1 = b :: S' := by
      have e1 := hold_mono k' _ _ _ h2 (max k' k5) (Nat.le_max_left _ _)
      have e2 := hold_mono k5 _ _ _ h5 (max k' k5) (Nat.le_max_right _ _)
      rw [ea, e1] at e2; injection e2 with e2; injection e2 with _ e2; exact e2.symm
    subst this
    obtain ⟨n1, n2, n3⟩ := List.nodup_append.1 hnd
    obtain ⟨n4, n5⟩ := List.nodup_cons.1 n1
    have hxF : b ∉ F1 := fun h => n3 b (by simp) b h rfl
    have hs : ∀ y, y ≠ b → (σ.set b { B with cells := splice B.cells pos us, low := B.ep, ver := B.ver + 1 }).blk y = σ.blk y := fun y hne => by rw [set_blk, if_neg hne]
    obtain ⟨k2, h6⟩ := hh.sound (h4.same fun x hx => hs x fun e => by subst e; exact hxF hx)
    obtain ⟨G1, G2, rfl, h7, h8⟩ := frzL_split pos h3
    obtain ⟨G3, G4, rfl, h9, h10⟩ := frzL_split us.length h8
    have cg : ∀ {ts ws : List T} {G : List Nat}, (∀ x ∈ G, x ∈ G1 ++ (G3 ++ G4)) → frzL (hold true σ k'') ts = some (ws, G) → frzL (hold true (σ.set b { B with cells := splice B.cells pos us, low := B.ep, ver := B.ver + 1 }) k'') ts = some (ws, G) := fun hG h =>
      frzL_congr (fun t v S'' _ hq hq2 => hold_same k'' t v S'' (fun x hx => hs x fun e => by subst e; exact n4 (hG _ (hq2 _ hx))) hq) h
    have r1 := cg (fun x hx => by simp [hx]) h7
    have r2 := cg (fun x hx => by simp [hx]) h10
    have r3 := frzL_append (frzL_append (frzLh_mono (Nat.le_max_left k'' k2) r1) (frzLh_mono (Nat.le_max_right k'' k2) h6)) (frzLh_mono (Nat.le_max_left k'' k2) r2)
    refine ⟨b :: (G1 ++ F1 ++ G4), ⟨b :: (G1 ++ F1 ++ G4), [], by simp, ⟨rfl, (fun b' e o n B' h hB' _ => by injection h with h; subst h; rw [set_blk_self] at hB'; injection hB' with hB'; subst hB'; show B.esz = w; exact hwd _ _ _ _ B rfl hB ‹w ≠ 0›), max k'' k2 + 1, ?_⟩, rfl⟩, ?_, ?_, fun y hy hm => hs y fun e => hm (by simp [e])⟩
    · have hcells : cellsL (setS a j y').l = (cellsL a.l).take pos ++ vs ++ ((cellsL a.l).drop pos).drop us.length := by
        simp only [setS]
        rw [cellsL_set a.l j.toNat y y' q3, hc', hpos0]
        have hd := cellsL_at a.l j.toNat y q3
        rw [hc] at hd
        have hsplit : cellsL a.l = (cellsL a.l).take (j.toNat * Enc.w α) ++ (c ++ cellsL (a.l.drop (j.toNat + 1))) := by rw [← hd, List.take_append_drop]
        have hl0 : ((cellsL a.l).take (j.toNat * Enc.w α)).length = j.toNat * Enc.w α := by
          rw [List.length_take, cellsL_len]
          have : (j.toNat + 1) * Enc.w α ≤ a.l.length * Enc.w α := Nat.mul_le_mul_right _ (by omega)
          rw [Nat.succ_mul] at this; omega
        generalize (cellsL a.l).take (j.toNat * Enc.w α) = A at hsplit hl0
        generalize cellsL (a.l.drop (j.toNat + 1)) = R at hsplit
        rw [hsplit]
        have := splice_row A c R vs (j.toNat * Enc.w α) off us.length (Enc.w α) hl0 hcl hb
        exact this
      simp only [hold, set_blk_self, Option.bind_some, splice_eq, Sl.t]
      have hll : (setS a j y').l.length = a.l.length := by simp [setS]
      simp only [splice_eq] at r3
      rw [hll, hcells, ← List.drop_drop]
      rw [← List.drop_drop] at r3
      have hall : (List.take pos B.cells ++ us ++ List.drop us.length (List.drop pos B.cells)).all T.one = true := by
        rw [List.all_append, List.all_append, h1, Bool.and_true, Bool.and_eq_true]
        rw [List.all_eq_true] at c7
        exact ⟨List.all_eq_true.2 fun x hx => c7 x (List.mem_of_mem_take hx), List.all_eq_true.2 fun x hx => c7 x (List.mem_of_mem_drop (List.mem_of_mem_drop hx))⟩
      have hz : (setS a j y').z = false := hzz
      rw [r3, if_pos ⟨fun _ => c1 rfl, trivial, Nat.le_refl _, trivial, by simp only [List.length_append, List.length_take, List.length_drop]; rw [← c5]; omega, c6, hall, by omega⟩, hz]
      try rfl
    · refine List.nodup_cons.2 ⟨fun hm => ?_, ?_⟩
      · simp only [List.mem_append] at hm
        rcases hm with (hm | hm) | hm
        · exact n4 (by simp [hm])
        · exact hxF hm
        · exact n4 (by simp [hm])
      · obtain ⟨u1, u2, u3⟩ := List.nodup_append.1 n5
        obtain ⟨u4, u5, u6⟩ := List.nodup_append.1 u2
        refine List.nodup_append.2 ⟨List.nodup_append.2 ⟨u1, n2, fun x hx y hy => n3 x (by simp [hx]) y hy⟩, u5, fun x hx y hy => ?_⟩
        rcases List.mem_append.1 hx with hx | hx
        · exact u3 x hx y (by simp [hy])
        · exact fun e => n3 y (by simp [hy]) x hx e.symm
    · intro x hx
      refine .inl ?_
      simp only [List.mem_cons, List.mem_append] at hx ⊢
      rcases hx with rfl | (hx | hx) | hx
      · simp
      · simp [hx]
      · simp [hx]
      · simp [hx]
theorem q_hstore {α : Type} [Enc α] {w : Nat} {ad x : Operand} {t : TypeId} {t1 : T} {a : Sl α} {j : Int} {y y' : α} {b ep off n : Nat} {c us vs : List T} {v : T} (hw : want ops L g = some true) (hS : Sub L s) (hH : Heap σ0 σ (.own true w t1 a.t :: ents ++ es)) (hr : t1 = .ref b ep 0 a.l.length)
    (ha : gE (get L) ad = some (.ptr b ep (j.toNat * Enc.w α + off) n)) (hx : gE (get L) x = some v) (hcs : v.cells = us) (h1 : us.all T.one = true) (hsz : szOf P t = some us.length) (hn : Nat.ble us.length n = true) (hy : elt a j = some y) (hc : Enc.cells y = c)
    (hh : HL true us vs ents) (hb : Nat.ble (off + us.length) (Enc.w α) = true) (hc' : Enc.cells y' = c.take off ++ vs ++ c.drop (off + us.length))
    (k : ∀ σ' s', Heap σ0 σ' (.own true w t1 (setS a j y').t :: es) → Sub (putL L d (.tup [])) s' → opsX P O ops .q l K ⟨s', σ'⟩) : opsX P O ops .q (⟨d, .store t ad x, ty, ps, af, g⟩ :: l) K ⟨s, σ⟩ :=
  q_hstoreC (m := .q) rfl trivial hw hS hH hr ha hx hcs h1 hsz hn hy hc hh hb hc' k
end
section
variable {P : Program} {md : Nat → Md} {X : Ext} {β : Type} {eb : β → T} {f : Nat} {r : β}
variable {ops : Array Oper} {m : Mo} {l : List Oper} {K : Fr → Prop} {s : Nat → T} {σ σ0 : St} {L : List (Nat × T)} {es ents : List Ent}
variable {d : Option Nat} {ty : TypeId} {ps : String} {af : Array Edge} {g : Option (Nat × Bool)}
theorem HL.frz {z : Bool} {ts vs : List T} (hH : Heap σ0 σ (ents ++ es)) (hh : HL z ts vs ents) : ∃ D S, frzL (frz σ D) ts = some (vs, S) ∧ HeapR σ ents S ∧ S.Nodup ∧ ∀ b ∈ S, σ0.next ≤ b ∧ b < σ.next := by
  obtain ⟨F, h1, h2, h3⟩ := hH.ex
  obtain ⟨F1, F2, rfl, h4, h5⟩ := h1.split
  obtain ⟨k, hk⟩ := hh.sound h4
  exact ⟨k, F1, frzL_congr (fun t v S _ hq _ => hold_frz k t v S hq) hk, h4, (List.nodup_append.1 h2).1, fun b hb => h3 b (by simp [hb])⟩
theorem q_callH {z : Bool} {fo : Operand} {as : Array Operand} {tys : Array TypeId} {ts vs : List T} (hw : want ops L g = some true) (hS : Sub L s) (hf : gE (get L) fo = some (.fn f [] [])) (ha : gEs (get L) as.toList = some ts)
    (hv : md f = .view) (hH : Heap σ0 σ (ents ++ es)) (hh : HL z ts vs ents) (hr : semV P md X eb f vs = some r) (hl : leafT (eb r) = true)
    (k : ∀ s', Sub (putL L d (eb r)) s' → opsX P (run P md X) ops (nxM m) l K ⟨s', σ⟩) (hvw : m.vw = false) : opsX P (run P md X) ops m (⟨d, .call ⟨.value fo, as, tys⟩, ty, ps, af, g⟩ :: l) K ⟨s, σ⟩ := by
  obtain ⟨D, S, h1, _, _, _⟩ := hh.frz hH
  refine q_callV hw hS hf ha (r := eb r) ?_ (fun e => by rw [hvw] at e; cases e) k
  simp only [List.nil_append, List.append_nil]
  exact run_frz hv h1 hl (semV_spec hr (σ.mark S))
def Ent.weak : Ent → Ent
  | .own _ w t v => .own false w t v
  | e => e
def Ent.isOwn : Ent → Bool
  | .own .. => true
  | _ => false
theorem hold_mark {z : Bool} {σ : St} {S : List Nat} : ∀ (k : Nat) (t v : T) (F : List Nat), hold z σ k t = some (v, F) → hold false (σ.mark S) k t = some (v, F)
  | 0, t, v, F, h => by
    cases z with
    | true => have := hold_weak _ _ _ _ h; cases t with
      | row zz n cs => exact hold_row2 this
      | _ => simp [hold] at this <;> simp [hold, this]
    | false => cases t with
      | row zz n cs => exact hold_row2 h
      | _ => simp [hold] at h <;> simp [hold, h]
  | d + 1, t, v, F, h => by
    have h : hold false σ (d + 1) t = some (v, F) := by cases z with
      | true => exact hold_weak _ _ _ _ h
      | false => exact h
    cases t with
    | ref b e off n =>
      simp only [hold] at h
      obtain ⟨B, hb, h1⟩ := Option.bind_eq_some_iff.1 h
      split at h1
      · rename_i hc
        obtain ⟨⟨cs, S1⟩, h2, h3⟩ := Option.map_eq_some_iff.1 h1
        injection h3 with h3 h4; subst h3; subst h4
        have h5 := frzL_congr (g := hold false (σ.mark S) d) (fun t v S' _ hh _ => hold_mark d t v S' hh) h2
        simp only [hold, St.mark, hb, Option.map_some, Option.bind_some]
        have hm : ∀ B', B' = (if b ∈ S then { B with st := false } else B) → B'.cells = B.cells ∧ B'.ep = B.ep ∧ B'.low = B.low ∧ B'.esz = B.esz := fun B' h => by subst h; split <;> exact ⟨rfl, rfl, rfl, rfl⟩
        obtain ⟨m1, m2, m3, m4⟩ := hm _ rfl
        rw [m1, m2, m3, m4]
        rw [if_pos ⟨(fun h => by cases h), hc.2⟩]
        have h5' : frzL (hold false ⟨σ.next, fun i => Option.map (fun B => if i ∈ S then { B with st := false } else B) (σ.blk i)⟩ d) B.cells = some (cs, S1) := h5
        rw [h5']; rfl
      · cases h1
    | agg cs =>
      simp only [hold] at h
      obtain ⟨⟨cs', S1⟩, h2, h3⟩ := Option.map_eq_some_iff.1 h
      injection h3 with h3 h4; subst h3; subst h4
      simp only [hold, frzL_congr (g := hold false (σ.mark S) d) (fun t v S' _ hh _ => hold_mark d t v S' hh) h2, Option.map_some]
    | tup cs =>
      simp only [hold] at h
      obtain ⟨⟨cs', S1⟩, h2, h3⟩ := Option.map_eq_some_iff.1 h
      injection h3 with h3 h4; subst h3; subst h4
      simp only [hold, frzL_congr (g := hold false (σ.mark S) d) (fun t v S' _ hh _ => hold_mark d t v S' hh) h2, Option.map_some]
    | row zz n cs => exact hold_row2 h
    | _ => simp [hold] at h <;> simp [hold, h]
theorem HeapR.mark {S : List Nat} : ∀ {es : List Ent} {F : List Nat}, es.all Ent.isOwn = true → HeapR σ es F → HeapR (σ.mark S) (es.map Ent.weak) F
  | [], F, _, h => h
  | e :: es, F, ho, h => by
    simp only [List.all_cons, Bool.and_eq_true] at ho
    obtain ⟨S1, F', rfl, h1, h2⟩ := h
    refine ⟨S1, F', rfl, ?_, h2.mark ho.2⟩
    cases e with
    | own z w t v =>
      obtain ⟨k1, k2, k, k3⟩ := h1
      refine ⟨k1, fun b e o n B ht hB hw0 => ?_, k, hold_mark k t v S1 k3⟩
      obtain ⟨B', q1, q2⟩ := mark_blk hB
      have := k2 b e o n B' ht q1 hw0
      rw [q2]; split <;> exact this
    | _ => simp [Ent.isOwn] at ho
def endW (P : Program) (rs : List ResultVar) (σ0 : St) (r : T) : AExit → Fr → Prop
  | .exit _, _ => False
  | .normal, fr => ∃ l D S, resL P fr rs = some l ∧ Go.Am.frz fr.σ D (tupOf l) = some (r, S) ∧ pureT r = true ∧ Grow σ0 fr.σ ∧ ∀ b ∈ S, σ0.next ≤ b
  | .ret, fr => ∃ l D S, resL P fr rs = some l ∧ Go.Am.frz fr.σ D (tupOf l) = some (r, S) ∧ pureT r = true ∧ Grow σ0 fr.σ ∧ ∀ b ∈ S, σ0.next ≤ b
theorem view_ofW {c : Code} {n : Nat} {rs : List ResultVar} {args : List T} {σ : St} {r : T} {D : Nat} (hv : md f = .view) (hX : X f = none) (hok : Ok P f c n rs) (hlen : args.length ≤ n) (hargs : frzL (Go.Am.frz σ D) args = some (args, []))
    (h : codeQ P (run P md X) c (endW P rs σ r) ⟨enterS args, σ⟩) : run P md X f args σ = some (r, σ) := by
  obtain ⟨fn, h1, h2, h3, h4, h5, h6⟩ := hok
  obtain ⟨x, fr, k1, k2⟩ := codeQ_sound h
  have hx : (x = .normal ∨ x = .ret) ∧ ∃ l D S, resL P fr rs = some l ∧ Go.Am.frz fr.σ D (tupOf l) = some (r, S) ∧ pureT r = true ∧ Grow σ fr.σ ∧ ∀ b ∈ S, σ.next ≤ b := by
    cases x with
    | normal => exact ⟨.inl rfl, k2⟩
    | ret => exact ⟨.inr rfl, k2⟩
    | exit i => exact k2.elim
  obtain ⟨hx, l, D2, S2, m1, m2, m3, m4, m5⟩ := hx
  have := run_view (P := P) (vm := md) (X := X) (σ := σ) (S2 := S2) (r' := r) hv hX h1 h2 h3 h4 (by rw [h5]; exact hlen) hargs (by rw [mark_nil]; exact k1) hx (by rw [resA, h6, m1]; rfl) m2 m3 (fun i hi => by rw [mark_nil]; exact m4.old i hi)
  rw [this, filter_new m5, mark_nil, mark_nil]
  simp
theorem semW_of {c : Code} {n : Nat} {rs : List ResultVar} {args : List T} (hi : ∀ a b, eb a = eb b → a = b) (hv : md f = .view) (hX : X f = none) (hok : Ok P f c n rs) (hlen : Nat.ble args.length n = true) (hf : args.all flat3 = true)
    (h : ∀ σ s, Sub (nums 0 args) s → Heap σ σ [] → codeQ P (run P md X) c (endW P rs σ (eb r)) ⟨s, σ⟩) : semV P md X eb f args = some r :=
  semV_intro hi fun σ => view_ofW hv hX hok (Nat.le_of_ble_eq_true hlen) (frzL_flat hf) (h σ _ (sub_enter args) (Heap.nil σ))
theorem end_W {rs : List ResultVar} {l : List T} {r : T} (hH : Heap σ0 σ es) (hl : resL P ⟨s, σ⟩ rs = some l) (hr : tupOf l = r) (hf : flat3 r = true) (hp : pureT r = true) : endW P rs σ0 r .ret ⟨s, σ⟩ :=
  ⟨l, 2, [], hl, by rw [hr]; exact frz_flat3 (d := 0) hf, hp, hH.grow, by simp⟩
structure Shape (β : Type) where
  n : Nat
  tree : List T → β → T
  en : List T → β → List Ent
  eb : β → T
  ok : ∀ hs r, hs.length = n → HL true [tree hs r] [eb r] (en hs r)
  inj : ∀ a b, eb a = eb b → a = b
def OwnR (P : Program) (md : Nat → Md) (X : Ext) (Sh : Shape β) (f : Nat) (args : List T) (r : β) : Prop :=
  ∀ σ, ∃ hs σ', hs.length = Sh.n ∧ run P md X f args σ = some (Sh.tree hs r, σ') ∧ Heap σ σ' (Sh.en hs r)
noncomputable def semO (P : Program) (md : Nat → Md) (X : Ext) (Sh : Shape β) (f : Nat) (args : List T) : Option β :=
  if h : ∃ r, OwnR P md X Sh f args r then some (Classical.choose h) else none
theorem semO_spec {Sh : Shape β} {args : List T} (h : semO P md X Sh f args = some r) : OwnR P md X Sh f args r := by
  unfold semO at h
  split at h
  · rename_i hx; injection h with h; subst h; exact Classical.choose_spec hx
  · cases h
theorem OwnR.uniq {Sh : Shape β} {args : List T} {r r' : β} (h : OwnR P md X Sh f args r) (h' : OwnR P md X Sh f args r') : r = r' := by
  obtain ⟨hs, σ', h1, h2, h3⟩ := h St.empty'
  obtain ⟨hs', σ2, h4, h5, h6⟩ := h' St.empty'
  rw [h2] at h5; injection h5 with h5; injection h5 with h5 h7
  subst h7
  obtain ⟨D, S, k1, _⟩ := (Sh.ok hs r h1).frz (es := []) (by simpa using h3)
  obtain ⟨D', S', k2, _⟩ := (Sh.ok hs' r' h4).frz (es := []) (by simpa using h6)
  rw [← h5] at k2
  have := frzL_uniq k1 k2
  injection this with e _
  injection e with e _
  exact Sh.inj _ _ e
theorem semO_intro {Sh : Shape β} {args : List T} (h : OwnR P md X Sh f args r) : semO P md X Sh f args = some r := by
  have hx : ∃ r, OwnR P md X Sh f args r := ⟨r, h⟩
  unfold semO
  rw [dif_pos hx, OwnR.uniq (Classical.choose_spec hx) h]
def endOw (P : Program) (rs : List ResultVar) (σ0 : St) (Sh : Shape β) (r : β) : AExit → Fr → Prop
  | .exit _, _ => False
  | .normal, fr => ∃ l hs es, resL P fr rs = some l ∧ tupOf l = Sh.tree hs r ∧ hs.length = Sh.n ∧ Heap σ0 fr.σ (Sh.en hs r ++ es)
  | .ret, fr => ∃ l hs es, resL P fr rs = some l ∧ tupOf l = Sh.tree hs r ∧ hs.length = Sh.n ∧ Heap σ0 fr.σ (Sh.en hs r ++ es)
theorem end_Ow {Sh : Shape β} {rs : List ResultVar} {l : List T} {L1 : List Ent} (hs : List T) (es : List Ent) (hl : resL P ⟨s, σ⟩ rs = some l) (ht : tupOf l = Sh.tree hs r) (hn : hs.length = Sh.n) (hH : Heap σ0 σ L1) (he : L1 = Sh.en hs r ++ es) : endOw P rs σ0 Sh r .ret ⟨s, σ⟩ :=
  ⟨l, hs, es, hl, ht, hn, he ▸ hH⟩
theorem semO_of {Sh : Shape β} {c : Code} {n : Nat} {rs : List ResultVar} {args : List T} (hv : md f = .own) (hX : X f = none) (hok : Ok P f c n rs) (hlen : Nat.ble args.length n = true) (hf : args.all flat3 = true)
    (h : ∀ σ s, Sub (nums 0 args) s → Heap σ σ [] → codeQ P (run P md X) c (endOw P rs σ Sh r) ⟨s, σ⟩) : semO P md X Sh f args = some r := by
  refine semO_intro fun σ => ?_
  obtain ⟨fn, h1, h2, h3, h4, h5, h6⟩ := hok
  obtain ⟨x, fr, k1, k2⟩ := codeQ_sound (h σ _ (sub_enter args) (Heap.nil σ))
  have hx : (x = .normal ∨ x = .ret) ∧ ∃ l hs es, resL P fr rs = some l ∧ tupOf l = Sh.tree hs r ∧ hs.length = Sh.n ∧ Heap σ fr.σ (Sh.en hs r ++ es) := by
    cases x with
    | normal => exact ⟨.inl rfl, k2⟩
    | ret => exact ⟨.inr rfl, k2⟩
    | exit i => exact k2.elim
  obtain ⟨hx, l, hs, es, m1, m2, m3, m4⟩ := hx
  obtain ⟨F, q1, q2, q3⟩ := m4.ex
  obtain ⟨F1, F2, rfl, q4, q5⟩ := q1.split
  obtain ⟨k, hk⟩ := (Sh.ok hs r m3).sound q4
  have hown : own fr.σ k (tupOf l) = some (Sh.eb r, F1) := by
    rw [m2]
    simp only [frzL] at hk
    obtain ⟨p, h7, h8⟩ := Option.bind_eq_some_iff.1 hk
    simp at h8
    obtain ⟨h8, h9⟩ := h8
    exact hold_own _ _ _ _ (by rw [h7, ← h8, ← h9])
  have hrun := run_own (P := P) (vm := md) (X := X) (σ := σ) hv hX h1 h2 h3 h4 (by rw [h5]; exact Nat.le_of_ble_eq_true hlen) (frzL_flat hf) (by rw [mark_nil]; exact k1) hx (by rw [resA, h6, m1]; rfl) hown (fun b hb => (q3 b (by simp [hb])).1) (fun i hi => by rw [mark_nil]; exact m4.grow.old i hi)
  refine ⟨hs, σ.keep fr.σ F1, m3, by rw [hrun, m2], Grow.keep m4.grow.nx F1, F1, q4.same fun b hb => ?_, (List.nodup_append.1 q2).1, fun b hb => ?_⟩
  · have := (q3 b (by simp [hb])).1
    simp only [St.keep]; rw [if_neg (by omega), if_pos hb]
  · exact q3 b (by simp [hb])
theorem q_callO (hm : m.chg = true) {Sh : Shape β} {z : Bool} {fo : Operand} {as : Array Operand} {tys : Array TypeId} {ts vs : List T} (hw : want ops L g = some true) (hS : Sub L s) (hf : gE (get L) fo = some (.fn f [] [])) (ha : gEs (get L) as.toList = some ts)
    (hv : md f = .own) (hH : Heap σ0 σ (ents ++ es)) (hh : HL z ts vs ents) (hr : semO P md X Sh f vs = some r)
    (k : ∀ hs σ' s', hs.length = Sh.n → Heap σ0 σ' (Sh.en hs r ++ (ents ++ es)) → Sub (putL L d (Sh.tree hs r)) s' → opsX P (run P md X) ops (nxM m) l K ⟨s', σ'⟩) : opsX P (run P md X) ops m (⟨d, .call ⟨.value fo, as, tys⟩, ty, ps, af, g⟩ :: l) K ⟨s, σ⟩ := by
  obtain ⟨D, S, h1, h2, h3, h4⟩ := hh.frz hH
  obtain ⟨hs, σ1, m1, m2, m3⟩ := semO_spec hr (σ.mark S)
  have hrun := run_frz_own hv h1 m2
  have hH' : Heap σ0 ⟨σ1.next, fun i => if i < σ.next then σ.blk i else σ1.blk i⟩ (Sh.en hs r ++ (ents ++ es)) := by
    refine Heap.step (es1 := []) (es2 := Sh.en hs r) (es := ents ++ es) hH m3.grow.nx fun S' hS' _ _ => ?_
    obtain ⟨F, q1, q2, q3⟩ := m3.ex
    refine ⟨F, q1.same fun b hb => ?_, q2, fun b hb => .inr (q3 b hb), fun b hb _ => ?_⟩
    · have := (q3 b hb).1
      simp only [mark_next] at this
      simp only; rw [if_neg (by omega)]
    · simp only; rw [if_pos hb]
  refine x_callC (f := f) (args := [] ++ ts ++ []) (r := Sh.tree hs r) (σ' := ⟨σ1.next, fun i => if i < σ.next then σ.blk i else σ1.blk i⟩) hm rfl (want_sound hS hw) (fun kk σ' => by rw [a_call, gEs_sound hS ha, Option.bind_some, gE_sound hS hf]; rfl) (by simpa using hrun) m3.grow.nx (fun x hx => by simp only; rw [if_pos hx]) ?_
  rw [put_eq]
  exact k _ _ _ m1 hH' (sub_putL hS d _ σ)
end
end Go.Am
end
section
set_option linter.unusedVariables false
set_option linter.unusedSimpArgs false
namespace Go.Am
open Classical
def Lent (σ : St) (b : Nat) (cells : List T) : Prop := b < σ.next ∧ ∃ B, σ.blk b = some B ∧ B.cells = cells ∧ B.ep = 0 ∧ B.low = 0
def LentL (σ : St) : List Nat → List (List T) → Prop
  | [], [] => True
  | b :: bs, c :: cs => Lent σ b c ∧ LentL σ bs cs
  | _, _ => False
theorem Lent.grow {σ σ' : St} {b : Nat} {cells : List T} (h : Lent σ b cells) (g : Grow σ σ') : Lent σ' b cells := by
  obtain ⟨h1, B, h2, h3⟩ := h
  exact ⟨Nat.lt_of_lt_of_le h1 g.nx, B, by rw [g.old b h1, h2], h3⟩
theorem lent_ex : ∀ (cs : List (List T)), ∃ σ bs, LentL σ bs cs := by
  intro cs
  have key : ∀ (cs : List (List T)) (k : Nat) (σ : St), (∀ i c, cs[i]? = some c → Lent σ (k + i) c) → LentL σ (List.range' k cs.length) cs := by
    intro cs
    induction cs with
    | nil => intro k σ _; trivial
    | cons c cs ih =>
      intro k σ h
      exact ⟨h 0 c (by simp), ih (k + 1) σ fun i c hi => by have := h (i + 1) c (by simpa using hi); rwa [show k + (i + 1) = k + 1 + i by omega] at this⟩
  refine ⟨⟨cs.length, fun i => (cs[i]?).map fun c => mkBlk c 1⟩, _, key cs 0 _ fun i c hi => ?_⟩
  exact ⟨by have := (List.getElem?_eq_some_iff.1 hi).1; simpa using this, mkBlk c 1, by simp [hi], rfl, rfl, rfl⟩
section
variable {P : Program} {md : Nat → Md} {X : Ext} {β : Type} {eb : β → T} {f : Nat} {r : β}
variable {O : Oracle} {ops : Array Oper} {m : Mo} {l : List Oper} {K : Fr → Prop} {s : Nat → T} {σ σ0 : St} {L : List (Nat × T)} {es ents : List Ent}
variable {d : Option Nat} {ty : TypeId} {ps : String} {af : Array Edge} {g : Option (Nat × Bool)}
def OwnLR (P : Program) (md : Nat → Md) (X : Ext) (Sh : Shape β) (f : Nat) (mk : List Nat → List T) (cs : List (List T)) (r : β) : Prop :=
  ∀ σ bs, LentL σ bs cs → ∃ hs σ', hs.length = Sh.n ∧ run P md X f (mk bs) σ = some (Sh.tree hs r, σ') ∧ Heap σ σ' (Sh.en hs r) ∧ ∀ b, b < σ.next → σ'.blk b = σ.blk b
theorem OwnLR.uniq {Sh : Shape β} {mk : List Nat → List T} {cs : List (List T)} {r r' : β} (h : OwnLR P md X Sh f mk cs r) (h' : OwnLR P md X Sh f mk cs r') : r = r' := by
  obtain ⟨σ, bs, hl⟩ := lent_ex cs
  obtain ⟨hs, σ', h1, h2, h3, _⟩ := h σ bs hl
  obtain ⟨hs', σ2, h4, h5, h6, _⟩ := h' σ bs hl
  rw [h2] at h5; injection h5 with h5; injection h5 with h5 h7
  subst h7
  obtain ⟨D, S, k1, _⟩ := (Sh.ok hs r h1).frz (es := []) (by simpa using h3)
  obtain ⟨D', S', k2, _⟩ := (Sh.ok hs' r' h4).frz (es := []) (by simpa using h6)
  rw [← h5] at k2
  have := frzL_uniq k1 k2
  injection this with e _
  injection e with e _
  exact Sh.inj _ _ e
end
section
variable {P : Program} {O : Oracle} {ops : Array Oper} {m : Mo} {l : List Oper} {K : Fr → Prop} {s : Nat → T} {σ : St} {L : List (Nat × T)}
variable {d : Option Nat} {ty : TypeId} {ps : String} {af : Array Edge} {g : Option (Nat × Bool)}
end
def isFlt (o : Oper) : Bool := (match o.op with
  | .alloc _ => true
  | .box _ _ => true
  | .buildSlice _ _ _ => true
  | .makeSlice _ _ _ => true
  | _ => false) && o.guard.isNone
def fltAt (ops : Array Oper) (i : Nat) : Bool := match ops[i]? with
  | some o => isFlt o
  | none => false
def wk1 (md : Nat → Md) (ops : Array Oper) (i : Nat) : Bool := match ops[i]? with
  | some o => match o.op with
    | .store .. => true
    | .call d => match d.callee with
      | .builtin .append => true
      | .value (.func f) => decide (md f = .raw)
      | .value (.tmp _) => true
      | _ => false
    | _ => false
  | none => false
def vwB (vs : List Nat) (md : Nat → Md) (ops : Array Oper) (i : Nat) : Bool := vs.elem i && !fltAt ops i && !wk1 md ops i
def chgsOf (vs : List Nat) (md : Nat → Md) (ops : Array Oper) : List Nat := (List.range ops.size).filter fun i => match ops[i]? with
  | some o => isChg o.op && !vwB vs md ops i
  | none => false
def cmpB (vs : List Nat) (md : Nat → Md) (ops : Array Oper) (i : Nat) : Bool := (chgsOf vs md ops).all fun k => bif Nat.blt k i then bitOf ((ancM ops).getD i 0) k else (Nat.beq k i || fltAt ops k || bitOf ((ancM ops).getD k 0) i)
def wkB (md : Nat → Md) (ops : Array Oper) (c i : Nat) : Bool := Nat.beq c i && wk1 md ops i
def cmp1 (ops : Array Oper) (k i : Nat) : Bool := bif Nat.blt k i then bitOf ((ancM ops).getD i 0) k else (Nat.beq k i || fltAt ops k || bitOf ((ancM ops).getD k 0) i)
def ckB (md : Nat → Md) (ops : Array Oper) (c i : Nat) : Bool := !wk1 md ops c || cmp1 ops c i
def cmpOf (vs : List Nat) (md : Nat → Md) (ops : Array Oper) : Cmp := ⟨vwB vs md ops, cmpB vs md ops, ckB md ops, wkB md ops⟩
def chainB (vs : List Nat) (md : Nat → Md) (ops : Array Oper) : Bool := (chgsOf vs md ops).all fun i => (chgsOf vs md ops).all fun j => !Nat.blt i j || fltAt ops j || bitOf ((ancM ops).getD j 0) i
def lastC (ch : List Nat) (c : Nat → Bool) : Nat := ch.foldr (fun k a => if c k then max (k + 1) a else a) 0
theorem lastC_le {ch : List Nat} {c : Nat → Bool} {n : Nat} : lastC ch c ≤ n ↔ ∀ k ∈ ch, c k = true → k + 1 ≤ n := by
  induction ch with
  | nil => simp [lastC]
  | cons a ch ih =>
    have e : lastC (a :: ch) c = if c a then max (a + 1) (lastC ch c) else lastC ch c := rfl
    rw [e]
    by_cases h : c a = true
    · rw [if_pos h]
      constructor
      · intro hle k hk hc
        rcases List.mem_cons.1 hk with rfl | hk
        · omega
        · exact ih.1 (by omega) k hk hc
      · intro hall
        have := hall a (by simp) h
        have := ih.2 fun k hk hc => hall k (by simp [hk]) hc
        omega
    · rw [if_neg h]
      exact ⟨fun hle k hk hc => by rcases List.mem_cons.1 hk with rfl | hk; exact absurd hc h; exact ih.1 hle k hk hc, fun hall => ih.2 fun k hk hc => hall k (by simp [hk]) hc⟩
theorem lastC_congr {ch : List Nat} {c c' : Nat → Bool} (h : ∀ k ∈ ch, c k = c' k) : lastC ch c = lastC ch c' := by
  apply Nat.le_antisymm
  · exact lastC_le.2 fun k hk hc => lastC_le.1 (Nat.le_refl _) k hk (by rw [← h k hk]; exact hc)
  · exact lastC_le.2 fun k hk hc => lastC_le.1 (Nat.le_refl _) k hk (by rw [h k hk]; exact hc)
theorem lastC_eq {ch : List Nat} {c : Nat → Bool} {i : Nat} (hi : i ∈ ch) (hc : c i = true) (h : ∀ k ∈ ch, c k = true → k ≤ i) : lastC ch c = i + 1 :=
  Nat.le_antisymm (lastC_le.2 fun k hk hck => by have := h k hk hck; omega) (lastC_le.1 (Nat.le_refl _) i hi hc)
theorem lastC_mem {ch : List Nat} {c : Nat → Bool} (h : lastC ch c ≠ 0) : ∃ k ∈ ch, c k = true ∧ lastC ch c = k + 1 := by
  induction ch with
  | nil => simp [lastC] at h
  | cons a ch ih =>
    have e : lastC (a :: ch) c = if c a then max (a + 1) (lastC ch c) else lastC ch c := rfl
    rw [e] at h ⊢
    by_cases hc : c a = true
    · rw [if_pos hc] at h ⊢
      by_cases hm : lastC ch c ≤ a + 1
      · exact ⟨a, by simp, hc, by omega⟩
      · obtain ⟨k, k1, k2, k3⟩ := ih (by omega)
        exact ⟨k, by simp [k1], k2, by omega⟩
    · rw [if_neg hc] at h ⊢
      obtain ⟨k, k1, k2, k3⟩ := ih h
      exact ⟨k, by simp [k1], k2, k3⟩
def St.over (σ : St) (p : Nat → Bool) (Bk : Nat → Blk) : St := ⟨σ.next, fun i => if p i = true then some (Bk i) else σ.blk i⟩
theorem over_none {σ : St} {p : Nat → Bool} {Bk : Nat → Blk} (h : ∀ i, p i = false) : σ.over p Bk = σ := St.ext' rfl fun i => by simp [St.over, h i]
theorem over_over {σ : St} {p q r : Nat → Bool} {Bk : Nat → Blk} (h : ∀ i, r i = (p i || q i)) : (σ.over p Bk).over q Bk = σ.over r Bk := St.ext' rfl fun i => by
  simp only [St.over, h i]
  cases hq : q i <;> cases hp : p i <;> simp
theorem over_set {σ : St} {p : Nat → Bool} {Bk : Nat → Blk} {x : Nat} : (σ.over p Bk).set x (Bk x) = σ.over (fun i => p i || decide (i = x)) Bk := St.ext' rfl fun i => by
  simp only [St.over, St.set]
  by_cases h : i = x
  · subst h; simp
  · simp [h]
section
variable {P : Program} {md : Nat → Md} {X : Ext} {O : Oracle} {ops : Array Oper} {K : Fr → Prop} {s : Nat → T} {b : Nat} {W : Nat → Nat → Prop} {σs : St} {cm : Cmp}
theorem stepV_eq {i : Nat} {o : Oper} (ho : ops[i]? = some o) (s : Nat → T) (σ : St) : stepV P O ops b i s σ = stepO P O ops (b + i) o s σ := by
  unfold stepV stepO; rw [ho]; rfl
theorem step_fm (hX : XOk X) {k : Nat} {o : Oper} {s : Nat → T} {σ σ' : St} {v : T} {x : Nat} {B : Blk} (h : stepO P (run P md X) ops k o s σ = some (v, σ')) (hk : k ≠ x) (hx : σ.blk x = none) (hl : x < σ.next) :
    stepO P (run P md X) ops k o s (σ.set x B) = some (v, σ'.set x B) ∧ σ'.blk x = none ∧ x < σ'.next := by
  unfold stepO at h ⊢
  have hk' : some k ≠ some x := fun e => hk (by injection e)
  split at h
  · rename_i hw
    rw [if_pos hw]
    obtain ⟨r, h1, h2⟩ := Option.bind_eq_some_iff.1 h
    cases r with
    | val v' σ1 =>
      injection h2 with h2; injection h2 with e1 e2; subst e1; subst e2
      obtain ⟨a1, a2⟩ := aOp_val (fr := ⟨s, σ⟩) (B := B) hk' hx hl h1
      have a1 : aOp P (some k) ⟨s, σ.set x B⟩ o = _ := a1
      rw [a1]; exact ⟨rfl, a2⟩
    | skip σ1 =>
      injection h2 with h2; injection h2 with e1 e2; subst e1; subst e2
      obtain ⟨a1, a2⟩ := aOp_skip (fr := ⟨s, σ⟩) (B := B) hk' hx hl h1
      have a1 : aOp P (some k) ⟨s, σ.set x B⟩ o = _ := a1
      rw [a1]; exact ⟨rfl, a2⟩
    | call f args =>
      have a1 := aOp_call (fr := ⟨s, σ⟩) (B := B) hk' hx hl h1
      have a1 : aOp P (some k) ⟨s, σ.set x B⟩ o = _ := a1
      rw [a1]; exact run_fm hX h2 hx hl
  · rename_i hw
    rw [if_neg hw]
    injection h with h; injection h with e1 e2; subst e1; subst e2
    exact ⟨rfl, hx, hl⟩
theorem step_over (hX : XOk X) {k : Nat} {o : Oper} {s : Nat → T} {σ σ' : St} {v : T} {Bk : Nat → Blk} (h : stepO P (run P md X) ops k o s σ = some (v, σ')) : ∀ (l : List Nat), (∀ x ∈ l, k ≠ x ∧ σ.blk x = none ∧ x < σ.next) → l.Nodup →
    stepO P (run P md X) ops k o s (σ.over (fun i => l.contains i) Bk) = some (v, σ'.over (fun i => l.contains i) Bk) ∧ ∀ x, x ∉ l → σ.blk x = none → x < σ.next → k ≠ x → (σ'.over (fun i => l.contains i) Bk).blk x = none ∧ x < σ'.next
  | [], _, _ => by
    rw [over_none (fun i => by simp), over_none (fun i => by simp)]
    exact ⟨h, fun x _ h1 h2 h3 => by obtain ⟨_, a, b⟩ := step_fm (B := mkBlk [] 0) hX h h3 h1 h2; exact ⟨a, b⟩⟩
  | y :: l, hl, hn => by
    obtain ⟨n1, n2⟩ := List.nodup_cons.1 hn
    obtain ⟨y1, y2, y3⟩ := hl y (by simp)
    obtain ⟨k1, k2⟩ := step_over hX (Bk := Bk) h l (fun x hx => hl x (by simp [hx])) n2
    have e : ∀ σ : St, (σ.over (fun i => l.contains i) Bk).set y (Bk y) = σ.over (fun i => (y :: l).contains i) Bk := fun σ => by
      rw [over_set]; congr 1; funext i
      rw [Bool.eq_iff_iff]; simp [or_comm]
    have hfree : (σ.over (fun i => l.contains i) Bk).blk y = none := by simp [St.over, n1, y2]
    obtain ⟨a1, a2, a3⟩ := step_fm (B := Bk y) hX k1 y1 hfree y3
    rw [e, e] at a1
    refine ⟨a1, fun x hx h1 h2 h3 => ?_⟩
    obtain ⟨c1, c2⟩ := k2 x (fun h => hx (by simp [h])) h1 h2 h3
    rw [← e]
    have hxy : x ≠ y := fun e => hx (by simp [e])
    refine ⟨?_, c2⟩
    rw [set_blk, if_neg hxy]; exact c1
theorem flt_step {k : Nat} {o : Oper} {s : Nat → T} {σ σ' : St} {v : T} (hf : isFlt o = true) (h : stepO P O ops k o s σ = some (v, σ')) : ∃ C, σ' = σ.set k C ∧ ∀ σ2 : St, σ2.blk k = none → k < σ2.next → stepO P O ops k o s σ2 = some (v, σ2.set k C) := by
  obtain ⟨d, op, ty, ps, af, g⟩ := o
  simp only [isFlt, Bool.and_eq_true, Option.isNone_iff_eq_none] at hf
  obtain ⟨hf, rfl⟩ := hf
  have hw : wantedA ops (⟨d, op, ty, ps, af, none⟩ : Oper) s = true := rfl
  have hok : ∀ σ2 : St, σ2.blk k = none → k < σ2.next → σ2.okK (some k) = true := fun σ2 h1 h2 => by simp [St.okK, h1, h2]
  unfold stepO at h ⊢
  rw [if_pos hw] at h
  cases op with
  | alloc t =>
    have e : ∀ σ2 : St, aOp P (some k) ⟨s, σ2⟩ ⟨d, .alloc t, ty, ps, af, none⟩ = (zeroOf P t).bind fun z => if σ2.okK (some k) = true then some (ARes.val (T.ptr k 0 0 z.length) (σ2.set k (mkBlk z z.length))) else none := fun _ => rfl
    rw [e] at h
    cases hz : zeroOf P t with
    | none => rw [hz] at h; cases h
    | some z =>
      rw [hz, Option.bind_some] at h
      split at h
      · injection h with h; injection h with h1 h2
        subst h1; subst h2
        refine ⟨mkBlk z z.length, rfl, fun σ2 c1 c2 => ?_⟩
        rw [if_pos hw, e, hz, Option.bind_some, if_pos (hok σ2 c1 c2)]; rfl
      · cases h
  | box t x =>
    have e : ∀ σ2 : St, aOp P (some k) ⟨s, σ2⟩ ⟨d, .box t x, ty, ps, af, none⟩ = (evalO s x).bind fun x => if x.cells.all T.one = true ∧ σ2.okK (some k) = true then some (ARes.val (T.ptr k 0 0 x.cells.length) (σ2.set k (mkBlk x.cells x.cells.length))) else none := fun _ => rfl
    rw [e] at h
    cases hz : evalO s x with
    | none => rw [hz] at h; cases h
    | some z =>
      rw [hz, Option.bind_some] at h
      split at h
      · rename_i hc
        injection h with h; injection h with h1 h2
        subst h1; subst h2
        refine ⟨mkBlk z.cells z.cells.length, rfl, fun σ2 c1 c2 => ?_⟩
        rw [if_pos hw, e, hz, Option.bind_some, if_pos ⟨hc.1, hok σ2 c1 c2⟩]; rfl
      · cases h
  | buildSlice t len parts =>
    have e : ∀ σ2 : St, aOp P (some k) ⟨s, σ2⟩ ⟨d, .buildSlice t len parts, ty, ps, af, none⟩ = (elemOfSl P t).bind fun e => (szOf P e).bind fun sz => (zeroOf P e).bind fun z => (evalPs s parts.toList).bind fun ps =>
      if z.length = sz ∧ len * sz ≤ 2 ^ 24 ∧ sz ≠ 0 ∧ σ2.okK (some k) = true then (fillA (fun i => some (i * sz, sz)) ((List.replicate len z).flatten) ps).map fun cs => ARes.val (if len = 0 then .emp else .ref k 0 0 len) (σ2.set k (mkBlk cs sz)) else none := fun _ => rfl
    rw [e] at h
    obtain ⟨r, h, hr⟩ := Option.bind_eq_some_iff.1 h
    obtain ⟨x1, h1, h⟩ := Option.bind_eq_some_iff.1 h
    obtain ⟨x2, h2, h⟩ := Option.bind_eq_some_iff.1 h
    obtain ⟨x3, h3, h⟩ := Option.bind_eq_some_iff.1 h
    obtain ⟨x4, h4, h⟩ := Option.bind_eq_some_iff.1 h
    split at h
    · rename_i hc
      obtain ⟨cs, h5, h6⟩ := Option.map_eq_some_iff.1 h
      subst h6
      injection hr with hr; injection hr with hr1 hr2
      subst hr1; subst hr2
      refine ⟨mkBlk cs x2, rfl, fun σ2 c1 c2 => ?_⟩
      rw [if_pos hw, e, h1, Option.bind_some, h2, Option.bind_some, h3, Option.bind_some, h4, Option.bind_some, if_pos ⟨hc.1, hc.2.1, hc.2.2.1, hok σ2 c1 c2⟩, h5]; rfl
    · cases h
  | makeSlice t x y =>
    have e : ∀ σ2 : St, aOp P (some k) ⟨s, σ2⟩ ⟨d, .makeSlice t x y, ty, ps, af, none⟩ = (evalO s x).bind fun l => (evalO s y).bind fun c =>
      match l, c with
      | .int _ l, .int _ c => (elemOfSl P t).bind fun e => (szOf P e).bind fun sz => (bytesOf P e).bind fun by_ => (zeroOf P e).bind fun z =>
          if 0 ≤ l ∧ l ≤ c ∧ c * by_ ≤ 2 ^ 40 ∧ c ≤ 2 ^ 40 ∧ z.length = sz ∧ sz ≠ 0 ∧ σ2.okK (some k) = true then
            some (.val (if l = 0 ∧ c = 0 then .emp else .ref k 0 0 l.toNat) (σ2.set k (mkBlk ((List.replicate l.toNat z).flatten) sz))) else none
      | _, _ => none := fun _ => rfl
    rw [e] at h
    obtain ⟨r, h, hr⟩ := Option.bind_eq_some_iff.1 h
    obtain ⟨x1, h1, h⟩ := Option.bind_eq_some_iff.1 h
    obtain ⟨x2, h2, h⟩ := Option.bind_eq_some_iff.1 h
    split at h
    · obtain ⟨x3, h3, h⟩ := Option.bind_eq_some_iff.1 h
      obtain ⟨x4, h4, h⟩ := Option.bind_eq_some_iff.1 h
      obtain ⟨x5, h5, h⟩ := Option.bind_eq_some_iff.1 h
      obtain ⟨x6, h6, h⟩ := Option.bind_eq_some_iff.1 h
      split at h
      · rename_i hc
        injection h with h; subst h
        injection hr with hr; injection hr with hr1 hr2
        subst hr1; subst hr2
        refine ⟨_, rfl, fun σ2 c1 c2 => ?_⟩
        rw [if_pos hw, e, h1, Option.bind_some, h2, Option.bind_some]
        simp only
        rw [h3, Option.bind_some, h4, Option.bind_some, h5, Option.bind_some, h6, Option.bind_some, if_pos ⟨hc.1, hc.2.1, hc.2.2.1, hc.2.2.2.1, hc.2.2.2.2.1, hc.2.2.2.2.2.1, hok σ2 c1 c2⟩]; rfl
      · cases h
    · cases h
  | _ => cases hf
theorem opsC_vals (vs : List Nat) (hcv : ∀ i, cm.vw i = vwB vs md ops i) (hf : DrawFacts ops) : ∀ n k (vals : Nat → T) (S : Nat → St), k + n = ops.size →
    (∀ i, i < k → stepV P O ops b i (sl ops vals s (fun j => decide (j < i))) (S i) = some (vals i, S (i + 1)) ∧ (∀ x, x < b → (∀ c, cm.wk c i = true → ¬ W c x) → (S (i + 1)).blk x = (S i).blk x) ∧ OldEq b W σs (S (i + 1)) ∧ Room b (i + 1) (ops.size - (i + 1)) (S (i + 1)) ∧ (i ∉ chgsOf vs md ops → S (i + 1) = S i ∧ ∀ σ', (cm.cm i = true → σ' = S i) → (∀ x, x < b → (∀ c, cm.ck c i = false → ¬ W c x) → σ'.blk x = (S i).blk x) → OldEq b W σs σ' → stepV P O ops b i (sl ops vals s (fun j => decide (j < i))) σ' = some (vals i, σ'))) →
    OldEq b W σs (S k) → Room b k (ops.size - k) (S k) → opsC P O ops b W σs cm k (ops.toList.drop k) K ⟨sl ops vals s (fun j => decide (j < k)), S k⟩ →
    ∃ (vals' : Nat → T) (S' : Nat → St), S' 0 = S 0 ∧ (∀ i, i < ops.size → stepV P O ops b i (sl ops vals' s (fun j => decide (j < i))) (S' i) = some (vals' i, S' (i + 1)) ∧ (∀ x, x < b → (∀ c, cm.wk c i = true → ¬ W c x) → (S' (i + 1)).blk x = (S' i).blk x) ∧ OldEq b W σs (S' (i + 1)) ∧ Room b (i + 1) (ops.size - (i + 1)) (S' (i + 1)) ∧ (i ∉ chgsOf vs md ops → S' (i + 1) = S' i ∧ ∀ σ', (cm.cm i = true → σ' = S' i) → (∀ x, x < b → (∀ c, cm.ck c i = false → ¬ W c x) → σ'.blk x = (S' i).blk x) → OldEq b W σs σ' → stepV P O ops b i (sl ops vals' s (fun j => decide (j < i))) σ' = some (vals' i, σ'))) ∧
      K ⟨sl ops vals' s (fun j => decide (j < ops.size)), S' ops.size⟩ := by
  intro n
  induction n with
  | zero =>
    intro k vals S hk h1 hA hR h2
    have : k = ops.size := by omega
    subst this
    rw [List.drop_of_length_le (by simp)] at h2
    exact ⟨vals, S, rfl, h1, h2⟩
  | succ n ih =>
    intro k vals S hk h1 hA hR h2
    have hlt : k < ops.size := by omega
    have ho : ops[k]? = some ops[k] := by simp [hlt]
    have hd : ops.toList.drop k = ops[k] :: ops.toList.drop (k + 1) := by
      rw [List.drop_eq_getElem_cons (by simpa using hlt)]; simp
    have hlen : (ops.toList.drop (k + 1)).length = ops.size - (k + 1) := by simp
    rw [hd] at h2
    have hmem : k ∈ chgsOf vs md ops ↔ (isChg ops[k].op && !cm.vw k) = true := by
      rw [hcv]; simp [chgsOf, hlt, ho]
    have hR1 : Room b (k + 1) (ops.size - (k + 1)) (S k) := Room.nxt (by rw [show ops.size - (k + 1) + 1 = ops.size - k by omega]; exact hR)
    -- the value and the state behind the operation
    have key : ∃ v σ', stepO P O ops (b + k) ops[k] (sl ops vals s (fun j => decide (j < k))) (S k) = some (v, σ') ∧ (∀ x, x < b → (∀ c, cm.wk c k = true → ¬ W c x) → σ'.blk x = (S k).blk x) ∧ OldEq b W σs σ' ∧ Room b (k + 1) (ops.size - (k + 1)) σ' ∧ (k ∉ chgsOf vs md ops → σ' = S k ∧ ∀ σ2, (cm.cm k = true → σ2 = S k) → (∀ x, x < b → (∀ c, cm.ck c k = false → ¬ W c x) → σ2.blk x = (S k).blk x) → OldEq b W σs σ2 → stepO P O ops (b + k) ops[k] (sl ops vals s (fun j => decide (j < k))) σ2 = some (v, σ2)) ∧
        opsC P O ops b W σs cm (k + 1) (ops.toList.drop (k + 1)) K (Fr.put ⟨sl ops vals s (fun j => decide (j < k)), S k⟩ ops[k].dst v σ') := by
      unfold opsC at h2
      cases hc : (isChg ops[k].op && !cm.vw k) && wantedA ops ops[k] (sl ops vals s (fun j => decide (j < k))) with
      | true =>
        simp only [hc] at h2
        obtain ⟨v, σ', q1, q0, q2, q2', q3⟩ := h2
        have hc := (Bool.and_eq_true _ _ ▸ hc : (isChg ops[k].op && !cm.vw k) = true ∧ _).1
        rw [hlen] at q2'
        exact ⟨v, σ', q1, q0, q2, q2', fun hn => absurd (hmem.2 hc) hn, q3⟩
      | false =>
        simp only [hc] at h2
        obtain ⟨v, q1, q3⟩ := h2
        exact ⟨v, S k, q1 _ (fun _ => rfl) (fun _ _ _ => rfl) hA, fun _ _ _ => rfl, hA, hR1, fun _ => ⟨rfl, q1⟩, q3⟩
    obtain ⟨v, σ', q1, q0, q2, q2', q3, q4⟩ := key
    let vals' : Nat → T := fun j => if j = k then v else vals j
    let S' : Nat → St := fun j => if j = k + 1 then σ' else S j
    have e1 : ∀ i, i ≤ k → sl ops vals' s (fun j => decide (j < i)) = sl ops vals s (fun j => decide (j < i)) := fun i hi => sl_vals fun j hj => by
      simp at hj
      simp only [vals']; rw [if_neg (by omega)]
    have e2 : (fun j => decide (j < k) || decide (j = k)) = (fun j => decide (j < k + 1)) := by
      funext j
      rw [Bool.eq_iff_iff]; simp; omega
    have e3 : ∀ i, i ≤ k → S' i = S i := fun i hi => by simp only [S']; rw [if_neg (by omega)]
    have e4 : S' (k + 1) = σ' := by simp [S']
    have e5 : vals' k = v := by simp [vals']
    obtain ⟨vals2, S2, r1, r2, r3⟩ := ih (k + 1) vals' S' (by omega) (fun i hi => by
      by_cases hik : i = k
      · subst hik
        rw [e1 i (Nat.le_refl _), e3 i (Nat.le_refl _), e4, e5, stepV_eq ho]
        refine ⟨q1, q0, q2, q2', fun hn => ⟨(q3 hn).1, fun σ2 h2' h3' h2 => ?_⟩⟩
        rw [stepV_eq ho]; exact (q3 hn).2 σ2 h2' h3' h2
      · rw [e1 i (by omega), e3 i (by omega), e3 (i + 1) (by omega), show vals' i = vals i from if_neg hik]
        exact h1 i (by omega)) (by rw [e4]; exact q2) (by rw [e4]; exact q2') (by
      have hp := sl_put (vals := vals') (s := s) hf ho (L := fun j => decide (j < k)) (by simp) (S k) σ'
      rw [e1 k (Nat.le_refl _), e2, e5] at hp
      rw [e4, ← hp]; exact q4)
    exact ⟨vals2, S2, by rw [r1, e3 0 (by omega)], r2, r3⟩
theorem drawQ_chain (vs : List Nat) (hX : XOk X) (hst : drawOk ops = true) (hch : chainB vs md ops = true) {fr : Fr} (h : opsC P (run P md X) ops fr.σ.next W (fr.σ.bump ops.size) (cmpOf vs md ops) 0 ops.toList K ⟨fr.s, fr.σ.bump ops.size⟩) : drawQ P (run P md X) ops K fr := by
  have hf := drawOk_facts hst
  obtain ⟨b, hb⟩ : ∃ b, b = fr.σ.next := ⟨_, rfl⟩
  obtain ⟨σs, hσs⟩ : ∃ σs, σs = fr.σ.bump ops.size := ⟨_, rfl⟩
  rw [← hb, ← hσs] at h
  have h0 : sl ops (fun _ => .tup []) fr.s (fun j => decide (j < 0)) = fr.s := by funext t; exact sl_none fun _ _ _ _ => by simp
  have hA0 : OldEq b W σs σs := ⟨by rw [hσs, bump_next]; omega, fun _ _ _ => rfl⟩
  have hR0 : Room b 0 ops.size σs := ⟨by rw [hσs, bump_next]; omega, fun j hj => by rw [hσs, bump_blk, if_neg (by omega)]⟩
  obtain ⟨vals, S, s0, h1, h2⟩ := opsC_vals (P := P) (O := run P md X) (K := K) (s := fr.s) (b := b) (W := W) (σs := σs) (cm := cmpOf vs md ops) vs (fun _ => rfl) hf ops.size 0 (fun _ => .tup []) (fun _ => σs) (by omega) (fun i hi => absurd hi (by omega)) hA0 (by simpa using hR0) (by rw [h0]; simpa using h)
  -- the chain and the new boxes
  obtain ⟨ch, hchd⟩ : ∃ ch, ch = (chgsOf vs md ops).filter fun i => !fltAt ops i := ⟨_, rfl⟩
  have hmem : ∀ i, i ∈ chgsOf vs md ops → i < ops.size := fun i hi => by
    simp only [chgsOf, List.mem_filter, List.mem_range] at hi; exact hi.1
  have hchm : ∀ i, i ∈ ch ↔ i ∈ chgsOf vs md ops ∧ fltAt ops i = false := fun i => by rw [hchd]; simp
  have hanc : ∀ i ∈ chgsOf vs md ops, ∀ j ∈ ch, i < j → i ∈ (ancs ops).getD j [] := fun i hi j hj hij => by
    have hj := (hchm j).1 hj
    have := List.all_eq_true.1 (List.all_eq_true.1 hch i hi) j hj.1
    simp only [Bool.or_eq_true, Bool.not_eq_true', hj.2] at this
    rcases this with (h | h) | h
    · have : Nat.blt i j = true := by simp [Nat.blt]; omega
      rw [this] at h; cases h
    · cases h
    · exact mem_ancs.2 ⟨hmem i hi, h⟩
  have hflt : ∀ i, fltAt ops i = true → i ∈ chgsOf vs md ops := fun i hi => by
    have hvw : vwB vs md ops i = false := by unfold vwB; rw [hi]; simp
    unfold fltAt at hi
    split at hi
    · rename_i o ho
      have hlt : i < ops.size := (Array.getElem?_eq_some_iff.1 ho).1
      simp only [chgsOf, List.mem_filter, List.mem_range, ho, hvw, Bool.not_false, Bool.and_true]
      refine ⟨hlt, ?_⟩
      simp only [isFlt, Bool.and_eq_true] at hi
      revert hi
      cases o.op <;> simp [isChg]
    · cases hi
  obtain ⟨Bk, hBk⟩ : ∃ Bk : Nat → Blk, Bk = fun x => ((S (x - b + 1)).blk x).getD (mkBlk [] 0) := ⟨_, rfl⟩
  -- which new boxes are there beside the chain
  let pX : (Nat → Bool) → Nat → Nat → Bool := fun c L x => decide (b ≤ x) && fltAt ops (x - b) && c (x - b) && decide (L ≤ x - b)
  let Sg : (Nat → Bool) → St := fun c => (S (lastC ch c)).over (pX c (lastC ch c)) Bk
  have hroom : ∀ j, j ≤ ops.size → Room b j (ops.size - j) (S j) ∧ OldEq b W σs (S j) := fun j hj => by
    cases j with
    | zero => rw [s0]; exact ⟨hR0, hA0⟩
    | succ j => exact ⟨(h1 j (by omega)).2.2.2.1, (h1 j (by omega)).2.2.1⟩
  have hle : ∀ c : Nat → Bool, lastC ch c ≤ ops.size := fun c => lastC_le.2 fun k hk _ => hmem k ((hchm k).1 hk).1
  have hfl : ∀ i, i < ops.size → fltAt ops i = true → S (i + 1) = (S i).set (b + i) (Bk (b + i)) ∧ ∀ σ2 : St, σ2.blk (b + i) = none → b + i < σ2.next → stepV P (run P md X) ops b i (sl ops vals fr.s (fun j => decide (j < i))) σ2 = some (vals i, σ2.set (b + i) (Bk (b + i))) := fun i hi hfi => by
    unfold fltAt at hfi
    split at hfi
    · rename_i o ho
      have := (h1 i hi).1
      rw [stepV_eq ho] at this
      obtain ⟨C, c1, c2⟩ := flt_step hfi this
      have hC : Bk (b + i) = C := by
        rw [hBk]; simp only [Nat.add_sub_cancel_left, c1, set_blk, if_true, Option.getD_some]
      rw [hC]
      exact ⟨c1, fun σ2 h3 h4 => by rw [stepV_eq ho]; exact c2 σ2 h3 h4⟩
    · cases hfi
  -- the states of the first order
  have hS : ∀ j, j ≤ ops.size → S j = Sg (fun k => decide (k < j)) := by
    intro j
    induction j with
    | zero =>
      intro _
      have e : lastC ch (fun k => decide (k < 0)) = 0 := Nat.le_zero.1 (lastC_le.2 fun k _ hk => by simp at hk)
      simp only [Sg, e]
      rw [over_none fun i => by simp [pX]]
    | succ j ih =>
      intro hj
      have ih := ih (by omega)
      by_cases hc : j ∈ ch
      · have e : lastC ch (fun k => decide (k < j + 1)) = j + 1 := lastC_eq hc (by simp) fun k _ hk => by simp at hk; omega
        simp only [Sg, e]
        rw [over_none fun i => by simp only [pX, Bool.and_eq_false_iff, decide_eq_false_iff_not]; omega]
      · have e : lastC ch (fun k => decide (k < j + 1)) = lastC ch (fun k => decide (k < j)) := lastC_congr fun k hk => by
          have : k ≠ j := fun e => hc (e ▸ hk)
          rw [Bool.eq_iff_iff]; simp; omega
        have hL : lastC ch (fun k => decide (k < j)) ≤ j := lastC_le.2 fun k _ hk => by simp at hk; omega
        by_cases hfj : fltAt ops j = true
        · rw [(hfl j (by omega) hfj).1, ih]
          simp only [Sg, e]
          rw [over_set]
          congr 1
          funext x
          simp only [pX]
          rw [Bool.eq_iff_iff]
          simp only [Bool.or_eq_true, Bool.and_eq_true, decide_eq_true_eq]
          constructor
          · rintro (h | rfl)
            · exact ⟨⟨h.1.1, by omega⟩, h.2⟩
            · rw [Nat.add_sub_cancel_left]; exact ⟨⟨⟨by omega, hfj⟩, by omega⟩, hL⟩
          · rintro ⟨⟨⟨q1, q2⟩, q3⟩, q4⟩
            by_cases hx : x = b + j
            · exact .inr hx
            · exact .inl ⟨⟨⟨q1, q2⟩, by omega⟩, q4⟩
        · have hn : j ∉ chgsOf vs md ops := fun hm => hc ((hchm j).2 ⟨hm, by simpa using hfj⟩)
          rw [((h1 j (by omega)).2.2.2.2 hn).1, ih]
          simp only [Sg, e]
          congr 1
          funext x
          simp only [pX]
          rw [Bool.eq_iff_iff]
          simp only [Bool.and_eq_true, decide_eq_true_eq]
          constructor
          · rintro ⟨⟨⟨q1, q2⟩, q3⟩, q4⟩; exact ⟨⟨⟨q1, q2⟩, by omega⟩, q4⟩
          · rintro ⟨⟨⟨q1, q2⟩, q3⟩, q4⟩
            have : x - b ≠ j := fun e => by rw [e] at q2; exact hfj q2
            exact ⟨⟨⟨q1, q2⟩, by omega⟩, q4⟩
  have hOld : ∀ c, OldEq b W σs (Sg c) := fun c => by
    obtain ⟨q1, q2⟩ := (hroom _ (hle c)).2
    refine ⟨q1, fun x hx hx' => ?_⟩
    simp only [Sg, St.over]
    rw [if_neg (by simp only [pX, Bool.and_eq_true, decide_eq_true_eq]; omega)]
    exact q2 x hx hx'
  have hcg : ∀ c c', (∀ j ∈ chgsOf vs md ops, c j = c' j) → Sg c = Sg c' := fun c c' hcc => by
    have e : lastC ch c = lastC ch c' := lastC_congr fun k hk => hcc k ((hchm k).1 hk).1
    simp only [Sg, e]
    congr 1
    funext x
    simp only [pX]
    by_cases hfx : fltAt ops (x - b) = true
    · rw [hcc _ (hflt _ hfx)]
    · simp [hfx]
  -- between what may write, the old blocks are as they were
  have hspan : ∀ x, x < b → ∀ d j, j + d ≤ ops.size → (∀ k, j ≤ k → k < j + d → ∀ c, wkB md ops c k = true → ¬ W c x) → (S (j + d)).blk x = (S j).blk x := by
    intro x hx d
    induction d with
    | zero => intro j _ _; rfl
    | succ d ih =>
      intro j hj hk
      rw [show j + (d + 1) = (j + d) + 1 by omega, (h1 (j + d) (by omega)).2.1 x hx (hk (j + d) (by omega) (by omega))]
      exact ih j (by omega) (fun k h1 h2 => hk k h1 (by omega))
  have hwch : ∀ c k, wkB md ops c k = true → k ∈ ch := fun c k hk => by
    simp only [wkB, Bool.and_eq_true] at hk
    have hk := hk.2
    have hvw : vwB vs md ops k = false := by unfold vwB; rw [hk]; simp
    unfold wk1 at hk
    split at hk
    · rename_i o ho
      have hlt : k < ops.size := (Array.getElem?_eq_some_iff.1 ho).1
      have key : isChg o.op = true ∧ isFlt o = false := by
        obtain ⟨d, op, ty, ps, af, g⟩ := o
        cases op with
        | store t a x => exact ⟨rfl, rfl⟩
        | call d =>
          refine ⟨?_, rfl⟩
          obtain ⟨cal, as, ts⟩ := d
          cases cal with
          | builtin bi => cases bi <;> first | rfl | cases hk
          | _ => rfl
        | _ => cases hk
      refine (hchm k).2 ⟨?_, ?_⟩
      · simp only [chgsOf, List.mem_filter, List.mem_range, ho, hvw, Bool.not_false, Bool.and_true]
        exact ⟨hlt, key.1⟩
      · unfold fltAt; rw [ho]; exact key.2
    · cases hk
  have hcmp : ∀ i, i < ops.size → i ∉ chgsOf vs md ops → ∀ c, (∀ k ∈ chgsOf vs md ops, k ∈ (ancs ops).getD i [] → c k = true) → (∀ k ∈ chgsOf vs md ops, i ∈ (ancs ops).getD k [] → c k = false) → (∀ k, k ∈ chgsOf vs md ops → ∀ j, j ∈ chgsOf vs md ops → j ∈ (ancs ops).getD k [] → c k = true → c j = true) → ∀ k, k ∈ ch → cmp1 ops k i = true → (k < i → k < lastC ch c) ∧ (i ≤ k → lastC ch c ≤ k) := by
    intro i hi hn c f1 f2 f4 k hkc hall
    have hkc' := (hchm k).1 hkc
    unfold cmp1 at hall
    rw [hkc'.2] at hall
    constructor
    · intro hki
      have e : Nat.blt k i = true := by simp [Nat.blt]; omega
      rw [e] at hall
      have := f1 k hkc'.1 (mem_ancs.2 ⟨hmem k hkc'.1, hall⟩)
      have := lastC_le.1 (Nat.le_refl (lastC ch c)) k hkc this
      omega
    · intro hik
      have hne : k ≠ i := fun e => hn (e ▸ hkc'.1)
      have e : Nat.blt k i = false := by cases hb3 : Nat.blt k i with
        | false => rfl
        | true => have := Nat.le_of_ble_eq_true hb3; omega
      have e2 : Nat.beq k i = false := by cases hb2 : Nat.beq k i with
        | false => rfl
        | true => have := Nat.eq_of_beq_eq_true hb2; omega
      rw [e, e2] at hall
      have hck := f2 k hkc'.1 (mem_ancs.2 ⟨hi, by simpa using hall⟩)
      by_cases hz : lastC ch c = 0
      · omega
      · obtain ⟨k', k1, k2, k3⟩ := lastC_mem hz
        rw [k3]
        have : ¬ k < k' := fun hkk => by
          have := f4 k' ((hchm k').1 k1).1 k hkc'.1 (hanc k hkc'.1 k' k1 hkk) k2
          rw [this] at hck; cases hck
        have : k ≠ k' := fun e => by rw [e, k2] at hck; cases hck
        omega
  have hold2 : ∀ i, i < ops.size → i ∉ chgsOf vs md ops → ∀ c, (∀ k ∈ chgsOf vs md ops, k ∈ (ancs ops).getD i [] → c k = true) → (∀ k ∈ chgsOf vs md ops, i ∈ (ancs ops).getD k [] → c k = false) → (∀ k, k ∈ chgsOf vs md ops → ∀ j, j ∈ chgsOf vs md ops → j ∈ (ancs ops).getD k [] → c k = true → c j = true) → ∀ x, x < b → (∀ k d, wkB md ops d k = true → W d x → cmp1 ops k i = true) → (Sg c).blk x = (S i).blk x := by
    intro i hi hn c f1 f2 f4 x hx hcw
    have hsg : (Sg c).blk x = (S (lastC ch c)).blk x := by
      simp only [Sg, St.over]
      rw [if_neg (by simp only [pX, Bool.and_eq_true, decide_eq_true_eq]; omega)]
    rw [hsg]
    have hL := hle c
    rcases Nat.le_total (lastC ch c) i with h | h
    · have := hspan x hx (i - lastC ch c) (lastC ch c) (by omega) (fun k a1 a2 d hd hW => by
        have := (hcmp i hi hn c f1 f2 f4 k (hwch d k hd) (hcw k d hd hW)).1 (by omega); omega)
      rw [show lastC ch c + (i - lastC ch c) = i by omega] at this
      exact this.symm
    · have := hspan x hx (lastC ch c - i) i (by omega) (fun k a1 a2 d hd hW => by
        have := (hcmp i hi hn c f1 f2 f4 k (hwch d k hd) (hcw k d hd hW)).2 (by omega); omega)
      rw [show i + (lastC ch c - i) = lastC ch c by omega] at this
      exact this
  refine ⟨⟨sl ops vals fr.s (fun j => decide (j < ops.size)), Sg (fun j => decide (j < ops.size))⟩, ?_, by rw [← hS ops.size (Nat.le_refl _)]; exact h2⟩
  refine draw_drawL (P := P) (O := run P md X) (vals := vals) (s := fr.s) (Sg := Sg) (ch := chgsOf vs md ops) hst rfl ?_ ?_ hcg hmem
  · have e := hS 0 (Nat.zero_le _)
    rw [s0, hσs] at e
    rw [e]; exact hcg _ _ fun j _ => by simp
  · intro i hi c hc
    rw [← hb]
    obtain ⟨f1, f2, f3, f4⟩ := hc
    -- what is done, up to where
    have hlast : ∀ i, fltAt ops i = true → c i = false → lastC ch c ≤ i := fun i hfi hci => by
      by_cases hz : lastC ch c = 0
      · omega
      · obtain ⟨k, k1, k2, k3⟩ := lastC_mem hz
        rw [k3]
        have k4 := (hchm k).1 k1
        have : ¬ i < k := fun hik => by
          have := f4 k k4.1 i (hflt i hfi) (hanc i (hflt i hfi) k k1 hik) k2
          rw [this] at hci; cases hci
        have : k ≠ i := fun e => by rw [e] at k4; rw [k4.2] at hfi; cases hfi
        omega
    by_cases hcmp : i ∈ ch ∨ (i ∉ chgsOf vs md ops ∧ cmpB vs md ops i = true)
    · have hlo : ∀ k ∈ chgsOf vs md ops, k < i → c k = true := fun k hk hki => f1 k hk (by
        rcases hcmp with hic | ⟨_, hcm⟩
        · exact hanc k hk i hic hki
        · have := List.all_eq_true.1 hcm k hk
          have e : Nat.blt k i = true := by simp [Nat.blt]; omega
          rw [e] at this
          exact mem_ancs.2 ⟨hmem k hk, this⟩)
      have hhi : ∀ k ∈ ch, i < k → c k = false := fun k hk hik => f2 k ((hchm k).1 hk).1 (by
        rcases hcmp with hic | ⟨_, hcm⟩
        · exact hanc i ((hchm i).1 hic).1 k hk hik
        · have := List.all_eq_true.1 hcm k ((hchm k).1 hk).1
          have e : Nat.blt k i = false := by cases hb3 : Nat.blt k i with
            | false => rfl
            | true => have := Nat.le_of_ble_eq_true hb3; omega
          have e2 : Nat.beq k i = false := by cases hb2 : Nat.beq k i with
            | false => rfl
            | true => have := Nat.eq_of_beq_eq_true hb2; omega
          rw [e, e2, ((hchm k).1 hk).2] at this
          exact mem_ancs.2 ⟨hi, by simpa using this⟩)
      have e1 : lastC ch c = lastC ch (fun k => decide (k < i)) := lastC_congr fun k hk => by
        rcases Nat.lt_trichotomy k i with h | h | h
        · rw [hlo k ((hchm k).1 hk).1 h]; simp [h]
        · subst h; rw [f3]; simp
        · rw [hhi k hk h]; simp; omega
      -- the boxes that have come early
      let l : List Nat := (((List.range ops.size).filter fun f => fltAt ops f && c f && decide (i < f)).map fun f => b + f)
      have hl : ∀ x, l.contains x = (decide (b ≤ x) && fltAt ops (x - b) && c (x - b) && decide (i < x - b)) := fun x => by
        rw [Bool.eq_iff_iff]
        simp only [l, List.contains_iff_mem, List.mem_map, List.mem_filter, List.mem_range, Bool.and_eq_true, decide_eq_true_eq]
        constructor
        · rintro ⟨f, ⟨a1, ⟨a2, a3⟩, a4⟩, rfl⟩; rw [Nat.add_sub_cancel_left]; exact ⟨⟨⟨by omega, a2⟩, a3⟩, a4⟩
        · rintro ⟨⟨⟨a1, a2⟩, a3⟩, a4⟩; exact ⟨x - b, ⟨hmem _ (hflt _ a2), ⟨a2, a3⟩, a4⟩, by omega⟩
      have hnd : l.Nodup := List.pairwise_map.2 (List.Pairwise.imp (fun h => by omega) (List.Pairwise.filter _ List.nodup_range))
      have hroom_i := (hroom i (by omega)).1
      have hlx : ∀ x ∈ l, b + i ≠ x ∧ (S i).blk x = none ∧ x < (S i).next := fun x hx => by
        have hx : l.contains x = true := by simpa using hx
        rw [hl] at hx
        simp only [Bool.and_eq_true, decide_eq_true_eq] at hx
        obtain ⟨⟨⟨a1, a2⟩, a3⟩, a4⟩ := hx
        have a5 := hmem _ (hflt _ a2)
        refine ⟨by omega, ?_, by have := hroom_i.1; omega⟩
        have := hroom_i.2 (x - b - i) (by omega)
        rwa [show b + i + (x - b - i) = x by omega] at this
      have ho : ops[i]? = some ops[i] := by simp [hi]
      have hstep := (h1 i hi).1
      rw [stepV_eq ho] at hstep ⊢
      have hrun := (step_over hX (Bk := Bk) hstep l hlx hnd).1
      have g1 : Sg c = (S i).over (fun x => l.contains x) Bk := by
        rw [hS i (by omega)]
        simp only [Sg, e1]
        rw [over_over (r := pX c (lastC ch (fun k => decide (k < i))))]
        intro x
        rw [hl]
        simp only [pX]
        rw [Bool.eq_iff_iff]
        simp only [Bool.or_eq_true, Bool.and_eq_true, decide_eq_true_eq]
        constructor
        · rintro ⟨⟨⟨a1, a2⟩, a3⟩, a4⟩
          by_cases hxi : x - b < i
          · exact .inl ⟨⟨⟨a1, a2⟩, hxi⟩, a4⟩
          · have : x - b ≠ i := fun e => by rw [e] at a3; rw [a3] at f3; cases f3
            exact .inr ⟨⟨⟨a1, a2⟩, a3⟩, by omega⟩
        · rintro (⟨⟨⟨a1, a2⟩, a3⟩, a4⟩ | ⟨⟨⟨a1, a2⟩, a3⟩, a4⟩)
          · exact ⟨⟨⟨a1, a2⟩, hlo _ (hflt _ a2) a3⟩, a4⟩
          · have : lastC ch (fun k => decide (k < i)) ≤ i := lastC_le.2 fun k _ hk => by simp at hk; omega
            exact ⟨⟨⟨a1, a2⟩, a3⟩, by omega⟩
      have g2 : Sg (fun j => c j || decide (j = i)) = (S (i + 1)).over (fun x => l.contains x) Bk := by
        rcases hcmp with hic | ⟨hn, _⟩
        · have e2 : lastC ch (fun j => c j || decide (j = i)) = i + 1 := lastC_eq hic (by simp) fun k hk hkc => by
            rcases Nat.lt_trichotomy k i with h | h | h
            · omega
            · omega
            · simp [hhi k hk h] at hkc; omega
          simp only [Sg, e2]
          congr 1
          funext x
          rw [hl]
          simp only [pX]
          rw [Bool.eq_iff_iff]
          simp only [Bool.or_eq_true, Bool.and_eq_true, decide_eq_true_eq]
          constructor
          · rintro ⟨⟨⟨a1, a2⟩, a3 | a3⟩, a4⟩
            · exact ⟨⟨⟨a1, a2⟩, a3⟩, by omega⟩
            · omega
          · rintro ⟨⟨⟨a1, a2⟩, a3⟩, a4⟩; exact ⟨⟨⟨a1, a2⟩, .inl a3⟩, by omega⟩
        · rw [((h1 i hi).2.2.2.2 hn).1, ← g1]
          exact hcg _ _ fun j hj => by
            have : j ≠ i := fun e => hn (e ▸ hj)
            simp [this]
      rw [g1, g2]; exact hrun
    · by_cases hfi : fltAt ops i = true
      · have hLi := hlast i hfi f3
        obtain ⟨_, h4⟩ := hfl i hi hfi
        have hr := (hroom _ (hle c)).1
        have hfree : (Sg c).blk (b + i) = none := by
          simp only [Sg, St.over]
          rw [if_neg (by simp only [pX, Nat.add_sub_cancel_left, f3]; simp)]
          have := hr.2 (i - lastC ch c) (by omega)
          rwa [show b + lastC ch c + (i - lastC ch c) = b + i by omega] at this
        rw [h4 (Sg c) hfree (by show b + i < (S (lastC ch c)).next; have := hr.1; omega)]
        congr 2
        have e : lastC ch (fun j => c j || decide (j = i)) = lastC ch c := lastC_congr fun k hk => by
          have : k ≠ i := fun e => hcmp (.inl (e ▸ hk))
          simp [this]
        simp only [Sg, e]
        rw [over_set]
        congr 1
        funext x
        simp only [pX]
        rw [Bool.eq_iff_iff]
        simp only [Bool.or_eq_true, Bool.and_eq_true, decide_eq_true_eq]
        constructor
        · rintro (h | rfl)
          · exact ⟨⟨h.1.1, .inl h.1.2⟩, h.2⟩
          · rw [Nat.add_sub_cancel_left]; exact ⟨⟨⟨by omega, hfi⟩, .inr rfl⟩, hLi⟩
        · rintro ⟨⟨⟨a1, a2⟩, a3 | a3⟩, a4⟩
          · exact .inl ⟨⟨⟨a1, a2⟩, a3⟩, a4⟩
          · exact .inr (by omega)
      · have hn : i ∉ chgsOf vs md ops := fun hm => hcmp (.inl ((hchm i).2 ⟨hm, by simpa using hfi⟩))
        have e2 : Sg (fun j => c j || decide (j = i)) = Sg c := hcg _ _ fun j hj => by
          have : j ≠ i := fun e => hn (e ▸ hj)
          simp [this]
        rw [e2]
        exact ((h1 i hi).2.2.2.2 hn).2 _ (fun w => absurd (.inr ⟨hn, w⟩) hcmp) (fun x hx hW => hold2 i hi hn c f1 f2 f4 x hx fun k d hd hWd => by
          have hd' := hd
          simp only [wkB, Bool.and_eq_true] at hd'
          have e := Nat.eq_of_beq_eq_true hd'.1
          subst e
          cases hc1 : cmp1 ops d i with
          | true => rfl
          | false => exact absurd hWd (hW d (by show (!wk1 md ops d || cmp1 ops d i) = false; rw [hd'.2, hc1]; rfl))) (hOld c)
theorem hold_ref_mem {z : Bool} {σ : St} {k b e o n : Nat} {v : T} {S : List Nat} (h : hold z σ k (.ref b e o n) = some (v, S)) : b ∈ S := by
  cases k with
  | zero => cases h
  | succ k =>
    simp only [hold] at h
    obtain ⟨B, hB, h⟩ := Option.bind_eq_some_iff.1 h
    split at h
    · obtain ⟨q, _, h⟩ := Option.map_eq_some_iff.1 h
      injection h with _ h; subst h; simp
    · cases h
theorem c_chain (vs : List Nat) (W : Nat → Nat → Prop) {Q : AExit → Fr → Prop} {σ σ0 : St} {es : List Ent} {id : Nat} (hX : XOk X) (hst : drawOk ops = true) (hch : chainB vs md ops = true) (hH : Heap σ0 σ es)
    (h : ∀ B σs σ', σ0.next ≤ B → (∀ x cells, Ent.box x cells ∈ es → x < B) → (∀ z w t v, Ent.own z w t v ∈ es → ∀ b e o n, t = .ref b e o n → b < B) → Heap σ0 σ' es → opsX P (run P md X) ops (.c B 0 W σs (cmpOf vs md ops)) ops.toList (Q .normal) ⟨s, σ'⟩) : codeQ P (run P md X) (.region id ops true) Q ⟨s, σ⟩ := by
  refine drawQ_chain vs hX hst hch (W := W) ?_
  refine h σ.next (σ.bump ops.size) (σ.bump ops.size) hH.grow.nx (fun x cells hx => ?_) (fun z w t v hx b e o n ht => ?_) hH.bump ⟨by simp, fun _ _ _ => rfl⟩ ⟨by simp, fun j hj => by rw [bump_blk, if_neg (by omega)]⟩
  · obtain ⟨n, hn, e⟩ := List.getElem_of_mem hx
    obtain ⟨F, h1, h2, h3⟩ := hH.ex
    obtain ⟨l1, l2, rfl⟩ := List.append_of_mem hx
    obtain ⟨F1, F2, rfl, h4, h5⟩ := h1.split
    obtain ⟨S, F', rfl, ⟨rfl, _⟩, _⟩ := h5
    exact (h3 x (by simp)).2
  · obtain ⟨F, h1, h2, h3⟩ := hH.ex
    obtain ⟨l1, l2, rfl⟩ := List.append_of_mem hx
    obtain ⟨F1, F2, rfl, h4, h5⟩ := h1.split
    obtain ⟨S, F', rfl, ⟨_, _, k, h6⟩, _⟩ := h5
    subst ht
    exact (h3 b (by simp [hold_ref_mem h6])).2
end
end Go.Am
end
section
set_option linter.unusedVariables false
set_option linter.unusedSimpArgs false
namespace Go.Am
open Classical
theorem Heap.wrap {σ0 σ : St} {ents E : List Ent} (h : Heap σ0 σ (ents ++ E)) : ∃ F, Heap σ0 σ (ents ++ [.keep F σ]) ∧ ∀ σ' ents', Heap σ0 σ' (ents' ++ [.keep F σ]) → Heap σ0 σ' (ents' ++ E) := by
  obtain ⟨F, h1, h2, h3⟩ := h.ex
  obtain ⟨F1, F2, rfl, h4, h5⟩ := h1.split
  refine ⟨F2, ⟨h.grow, F1 ++ F2, h4.join ⟨F2, [], by simp, ⟨rfl, fun b hb => ⟨rfl, h5.some b hb⟩⟩, rfl⟩, h2, h3⟩, fun σ' ents' k => ?_⟩
  obtain ⟨G, k1, k2, k3⟩ := k.ex
  obtain ⟨G1, G2, rfl, k4, k5⟩ := k1.split
  obtain ⟨S, F', rfl, ⟨rfl, k6⟩, k7⟩ := k5
  cases k7
  simp only [List.append_nil] at k2 k3
  exact ⟨k.grow, G1 ++ S, k4.join (h5.same fun b hb => (k6 b hb).1), k2, k3⟩
section
variable {P : Program} {md : Nat → Md} {X : Ext} {f : Nat}
variable {ops : Array Oper} {m : Mo} {l : List Oper} {K : Fr → Prop} {s : Nat → T} {σ σ0 : St} {L : List (Nat × T)} {es ents : List Ent}
variable {d : Option Nat} {ty : TypeId} {ps : String} {af : Array Edge} {g : Option (Nat × Bool)}
def RawS (P : Program) (md : Nat → Md) (X : Ext) (f : Nat) (args : List T) (n : Nat) (tree : List T → T) (ents : List Ent) (ents' : List T → List Ent) : Prop :=
  ∀ σ0 σ E, Heap σ0 σ (ents ++ E) → ∃ hs σ', hs.length = n ∧ run P md X f args σ = some (tree hs, σ') ∧ Heap σ0 σ' (ents' hs ++ E)
end
def ofIv : List (Iv .u8) → Option (List UInt8)
  | [] => some []
  | x :: l => if 0 ≤ x.v ∧ x.v < 256 then (ofIv l).map (UInt8.ofNat x.v.toNat :: ·) else none
def strS (a : Sl (Iv .u8)) : Option ByteArray := (ofIv a.l).map fun l => ⟨l.toArray⟩
theorem ofIv_cells : ∀ l : List (Iv .u8), ofBytes (cellsL l) = ofIv l
  | [] => rfl
  | x :: l => by
    show ofBytes (.int .u8 x.v :: cellsL l) = _
    simp only [ofBytes, ofIv, ofIv_cells l]
section
variable {P : Program} {O : Oracle}
variable {ops : Array Oper} {m : Mo} {l : List Oper} {K : Fr → Prop} {s : Nat → T} {σ σ0 : St} {L : List (Nat × T)} {es ents : List Ent}
variable {d : Option Nat} {ty : TypeId} {ps : String} {af : Array Edge} {g : Option (Nat × Bool)}
end
section
variable {P : Program} {O : Oracle}
variable {ops : Array Oper} {m : Mo} {l : List Oper} {K : Fr → Prop} {s : Nat → T} {σ σ0 : St} {L : List (Nat × T)} {es ents : List Ent}
variable {d : Option Nat} {ty : TypeId} {ps : String} {af : Array Edge} {g : Option (Nat × Bool)}
end
section
variable {P : Program} {O : Oracle}
variable {ops : Array Oper} {m : Mo} {l : List Oper} {K : Fr → Prop} {s : Nat → T} {σ σ0 : St} {L : List (Nat × T)}
variable {d : Option Nat} {ty : TypeId} {ps : String} {af : Array Edge} {g : Option (Nat × Bool)}
end
section
variable {P : Program} {O : Oracle}
variable {ops : Array Oper} {m : Mo} {l : List Oper} {K : Fr → Prop} {s : Nat → T} {σ : St} {L : List (Nat × T)}
variable {d : Option Nat} {ty : TypeId} {ps : String} {af : Array Edge} {g : Option (Nat × Bool)}
end
end Go.Am
end
section
set_option linter.unusedVariables false
set_option linter.unusedSimpArgs false
namespace Go.Am
section
variable {P : Program} {O : Oracle} {ops : Array Oper} {l : List Oper} {K : Fr → Prop} {s : Nat → T} {σ σ0 : St} {L : List (Nat × T)} {es ents : List Ent}
variable {d : Option Nat} {ty : TypeId} {ps : String} {af : Array Edge} {g : Option (Nat × Bool)}
end
section
variable {P : Program} {md : Nat → Md} {X : Ext} {ops : Array Oper} {m : Mo} {l : List Oper} {K : Fr → Prop} {s : Nat → T} {σ σ0 : St} {L : List (Nat × T)} {es ents : List Ent} {f : Nat}
variable {d : Option Nat} {ty : TypeId} {ps : String} {af : Array Edge} {g : Option (Nat × Bool)}
def EB : Ent → Nat → Prop
  | .box b _, x => x = b
  | .own _ _ t _, x => BT t x
  | .flt _ t _, x => BT t x
  | .keep F _, x => x ∈ F
  | .frt .., _ => False
def Stay (R : Nat → Prop) (es : List Ent) : Prop := ∀ x, R x → ∃ e ∈ es, EB e x
theorem Stay.nil {es : List Ent} : Stay RN es := fun x h => h.elim
theorem Stay.box {R : Nat → Prop} {es : List Ent} {b : Nat} {c : List T} (h : Ent.box b c ∈ es) (k : Stay R es) : Stay (RB b R) es := fun y hy => by
  rcases hy with rfl | hy
  · exact ⟨_, h, rfl⟩
  · exact k y hy
theorem Stay.own {R : Nat → Prop} {es : List Ent} {z : Bool} {w : Nat} {t v : T} (h : Ent.own z w t v ∈ es) (k : Stay R es) : Stay (RT t R) es := fun y hy => by
  rcases hy with hy | hy
  · exact ⟨_, h, hy⟩
  · exact k y hy
theorem LentL.mark {S : List Nat} : ∀ {bs : List Nat} {cs : List (List T)}, LentL σ bs cs → LentL (σ.mark S) bs cs
  | [], [], _ => trivial
  | b :: bs, c :: cs, ⟨⟨h1, B, h2, h3⟩, h4⟩ => ⟨⟨h1, by
      have e : (σ.mark S).blk b = some (if b ∈ S then { B with st := false } else B) := by simp [St.mark, h2]
      refine ⟨_, e, ?_⟩
      split <;> exact h3⟩, h4.mark⟩
  | [], _ :: _, h => h.elim
  | _ :: _, [], h => h.elim
end
section
variable {z : Bool} {ts vs : List T} {es : List Ent}
theorem HLi {k : IntKind} {n : Int} (r : HL z ts vs es) : HL z (.int k n :: ts) (.int k n :: vs) es := HL.leaf (fun σ d => hold_int _ σ d _ _) r
theorem HLb {n : Bool} (r : HL z ts vs es) : HL z (.bool n :: ts) (.bool n :: vs) es := HL.leaf (fun σ d => hold_bool _ σ d _) r
theorem HLs {n : ByteArray} (r : HL z ts vs es) : HL z (.str n :: ts) (.str n :: vs) es := HL.leaf (fun σ d => hold_str _ σ d _) r
theorem HLn {α : Type} [Enc α] (r : HL z ts vs es) : HL z (Sl.t (⟨true, []⟩ : Sl α) :: ts) (Sl.t (⟨true, []⟩ : Sl α) :: vs) es := HL.leaf (fun σ d => hold_nilS _ σ d) r
theorem HLp {α : Type} [Enc α] {a : Sl α} (r : HL false ts vs es) : HL false (a.t :: ts) (a.t :: vs) es := HL.leaf (fun σ d => hold_pure σ d _) r
end
abbrev i4 (n : Int) : T := .int .i64 n
section
variable {P : Program} {O : Oracle} {ops : Array Oper} {m : Mo} {l : List Oper} {K : Fr → Prop} {s : Nat → T} {σ σ0 : St} {L : List (Nat × T)} {es : List Ent}
variable {d : Option Nat} {ty : TypeId} {ps : String} {af : Array Edge} {g : Option (Nat × Bool)}
end
end Go.Am
end
section
set_option linter.unusedVariables false
set_option linter.unusedSimpArgs false
namespace Go.Am
section
variable {P : Program} {O : Oracle} {ops : Array Oper} {m : Mo} {l : List Oper} {K : Fr → Prop} {s : Nat → T} {σ σ0 : St} {L : List (Nat × T)} {es ents : List Ent}
variable {d : Option Nat} {ty : TypeId} {ps : String} {af : Array Edge} {g : Option (Nat × Bool)}
end
end Go.Am
end
section
set_option linter.unusedVariables false
set_option linter.unusedSimpArgs false
namespace Go.Am
open Classical
def Kb (F : List Nat) (σk : St) (x : Nat) (c : List T) : Prop := x ∈ F ∧ ∃ B, σk.blk x = some B ∧ B.cells = c ∧ B.ep = 0 ∧ B.low = 0
def KLe (F : List Nat) (σ : St) (F2 : List Nat) (σ2 : St) : Prop := F.Nodup ∧ ∀ b ∈ F, b ∈ F2 ∧ σ2.blk b = σ.blk b
theorem Kb.mono {F F2 : List Nat} {σ σ2 : St} {x : Nat} {c : List T} (h : Kb F σ x c) (k : KLe F σ F2 σ2) : Kb F2 σ2 x c := by
  obtain ⟨h1, B, h2, h3⟩ := h
  obtain ⟨k1, k2⟩ := k.2 x h1
  exact ⟨k1, B, by rw [k2, h2], h3⟩
theorem Heap.part {σ0 σ σk σ2 : St} {Fk F2 : List Nat} {es : List Ent} (h : Heap σ0 σ (.keep F2 σ2 :: es)) (k : KLe Fk σk F2 σ2) : ∃ F3, Heap σ0 σ (.keep Fk σk :: .keep F3 σ2 :: es) ∧ ∀ σ' es', Heap σ0 σ' (.keep Fk σk :: .keep F3 σ2 :: es') → Heap σ0 σ' (.keep F2 σ2 :: es') := by
  obtain ⟨S0, ⟨rfl, _⟩, hn2, _⟩ := h.head
  refine ⟨S0.filter fun b => decide (b ∉ Fk), ?_, fun σ' es' h' => ?_⟩
  · refine Heap.step (es1 := [.keep S0 σ2]) (es2 := [.keep Fk σk, .keep (S0.filter fun b => decide (b ∉ Fk)) σ2]) (es := es) h (Nat.le_refl _) fun S hS hnd hbd => ?_
    obtain ⟨S1, F1, rfl, ⟨rfl, h1⟩, hnil⟩ := hS
    cases hnil
    refine ⟨Fk ++ S1.filter fun b => decide (b ∉ Fk), ⟨Fk, S1.filter fun b => decide (b ∉ Fk), rfl, ⟨rfl, fun b hb => ?_⟩, _, [], by simp, ⟨rfl, fun b hb => h1 b (List.mem_filter.1 hb).1⟩, rfl⟩, ?_, fun b hb => .inl ?_, fun _ _ _ => rfl⟩
    · obtain ⟨k1, k2⟩ := k.2 b hb
      exact ⟨by rw [(h1 b k1).1, k2], (h1 b k1).2⟩
    · exact List.nodup_append.2 ⟨k.1, hn2.filter _, fun a ha b hb => by
        rintro rfl
        have := (List.mem_filter.1 hb).2
        simp at this; exact this ha⟩
    · rw [List.append_nil]
      rcases List.mem_append.1 hb with hb | hb
      · exact (k.2 b hb).1
      · exact (List.mem_filter.1 hb).1
  · refine Heap.step (es1 := [.keep Fk σk, .keep (S0.filter fun b => decide (b ∉ Fk)) σ2]) (es2 := [.keep S0 σ2]) (es := es') h' (Nat.le_refl _) fun S hS hnd hbd => ?_
    obtain ⟨S1, F1, rfl, ⟨rfl, h1⟩, S3, F3, rfl, ⟨rfl, h3⟩, hnil⟩ := hS
    cases hnil
    refine ⟨S0, ⟨S0, [], by simp, ⟨rfl, fun b hb => ?_⟩, rfl⟩, hn2, fun b hb => .inl ?_, fun _ _ _ => rfl⟩
    · by_cases hm : b ∈ S1
      · exact ⟨by rw [(h1 b hm).1, (k.2 b hm).2], (h1 b hm).2⟩
      · exact h3 b (List.mem_filter.2 ⟨hb, by simpa using hm⟩)
    · rw [List.append_nil]
      by_cases hm : b ∈ S1
      · exact List.mem_append_left _ hm
      · exact List.mem_append_right _ (List.mem_filter.2 ⟨hb, by simpa using hm⟩)
section
variable (P : Program) (md : Nat → Md) (X : Ext) {α : Type}
def ThenOk (en : α → List T → List Ent) (n : Nat) (th : T) (Φ : Int → α → Option (Bool × α)) (F : List Nat) (σk : St) : Prop :=
  ∀ e S y hs, hs.length = n → Φ e S = some y → ∃ f a b, th = .fn f a b ∧ RawS P md X f (a ++ [.int .i64 e] ++ b) n (fun _ => .bool y.1) (en S hs ++ [.keep F σk]) (fun hs' => en y.2 hs' ++ [.keep F σk])
end
section
variable {P : Program} {md : Nat → Md} {X : Ext} {α : Type} {en : α → List T → List Ent} {n : Nat} {th : T} {Φ : Int → α → Option (Bool × α)} {F F2 : List Nat} {σk σ2 : St}
theorem ThenOk.mono (h : ThenOk P md X en n th Φ F σk) (k : KLe F σk F2 σ2) : ThenOk P md X en n th Φ F2 σ2 := fun e S y hs hl hy => by
  obtain ⟨f, a, b, e1, h1⟩ := h e S y hs hl hy
  refine ⟨f, a, b, e1, fun σ0 σ E hH => ?_⟩
  rw [List.append_assoc] at hH
  have hH := hH.perm List.perm_append_comm
  obtain ⟨F3, h2, h3⟩ := Heap.part (es := E ++ en S hs) hH k
  have h2 : Heap σ0 σ ((en S hs ++ [.keep F σk]) ++ (.keep F3 σ2 :: E)) := h2.perm (by
    rw [List.append_assoc]
    refine List.Perm.trans ?_ List.perm_append_comm
    simp only [List.cons_append, List.nil_append]; exact .refl _)
  obtain ⟨hs', σ', q1, q2, q3⟩ := h1 σ0 σ _ h2
  refine ⟨hs', σ', q1, q2, ?_⟩
  have q3 : Heap σ0 σ' (.keep F σk :: .keep F3 σ2 :: (E ++ en y.2 hs')) := q3.perm (by
    rw [List.append_assoc]
    refine List.Perm.trans List.perm_append_comm ?_
    simp only [List.cons_append, List.nil_append]; exact .refl _)
  have q4 := h3 _ _ q3
  rw [List.append_assoc]
  exact q4.perm (by
    refine List.Perm.trans ?_ List.perm_append_comm
    simp only [List.cons_append, List.nil_append]; exact .refl _)
variable {ops : Array Oper} {m : Mo} {l : List Oper} {K : Fr → Prop} {s : Nat → T} {σ σ0 : St} {L : List (Nat × T)} {es ents : List Ent}
variable {d : Option Nat} {ty : TypeId} {ps : String} {af : Array Edge} {g : Option (Nat × Bool)}
theorem RawS.keep {f n : Nat} {args : List T} {tree : List T → T} {ents : List Ent} {ents' : List T → List Ent} (h : RawS P md X f args n tree ents ents') (ks : List Ent) : RawS P md X f args n tree (ents ++ ks) (fun hs => ents' hs ++ ks) := fun σ0 σ E hH => by
  rw [List.append_assoc] at hH
  obtain ⟨hs, σ', h1, h2, h3⟩ := h σ0 σ (ks ++ E) hH
  exact ⟨hs, σ', h1, h2, by rw [List.append_assoc]; exact h3⟩
def Pt (F : List Nat) (σk : St) (pp : T) (c : List T) : Prop := (∃ rest, pp = .vw (c ++ rest)) ∨ ∃ b, pp = .ptr b 0 0 c.length ∧ Kb F σk b c
theorem Pt.mono {pp : T} {c : List T} (h : Pt F σk pp c) (k : KLe F σk F2 σ2) : Pt F2 σ2 pp c := h.imp id fun ⟨b, h1, h2⟩ => ⟨b, h1, h2.mono k⟩
theorem Pt.vw {c rest : List T} : Pt F σk (.vw (c ++ rest)) c := .inl ⟨rest, rfl⟩
theorem Pt.box {b : Nat} {c : List T} {n : Nat} (hn : n = c.length) (h : Kb F σk b c) : Pt F σk (.ptr b 0 0 n) c := .inr ⟨b, by rw [hn], h⟩
theorem Pt.one {pp : T} {c : List T} (h : Pt F σk pp c) : IsOne pp := by
  rcases h with ⟨rest, rfl⟩ | ⟨b, rfl, _⟩ <;> exact ⟨rfl, rfl⟩
end
end Go.Am
end
section
set_option linter.unusedVariables false
set_option linter.unusedSimpArgs false
namespace Go.Am
section
variable {P : Program} {md : Nat → Md} {X : Ext} {β : Type} {eb : β → T} {f : Nat} {r : β}
variable {ops : Array Oper} {m : Mo} {l : List Oper} {K : Fr → Prop} {s : Nat → T} {σ : St} {L : List (Nat × T)}
variable {d : Option Nat} {ty : TypeId} {ps : String} {af : Array Edge} {g : Option (Nat × Bool)}
end
end Go.Am
namespace Go.Am
theorem Enter.of_ok {P : Program} {f : Nat} {c : Code} {n : Nat} {rs : List ResultVar} (h : Ok P f c n rs) : Enter P f := by
  obtain ⟨fn, h1, h2, h3, _⟩ := h
  exact ⟨fn, _, h1, h2, h3⟩
end Go.Am
namespace Go.Am
section
variable {P : Program} {O : Oracle} {Q : AExit → Fr → Prop} {s : Nat → T} {σ : St} {L : List (Nat × T)}
end
end Go.Am
namespace Go.Am
section
variable {σ0 σ : St} {es : List Ent}
theorem Heap.up1 {a0 a1 : Ent} (h : Heap σ0 σ (a0 :: a1 :: es)) : Heap σ0 σ (a1 :: a0 :: es) := h.pull 1
theorem Heap.up2 {a0 a1 a2 : Ent} (h : Heap σ0 σ (a0 :: a1 :: a2 :: es)) : Heap σ0 σ (a2 :: a0 :: a1 :: es) := h.pull 2
end
end Go.Am
end
section
set_option linter.unusedVariables false
set_option linter.unusedSimpArgs false
namespace Go.Am
def Kn (σ0 : St) (L : List (Nat × T)) (es : List Ent) (p : Prop) (G : Fr → Prop) : Prop := p → ∀ s σ, Sub L s → Heap σ0 σ es → G ⟨s, σ⟩
inductive Ct where
  | s (c : Code)
  | b (i : Nat)
inductive Wh where
  | c (c : Code)
  | x (e : AExit)
def nx : Nat → Wh → List Ct → Option (Wh × List Ct)
  | 0, _, _ => none
  | n + 1, .c c, k => match c with
    | .seq a b => nx n (.c a) (.s b :: k)
    | .block i c => nx n (.c c) (.b i :: k)
    | .skip => nx n (.x .normal) k
    | .exit i => nx n (.x (.exit i)) k
    | .ret => nx n (.x .ret) k
    | c => some (.c c, k)
  | n + 1, .x e, k => match k with
    | [] => some (.x e, [])
    | .s c :: k => match e with
      | .normal => nx n (.c c) k
      | .exit j => nx n (.x (.exit j)) k
      | .ret => nx n (.x .ret) k
    | .b i :: k => match e with
      | .exit j => match Nat.beq j i with
        | true => nx n (.x .normal) k
        | false => nx n (.x (.exit j)) k
      | .normal => nx n (.x .normal) k
      | .ret => nx n (.x .ret) k
section
variable (P : Program) (O : Oracle)
def popQ : List Ct → (AExit → Fr → Prop) → AExit → Fr → Prop
  | [], Q => Q
  | .s c :: k, Q => seqQ (codeQ P O c (popQ k Q)) (popQ k Q)
  | .b i :: k, Q => blkQ i (popQ k Q)
def whQ : Wh → List Ct → (AExit → Fr → Prop) → Fr → Prop
  | .c c, k, Q, fr => codeQ P O c (popQ P O k Q) fr
  | .x e, k, Q, fr => popQ P O k Q e fr
end
section
variable {P : Program} {O : Oracle} {Q : AExit → Fr → Prop} {fr : Fr}
theorem nx_ok : ∀ {n : Nat} {w : Wh} {k : List Ct} {w' : Wh} {k' : List Ct}, nx n w k = some (w', k') → whQ P O w' k' Q fr → whQ P O w k Q fr
  | 0, _, _, _, _, h, _ => by cases h
  | n + 1, .c c, k, w', k', h, g => by
    have hd : ∀ c, some (Wh.c c, k) = some (w', k') → whQ P O (.c c) k Q fr := fun c h => by injection h with h; injection h with h1 h2; subst h1; subst h2; exact g
    cases c with
    | seq a b => exact nx_ok (n := n) (w := .c a) (k := .s b :: k) h g
    | block i c => exact nx_ok (n := n) (w := .c c) (k := .b i :: k) h g
    | skip => exact nx_ok (n := n) (w := .x .normal) h g
    | exit i => exact nx_ok (n := n) (w := .x (.exit i)) h g
    | ret => exact nx_ok (n := n) (w := .x .ret) h g
    | _ => exact hd _ h
  | n + 1, .x e, [], w', k', h, g => by injection h with h; injection h with h1 h2; subst h1; subst h2; exact g
  | n + 1, .x e, .s c :: k, w', k', h, g => by
    cases e with
    | normal => exact nx_ok (n := n) (w := .c c) (k := k) h g
    | exit j => exact nx_ok (n := n) (w := .x (.exit j)) (k := k) h g
    | ret => exact nx_ok (n := n) (w := .x .ret) (k := k) h g
  | n + 1, .x e, .b i :: k, w', k', h, g => by
    cases e with
    | normal => exact nx_ok (n := n) (w := .x .normal) (k := k) h g
    | exit j =>
      simp only [nx] at h
      show popQ P O k Q (if j = i then .normal else .exit j) fr
      split at h
      · rename_i hb; rw [if_pos (Nat.eq_of_beq_eq_true hb)]; exact nx_ok (n := n) (w := .x .normal) (k := k) h g
      · rename_i hb; rw [if_neg (fun e => by rw [e] at hb; simp at hb)]; exact nx_ok (n := n) (w := .x (.exit j)) (k := k) h g
    | ret => exact nx_ok (n := n) (w := .x .ret) (k := k) h g
end
def foL {α β : Type} : List α → (List α → Option β) → Option β
  | [], k => k []
  | x :: xs, k => foL xs fun ys => k (x :: ys)
theorem foL_eq {α β : Type} : ∀ (l : List α) (k : List α → Option β), foL l k = k l
  | [], _ => rfl
  | x :: xs, k => by rw [foL, foL_eq xs]
def tkL {β : Type} : Nat → List T → (List T → Option β) → Option β
  | 0, _, k => k []
  | _ + 1, [], _ => none
  | n + 1, x :: xs, k => tkL n xs fun ys => k (x :: ys)
theorem tkL_some {β : Type} {b : β} : ∀ {n : Nat} {l : List T} {k : List T → Option β}, tkL n l k = some b → n ≤ l.length ∧ k (l.take n) = some b
  | 0, l, k, h => ⟨Nat.zero_le _, by simpa [tkL] using h⟩
  | n + 1, [], k, h => by cases h
  | n + 1, x :: xs, k, h => by
    obtain ⟨h1, h2⟩ := tkL_some (n := n) (l := xs) h
    exact ⟨by simp; omega, by simpa using h2⟩
def drL : Nat → List T → Option (List T)
  | 0, l => some l
  | _ + 1, [] => none
  | n + 1, _ :: xs => drL n xs
theorem drL_some : ∀ {n : Nat} {l r : List T}, drL n l = some r → n ≤ l.length ∧ r = l.drop n
  | 0, l, r, h => ⟨Nat.zero_le _, by injection h with h; simp [h]⟩
  | n + 1, [], r, h => by cases h
  | n + 1, x :: xs, r, h => by
    obtain ⟨h1, h2⟩ := drL_some (n := n) (l := xs) h
    exact ⟨by simp; omega, by simpa using h2⟩
def partF (P : Program) (t : TypeId) (cs : List T) (off : Nat) : Option T :=
  match drL off cs with
  | some cs => match aggOf P t with
    | some true => match szOf P t with
      | some n => tkL n cs fun l => some (.agg l)
      | none => none
    | some false => match cs with
      | x :: _ => some x
      | [] => none
    | none => none
  | none => none
theorem partF_ok {P : Program} {t : TypeId} {cs : List T} {off : Nat} {v : T} (h : partF P t cs off = some v) : part P t cs off = some v := by
  unfold partF at h
  split at h
  · rename_i r hr
    obtain ⟨h1, rfl⟩ := drL_some hr
    unfold part
    split at h
    · rename_i ha
      split at h
      · rename_i n hn
        obtain ⟨h2, h3⟩ := tkL_some h
        simp only [List.length_drop] at h2
        rw [ha, Option.bind_some, hn]
        simp only [if_true, Option.bind_some]
        rw [if_pos (by omega)]; exact h3
      · cases h
    · rename_i ha
      rw [ha, Option.bind_some]
      simp only [Bool.false_eq_true, if_false]
      split at h
      · rename_i x xs hx
        injection h with h; subst h
        have := congrArg (·[0]?) hx
        simpa using this
      · cases h
    · cases h
  · cases h
def fillF (place : Nat → Option (Nat × Nat)) (cells : List T) : List (Nat × T) → Option (List T)
  | [] => some cells
  | (i, v) :: rest => match place i with
    | some (off, size) => match Nat.beq v.cells.length size && Nat.ble (off + size) cells.length && v.cells.all T.one with
      | true => foL (splice cells off v.cells) fun cells => fillF place cells rest
      | false => none
    | none => none
theorem fillF_ok {place : Nat → Option (Nat × Nat)} : ∀ {ps : List (Nat × T)} {cells r : List T}, fillF place cells ps = some r → fillA place cells ps = some r
  | [], _, _, h => h
  | (i, v) :: rest, cells, r, h => by
    simp only [fillF] at h
    split at h
    · rename_i off size hp
      split at h
      · rename_i hc
        simp only [Bool.and_eq_true] at hc
        rw [foL_eq] at h
        simp only [fillA, hp, Option.bind_some]
        rw [if_pos ⟨Nat.eq_of_beq_eq_true hc.1.1, Nat.le_of_ble_eq_true hc.1.2, hc.2⟩]
        exact fillF_ok h
      · cases h
    · cases h
def pF (P : Program) (g : Nat → Option T) (op : Op) : Option T :=
  match op with
  | .build t parts => match zeroOf P t with
    | some z => match gPs g parts.toList with
      | some ps => match okP P t with
        | true => match fillF (fun i => match fieldOf P t i with | some (o, _, n) => some (o, n) | none => none) z ps with
          | some cs => foL cs fun cs => some (.agg cs)
          | none => none
        | false => none
      | none => none
    | none => none
  | .load t a => match gE g a with
    | some (.vw cs) => partF P t cs 0
    | _ => none
  | .field t x f => match gE g x with
    | some (.agg cs) => match fieldOf P t f with
      | some (off, ft, _) => partF P ft cs off
      | none => none
    | _ => none
  | .fieldAddr t x f => match gE g x with
    | some x => match fieldOf P t f with
      | some (off, _, n) => match x with
        | .ptr b e o m => match !Nat.beq n 0 && Nat.ble (off + n) m with
          | true => some (.ptr b e (o + off) n)
          | false => none
        | .vw cs => match n with
          | 0 => none
          | _ + 1 => match drL off cs with
            | some cs' => match tkL n cs' (fun _ => some ()) with
              | some _ => some (.vw cs')
              | none => none
            | none => none
        | _ => none
      | none => none
    | none => none
  | op => pOp P g op
theorem pF_ok {P : Program} {g : Nat → Option T} {op : Op} {v : T} (h : pF P g op = some v) : pOp P g op = some v := by
  cases op with
  | build t parts =>
    simp only [pF] at h
    split at h
    · rename_i z hz
      split at h
      · rename_i ps hp
        split at h
        · rename_i hk
          split at h
          · rename_i cs hc
            rw [foL_eq] at h
            have e : (fun i => (fieldOf P t i).map fun (o, _, n) => (o, n)) = fun i => match fieldOf P t i with | some (o, _, n) => some (o, n) | none => none := by
              funext i; cases fieldOf P t i <;> rfl
            simp only [pOp, hz, hp, hk, e, fillF_ok hc]; exact h
          · cases h
        · cases h
      · cases h
    · cases h
  | load t a =>
    simp only [pF] at h
    split at h
    · rename_i hc; simp only [pOp, hc]; exact partF_ok h
    · cases h
  | field t x f =>
    simp only [pF] at h
    split at h
    · rename_i hc
      split at h
      · rename_i hf; simp only [pOp, hc, hf]; exact partF_ok h
      · cases h
    · cases h
  | fieldAddr t x f =>
    simp only [pF] at h
    split at h
    · rename_i hx
      split at h
      · rename_i hf
        simp only [pOp, hx, hf]
        split at h
        · split at h
          · rename_i hc
            simp only [Bool.and_eq_true, Bool.not_eq_true'] at hc
            show (if _ = 0 then none else if _ then _ else none) = _; rw [if_neg (fun (e : _ = 0) => by rw [e] at hc; simp at hc), if_pos (Nat.le_of_ble_eq_true hc.2)]; exact h
          · cases h
        · split at h
          · cases h
          · split at h
            · rename_i cs' hd
              obtain ⟨h1, rfl⟩ := drL_some hd
              split at h
              · rename_i u hu
                obtain ⟨h2, _⟩ := tkL_some hu
                simp only [List.length_drop] at h2
                show (if _ = 0 then none else if _ then _ else none) = _; rw [if_neg (by omega), if_pos (by omega)]; exact h
              · cases h
            · cases h
        · cases h
      · cases h
    · cases h
  | _ => exact h
def sg (P : Program) (ops : Array Oper) : Nat → List Oper → List (Nat × T) → Option (List (Nat × T) × List Oper)
  | 0, l, L => some (L, l)
  | _ + 1, [], _ => none
  | n + 1, o :: l, L => match want ops L o.guard with
    | some true => match pF P (get L) o.op with
      | some v => match o.dst with
        | some d => sg P ops n l ((d, v) :: L)
        | none => sg P ops n l L
      | none => none
    | some false => match o.dst with
      | some d => sg P ops n l ((d, .tup []) :: L)
      | none => sg P ops n l L
    | none => none
theorem sg_seg {P : Program} {ops : Array Oper} : ∀ {n : Nat} {l : List Oper} {L : List (Nat × T)} {M : List (Nat × T)} {l' : List Oper}, sg P ops n l L = some (M, l') → seg P ops n l L = some M ∧ l' = l.drop n
  | 0, l, L, M, l', h => by injection h with h; injection h with h1 h2; subst h1; subst h2; exact ⟨rfl, rfl⟩
  | n + 1, [], L, M, l', h => by cases h
  | n + 1, o :: l, L, M, l', h => by
    simp only [sg] at h
    simp only [seg, List.drop_succ_cons]
    split at h
    · rename_i hw
      split at h
      · rename_i v hv
        simp only [hw, pF_ok hv]
        split at h
        · rename_i d hd; rw [hd]; exact sg_seg h
        · rename_i hd; rw [hd]; exact sg_seg h
      · cases h
    · rename_i hw
      simp only [hw]
      split at h
      · rename_i d hd; rw [hd]; exact sg_seg h
      · rename_i hd; rw [hd]; exact sg_seg h
    · cases h
def sgA (P : Program) (ops : Array Oper) : List Oper → List (Nat × T) → Option (List (Nat × T))
  | [], L => some L
  | o :: l, L => match want ops L o.guard with
    | some true => match pF P (get L) o.op with
      | some v => match o.dst with
        | some d => sgA P ops l ((d, v) :: L)
        | none => sgA P ops l L
      | none => none
    | some false => match o.dst with
      | some d => sgA P ops l ((d, .tup []) :: L)
      | none => sgA P ops l L
    | none => none
theorem sgA_seg {P : Program} {ops : Array Oper} : ∀ {l : List Oper} {L : List (Nat × T)} {M : List (Nat × T)}, sgA P ops l L = some M → seg P ops l.length l L = some M
  | [], L, M, h => by injection h with h; subst h; rfl
  | o :: l, L, M, h => by
    simp only [sgA] at h
    simp only [seg, List.length_cons]
    split at h
    · rename_i hw
      split at h
      · rename_i v hv
        simp only [hw, pF_ok hv]
        split at h
        · rename_i d hd; rw [hd]; exact sgA_seg h
        · rename_i hd; rw [hd]; exact sgA_seg h
      · cases h
    · rename_i hw
      simp only [hw]
      split at h
      · rename_i d hd; rw [hd]; exact sgA_seg h
      · rename_i hd; rw [hd]; exact sgA_seg h
    · cases h
section
variable {P : Program} {O : Oracle} {ops : Array Oper} {m : Mo} {l l' : List Oper} {K : Fr → Prop} {σ0 : St} {L L' : List (Nat × T)} {es es' : List Ent} {p q : Prop} {G : Fr → Prop}
variable {Q : AExit → Fr → Prop} {k k' : List Ct} {w w' : Wh} {s : Nat → T} {σ : St}
theorem t_bk (h : p) (hS : Sub L s) (hH : Heap σ0 σ es) (kk : Kn σ0 L es p G) : G ⟨s, σ⟩ := kk h s σ hS hH
theorem t_h (f : ∀ {σ}, Heap σ0 σ es → Heap σ0 σ es') (kk : Kn σ0 L es' p G) : Kn σ0 L es p G := fun h s σ hS hH => kk h s σ hS (f hH)
theorem t_U (n : Nat) (kk : Kn σ0 L' es p (opsX P O ops (nxN n m) l' K)) (h : sg P ops n l L = some (L', l') := by rfl) : Kn σ0 L es p (opsX P O ops m l K) := fun hp s σ hS hH => by
  obtain ⟨h1, rfl⟩ := sg_seg h
  exact seg_sound h1 hS fun s' hM => kk hp s' σ hM hH
theorem t_N (kk : Kn σ0 L' es p (whQ P O w' k' Q)) (h : sgA P ops l L = some L' := by rfl) (h2 : nx 99 (.x .normal) k = some (w', k') := by rfl) : Kn σ0 L es p (opsX P O ops m l (popQ P O k Q .normal)) := fun hp s σ hS hH =>
  seg_sound (sgA_seg h) hS fun s' hM => by
    rw [List.drop_length]
    exact x_nil (nx_ok (w := .x .normal) h2 (kk hp s' σ hM hH))
theorem t_R {id : Nat} (kk : Kn σ0 L es p (opsX P O ops .q ops.toList (popQ P O k Q .normal))) : Kn σ0 L es p (whQ P O (.c (.region id ops false)) k Q) := kk
theorem t_RU {id : Nat} (n : Nat) (kk : Kn σ0 L' es p (opsX P O ops .q l' (popQ P O k Q .normal))) (h : sg P ops n ops.toList L = some (L', l') := by rfl) : Kn σ0 L es p (whQ P O (.c (.region id ops false)) k Q) := fun hp s σ hS hH => by
  obtain ⟨h1, rfl⟩ := sg_seg h
  have e : ∀ n, nxN n Mo.q = .q := fun n => by induction n with
    | zero => rfl
    | succ n ih => exact ih
  exact seg_sound (m := .q) h1 hS fun s' hM => by rw [e]; exact kk hp s' σ hM hH
theorem t_RN {id : Nat} (kk : Kn σ0 L' es p (whQ P O w' k' Q)) (h : sgA P ops ops.toList L = some L' := by rfl) (h2 : nx 99 (.x .normal) k = some (w', k') := by rfl) : Kn σ0 L es p (whQ P O (.c (.region id ops false)) k Q) := t_R (t_N kk h h2)
end
section
variable {P : Program} {O : Oracle} {ops : Array Oper} {m : Mo} {l : List Oper} {K : Fr → Prop} {σ0 : St} {L L' : List (Nat × T)} {es es' : List Ent} {p q : Prop} {G : Fr → Prop} {γ : Type} {r : γ} {x y : Option γ}
variable {Q : AExit → Fr → Prop} {k k1 k2 : List Ct} {w1 w2 : Wh} {c : Operand} {a b : Code} {t : Bool}
theorem t_if (h1 : t = true → Kn σ0 L es (x = some r) (whQ P O w1 k1 Q)) (h2 : ¬ (t = true) → Kn σ0 L es (y = some r) (whQ P O w2 k2 Q)) (hc : gE (get L) c = some (.bool t) := by rfl) (e1 : nx 99 (.c a) k = some (w1, k1) := by rfl) (e2 : nx 99 (.c b) k = some (w2, k2) := by rfl) : Kn σ0 L es ((if t = true then x else y) = some r) (whQ P O (.c (.cond c a b)) k Q) := fun hp s σ hS hH =>
  c_cond hS hc (fun h => nx_ok (w := .c a) e1 (h1 h (it_pos h hp) s σ hS hH)) (fun h => have h : ¬ (t = true) := by simp [h]
    nx_ok (w := .c b) e2 (h2 h (it_neg h hp) s σ hS hH))
end
end Go.Am
end
