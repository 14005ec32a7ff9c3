/- The abstract machine. -/
import Derived.Test.YtohkcdkmpencnaaDoorAm4
import Derived.Test.YtohkcdkmpencnaaDoorAm2
section
set_option linter.unusedVariables false
set_option linter.unusedSimpArgs false
namespace Go.Am
def pickE : Nat → List Ent → Option (Ent × List Ent)
  | 0, e :: es => some (e, es)
  | n + 1, e :: es => match pickE n es with
    | some (x, r) => some (x, e :: r)
    | none => none
  | _, [] => none
theorem pickE_perm : ∀ {n : Nat} {es : List Ent} {x : Ent} {r : List Ent}, pickE n es = some (x, r) → es.Perm (x :: r)
  | 0, e :: es, x, r, h => by injection h with h; injection h with h1 h2; subst h1; subst h2; exact .refl _
  | n + 1, e :: es, x, r, h => by
    simp only [pickE] at h
    split at h
    · rename_i x' r' hr
      injection h with h; injection h with h1 h2; subst h1; subst h2
      exact ((pickE_perm hr).cons e).trans (.swap _ _ _)
    · cases h
  | 0, [], _, _, h => by cases h
  | _ + 1, [], _, _, h => by cases h
theorem Heap.pick {σ0 σ : St} {n : Nat} {es : List Ent} {x : Ent} {r : List Ent} (hH : Heap σ0 σ es) (h : pickE n es = some (x, r)) : Heap σ0 σ (x :: r) := hH.perm (pickE_perm h)
def zeroF (P : Program) (t : TypeId) : Option (List T) := match zeroOf P t with
  | some z => foL z some
  | none => none
theorem zeroF_ok {P : Program} {t : TypeId} {z : List T} (h : zeroF P t = some z) : zeroOf P t = some z := by
  unfold zeroF at h
  split at h
  · rename_i z' hz; rw [foL_eq] at h; rw [hz]; exact h
  · cases h
def cellsF : T → Option (List T)
  | .agg cs => foL cs some
  | .int k n => some [.int k n]
  | .bool b => some [.bool b]
  | .str s => some [.str s]
  | .nilp => some [.nilp]
  | .nilf => some [.nilf]
  | .nili => some [.nili]
  | .nilm => some [.nilm]
  | .ptr b e o m => some [.ptr b e o m]
  | .vw cs => some [.vw cs]
  | .row z n cs => some [.row z n cs]
  | .emp => some [.emp]
  | .ref b e o n => some [.ref b e o n]
  | .fn f a b => some [.fn f a b]
  | .tup cs => some [.tup cs]
theorem cellsF_ok {v : T} {cs : List T} (h : cellsF v = some cs) : v.cells = cs := by
  cases v with
  | agg l => rw [cellsF, foL_eq] at h; injection h
  | _ => injection h
def storeF (P : Program) (t : TypeId) (cells : List T) (off n : Nat) (cs : List T) : Option (List T) :=
  match szOf P t with
  | some sz => match Nat.beq cs.length sz && Nat.ble sz n && Nat.ble (off + sz) cells.length with
    | true => foL (splice cells off cs) some
    | false => none
  | none => none
theorem storeF_ok {P : Program} {t : TypeId} {cells cs r : List T} {off n : Nat} (h : storeF P t cells off n cs = some r) : storeC P t cells off n cs = some r := by
  unfold storeF at h; unfold storeC
  split at h
  · rename_i sz hz
    split at h
    · rename_i hc
      simp only [Bool.and_eq_true] at hc
      rw [foL_eq] at h
      rw [hz]
      show (if _ then _ else none) = _
      rw [if_pos ⟨Nat.eq_of_beq_eq_true hc.1.1, Nat.le_of_ble_eq_true hc.1.2, Nat.le_of_ble_eq_true hc.2⟩]; exact h
    · cases h
  · cases h
def pu (L : List (Nat × T)) (d : Option Nat) (v : T) : Option (List (Nat × T)) := match d with
  | some d => some ((d, v) :: L)
  | none => some L
theorem pu_ok {L L' : List (Nat × T)} {d : Option Nat} {v : T} (h : pu L d v = some L') : putL L d v = L' := by
  cases d with
  | some d => injection h
  | none => injection h
class Lit (α : Type) [Enc α] where
  c : α → List T
  h : ∀ a, Enc.cells a = c a
instance : Lit ByteArray := ⟨fun s => [.str s], fun _ => rfl⟩
instance : Lit Bool := ⟨fun s => [.bool s], fun _ => rfl⟩
instance (k : IntKind) : Lit (Iv k) := ⟨fun s => [.int k s.v], fun _ => rfl⟩
instance {α : Type} [Enc α] : Lit (Sl α) := ⟨fun s => [s.t], fun _ => rfl⟩
section
variable {P : Program} {O : Oracle} {ops : Array Oper} {m : Mo} {l : List Oper} {K : Fr → Prop} {σ0 : St} {L L' : List (Nat × T)} {es es' : List Ent} {p : Prop} {β γ : Type} {r : γ}
variable {d : Nat} {dO : Option Nat} {ty : TypeId} {ps : String} {af : Array Edge} {g : Option (Nat × Bool)}
theorem k_alloc {t : TypeId} {z : List T} (kk : ∀ b, Kn σ0 ((d, .ptr b 0 0 z.length) :: L) (.box b z :: es) p (opsX P O ops .q l K)) (hz : zeroF P t = some z := by rfl) (hw : want ops L g = some true := by rfl) : Kn σ0 L es p (opsX P O ops .q (⟨some d, .alloc t, ty, ps, af, g⟩ :: l) K) := fun hp s σ hS hH =>
  q_alloc hw hS hH (zeroF_ok hz) fun b σ' s' hH' hS' => kk b hp s' σ' hS' hH'
theorem k_box {x : Operand} {t : TypeId} {v : T} {cs : List T} (kk : ∀ b, Kn σ0 ((d, .ptr b 0 0 cs.length) :: L) (.box b cs :: es) p (opsX P O ops .q l K)) (hx : gE (get L) x = some v := by rfl) (hcs : cellsF v = some cs := by rfl) (h1 : cs.all T.one = true := by kernel_rfl) (hw : want ops L g = some true := by rfl) : Kn σ0 L es p (opsX P O ops .q (⟨some d, .box t x, ty, ps, af, g⟩ :: l) K) := fun hp s σ hS hH =>
  q_box hw hS hH hx (cellsF_ok hcs) h1 fun b σ' s' hH' hS' => kk b hp s' σ' hS' hH'
theorem k_storeV {a x : Operand} {t : TypeId} {b off n : Nat} {cells cells' cs : List T} {v : T} (i : Nat) (hcs : v.cells = cs) (h1 : cs.all T.one = true) (kk : Kn σ0 L' (.box b cells' :: es') p (opsX P O ops (nxM m) l K)) (ha : gE (get L) a = some (.ptr b 0 off n) := by rfl) (he : pickE i es = some (.box b cells, es') := by rfl) (hx : gE (get L) x = some v := by rfl) (hc : storeF P t cells off n cs = some cells' := by rfl) (hL : pu L dO (.tup []) = some L' := by rfl) (hw : want ops L g = some true := by rfl) (hwr : ∀ {σ}, Heap σ0 σ es → m.wr b := by exact fun _ => trivial) (hm : m.chg = true := by rfl) : Kn σ0 L es p (opsX P O ops m (⟨dO, .store t a x, ty, ps, af, g⟩ :: l) K) := fun hp s σ hS hH =>
  q_storeC hm (hwr hH) hw hS (hH.pick he) ha hx hcs h1 (storeF_ok hc) fun σ' s' hH' hS' => kk hp s' σ' (pu_ok hL ▸ hS') hH'
theorem k_store {a x : Operand} {t : TypeId} {b off n : Nat} {cells cells' cs : List T} {v : T} (i : Nat) (kk : Kn σ0 L' (.box b cells' :: es') p (opsX P O ops (nxM m) l K)) (ha : gE (get L) a = some (.ptr b 0 off n) := by rfl) (he : pickE i es = some (.box b cells, es') := by rfl) (hx : gE (get L) x = some v := by rfl) (hcs : cellsF v = some cs := by rfl) (h1 : cs.all T.one = true := by kernel_rfl) (hc : storeF P t cells off n cs = some cells' := by rfl) (hL : pu L dO (.tup []) = some L' := by rfl) (hw : want ops L g = some true := by rfl) (hwr : ∀ {σ}, Heap σ0 σ es → m.wr b := by exact fun _ => trivial) (hm : m.chg = true := by rfl) : Kn σ0 L es p (opsX P O ops m (⟨dO, .store t a x, ty, ps, af, g⟩ :: l) K) :=
  k_storeV i (cellsF_ok hcs) h1 kk ha he hx hc hL hw hwr hm
theorem k_storeT {a x : Operand} {t : TypeId} {b off n : Nat} {cells cells' : List T} {v : T} (i : Nat) (h1 : IsOne v) (kk : Kn σ0 L' (.box b cells' :: es') p (opsX P O ops (nxM m) l K)) (ha : gE (get L) a = some (.ptr b 0 off n) := by rfl) (he : pickE i es = some (.box b cells, es') := by rfl) (hx : gE (get L) x = some v := by rfl) (hc : storeF P t cells off n [v] = some cells' := by rfl) (hL : pu L dO (.tup []) = some L' := by rfl) (hw : want ops L g = some true := by rfl) (hwr : ∀ {σ}, Heap σ0 σ es → m.wr b := by exact fun _ => trivial) (hm : m.chg = true := by rfl) : Kn σ0 L es p (opsX P O ops m (⟨dO, .store t a x, ty, ps, af, g⟩ :: l) K) :=
  k_storeV i h1.1 (by simp [h1.2]) kk ha he hx hc hL hw hwr hm
theorem k_storeA {a x : Operand} {t : TypeId} {b n : Nat} {cells cs : List T} {v : T} (i : Nat) (kk : Kn σ0 L' (.box b cs :: es') p (opsX P O ops (nxM m) l K)) (ha : gE (get L) a = some (.ptr b 0 0 n) := by rfl) (he : pickE i es = some (.box b cells, es') := by rfl) (hx : gE (get L) x = some v := by rfl) (hcs : cellsF v = some cs := by rfl) (h1 : cs.all T.one = true := by kernel_rfl) (hc : storeC P t cells 0 n cs = some cs := by kernel_rfl) (hL : pu L dO (.tup []) = some L' := by rfl) (hw : want ops L g = some true := by rfl) (hwr : ∀ {σ}, Heap σ0 σ es → m.wr b := by exact fun _ => trivial) (hm : m.chg = true := by rfl) : Kn σ0 L es p (opsX P O ops m (⟨dO, .store t a x, ty, ps, af, g⟩ :: l) K) := fun hp s σ hS hH =>
  q_storeC hm (hwr hH) hw hS (hH.pick he) ha hx (cellsF_ok hcs) h1 hc fun σ' s' hH' hS' => kk hp s' σ' (pu_ok hL ▸ hS') hH'
theorem k_load {a : Operand} {t : TypeId} {b e off n : Nat} {cells cs : List T} {v : T} (i : Nat) (kk : Kn σ0 ((d, v) :: L) es p (opsX P O ops (nxM m) l K)) (ha : gE (get L) a = some (.ptr b e off n) := by rfl) (he : es[i]? = some (.box b cells) := by rfl) (hc : drL off cells = some cs := by rfl) (hv : partF P t cs 0 = some v := by rfl) (hn : part P t (cs.take n) 0 = some v := by kernel_rfl) (hlt : m.lt b := by exact trivial) (hw : want ops L g = some true := by rfl) : Kn σ0 L es p (opsX P O ops m (⟨some d, .load t a, ty, ps, af, g⟩ :: l) K) := fun hp s σ hS hH =>
  q_load (e := e) i hlt hw hS hH he ha (by rw [← (drL_some hc).2]; exact hn) fun s' hS' => kk hp s' σ hS' hH
theorem k_elt {α : Type} [Enc α] [Lit α] {x i : Operand} {t e : TypeId} {sl : Sl α} {kk : IntKind} {j : Int} {f : α → Option γ} {c : α → List T} (k : ∀ y rest, elt sl j = some y → Kn σ0 ((d, .vw (c y ++ rest)) :: L) es (f y = some r) (opsX P O ops (nxM m) l K)) (hx : gE (get L) x = some sl.t := by rfl) (hi : gE (get L) i = some (.int kk j) := by rfl)
    (he : elemOfSl P t = some e := by rfl) (hz : szOf P e = some (Enc.w α) := by kernel_rfl) (hc : ∀ y, foL (Lit.c y) some = some (c y) := by intro; rfl) (hw : want ops L g = some true := by rfl) : Kn σ0 L es ((elt sl j).bind f = some r) (opsX P O ops m (⟨some d, .indexAddr t x i, ty, ps, af, g⟩ :: l) K) := fun hp s σ hS hH => by
  obtain ⟨y, hy, hp⟩ := bind_some hp
  exact q_elt (c y) hw hS hx hi he hz hy (by rw [Lit.h]; have := hc y; rw [foL_eq] at this; injection this) fun rest s' hS' => k y rest hy hp s' σ hS' hH
theorem k_byte {x i : Operand} {t : TypeId} {w : ByteArray} {kk : IntKind} {j : Int} {f : Int → Option γ} (k : ∀ y, byteAt w j = some y → Kn σ0 ((d, .int .u8 y) :: L) es (f y = some r) (opsX P O ops (nxM m) l K)) (hx : gE (get L) x = some (.str w) := by rfl) (hi : gE (get L) i = some (.int kk j) := by rfl) (ht : kindT P t = 3 := by kernel_rfl) (hw : want ops L g = some true := by rfl) : Kn σ0 L es ((byteAt w j).bind f = some r) (opsX P O ops m (⟨some d, .index t x i, ty, ps, af, g⟩ :: l) K) := fun hp s σ hS hH => by
  obtain ⟨y, hy, hp⟩ := bind_some hp
  exact q_byteO hw hS hx hi ht hy fun s' hS' => k y hy hp s' σ hS' hH
theorem k_cat {x y : Operand} {t u : TypeId} {a b : ByteArray} {f : ByteArray → Option γ} (k : ∀ c, catB a b = some c → Kn σ0 ((d, .str c) :: L) es (f c = some r) (opsX P O ops (nxM m) l K)) (hx : gE (get L) x = some (.str a) := by rfl) (hy : gE (get L) y = some (.str b) := by rfl) (hw : want ops L g = some true := by rfl) : Kn σ0 L es ((catB a b).bind f = some r) (opsX P O ops m (⟨some d, .binOp .add t x y u, ty, ps, af, g⟩ :: l) K) := fun hp s σ hS hH => by
  obtain ⟨c, hc, hp⟩ := bind_some hp
  exact q_catO hw hS hx hy hc fun s' hS' => k c hc hp s' σ hS' hH
end
def hlOk : T → Bool
  | .int .. | .bool _ | .str _ | .row .. | .nilp | .nilf | .nili | .nilm | .fn .. | .vw .. | .ptr .. => true
  | .agg cs => hlOks cs
  | .tup cs => hlOks cs
  | .ref .. | .emp => false
where hlOks : List T → Bool
  | [] => true
  | t :: ts => hlOk t && hlOks ts
mutual
theorem hl1 {ts vs : List T} {es : List Ent} : ∀ {t : T}, hlOk t = true → HL false ts vs es → HL false (t :: ts) (t :: vs) es
  | .int k n, _, h => HL.leaf (fun σ d => hold_int _ σ d _ _) h
  | .bool b, _, h => HL.leaf (fun σ d => by cases d <;> rfl) h
  | .str b, _, h => HL.leaf (fun σ d => by cases d <;> rfl) h
  | .row z n cs, _, h => HL.leaf (fun σ d => by cases d <;> cases z <;> cases n <;> cases cs <;> rfl) h
  | .emp, k, h => by cases k
  | .nilp, _, h => HL.leaf (fun σ d => by cases d <;> rfl) h
  | .nilf, _, h => HL.leaf (fun σ d => by cases d <;> rfl) h
  | .nili, _, h => HL.leaf (fun σ d => by cases d <;> rfl) h
  | .nilm, _, h => HL.leaf (fun σ d => by cases d <;> rfl) h
  | .fn f a b, _, h => HL.leaf (fun σ d => by cases d <;> rfl) h
  | .vw cs, _, h => HL.leaf (fun σ d => by cases d <;> rfl) h
  | .ptr b e o m, _, h => HL.leaf (fun σ d => by cases d <;> rfl) h
  | .agg cs, k, h => HL.agg (es1 := []) (hl2 (ts := cs) k) h
  | .tup cs, k, h => HL.tup (es1 := []) (hl2 (ts := cs) k) h
  | .ref .., k, h => by cases k
theorem hl2 : ∀ {ts : List T}, hlOk.hlOks ts = true → HL false ts ts []
  | [], _ => .nil
  | t :: ts, h => by
    simp only [hlOk.hlOks, Bool.and_eq_true] at h
    exact hl1 h.1 (hl2 h.2)
end
def HC (z : Bool) (ts vs : List T) (es es1 : List Ent) : Prop := ∃ ents, HL z ts vs ents ∧ es = ents ++ es1
section
variable {z : Bool} {ts vs cs us : List T} {es es1 es2 : List Ent}
theorem HC.nil : HC z [] [] es es := ⟨[], .nil, rfl⟩
theorem HC.i {k : IntKind} {n : Int} (h : HC z ts vs es es1) : HC z (.int k n :: ts) (.int k n :: vs) es es1 := let ⟨a, b, c⟩ := h; ⟨a, HLi b, c⟩
theorem HC.s {x : ByteArray} (h : HC z ts vs es es1) : HC z (.str x :: ts) (.str x :: vs) es es1 := let ⟨a, b, c⟩ := h; ⟨a, HLs b, c⟩
theorem HC.b {x : Bool} (h : HC z ts vs es es1) : HC z (.bool x :: ts) (.bool x :: vs) es es1 := let ⟨a, b, c⟩ := h; ⟨a, HLb b, c⟩
theorem HC.n {α : Type} [Enc α] (h : HC z ts vs es es1) : HC z (Sl.t (⟨true, []⟩ : Sl α) :: ts) (Sl.t (⟨true, []⟩ : Sl α) :: vs) es es1 := let ⟨a, b, c⟩ := h; ⟨a, HLn b, c⟩
theorem HC.p {α : Type} [Enc α] {x : Sl α} (h : HC false ts vs es es1) : HC false (x.t :: ts) (x.t :: vs) es es1 := let ⟨a, b, c⟩ := h; ⟨a, HLp b, c⟩
theorem HC.own {z' : Bool} {w : Nat} {t v : T} (hz : (!z || z') = true) (h : HC z ts vs es es1) : HC z (t :: ts) (v :: vs) (.own z' w t v :: es) es1 := let ⟨a, b, c⟩ := h; ⟨_, HL.own hz b, by rw [c]; rfl⟩
theorem HC.agg (h : HC z cs us es es2) (k : HC z ts vs es2 es1) : HC z (.agg cs :: ts) (.agg us :: vs) es es1 := let ⟨a, b, c⟩ := h; let ⟨a', b', c'⟩ := k; ⟨a ++ a', HL.agg b b', by rw [c, c', List.append_assoc]⟩
theorem HC.of {ents : List Ent} (h : HL z ts vs ents) : HC z ts vs (ents ++ es1) es1 := ⟨_, h, rfl⟩
end
section
variable {P : Program} {md : Nat → Md} {X : Ext} {ops : Array Oper} {m : Mo} {l : List Oper} {K : Fr → Prop} {σ0 : St} {L L' : List (Nat × T)} {es es1 ents : List Ent} {β γ : Type} {eb : β → T} {r : γ} {fn : Nat} {h : β → Option γ}
variable {d : Nat} {ty : TypeId} {ps : String} {af : Array Edge} {g : Option (Nat × Bool)} {fo : Operand} {as : Array Operand} {tys : Array TypeId}
theorem k_call {xs : List T} (k : ∀ y, semV P md X eb fn xs = some y → Kn σ0 ((d, eb y) :: L) es (h y = some r) (opsX P (run P md X) ops (nxM m) l K)) (hf : gE (get L) fo = some (.fn fn [] []) := by rfl) (ha : gEs (get L) as.toList = some xs := by rfl) (hw : want ops L g = some true := by rfl) : Kn σ0 L es ((semV P md X eb fn xs).bind h = some r) (opsX P (run P md X) ops m (⟨some d, .call ⟨.value fo, as, tys⟩, ty, ps, af, g⟩ :: l) K) := fun hp s σ hS hH => by
  obtain ⟨y, hy, hp⟩ := bind_some hp
  exact q_callF (a := []) (b := []) (xs := xs) hw hS hf ha (by simpa using hy) fun s' hS' => k y hy hp s' σ hS' hH
theorem one_of {σ : St} {es : List Ent} {z : Bool} {w : Nat} {t v : T} {i : Nat} (hH : Heap σ0 σ es) (h : es[i]? = some (.own z w t v)) : IsOne t := Heap.one (hH.at i h)
theorem k_callO1 {Sh : Shape β} {ts vs : List T} {es1 : List Ent} {es' : β → T → List Ent} (k : ∀ y t, semO P md X Sh fn vs = some y → IsOne t → Kn σ0 ((d, Sh.tree [t] y) :: L) (es' y t) (h y = some r) (opsX P (run P md X) ops (nxM m) l K)) (hn : Sh.n = 1 := by rfl) (hf : gE (get L) fo = some (.fn fn [] []) := by rfl) (ha : gEs (get L) as.toList = some ts := by rfl) (hh : HC false ts vs es es1 := by repeat (first | exact HC.nil | apply HC.i | apply HC.s | apply HC.b | apply HC.n | apply HC.p | apply HC.agg | apply HC.own rfl))
    (he : ∀ y t, foL (Sh.en [t] y ++ es) some = some (es' y t) := by intros; rfl) {z : β → T → Bool} {w : β → T → Nat} {v : β → T → T} (ho : ∀ y t, (es' y t)[0]? = some (.own (z y t) (w y t) t (v y t)) := by intros; rfl) (hv : md fn = .own := by rfl) (hm : m.chg = true := by rfl) (hw : want ops L g = some true := by rfl) : Kn σ0 L es ((semO P md X Sh fn vs).bind h = some r) (opsX P (run P md X) ops m (⟨some d, .call ⟨.value fo, as, tys⟩, ty, ps, af, g⟩ :: l) K) := fun hp s σ hS hH => by
  obtain ⟨y, hy, hp⟩ := bind_some hp
  obtain ⟨ents, hh, hE⟩ := hh
  refine q_callO hm hw hS hf ha hv (hE ▸ hH) hh hy fun hs σ' s' hl hH' hS' => ?_
  rw [hn] at hl
  rw [← hE] at hH'
  match hs, hl with
  | [t], _ =>
    have := he y t; rw [foL_eq] at this; injection this with this
    rw [this] at hH'
    exact k y t hy (one_of hH' (ho y t)) hp s' σ' hS' hH'
end
def KR (P : Program) (σ0 : St) (L : List (Nat × T)) (es : List Ent) (rs : List ResultVar) (l : List T) : Prop := ∀ s σ, Sub L s → Heap σ0 σ es → resL P ⟨s, σ⟩ rs = some l
def okX : AExit → Bool
  | .exit _ => false
  | _ => true
section
variable {P : Program} {md : Nat → Md} {X : Ext} {O : Oracle} {σ0 : St} {L L0 : List (Nat × T)} {es es1 ents : List Ent} {β : Type} {eb : β → T} {r v : β} {f n : Nat} {p : Prop} {c : Code} {rs : List ResultVar} {args l : List T} {w : Wh} {k : List Ct} {e : AExit} {Sh : Shape β}
theorem rN : KR P σ0 L es [] [] := fun _ _ _ _ => rfl
theorem rT {t : Nat} {v : T} (kk : KR P σ0 L es rs l) (h : get L t = some v := by rfl) : KR P σ0 L es (.tmp t :: rs) (v :: l) := fun s σ hS hH => r_tmp hS h (kk s σ hS hH)
theorem rC {a : Nat} {ty : TypeId} {b e off n : Nat} {cells cs : List T} {v : T} (i : Nat) (kk : KR P σ0 L es rs l) (h : get L a = some (.ptr b e off n) := by rfl) (he : es[i]? = some (.box b cells) := by rfl) (hc : drL off cells = some cs := by rfl) (hv : partF P ty cs 0 = some v := by rfl) (hn : part P ty (cs.take n) 0 = some v := by kernel_rfl) : KR P σ0 L es (.cell a ty :: rs) (v :: l) := fun s σ hS hH =>
  r_cell (e := e) hS (hH.at i he) h (by rw [← (drL_some hc).2]; exact hn) (kk s σ hS hH)
theorem k_W (hok : Ok P f c n rs) (hi : ∀ a b, eb a = eb b → a = b) (hp : p) (kk : ∀ σ0, Kn σ0 L0 [] p (whQ P (run P md X) w k (endW P rs σ0 (eb r)))) (hf : args.all flat3 = true := by kernel_rfl) (hv : md f = .view := by rfl) (hX : X f = none := by rfl) (hlen : Nat.ble args.length n = true := by kernel_rfl) (hL : foL (nums 0 args) some = some L0 := by rfl) (hc : nx 99 (.c c) [] = some (w, k) := by rfl) : semV P md X eb f args = some r :=
  semW_of hi hv hX hok hlen hf fun σ s hS hH => nx_ok (w := .c c) hc (kk σ hp s σ (by rw [foL_eq] at hL; injection hL with hL; rw [← hL]; exact hS) hH)
theorem k_O (hok : Ok P f c n rs) (hp : p) (kk : ∀ σ0, Kn σ0 L0 [] p (whQ P (run P md X) w k (endOw P rs σ0 Sh r))) (hf : args.all flat3 = true := by kernel_rfl) (hv : md f = .own := by rfl) (hX : X f = none := by rfl) (hlen : Nat.ble args.length n = true := by kernel_rfl) (hL : foL (nums 0 args) some = some L0 := by rfl) (hc : nx 99 (.c c) [] = some (w, k) := by rfl) : semO P md X Sh f args = some r :=
  semO_of hv hX hok hlen hf fun σ s hS hH => nx_ok (w := .c c) hc (kk σ hp s σ (by rw [foL_eq] at hL; injection hL with hL; rw [← hL]; exact hS) hH)
theorem k_eW (hr : KR P σ0 L es rs l) (hp : ∀ v, pureT (eb v) = true) (ht : tupOf l = eb v := by rfl) (hf : flat3 (eb v) = true := by kernel_rfl) (he : okX e = true := by rfl) : Kn σ0 L es (some v = some r) (whQ P O (.x e) [] (endW P rs σ0 (eb r))) := fun h s σ hS hH => by
  injection h with h; subst h
  have := end_W hH (hr s σ hS hH) ht hf (hp v)
  cases e with
  | exit i => cases he
  | _ => exact this
theorem eW {s : Nat → T} {σ : St} (hS : Sub L s) (hH : Heap σ0 σ es) (hr : KR P σ0 L es rs l) (hp : ∀ v, pureT (eb v) = true) (ht : tupOf l = eb v := by rfl) (hf : flat3 (eb v) = true := by kernel_rfl) : endW P rs σ0 (eb v) .ret ⟨s, σ⟩ := end_W hH (hr s σ hS hH) ht hf (hp v)
theorem k_eO (hs : List T) (hr : KR P σ0 L es rs l) (ht : tupOf l = Sh.tree hs v := by rfl) (hn : hs.length = Sh.n := by rfl) (he : es = Sh.en hs v ++ es1 := by rfl) (hx : okX e = true := by rfl) : Kn σ0 L es (some v = some r) (whQ P O (.x e) [] (endOw P rs σ0 Sh r)) := fun h s σ hS hH => by
  injection h with h; subst h
  have := end_Ow (P := P) hs es1 (hr s σ hS hH) ht hn hH he
  cases e with
  | exit i => cases hx
  | _ => exact this
end
def splitF : Nat → List Ct → Option (List Ct × List Ct)
  | 0, k => some ([], k)
  | n + 1, x :: k => match splitF n k with
    | some (a, b) => some (x :: a, b)
    | none => none
  | _ + 1, [] => none
theorem popQ_split {P : Program} {O : Oracle} {Q : AExit → Fr → Prop} : ∀ {n : Nat} {k a b : List Ct}, splitF n k = some (a, b) → popQ P O k Q = popQ P O a (popQ P O b Q)
  | 0, k, a, b, h => by injection h with h; injection h with h1 h2; subst h1; subst h2; rfl
  | n + 1, [], _, _, h => by cases h
  | n + 1, x :: k, a, b, h => by
    simp only [splitF] at h
    split at h
    · rename_i a' b' hs
      injection h with h; injection h with h1 h2; subst h1; subst h2
      cases x with
      | s c => simp only [popQ]; rw [popQ_split hs]
      | b i => simp only [popQ]; rw [popQ_split hs]
    · cases h
theorem popQ_mono {P : Program} {O : Oracle} {k : List Ct} : ∀ {Q Q' : AExit → Fr → Prop}, (∀ e fr, Q e fr → Q' e fr) → ∀ e fr, popQ P O k Q e fr → popQ P O k Q' e fr := by
  induction k with
  | nil => exact fun h => h
  | cons x k ih =>
    intro Q Q' h e fr hh
    cases x with
    | s c =>
      cases e with
      | normal => exact codeQ_mono (ih h) hh
      | exit i => exact ih h (.exit i) fr hh
      | ret => exact ih h .ret fr hh
    | b i =>
      cases e with
      | normal => exact ih h .normal fr hh
      | exit j => exact ih h _ fr hh
      | ret => exact ih h .ret fr hh
theorem whQ_mono {P : Program} {O : Oracle} {w : Wh} {k : List Ct} {Q Q' : AExit → Fr → Prop} (h : ∀ e fr, Q e fr → Q' e fr) {fr : Fr} (hh : whQ P O w k Q fr) : whQ P O w k Q' fr := by
  cases w with
  | c c => exact codeQ_mono (popQ_mono h) hh
  | x e => exact popQ_mono h _ _ hh
section
variable {P : Program} {O : Oracle} {ops : Array Oper} {σ0 : St} {L L1 : List (Nat × T)} {es es' : List Ent} {β γ S : Type} {r : γ} {p : Prop} {G : Fr → Prop}
variable {Q : AExit → Fr → Prop} {k ka kb k1 : List Ct} {w w1 : Wh} {s : Nat → T} {σ : St} {e : AExit} {c : Code}
theorem t_cut {A : Option β} {h : β → Option γ} (n : Nat) (F : β → AExit → Fr → Prop) (h2 : ∀ y e fr, h y = some r → F y e fr → popQ P O kb Q e fr) (h1 : ∀ y, Kn σ0 L es (A = some y) (whQ P O w ka (F y))) (hs : splitF n k = some (ka, kb) := by rfl) : Kn σ0 L es (A.bind h = some r) (whQ P O w k Q) := fun hp s σ hS hH => by
  obtain ⟨y, hy, hp⟩ := bind_some hp
  have := whQ_mono (fun e fr => h2 y e fr hp) (h1 y hy s σ hS hH)
  cases w with
  | c c => simp only [whQ] at this ⊢; rw [popQ_split hs]; exact this
  | x e => simp only [whQ] at this ⊢; rw [popQ_split hs]; exact this
theorem t_bx (h : p) (hS : Sub L s) (hH : Heap σ0 σ es) (kk : Kn σ0 L es p (whQ P O w1 k1 Q)) (hn : nx 99 (.x e) k = some (w1, k1) := by rfl) : popQ P O k Q e ⟨s, σ⟩ := nx_ok (w := .x e) hn (kk h s σ hS hH)
theorem t_e {v y : γ} (kk : ∀ {s σ}, y = v → Sub L s → Heap σ0 σ es → Q e ⟨s, σ⟩) : Kn σ0 L es (some v = some y) (whQ P O (.x e) [] Q) := fun h s σ hS hH => kk (by injection h with h; exact h.symm) hS hH
theorem t_loop {body : S → Option (S ⊕ β)} {s0 : S} {h : β → Option γ} (Inv : S → Fr → Prop) (F : β → AExit → Fr → Prop) (hi : ∀ {s σ}, Sub L s → Heap σ0 σ es → Inv s0 ⟨s, σ⟩) (hr : ∀ st x fr, body st = some x → Inv st fr → whQ P O w1 k1 (roundQ Inv F x) fr) (hk : ∀ y e fr, h y = some r → F y e fr → popQ P O k Q e fr) (hn : nx 99 (.c c) [] = some (w1, k1) := by rfl) : Kn σ0 L es ((loopO body s0).bind h = some r) (whQ P O (.c (.loop c)) k Q) := fun hp s σ hS hH => by
  obtain ⟨y, hy, hp⟩ := bind_some hp
  exact c_loop Inv F hy (hi hS hH) (fun st x fr hb hI => nx_ok (w := .c c) (k := []) hn (hr st x fr hb hI)) (fun e fr => hk y e fr hp)
theorem t_D {id : Nat} (kk : ∀ mb, Kn σ0 L es p (opsX P O ops (.d mb 0) ops.toList (popQ P O k Q .normal))) (hd : drawOk ops = true := by kernel_rfl) : Kn σ0 L es p (whQ P O (.c (.region id ops true)) k Q) := fun hp s σ hS hH =>
  c_draw (id := id) hd hH fun mb σ' hH' => kk mb hp s σ' hS hH'
end
section
variable {P : Program} {md : Nat → Md} {X : Ext} {ops : Array Oper} {σ0 : St} {L : List (Nat × T)} {es : List Ent} {p : Prop} {Q : AExit → Fr → Prop} {k : List Ct}
theorem t_chain {id : Nat} (W : List (Nat × (Nat → Prop))) (hX : XOk X) (kk : ∀ B σs, σ0.next ≤ B → (∀ x cells, Ent.box x cells ∈ es → x < B) → (∀ z w t v, Ent.own z w t v ∈ es → ∀ b e o n, t = .ref b e o n → b < B) → Kn σ0 L es p (opsX P (run P md X) ops (.c B 0 (Wc W) σs (cmpOf [] md ops)) ops.toList (popQ P (run P md X) k Q .normal))) (hst : drawOk ops = true := by kernel_rfl) (hch : chainB [] md ops = true := by kernel_rfl) : Kn σ0 L es p (whQ P (run P md X) (.c (.region id ops true)) k Q) := fun hp s σ hS hH =>
  c_chain (id := id) [] (Wc W) hX hst hch hH fun B σs σ' h1 h2 h3 hH' => kk B σs h1 h2 h3 hp s σ' hS hH'
theorem t_chainV {id : Nat} (vs : List Nat) (W : List (Nat × (Nat → Prop))) (hX : XOk X) (kk : ∀ B σs, σ0.next ≤ B → (∀ x cells, Ent.box x cells ∈ es → x < B) → (∀ z w t v, Ent.own z w t v ∈ es → ∀ b e o n, t = .ref b e o n → b < B) → Kn σ0 L es p (opsX P (run P md X) ops (.c B 0 (Wc W) σs (cmpOf vs md ops)) ops.toList (popQ P (run P md X) k Q .normal))) (hst : drawOk ops = true := by kernel_rfl) (hch : chainB vs md ops = true := by kernel_rfl) : Kn σ0 L es p (whQ P (run P md X) (.c (.region id ops true)) k Q) := fun hp s σ hS hH =>
  c_chain (id := id) vs (Wc W) hX hst hch hH fun B σs σ' h1 h2 h3 hH' => kk B σs h1 h2 h3 hp s σ' hS hH'
end
section
variable {σ0 : St} {es : List Ent} {bs : List Nat} {cs : List (List T)} {b : Nat} {c : List T}
end
section
variable {P : Program} {md : Nat → Md} {X : Ext} {ops : Array Oper} {m : Mo} {l : List Oper} {K : Fr → Prop} {σ0 : St} {L L' : List (Nat × T)} {es ents : List Ent} {β γ : Type} {eb : β → T} {r : γ} {fn : Nat} {h : β → Option γ}
variable {d : Nat} {dO : Option Nat} {ty : TypeId} {ps : String} {af : Array Edge} {g : Option (Nat × Bool)} {fo : Operand} {as : Array Operand} {tys : Array TypeId}
theorem k_callH {ts vs : List T} {es1 : List Ent} (k : ∀ y, semV P md X eb fn vs = some y → Kn σ0 ((d, eb y) :: L) es (h y = some r) (opsX P (run P md X) ops (nxM m) l K)) (hlf : ∀ y, leafT (eb y) = true := by intro; kernel_rfl) (hf : gE (get L) fo = some (.fn fn [] []) := by rfl) (ha : gEs (get L) as.toList = some ts := by rfl) (hh : HC false ts vs es es1 := by repeat (first | exact HC.nil | apply HC.i | apply HC.s | apply HC.b | apply HC.n | apply HC.p | apply HC.agg | apply HC.own rfl)) (hv : md fn = .view := by rfl) (hw : want ops L g = some true := by rfl) (hvw : m.vw = false := by rfl) : Kn σ0 L es ((semV P md X eb fn vs).bind h = some r) (opsX P (run P md X) ops m (⟨some d, .call ⟨.value fo, as, tys⟩, ty, ps, af, g⟩ :: l) K) := fun hp s σ hS hH => by
  obtain ⟨y, hy, hp⟩ := bind_some hp
  obtain ⟨ents, hh, hE⟩ := hh
  exact q_callH hw hS hf ha hv (hE ▸ hH) hh hy (hlf y) (fun s' hS' => k y hy hp s' σ hS' hH) hvw
end
section
variable {σ0 : St} {L : List (Nat × T)} {es es' : List Ent} {p : Prop} {G : Fr → Prop} {α β : Type} {r : α}
theorem el_l {γ : Type} {f : α → Option γ} {g : β → Option γ} {a : α} {r : γ} (h : Sum.elim f g (Sum.inl a) = some r) : f a = some r := h
theorem el_r {γ : Type} {f : α → Option γ} {g : β → Option γ} {a : β} {r : γ} (h : Sum.elim f g (Sum.inr a) = some r) : g a = some r := h
end
def gVF (g : Nat → Option T) : Nat → List (Nat × Operand) → Option (List T)
  | _, [] => some []
  | i, (j, x) :: l => match Nat.beq i j with
    | true => match gE g x with
      | some v => match gVF g (i + 1) l with
        | some vs => some (v :: vs)
        | none => none
      | none => none
    | false => none
theorem gVF_ok {g : Nat → Option T} : ∀ {l : List (Nat × Operand)} {i : Nat} {vs : List T}, gVF g i l = some vs → gPs g l = some (enumV i vs)
  | [], i, vs, h => by injection h with h; subst h; rfl
  | (j, x) :: l, i, vs, h => by
    simp only [gVF] at h
    split at h
    · rename_i hb
      split at h
      · rename_i v hv
        split at h
        · rename_i us hu
          injection h with h; subst h
          simp only [gPs, hv, gVF_ok hu, enumV, Nat.eq_of_beq_eq_true hb]
        · cases h
      · cases h
    · cases h
def csF : List T → Option (List T)
  | [] => some []
  | v :: vs => match cellsF v with
    | some c => match csF vs with
      | some r => foL (c ++ r) some
      | none => none
    | none => none
theorem csF_ok : ∀ {vs cs : List T}, csF vs = some cs → vs.flatMap T.cells = cs
  | [], cs, h => by injection h
  | v :: vs, cs, h => by
    simp only [csF] at h
    split at h
    · rename_i c hc
      split at h
      · rename_i r hr
        rw [foL_eq] at h; injection h with h; subst h
        rw [List.flatMap_cons, cellsF_ok hc, csF_ok hr]
      · cases h
    · cases h
theorem allV_of {sz : Nat} : ∀ {vs : List T}, (vs.all fun v => Nat.beq v.cells.length sz) = true → (vs.flatMap T.cells).all T.one = true → allV sz vs
  | [], _, _ => trivial
  | v :: vs, h, k => by
    simp only [List.all_cons, Bool.and_eq_true] at h
    rw [List.flatMap_cons, List.all_append, Bool.and_eq_true] at k
    exact ⟨Nat.eq_of_beq_eq_true h.1, k.1, allV_of h.2 k.2⟩
def litL {α : Type} [Enc α] [Lit α] : List α → List T
  | [] => []
  | x :: l => Lit.c x ++ litL l
theorem litL_eq {α : Type} [Enc α] [Lit α] : ∀ (l : List α), cellsL l = litL l
  | [] => rfl
  | x :: l => by rw [cellsL, litL, Lit.h, litL_eq l]
section
variable {P : Program} {O : Oracle} {ops : Array Oper} {m : Mo} {l : List Oper} {K : Fr → Prop} {σ0 : St} {L L' : List (Nat × T)} {es es1 es' ents : List Ent} {γ : Type} {r : γ} {p : Prop} {α : Type} [Enc α]
variable {d : Nat} {dO : Option Nat} {ty : TypeId} {ps : String} {af : Array Edge} {g : Option (Nat × Bool)} {t t2 e by_ w sz len : Nat} {x y i0 : Operand} {z : Bool} {t1 ty1 : T} {zc : List T} {parts : Array (Nat × Operand)} {kk0 : IntKind} {j : Int}
theorem k_bs [Lit α] {vs cs us : List T} (a : Sl α) (kk : ∀ t', IsOne t' → Kn σ0 ((d, t') :: L) (.own z sz t' a.t :: es1) p (opsX P O ops (nxM m) l K)) (hg : gVF (get L) 0 parts.toList = some vs := by rfl) (hc : csF vs = some cs := by rfl) (hu : foL (litL a.l) some = some us := by rfl) (hh : HC z cs us es es1 := by repeat (first | exact HC.nil | apply HC.i | apply HC.s | apply HC.b | apply HC.n | apply HC.p | apply HC.agg | apply HC.own rfl)) (he : elemOfSl P t = some e := by rfl) (hz : szOf P e = some sz := by rfl) (hzz : zeroOf P e = some zc := by rfl) (hl : (Nat.beq zc.length sz && Nat.beq vs.length len && Nat.ble (len * sz) 16777216 && !Nat.beq sz 0 && !Nat.beq len 0) = true := by kernel_rfl) (hv : (vs.all fun v => Nat.beq v.cells.length sz) = true := by kernel_rfl) (h1 : cs.all T.one = true := by kernel_rfl) (hr : T.row false len (cellsL a.l) = a.t := by rfl) (hb : m.base σ0 := by exact trivial) (hm : m.chg = true := by rfl) (hw : want ops L g = some true := by rfl) : Kn σ0 L es p (opsX P O ops m (⟨some d, .buildSlice t len parts, ty, ps, af, g⟩ :: l) K) := fun hp s σ hS hH => by
  obtain ⟨ents, hh, hE⟩ := hh
  exact q_bsC hm hb hw hS (hE ▸ hH) (gVF_ok hg) he hz hzz hl (allV_of hv (by rw [csF_ok hc]; exact h1)) (csF_ok hc) hh (by rw [foL_eq] at hu; injection hu with hu; rw [← hu, ← litL_eq]; exact hr) fun t' σ' s' h1 h2 h3 => kk t' h1 hp s' σ' h3 h2
theorem k_app {a b : Sl α} {f : Sl α → Option γ} (i i2 : Nat) (k : ∀ c t', appS by_ a b = some c → IsOne t' → Kn σ0 ((d, t') :: L) (.own z (Enc.w α) t' c.t :: es') (f c = some r) (opsX P O ops (nxM m) l K)) (hx : gE (get L) x = some t1 := by rfl) (hy : gE (get L) y = some ty1 := by rfl) (h1 : pickE i es = some (.own z (Enc.w α) t1 a.t, es1) := by rfl) (h2 : pickE i2 es1 = some (.own z (Enc.w α) ty1 b.t, es') := by rfl)
    (he : elemOfSl P t = some e := by rfl) (hz : szOf P e = some (Enc.w α) := by kernel_rfl) (hby : bytesOf P e = some by_ := by kernel_rfl) (hzz : zeroOf P e = some zc := by rfl) (hcl : (!isIntT P t2 && Nat.beq zc.length (Enc.w α) && !Nat.beq (Enc.w α) 0 && !Nat.beq by_ 0 && Nat.ble by_ 1048576) = true := by kernel_rfl) (hk : kindT P t2 = 4 := by kernel_rfl) (hb : m.base σ0 := by exact trivial) (hwr : ∀ {σ}, Heap σ0 σ es → ∀ b e o n, t1 = .ref b e o n → m.wr b := by exact fun _ _ _ _ _ _ => trivial) (hm : m.chg = true := by rfl) (hw : want ops L g = some true := by rfl) : Kn σ0 L es ((appS by_ a b).bind f = some r) (opsX P O ops m (⟨some d, .call ⟨.builtin .append, #[x, y], #[t, t2]⟩, ty, ps, af, g⟩ :: l) K) := fun hp s σ hS hH => by
  obtain ⟨c, hc, hp⟩ := bind_some hp
  have hH0 := hH
  have hH : Heap σ0 σ (.own z (Enc.w α) t1 a.t :: .own z (Enc.w α) ty1 b.t :: es') := (hH.pick h1).perm ((pickE_perm h2).cons _)
  exact q_appC hm hb (hwr hH0) hw hS hH hx hy he hz hby hzz hcl hk hc fun t' σ' s' h1 h2 h3 => k c t' hc h1 hp s' σ' h3 h2
theorem k_hidx {a : Sl α} {f : α → Option γ} (i : Nat) (k : ∀ b ep y, elt a j = some y → t1 = .ref b ep 0 a.l.length → Kn σ0 ((d, .ptr b ep (j.toNat * Enc.w α) (Enc.w α)) :: L) es (f y = some r) (opsX P O ops (nxM m) l K)) (hx : gE (get L) x = some t1 := by rfl) (hi : gE (get L) i0 = some (.int kk0 j) := by rfl) (h1 : es[i]? = some (.own z w t1 a.t) := by rfl) (he : elemOfSl P t = some e := by rfl) (hz : szOf P e = some (Enc.w α) := by kernel_rfl) (hlt : ∀ b e o n, t1 = .ref b e o n → m.lt b := by exact fun _ _ _ _ _ => trivial) (hw : want ops L g = some true := by rfl) : Kn σ0 L es ((elt a j).bind f = some r) (opsX P O ops m (⟨some d, .indexAddr t x i0, ty, ps, af, g⟩ :: l) K) := fun hp s σ hS hH => by
  obtain ⟨y, hy, hp⟩ := bind_some hp
  exact q_hidx (z := z) (w := w) hlt hw hS (hH.at i h1) hx hi he hz hy fun b ep s' hr h3 => k b ep y hy hr hp s' σ h3 hH
end
section
variable {P : Program} {O : Oracle} {ops : Array Oper} {m : Mo} {l : List Oper} {K : Fr → Prop} {σ0 σk : St} {F : List Nat} {L : List (Nat × T)} {es : List Ent} {p : Prop}
variable {d : Nat} {ty : TypeId} {ps : String} {af : Array Edge} {g : Option (Nat × Bool)} {t : TypeId} {x : Operand} {pp : T} {c : List T}
end
end Go.Am
end
section
set_option linter.unusedVariables false
set_option linter.unusedSimpArgs false
namespace Go.Am
section
variable {P : Program} {O : Oracle} {ops : Array Oper} {m : Mo} {l : List Oper} {K : Fr → Prop} {s : Nat → T} {σ σ0 : St} {L : List (Nat × T)} {es es' ents : List Ent} {γ : Type} {r0 : γ} {p : Prop}
variable {d0 : Nat} {d : Option Nat} {ty : TypeId} {ps : String} {af : Array Edge} {g : Option (Nat × Bool)}
theorem convA_toK {σ : St} {k : Option Nat} {src dst e : TypeId} {x : T} {n : Nat} {cs : List T} {l : List UInt8} (hx : isTop x = true) (h1 : kindT P dst = 3) (he : elemOfSl P src = some e) (h3 : kindT P e = 10) (hc : cellsOf σ x = some (n, cs)) (hn : cs.length = n) (hb : ofBytes cs = some l) : convA P k σ src dst x = some (.str ⟨l.toArray⟩, σ) := by
  have key : convA P k σ src dst x = if kindT P dst = 3 then (elemOfSl P src).bind fun e => if kindT P e = 10 then (cellsOf σ x).bind fun (n, cs) => if cs.length = n then (ofBytes cs).map fun l => (.str ⟨l.toArray⟩, σ) else none else none else none := by
    cases x <;> first | rfl | (simp [isTop] at hx; done)
  rw [key, if_pos h1, he, Option.bind_some, if_pos h3, hc, Option.bind_some]
  simp only
  rw [if_pos hn, hb]; rfl
theorem q_b2sC (hq : m.seq = true) {z : Bool} {wd : Nat} {x : Operand} {src dst e : TypeId} {t1 : T} {a : Sl (Iv .u8)} {r : ByteArray} (hw : want ops L g = some true) (hS : Sub L s) (hH : Heap σ0 σ (.own z wd t1 a.t :: es)) (hx : gE (get L) x = some t1) (hk : Nat.beq (kindT P dst) 3 = true) (he : elemOfSl P src = some e) (hke : Nat.beq (kindT P e) 10 = true) (hr : strS a = some r)
    (k : ∀ s', Sub (putL L d (.str r)) s' → opsX P O ops (nxM m) l K ⟨s', σ⟩) : opsX P O ops m (⟨d, .convert src dst x, ty, ps, af, g⟩ :: l) K ⟨s, σ⟩ := by
  obtain ⟨S, ⟨ht, hwd, k', h2⟩, _, _⟩ := hH.head
  have ea : a.t = .row a.z a.l.length (cellsL a.l) := rfl
  rw [ea] at h2
  have hone : Enc.w (Iv .u8) = 1 := rfl
  obtain ⟨l0, h4, h5⟩ := Option.map_eq_some_iff.1 hr
  have h1 := Nat.eq_of_beq_eq_true hk; have h3 := Nat.eq_of_beq_eq_true hke
  have hof : ∀ cs, cs = cellsL a.l → ofBytes cs = some l0 := fun cs h => by rw [h, ofIv_cells, h4]
  have leaf : ∀ {k : Nat} (as : List (Iv .u8)) (ts : List T) (S : List Nat), frzL (hold z σ k) ts = some (cellsL as, S) → ts = cellsL as := by
    intro k as
    induction as with
    | nil => intro ts S h; have := frzL_length h; exact List.length_eq_zero_iff.1 (by simpa [cellsL] using this.symm)
    | cons x as ih =>
      intro ts S h
      have h : frzL (hold z σ k) ts = some (.int .u8 x.v :: cellsL as, S) := h
      cases ts with
      | nil => simp [frzL] at h
      | cons t ts =>
        simp only [frzL] at h
        obtain ⟨⟨p1, p2⟩, q1, q2⟩ := Option.bind_eq_some_iff.1 h
        obtain ⟨⟨r1, r2⟩, q3, q4⟩ := Option.map_eq_some_iff.1 q2
        injection q4 with q4 _
        injection q4 with e1 e2
        subst e1; subst e2
        have := leaf_int (z := z) (k := .u8) (n := x.v) σ k t p2 q1
        rw [this, ih ts r2 q3]; rfl
  have hconv : ∀ kk, convA P kk σ src dst t1 = some (.str r, σ) := by
    intro kk
    subst h5
    rcases hold_top ht h2 with ⟨rfl, hz, hn0, hcs, rfl⟩ | ⟨rfl, hz, hn0, hcs, rfl⟩ | ⟨hzz, x', B, S', k'', rfl, hB, c1, c3, c5, c6, c7, h3', rfl⟩
    · exact convA_toK ht h1 he h3 (n := 0) (cs := []) rfl rfl (hof _ hcs.symm)
    · exact convA_toK ht h1 he h3 (n := 0) (cs := []) rfl rfl (hof _ hcs.symm)
    · have e1 : (B.cells.drop 0).take (a.l.length * B.esz) = B.cells := by rw [List.drop_zero, ← c5, List.take_length]
      have e2 : B.cells = cellsL a.l := leaf _ _ _ h3'
      refine convA_toK ht h1 he h3 (n := a.l.length) (cs := B.cells) ?_ (by rw [e2, cellsL_len, hone, Nat.mul_one]) (hof _ e2)
      simp only [cellsOf, hB, Option.bind_some, if_pos c3, e1]
  refine q_val hw hS (fun kk σ' ha => ?_) k
  rw [Mo.al_seq ha hq, a_convert, gE_sound hS hx, Option.bind_some, hconv]; rfl
theorem k_b2s {z : Bool} {wd : Nat} {x : Operand} {src dst e : TypeId} {t1 : T} {a : Sl (Iv .u8)} {f : ByteArray → Option γ} (i : Nat) (kk : ∀ y, strS a = some y → Kn σ0 ((d0, .str y) :: L) es (f y = some r0) (opsX P O ops (nxM m) l K)) (hx : gE (get L) x = some t1 := by rfl) (h1 : pickE i es = some (.own z wd t1 a.t, es') := by rfl) (hk : Nat.beq (kindT P dst) 3 = true := by kernel_rfl) (he : elemOfSl P src = some e := by rfl) (hke : Nat.beq (kindT P e) 10 = true := by kernel_rfl) (hq : m.seq = true := by rfl) (hw : want ops L g = some true := by rfl) : Kn σ0 L es ((strS a).bind f = some r0) (opsX P O ops m (⟨some d0, .convert src dst x, ty, ps, af, g⟩ :: l) K) := fun hp s σ hS hH => by
  obtain ⟨y, hy, hp⟩ := bind_some hp
  exact q_b2sC hq hw hS (hH.pick h1) hx hk he hke hy fun s' hS' => kk y hy hp s' σ hS' hH
end
end Go.Am
end
section
set_option linter.unusedVariables false
set_option linter.unusedSimpArgs false
namespace Go.Am
def A2 {α : Type} (R : α → α → Prop) : List α → List α → Prop
  | [], [] => True
  | x :: xs, y :: ys => R x y ∧ A2 R xs ys
  | _, _ => False
theorem A2.refl {α : Type} {R : α → α → Prop} : ∀ {l : List α}, (∀ x ∈ l, R x x) → A2 R l l
  | [], _ => trivial
  | x :: xs, h => ⟨h x (by simp), A2.refl (fun y hy => h y (by simp [hy]))⟩
theorem A2.len {α : Type} {R : α → α → Prop} : ∀ {l m : List α}, A2 R l m → l.length = m.length
  | [], [], _ => rfl
  | _ :: xs, _ :: ys, h => by simp [A2.len h.2]
  | [], _ :: _, h => h.elim
  | _ :: _, [], h => h.elim
theorem A2.drop {α : Type} {R : α → α → Prop} {l m : List α} {i : Nat} {x y : α} (hx : l[i]? = some x) (hy : m[i]? = some y) : A2 R (l.drop i) (m.drop i) ↔ R x y ∧ A2 R (l.drop (i + 1)) (m.drop (i + 1)) := by
  obtain ⟨h1, rfl⟩ := List.getElem?_eq_some_iff.1 hx
  obtain ⟨h2, rfl⟩ := List.getElem?_eq_some_iff.1 hy
  rw [List.drop_eq_getElem_cons h1, List.drop_eq_getElem_cons h2]
  exact Iff.rfl
theorem wrap_id {n : Int} (h0 : -9223372036854775808 ≤ n) (h1 : n < 9223372036854775808) : IntKind.i64.wrap n = n := by
  simp only [IntKind.wrap, IntKind.signed, IntKind.bits]
  simp
  omega
theorem elt_nat {α : Type} {s : Sl α} {i : Nat} {x : α} (h : s.l[i]? = some x) : elt s (i : Int) = some x := by
  simp [elt, h]
/- sizes -/
def SzOk (o : Option Int) (l : Int) (P : Prop) : Prop := o = some (-1) ∨ ∃ l', o = some l' ∧ 0 ≤ l' ∧ l' ≤ l ∧ P
theorem SzOk.imp {o : Option Int} {l m : Int} {P Q : Prop} (h : SzOk o l P) (hm : l ≤ m) (f : P → Q) : SzOk o m Q := by
  rcases h with h | ⟨l', h1, h2, h3, h4⟩
  · exact .inl h
  · exact .inr ⟨l', h1, h2, by omega, f h4⟩
theorem sz_u {B F : Option Int} {l : Int} {P : Prop} (u : ∀ r, B = some r → F = some r) (h : SzOk B l P) : SzOk F l P := by
  rcases h with h | ⟨l', h1, h2⟩
  · exact .inl (u _ h)
  · exact .inr ⟨l', u _ h1, h2⟩
theorem sz_end {l : Int} {Q : Prop} (h : 0 ≤ l) (q : Q) : SzOk (some l) l Q := .inr ⟨l, rfl, h, by omega, q⟩
theorem sz_if {l l' : Int} {K : Option Int} {Q : Prop} (hl : l' ≤ l) (h : 0 ≤ l' → SzOk K l' Q) : SzOk (if decide (l' < 0) = true then some (-1) else K) l Q := by
  by_cases hn : l' < 0
  · exact .inl (by simp [hn])
  · rw [if_neg (by simpa using hn)]
    exact (h (by omega)).imp hl (fun q => q)
theorem sz_bind {o : Option Int} {l : Int} {P Q : Prop} {k : Int → Option Int} (h : SzOk o l P) (hk : ∀ l', 0 ≤ l' → l' ≤ l → P → SzOk (k l') l' Q) : SzOk (o.bind fun y => if decide (y < 0) = true then some (-1) else k y) l Q := by
  rcases h with h | ⟨l', h1, h2, h3, h4⟩
  · subst h; exact .inl (by simp)
  · subst h1
    show SzOk (if decide (l' < 0) = true then some (-1) else k l') l Q
    rw [if_neg (by simp; omega)]
    exact (hk l' h2 h3 h4).imp h3 (fun q => q)
theorem loop_sz {α : Type} {P : α → Prop} {a : Sl α} {body : Int × Int → Option ((Int × Int) ⊕ (Int ⊕ Int))} {l : Int} (h0 : 0 ≤ l)
    (h1 : ∀ (i : Nat) x l', a.l[i]? = some x → 0 ≤ l' → l' ≤ l → body (l', i) = some (.inr (.inr (-1))) ∨ ∃ l'', body (l', i) = some (.inl (l'', (i : Int) + 1)) ∧ 0 ≤ l'' ∧ l'' ≤ l' ∧ P x)
    (h2 : ∀ l', body (l', (a.l.length : Int)) = some (.inr (.inl l'))) :
    SzOk ((loopO body (l, 0)).bind fun y => Sum.elim (fun y => some y) (fun y => some y) y) l (∀ x ∈ a.l, P x) := by
  suffices H : ∀ (k i : Nat), i + k = a.l.length → ∀ l', 0 ≤ l' → l' ≤ l → (loopO body (l', (i : Int)) = some (.inr (-1))) ∨ ∃ l'', loopO body (l', (i : Int)) = some (.inl l'') ∧ 0 ≤ l'' ∧ l'' ≤ l' ∧ ∀ x ∈ a.l.drop i, P x by
    rcases H a.l.length 0 (by simp) l h0 (by omega) with h | ⟨l', h, h3⟩
    · have h : loopO body (l, 0) = some (.inr (-1)) := h
      rw [h]; exact .inl rfl
    · have h : loopO body (l, 0) = some (.inl l') := h
      rw [h]; exact .inr ⟨l', rfl, by simpa using h3⟩
  intro k
  induction k with
  | zero =>
    intro i hi l' hl0 hl
    have : i = a.l.length := by omega
    subst this
    exact .inr ⟨l', loopO_stop (h2 l'), hl0, by omega, by simp⟩
  | succ k ih =>
    intro i hi l' hl0 hl
    have ha : i < a.l.length := by omega
    have ea : a.l[i]? = some a.l[i] := List.getElem?_eq_getElem ha
    rcases h1 i _ l' ea hl0 hl with h | ⟨l2, h, h3, h4, h5⟩
    · exact .inl (loopO_stop h)
    · have hc : ((i + 1 : Nat) : Int) = (i : Int) + 1 := by simp
      rcases ih (i + 1) (by omega) l2 h3 (by omega) with q | ⟨l3, q, q1, q2, q3⟩
      · rw [hc] at q
        exact .inl (loopO_go h q)
      · rw [hc] at q
        refine .inr ⟨l3, loopO_go h q, q1, by omega, ?_⟩
        rw [List.drop_eq_getElem_cons ha]
        intro x hx
        rcases List.mem_cons.1 hx with rfl | hx
        · exact h5
        · exact q3 x hx
/- copies -/
def FitS {α : Type} (n : Nat) (F : α → Prop) (s : Sl α) : Prop := s.l.length ≤ n ∧ ∀ x ∈ s.l, F x
theorem slice_sz {α : Type} {P : α → Prop} {a : Sl α} {body : Int × Int → Option ((Int × Int) ⊕ (Int ⊕ Int))} {l : Int} (h0 : 0 ≤ l) (h20 : l ≤ 1048576) (hb : a.l.length ≤ maxLen)
    (h1 : ∀ (i : Nat) x l', x ∈ a.l → i < a.l.length → elt a (i : Int) = some x → 0 ≤ l' → l' ≤ l → body (l', i) = some (.inr (.inr (-1))) ∨ ∃ l'', body (l', i) = some (.inl (l'', (i : Int) + 1)) ∧ 0 ≤ l'' ∧ l'' ≤ l' ∧ P x)
    (h2 : ∀ l', body (l', (a.l.length : Int)) = some (.inr (.inl l'))) :
    SzOk (if decide (IntKind.i64.wrap (l - (a.l.length : Int)) < 0) = true then some (-1) else (loopO body (IntKind.i64.wrap (l - (a.l.length : Int)), 0)).bind fun y => Sum.elim (fun y => some y) (fun y => some y) y) l (FitS 1048576 P a) := by
  have hm : maxLen = 9223372036854775807 := by decide
  rw [hm] at hb
  rw [wrap_id (by omega) (by omega)]
  refine sz_if (by omega) (fun hn => ?_)
  exact (loop_sz hn (fun i x l' hx q1 q2 => h1 i x l' (List.mem_of_getElem? hx) (List.getElem?_eq_some_iff.1 hx).1 (elt_nat hx) q1 (by omega)) h2).imp (Int.le_refl _) (fun q => ⟨by omega, q⟩)
theorem sz_step {α : Type} {p : Prop} {a : Sl α} {x : α} {i : Nat} {n l : Int} {e : Option ((Int × Int) ⊕ (Int ⊕ Int))} {G : α → Option Int} (hi : (i : Int) < n) (hx : elt a (i : Int) = some x) (hG : SzOk (G x) l p) (hn : n < 9223372036854775808) :
    (if decide ((i : Int) < n) = true then (elt a (i : Int)).bind fun y2 => (G y2).bind fun y3 => if decide (y3 < 0) = true then some (.inr (.inr (-1))) else some (.inl (y3, IntKind.i64.wrap ((i : Int) + 1))) else e) = some (.inr (.inr (-1))) ∨
    ∃ l'', (if decide ((i : Int) < n) = true then (elt a (i : Int)).bind fun y2 => (G y2).bind fun y3 => if decide (y3 < 0) = true then some (.inr (.inr (-1))) else some (.inl (y3, IntKind.i64.wrap ((i : Int) + 1))) else e) = some (.inl (l'', (i : Int) + 1)) ∧ 0 ≤ l'' ∧ l'' ≤ l ∧ p := by
  rw [if_pos (by simpa using hi), hx, wrap_id (by omega) (by omega)]
  rcases hG with h | ⟨l', h, h2, h3, h4⟩
  · left; simp [h]
  · right
    refine ⟨l', ?_, h2, h3, h4⟩
    simp only [Option.bind_some, h]
    rw [if_neg (by simp; omega)]
/- comparisons, put together -/
def Steps (o : Option (Int ⊕ (Unit ⊕ Bool))) (i : Nat) (p : Prop) : Prop := (p → o = some (.inl (IntKind.i64.wrap ((i : Int) + 1)))) ∧ (¬ p → o = some (.inr (.inr false)))
end Go.Am
end
section
set_option linter.unusedVariables false
set_option linter.unusedSimpArgs false
namespace Go.Am
section
variable {P : Program} {t : TypeId} {d : Nat} {ts : List T}
theorem shp_struct (kt : kindT P t = 7) (h : Shp P d t ts) : ∃ d', ShpF P (Shp P d') ((fieldsT P t).map (·.type)) ts := by
  cases d with
  | zero => exact h.elim
  | succ d =>
    rcases h with h | h | h | h | h
    · rw [kt] at h; exact absurd h.1 (by decide)
    · simp [isIntT, kt] at h
    · rw [kt] at h; exact absurd h.1 (by decide)
    · rw [kt] at h; exact absurd h.1 (by decide)
    · exact ⟨d, h.2⟩
theorem shp_str (kt : kindT P t = 3) (h : Shp P d t ts) : ∃ s : ByteArray, ts = [.str s] ∧ s.size ≤ maxLen := by
  cases d with
  | zero => exact h.elim
  | succ d =>
    rcases h with h | h | h | h | h
    · rw [kt] at h; exact absurd h.1 (by decide)
    · simp [isIntT, kt] at h
    · exact h.2
    · rw [kt] at h; exact absurd h.1 (by decide)
    · rw [kt] at h; exact absurd h.1 (by decide)
theorem decAll {α : Type} [Enc α] {B : α → Prop} : ∀ (els : List (List T)), (∀ el ∈ els, ∃ x : α, el = Enc.cells x ∧ B x) → ∃ l : List α, els.flatten = cellsL l ∧ l.length = els.length ∧ ∀ x ∈ l, B x
  | [], _ => ⟨[], rfl, rfl, fun _ h => absurd h (by simp)⟩
  | el :: els, h => by
    obtain ⟨x, rfl, hx⟩ := h el (by simp)
    obtain ⟨l, h1, h2, h3⟩ := decAll els (fun e he => h e (by simp [he]))
    refine ⟨x :: l, by simp [cellsL, h1], by simp [h2], fun y hy => ?_⟩
    rcases List.mem_cons.1 hy with rfl | hy
    · exact hx
    · exact h3 y hy
theorem shp_sl {α : Type} [Enc α] {B : α → Prop} {e : TypeId} (kt : kindT P t = 4) (he : elemOfSl P t = some e) (hd : ∀ d ts, Shp P d e ts → ∃ x : α, ts = Enc.cells x ∧ B x) (h : Shp P d t ts) : ∃ x : Sl α, ts = [Sl.t x] ∧ FitS maxLen B x := by
  cases d with
  | zero => exact h.elim
  | succ d =>
    rcases h with h | h | h | h | h
    · rw [kt] at h; exact absurd h.1 (by decide)
    · simp [isIntT, kt] at h
    · rw [kt] at h; exact absurd h.1 (by decide)
    · obtain ⟨_, e', h1, h2⟩ := h
      rw [he] at h1
      injection h1 with h1; subst h1
      rcases h2 with rfl | ⟨els, rfl, h2, h3⟩
      · exact ⟨⟨true, []⟩, rfl, ⟨by simp, by simp⟩⟩
      · obtain ⟨l, q1, q2, q3⟩ := decAll (B := B) els (fun el hel => hd d el (h3 el hel).2)
        exact ⟨⟨false, l⟩, by simp [Sl.t, q1, q2], ⟨by show l.length ≤ maxLen; omega, q3⟩⟩
    · rw [kt] at h; exact absurd h.1 (by decide)
end
end Go.Am
end
section
set_option linter.unusedVariables false
set_option linter.unusedSimpArgs false
namespace Go.Am
theorem elt_lt {α : Type} {s : Sl α} {i : Nat} (h : i < s.l.length) : elt s (i : Int) = some s.l[i] := elt_nat (List.getElem?_eq_getElem h)
@[simp] theorem set_len {α : Type} {s : Sl α} {i : Int} {x : α} : (setS s i x).l.length = s.l.length := by simp [setS]
theorem wrapB {n : Int} (h0 : 0 ≤ n) (h1 : n ≤ 4611686018427387904) : IntKind.i64.wrap n = n := wrap_id (by omega) (by omega)
theorem maxLen_eq : maxLen = 9223372036854775807 := by decide
theorem loop_map {α β : Type} (f : α → β) {a : Sl α} {by_ : Nat} {z : β} {body : Int × Sl β → Option ((Int × Sl β) ⊕ Sl β)} (hn : a.l.length ≤ 1048576) (hb : 1048576 * by_ ≤ 1099511627776)
    (h1 : ∀ (i : Nat) x (s : Sl β), x ∈ a.l → i < a.l.length → i < s.l.length → elt a (i : Int) = some x → body (i, s) = some (.inl ((i : Int) + 1, setS s i (f x))))
    (h2 : ∀ s, body ((a.l.length : Int), s) = some (.inr s)) :
    ((mkS by_ z (a.l.length : Int) (a.l.length : Int)).bind fun y1 => (loopO body (0, y1)).bind fun y2 => some y2) = some ⟨false, a.l.map f⟩ := by
  have hm : mkS by_ z (a.l.length : Int) (a.l.length : Int) = some ⟨false, List.replicate a.l.length z⟩ := by
    have : a.l.length * by_ ≤ 1048576 * by_ := Nat.mul_le_mul_right _ hn
    unfold mkS
    rw [if_pos]
    · simp
    · refine ⟨by omega, by omega, ?_, by omega, fun h => h⟩
      have : ((a.l.length * by_ : Nat) : Int) ≤ 1099511627776 := by omega
      simpa using this
  rw [hm]
  suffices H : ∀ (k i : Nat), i + k = a.l.length → ∀ s : Sl β, s.z = false → s.l.length = a.l.length → (∀ j, j < i → s.l[j]? = (a.l.map f)[j]?) → loopO body ((i : Int), s) = some ⟨false, a.l.map f⟩ by
    have q := H a.l.length 0 (by simp) ⟨false, List.replicate a.l.length z⟩ rfl (by simp) (by intro j h; omega)
    have q : loopO body (0, ⟨false, List.replicate a.l.length z⟩) = _ := q
    show (loopO body (0, ⟨false, List.replicate a.l.length z⟩)).bind _ = _
    rw [q]; rfl
  intro k
  induction k with
  | zero =>
    intro i hi s hz hs hP
    have : i = a.l.length := by omega
    subst this
    rw [loopO_stop (h2 s)]
    obtain ⟨sz, sl⟩ := s
    simp only at hz hs hP
    subst hz
    congr 2
    refine List.ext_getElem? fun j => ?_
    by_cases hj : j < a.l.length
    · exact hP j hj
    · rw [List.getElem?_eq_none (by omega), List.getElem?_eq_none (by simp; omega)]
  | succ k ih =>
    intro i hi s hz hs hP
    have ha : i < a.l.length := by omega
    have hi' : i < s.l.length := by omega
    have q1 := h1 i a.l[i] s (List.getElem_mem ha) ha hi' (elt_lt ha)
    have p1 := ih (i + 1) (by omega) (setS s i (f a.l[i])) hz (by simp [hs]) (by
      intro j hj
      simp only [setS, Int.toNat_natCast, List.getElem?_set]
      by_cases hij : i = j
      · subst hij; simp [hi', ha]
      · rw [if_neg hij]; exact hP j (by omega))
    have hc : ((i + 1 : Nat) : Int) = (i : Int) + 1 := by simp
    rw [hc] at p1
    exact loopO_go q1 p1
theorem loop_all {n : Nat} {R : Type} {p : Nat → Prop} {bd : Int → Option (Int ⊕ R)} {x y : R} (j0 : Nat) (hn : n < 9223372036854775807) (h1 : ∀ i : Nat, j0 ≤ i → i < n → p i → bd i = some (.inl (IntKind.i64.wrap ((i : Int) + 1)))) (h2 : ∀ i : Nat, j0 ≤ i → i < n → ¬ p i → bd i = some (.inr y)) :
    ((∀ i, j0 ≤ i → i < n → p i) → loopO (fun st1 : Int => if decide (st1 < (n : Int)) = true then bd st1 else some (.inr x)) (j0 : Int) = some x) ∧
    (¬ (∀ i, j0 ≤ i → i < n → p i) → loopO (fun st1 : Int => if decide (st1 < (n : Int)) = true then bd st1 else some (.inr x)) (j0 : Int) = some y) := by
  suffices H : ∀ k i0, j0 ≤ i0 → n - i0 = k → ((∀ i, i0 ≤ i → i < n → p i) → loopO (fun st1 : Int => if decide (st1 < (n : Int)) = true then bd st1 else some (.inr x)) (i0 : Int) = some x) ∧
    (¬ (∀ i, i0 ≤ i → i < n → p i) → loopO (fun st1 : Int => if decide (st1 < (n : Int)) = true then bd st1 else some (.inr x)) (i0 : Int) = some y) from H _ j0 (Nat.le_refl _) rfl
  intro k
  induction k with
  | zero =>
    intro i0 _ hk
    refine ⟨fun _ => loopO_stop (by rw [if_neg (by simp; omega)]), fun h => absurd (fun i h1 h2 => by omega) h⟩
  | succ k ih =>
    intro i0 hj hk
    have hlt : i0 < n := by omega
    obtain ⟨q1, q2⟩ := ih (i0 + 1) (by omega) (by omega)
    have hc : ((i0 + 1 : Nat) : Int) = (i0 : Int) + 1 := by simp
    rw [hc] at q1 q2
    by_cases hp : p i0
    · have hb := h1 i0 hj hlt hp
      rw [wrap_id (by omega) (by omega)] at hb
      refine ⟨fun h => loopO_go (by rw [if_pos (by simp; omega)]; exact hb) (q1 fun i hi hn => h i (by omega) hn), fun h => loopO_go (by rw [if_pos (by simp; omega)]; exact hb) (q2 fun w => h fun i hi hn => ?_)⟩
      by_cases e : i = i0
      · subst e; exact hp
      · exact w i (by omega) hn
    · refine ⟨fun h => absurd (h i0 (Nat.le_refl _) hlt) hp, fun _ => loopO_stop (by rw [if_pos (by simp; omega)]; exact h2 i0 hj hlt hp)⟩
noncomputable def says (p : Prop) : Bool := @decide p (Classical.propDecidable p)
theorem says_iff' {p q : Prop} (h : p ↔ q) : says p = says q := by rw [propext h]
theorem says_t {p : Prop} (h : p) : says p = true := by simp [says, h]
theorem says_f {p : Prop} (h : ¬ p) : says p = false := by simp [says, h]
theorem loop_allB {n : Nat} {p : Nat → Prop} {bd : Int → Option (Int ⊕ (Unit ⊕ Bool))} (i0 : Nat) (hn : n < 9223372036854775807) (h1 : ∀ i : Nat, i0 ≤ i → i < n → p i → bd i = some (.inl (IntKind.i64.wrap ((i : Int) + 1)))) (h2 : ∀ i : Nat, i0 ≤ i → i < n → ¬ p i → bd i = some (.inr (.inr false))) :
    ((loopO (S := Int) (R := Unit ⊕ Bool) (fun st1 : Int => if decide (st1 < (n : Int)) = true then bd st1 else some (.inr (.inl ()))) (i0 : Int)).bind fun y => Sum.elim (fun _ => some true) (fun y => some y) y) = some (says (∀ i, i0 ≤ i → i < n → p i)) := by
  obtain ⟨q1, q2⟩ := loop_all (R := Unit ⊕ Bool) (x := .inl ()) (y := .inr false) i0 hn h1 h2
  by_cases h : ∀ i, i0 ≤ i → i < n → p i
  · rw [q1 h, says_t h]; rfl
  · rw [q2 h, says_f h]; rfl
theorem loop_allS {α : Type} {a : Sl α} {p : α → Prop} {bd : Int → Option (Int ⊕ (Unit ⊕ Bool))} (hn : a.l.length < 9223372036854775807) (h : ∀ (i : Nat) x, x ∈ a.l → elt a (i : Int) = some x → (p x → bd i = some (.inl (IntKind.i64.wrap ((i : Int) + 1)))) ∧ (¬ p x → bd i = some (.inr (.inr false)))) :
    ((loopO (S := Int) (R := Unit ⊕ Bool) (fun st1 : Int => if decide (st1 < (a.l.length : Int)) = true then bd st1 else some (.inr (.inl ()))) 0).bind fun y => Sum.elim (fun _ => some true) (fun y => some y) y) = some (says (∀ x ∈ a.l, p x)) := by
  have := loop_allB (p := fun i => ∀ x, a.l[i]? = some x → p x) (bd := bd) 0 hn (fun i _ hi hp => (h i _ (List.getElem_mem hi) (elt_lt hi)).1 (hp _ (List.getElem?_eq_getElem hi))) (fun i _ hi hp => (h i _ (List.getElem_mem hi) (elt_lt hi)).2 fun q => hp fun x hx => by rw [List.getElem?_eq_getElem hi] at hx; injection hx with hx; exact hx ▸ q)
  refine Eq.trans this (congrArg some (says_iff' ⟨fun w x hx => ?_, fun w i _ hi x hx => w x (List.mem_of_getElem? hx)⟩))
  obtain ⟨i, hi, rfl⟩ := List.getElem_of_mem hx
  exact w i (Nat.zero_le _) hi _ (List.getElem?_eq_getElem hi)
theorem loop_refl {α : Type} {a : Sl α} {bd : Int → Option (Int ⊕ (Unit ⊕ Bool))} (hn : a.l.length < 9223372036854775807) (h : ∀ (i : Nat) x, x ∈ a.l → elt a (i : Int) = some x → bd i = some (.inl (IntKind.i64.wrap ((i : Int) + 1)))) :
    (if (!decide ((a.l.length : Int) = (a.l.length : Int))) = true then some false else ((loopO (S := Int) (R := Unit ⊕ Bool) (fun st1 : Int => if decide (st1 < (a.l.length : Int)) = true then bd st1 else some (.inr (.inl ()))) 0).bind fun y => Sum.elim (fun _ => some true) (fun y => some y) y)) = some true := by
  rw [if_neg (by simp), loop_allS (p := fun _ => True) hn fun i x hx he => ⟨fun _ => h i x hx he, fun w => absurd trivial w⟩, says_t (fun _ _ => trivial)]
def MH {α : Type} (B : α → Int → Option (Int × α)) (F : α → Int → Option Int) (N : Nat) (x : α) : Prop :=
  ∀ k : Int, 0 ≤ k → k + N ≤ 4611686018427387904 → ∃ k' x', B x k = some (k', x') ∧ F x' k = some k' ∧ k ≤ k' ∧ k' ≤ k + N
theorem MH.mono {α : Type} {B : α → Int → Option (Int × α)} {F : α → Int → Option Int} {N M : Nat} {x : α} (h : MH B F N x) (hm : N ≤ M) : MH B F M x := fun k h0 h1 => by
  obtain ⟨k', x', q1, q2, q3, q4⟩ := h k h0 (by omega)
  exact ⟨k', x', q1, q2, q3, by omega⟩
theorem appS_new {α : Type} {by_ : Nat} {z : Bool} {a : List α} {x : α} (h : (a.length + 1) * by_ ≤ 1099511627776) : appS by_ (⟨z, a⟩ : Sl α) ⟨false, [x]⟩ = some ⟨false, a ++ [x]⟩ := by
  simp only [appS, List.length_singleton]; rw [if_pos h]
end Go.Am
end
