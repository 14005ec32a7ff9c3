/- The abstract machine. -/
import Derived.Test.YtkgmfmcpbgffpaaAm5
import Derived.Test.YtkgmfmcpbgffpaaAm3
section
set_option linter.unusedVariables false
set_option linter.unusedSimpArgs false
namespace Go.Am
def pickE : Nat → List Ent → Option (Ent × List Ent)
 | 0, e :: es => some (e, es)
 | n + 1, e :: es => match pickE n es with
  | some (x, r) => some (x, e :: r)
  | none => none
 | _, [] => none
theorem pickE_perm : ∀ {n : Nat} {es : List Ent} {x : Ent} {r : List Ent}, pickE n es = some (x, r) → es.Perm (x :: r)
 | 0, e :: es, x, r, h => by injection h with h; injection h with h1 h2; subst h1; subst h2; exact .refl _
 | n + 1, e :: es, x, r, h => by
  simp only [pickE] at h
  split at h
  ·rename_i x' r' hr
   injection h with h; injection h with h1 h2; subst h1; subst h2
   exact ((pickE_perm hr).cons e).trans (.swap _ _ _)
  ·cases h
 | 0, [], _, _, h => by cases h
 | _ + 1, [], _, _, h => by cases h
theorem Heap.pick {σ0 σ : St} {n : Nat} {es : List Ent} {x : Ent} {r : List Ent} (hH : Heap σ0 σ es) (h : pickE n es = some (x, r)) : Heap σ0 σ (x :: r) := hH.perm (pickE_perm h)
def mw_ (P : Program) (t : TypeId) : Option (List T) := match az_ P t with
 | some z => foL z some
 | none => none
theorem ld_ {P : Program} {t : TypeId} {z : List T} (h : mw_ P t = some z) : az_ P t = some z := by
 unfold mw_ at h
 split at h
 ·rename_i z' hz; rw [bw_] at h; rw [hz]; exact h
 ·cases h
def cellsF : T → Option (List T)
 | .agg cs => foL cs some
 | .int k n => some [.int k n]
 | .bool b => some [.bool b]
 | .str s => some [.str s]
 | .nilp => some [.nilp]
 | .nilf => some [.nilf]
 | .nili => some [.nili]
 | .nilm => some [.nilm]
 | .ptr b e o m => some [.ptr b e o m]
 | .vw cs => some [.vw cs]
 | .row z n cs => some [.row z n cs]
 | .emp => some [.emp]
 | .ref b e o n => some [.ref b e o n]
 | .fn f a b => some [.fn f a b]
 | .tup cs => some [.tup cs]
 | .mp b => some [.mp b]
 | .anyi => some [.anyi]
 | .yld l => some [.yld l]
theorem eE_ {v : T} {cs : List T} (h : cellsF v = some cs) : v.cells = cs := by
 cases v with
 | agg l => rw [cellsF, bw_] at h; injection h
 | _ => injection h
def hx_ (P : Program) (t : TypeId) (cells : List T) (off n : Nat) (cs : List T) : Option (List T) :=
 match szOf P t with
 | some sz => match Nat.beq cs.length sz && Nat.ble sz n && Nat.ble (off + sz) cells.length with
  | true => foL (splice cells off cs) some
  | false => none
 | none => none
theorem ky_ {P : Program} {t : TypeId} {cells cs r : List T} {off n : Nat} (h : hx_ P t cells off n cs = some r) : hR_ P t cells off n cs = some r := by
 unfold hx_ at h; unfold hR_
 split at h
 ·rename_i sz hz
  split at h
  ·rename_i hc
   simp only [Bool.and_eq_true] at hc
   rw [bw_] at h
   rw [hz]
   show (if _ then _ else none) = _
   rw [if_pos ⟨Nat.eq_of_beq_eq_true hc.1.1, Nat.le_of_ble_eq_true hc.1.2, Nat.le_of_ble_eq_true hc.2⟩]; exact h
  ·cases h
 ·cases h
def pu (L : List (Nat × T)) (d : Option Nat) (v : T) : Option (List (Nat × T)) := match d with
 | some d => some ((d, v) :: L)
 | none => some L
theorem lM_ {L L' : List (Nat × T)} {d : Option Nat} {v : T} (h : pu L d v = some L') : putL L d v = L' := by
 cases d with
 | some d => injection h
 | none => injection h
class Lit (α : Type) [Enc α] where
 c : α → List T
 h : ∀ a, Enc.cells a = c a
instance : Lit ByteArray := ⟨fun s => [.str s], fun _ => rfl⟩
instance : Lit Bool := ⟨fun s => [.bool s], fun _ => rfl⟩
instance (k : IntKind) : Lit (Iv k) := ⟨fun s => [.int k s.v], fun _ => rfl⟩
instance {α : Type} [Enc α] : Lit (Sl α) := ⟨fun s => [s.t], fun _ => rfl⟩
section
variable {P : Program} {O : an_} {ops : Array Oper} {m : Mo} {l : List Oper} {K : Fr → Prop} {σ0 : St} {L L' : List (Nat × T)} {es es' : List Ent} {p : Prop} {β γ : Type} {r : γ}
variable {d : Nat} {dO : Option Nat} {ty : TypeId} {ps : String} {af : Array Edge} {g : Option (Nat × Bool)}
theorem aE_ {t : TypeId} {z : List T} (kk : ∀ b, Kn σ0 ((d, .ptr b 0 0 z.length) :: L) (.box b z :: es) p (opsX P O ops .q l K)) (hz : mw_ P t = some z := by rfl) (hw : want ops L g = some true := by rfl) : Kn σ0 L es p (opsX P O ops .q (⟨some d, .alloc t, ty, ps, af, g⟩ :: l) K) := fun hp s σ hS hH =>
 mK_ hw hS hH (ld_ hz) fun b σ' s' hH' hS' => kk b hp s' σ' hS' hH'
theorem dZ_ {x : Operand} {t : TypeId} {v : T} {cs : List T} (kk : ∀ b, Kn σ0 ((d, .ptr b 0 0 cs.length) :: L) (.box b cs :: es) p (opsX P O ops .q l K)) (hx : gE (get L) x = some v := by rfl) (hcs : cellsF v = some cs := by rfl) (h1 : cs.all T.one = true := by kernel_rfl) (hw : want ops L g = some true := by rfl) : Kn σ0 L es p (opsX P O ops .q (⟨some d, .box t x, ty, ps, af, g⟩ :: l) K) := fun hp s σ hS hH =>
 p5_ hw hS hH hx (eE_ hcs) h1 fun b σ' s' hH' hS' => kk b hp s' σ' hS' hH'
theorem iJ_ {a x : Operand} {t : TypeId} {b off n : Nat} {cells cells' cs : List T} {v : T} (i : Nat) (hcs : v.cells = cs) (h1 : cs.all T.one = true) (kk : Kn σ0 L' (.box b cells' :: es') p (opsX P O ops (nxM m) l K)) (ha : gE (get L) a = some (.ptr b 0 off n) := by rfl) (he : pickE i es = some (.box b cells, es') := by rfl) (hx : gE (get L) x = some v := by rfl) (hc : hx_ P t cells off n cs = some cells' := by rfl) (hL : pu L dO (.tup []) = some L' := by rfl) (hw : want ops L g = some true := by rfl) (hwr : ∀ {σ}, Heap σ0 σ es → m.wr b := by exact fun _ => trivial) (hm : m.chg = true := by rfl) : Kn σ0 L es p (opsX P O ops m (⟨dO, .store t a x, ty, ps, af, g⟩ :: l) K) := fun hp s σ hS hH =>
 iA_ hm (hwr hH) hw hS (hH.pick he) ha hx hcs h1 (ky_ hc) fun σ' s' hH' hS' => kk hp s' σ' (lM_ hL ▸ hS') hH'
theorem en_ {a x : Operand} {t : TypeId} {b off n : Nat} {cells cells' cs : List T} {v : T} (i : Nat) (kk : Kn σ0 L' (.box b cells' :: es') p (opsX P O ops (nxM m) l K)) (ha : gE (get L) a = some (.ptr b 0 off n) := by rfl) (he : pickE i es = some (.box b cells, es') := by rfl) (hx : gE (get L) x = some v := by rfl) (hcs : cellsF v = some cs := by rfl) (h1 : cs.all T.one = true := by kernel_rfl) (hc : hx_ P t cells off n cs = some cells' := by rfl) (hL : pu L dO (.tup []) = some L' := by rfl) (hw : want ops L g = some true := by rfl) (hwr : ∀ {σ}, Heap σ0 σ es → m.wr b := by exact fun _ => trivial) (hm : m.chg = true := by rfl) : Kn σ0 L es p (opsX P O ops m (⟨dO, .store t a x, ty, ps, af, g⟩ :: l) K) :=
 iJ_ i (eE_ hcs) h1 kk ha he hx hc hL hw hwr hm
theorem g4_ {a x : Operand} {t : TypeId} {b off n : Nat} {cells cells' : List T} {v : T} (i : Nat) (h1 : a0_ v) (kk : Kn σ0 L' (.box b cells' :: es') p (opsX P O ops (nxM m) l K)) (ha : gE (get L) a = some (.ptr b 0 off n) := by rfl) (he : pickE i es = some (.box b cells, es') := by rfl) (hx : gE (get L) x = some v := by rfl) (hc : hx_ P t cells off n [v] = some cells' := by rfl) (hL : pu L dO (.tup []) = some L' := by rfl) (hw : want ops L g = some true := by rfl) (hwr : ∀ {σ}, Heap σ0 σ es → m.wr b := by exact fun _ => trivial) (hm : m.chg = true := by rfl) : Kn σ0 L es p (opsX P O ops m (⟨dO, .store t a x, ty, ps, af, g⟩ :: l) K) :=
 iJ_ i h1.1 (by simp [h1.2]) kk ha he hx hc hL hw hwr hm
theorem ag_ {a x : Operand} {t : TypeId} {b n : Nat} {cells cs : List T} {v : T} (i : Nat) (kk : Kn σ0 L' (.box b cs :: es') p (opsX P O ops (nxM m) l K)) (ha : gE (get L) a = some (.ptr b 0 0 n) := by rfl) (he : pickE i es = some (.box b cells, es') := by rfl) (hx : gE (get L) x = some v := by rfl) (hcs : cellsF v = some cs := by rfl) (h1 : cs.all T.one = true := by kernel_rfl) (hc : hR_ P t cells 0 n cs = some cs := by kernel_rfl) (hL : pu L dO (.tup []) = some L' := by rfl) (hw : want ops L g = some true := by rfl) (hwr : ∀ {σ}, Heap σ0 σ es → m.wr b := by exact fun _ => trivial) (hm : m.chg = true := by rfl) : Kn σ0 L es p (opsX P O ops m (⟨dO, .store t a x, ty, ps, af, g⟩ :: l) K) := fun hp s σ hS hH =>
 iA_ hm (hwr hH) hw hS (hH.pick he) ha hx (eE_ hcs) h1 hc fun σ' s' hH' hS' => kk hp s' σ' (lM_ hL ▸ hS') hH'
theorem ah_ {a : Operand} {t : TypeId} {b e off n : Nat} {cells cs : List T} {v : T} (i : Nat) (kk : Kn σ0 ((d, v) :: L) es p (opsX P O ops (nxM m) l K)) (ha : gE (get L) a = some (.ptr b e off n) := by rfl) (he : es[i]? = some (.box b cells) := by rfl) (hc : drL off cells = some cs := by rfl) (hv : ih_ P t cs 0 = some v := by rfl) (hn : part P t (cs.take n) 0 = some v := by kernel_rfl) (hlt : m.lt b := by exact trivial) (hw : want ops L g = some true := by rfl) : Kn σ0 L es p (opsX P O ops m (⟨some d, .load t a, ty, ps, af, g⟩ :: l) K) := fun hp s σ hS hH =>
 oV_ (e := e) i hlt hw hS hH he ha (by rw [← (drL_some hc).2]; exact hn) fun s' hS' => kk hp s' σ hS' hH
theorem eJ_ {α : Type} [Enc α] [Lit α] {x i : Operand} {t e : TypeId} {sl : Sl α} {kk : IntKind} {j : Int} {f : α → Option γ} {c : α → List T} (k : ∀ y rest, elt sl j = some y → Kn σ0 ((d, .vw (c y ++ rest)) :: L) es (f y = some r) (opsX P O ops (nxM m) l K)) (hx : gE (get L) x = some sl.t := by rfl) (hi : gE (get L) i = some (.int kk j) := by rfl)
  (he : ae_ P t = some e := by rfl) (hz : szOf P e = some (Enc.w α) := by kernel_rfl) (hc : ∀ y, foL (Lit.c y) some = some (c y) := by intro; rfl) (hw : want ops L g = some true := by rfl) : Kn σ0 L es ((elt sl j).bind f = some r) (opsX P O ops m (⟨some d, .indexAddr t x i, ty, ps, af, g⟩ :: l) K) := fun hp s σ hS hH => by
 obtain ⟨y, hy, hp⟩ := bind_some hp
 exact oe_ (c y) hw hS hx hi he hz hy (by rw [Lit.h]; have := hc y; rw [bw_] at this; injection this) fun rest s' hS' => k y rest hy hp s' σ hS' hH
theorem l5_ {x i : Operand} {t : TypeId} {w : ByteArray} {kk : IntKind} {j : Int} {f : Int → Option γ} (k : ∀ y, bU_ w j = some y → Kn σ0 ((d, .int .u8 y) :: L) es (f y = some r) (opsX P O ops (nxM m) l K)) (hx : gE (get L) x = some (.str w) := by rfl) (hi : gE (get L) i = some (.int kk j) := by rfl) (ht : ap_ P t = 3 := by kernel_rfl) (hw : want ops L g = some true := by rfl) : Kn σ0 L es ((bU_ w j).bind f = some r) (opsX P O ops m (⟨some d, .index t x i, ty, ps, af, g⟩ :: l) K) := fun hp s σ hS hH => by
 obtain ⟨y, hy, hp⟩ := bind_some hp
 exact mp_ hw hS hx hi ht hy fun s' hS' => k y hy hp s' σ hS' hH
theorem qm_ {x y : Operand} {t u : TypeId} {a b : ByteArray} {f : ByteArray → Option γ} (k : ∀ c, catB a b = some c → Kn σ0 ((d, .str c) :: L) es (f c = some r) (opsX P O ops (nxM m) l K)) (hx : gE (get L) x = some (.str a) := by rfl) (hy : gE (get L) y = some (.str b) := by rfl) (hw : want ops L g = some true := by rfl) : Kn σ0 L es ((catB a b).bind f = some r) (opsX P O ops m (⟨some d, .binOp .add t x y u, ty, ps, af, g⟩ :: l) K) := fun hp s σ hS hH => by
 obtain ⟨c, hc, hp⟩ := bind_some hp
 exact pj_ hw hS hx hy hc fun s' hS' => k c hc hp s' σ hS' hH
theorem n4_ {x : Operand} {lo hi : Option Operand} {t : TypeId} {w : ByteArray} {vlo vhi : Option T} {a b : Int} {f : ByteArray → Option γ} (k : ∀ y, subB w a b = some y → Kn σ0 ((d, .str y) :: L) es (f y = some r) (opsX P O ops (nxM m) l K)) (hx : gE (get L) x = some (.str w) := by rfl) (hlo : gO (get L) lo = some vlo := by rfl) (hhi : gO (get L) hi = some vhi := by rfl)
  (ha : ef_ vlo 0 = some a := by rfl) (hb : ef_ vhi w.size = some b := by rfl) (ht : ap_ P t = 3 := by kernel_rfl) (hw : want ops L g = some true := by rfl) : Kn σ0 L es ((subB w a b).bind f = some r) (opsX P O ops m (⟨some d, .slice t x lo hi none, ty, ps, af, g⟩ :: l) K) := fun hp s σ hS hH => by
 obtain ⟨y, hy, hp⟩ := bind_some hp
 exact nX_ hw hS hx hlo hhi ha hb ht hy fun s' hS' => k y hy hp s' σ hS' hH
theorem l2_ {α : Type} [Enc α] {x : Operand} {lo hi : Option Operand} {t e : TypeId} {w : Sl α} {vlo vhi : Option T} {a b : Int} {f : Sl α → Option γ} (k : ∀ y, subS w a b = some y → Kn σ0 ((d, y.t) :: L) es (f y = some r) (opsX P O ops (nxM m) l K)) (hx : gE (get L) x = some w.t := by rfl) (hlo : gO (get L) lo = some vlo := by rfl) (hhi : gO (get L) hi = some vhi := by rfl)
  (ha : ef_ vlo 0 = some a := by rfl) (hb : ef_ vhi w.l.length = some b := by rfl) (he : ae_ P t = some e := by rfl) (hz : szOf P e = some (Enc.w α) := by kernel_rfl) (hw : want ops L g = some true := by rfl) : Kn σ0 L es ((subS w a b).bind f = some r) (opsX P O ops m (⟨some d, .slice t x lo hi none, ty, ps, af, g⟩ :: l) K) := fun hp s σ hS hH => by
 obtain ⟨y, hy, hp⟩ := bind_some hp
 exact nI_ hw hS hx hlo hhi ha hb he hz hy fun s' hS' => k y hy hp s' σ hS' hH
end
def hlOk : T → Bool
 | .int .. | .bool _ | .str _ | .row .. | .nilp | .nilf | .nili | .nilm | .fn .. | .vw .. | .ptr .. => true
 | .agg cs => hlOks cs
 | .tup cs => hlOks cs
 | .ref .. | .emp | .mp _ | .anyi | .yld _ => false
where hlOks : List T → Bool
 | [] => true
 | t :: ts => hlOk t && hlOks ts
mutual
theorem hl1 {ts vs : List T} {es : List Ent} : ∀ {t : T}, hlOk t = true → HL false ts vs es → HL false (t :: ts) (t :: vs) es
 | .int k n, _, h => HL.leaf (fun σ d => iZ_ _ σ d _ _) h
 | .bool b, _, h => HL.leaf (fun σ d => by cases d <;> rfl) h
 | .str b, _, h => HL.leaf (fun σ d => by cases d <;> rfl) h
 | .row z n cs, _, h => HL.leaf (fun σ d => by cases d <;> cases z <;> cases n <;> cases cs <;> rfl) h
 | .emp, k, h => by cases k
 | .mp _, k, h => by cases k
 | .anyi, k, h => by cases k
 | .yld _, k, h => by cases k
 | .nilp, _, h => HL.leaf (fun σ d => by cases d <;> rfl) h
 | .nilf, _, h => HL.leaf (fun σ d => by cases d <;> rfl) h
 | .nili, _, h => HL.leaf (fun σ d => by cases d <;> rfl) h
 | .nilm, _, h => HL.leaf (fun σ d => by cases d <;> rfl) h
 | .fn f a b, _, h => HL.leaf (fun σ d => by cases d <;> rfl) h
 | .vw cs, _, h => HL.leaf (fun σ d => by cases d <;> rfl) h
 | .ptr b e o m, _, h => HL.leaf (fun σ d => by cases d <;> rfl) h
 | .agg cs, k, h => HL.agg (es1 := []) (hl2 (ts := cs) k) h
 | .tup cs, k, h => HL.tup (es1 := []) (hl2 (ts := cs) k) h
 | .ref .., k, h => by cases k
theorem hl2 : ∀ {ts : List T}, hlOk.hlOks ts = true → HL false ts ts []
 | [], _ => .nil
 | t :: ts, h => by
  simp only [hlOk.hlOks, Bool.and_eq_true] at h
  exact hl1 h.1 (hl2 h.2)
end
def HC (z : Bool) (ts vs : List T) (es es1 : List Ent) : Prop := ∃ ents, HL z ts vs ents ∧ es = ents ++ es1
section
variable {z : Bool} {ts vs cs us : List T} {es es1 es2 : List Ent}
theorem HC.nil : HC z [] [] es es := ⟨[], .nil, rfl⟩
theorem HC.i {k : IntKind} {n : Int} (h : HC z ts vs es es1) : HC z (.int k n :: ts) (.int k n :: vs) es es1 := let ⟨a, b, c⟩ := h; ⟨a, HLi b, c⟩
theorem HC.s {x : ByteArray} (h : HC z ts vs es es1) : HC z (.str x :: ts) (.str x :: vs) es es1 := let ⟨a, b, c⟩ := h; ⟨a, HLs b, c⟩
theorem HC.b {x : Bool} (h : HC z ts vs es es1) : HC z (.bool x :: ts) (.bool x :: vs) es es1 := let ⟨a, b, c⟩ := h; ⟨a, HLb b, c⟩
theorem HC.n {α : Type} [Enc α] (h : HC z ts vs es es1) : HC z (Sl.t (⟨true, []⟩ : Sl α) :: ts) (Sl.t (⟨true, []⟩ : Sl α) :: vs) es es1 := let ⟨a, b, c⟩ := h; ⟨a, HLn b, c⟩
theorem HC.p {α : Type} [Enc α] {x : Sl α} (h : HC false ts vs es es1) : HC false (x.t :: ts) (x.t :: vs) es es1 := let ⟨a, b, c⟩ := h; ⟨a, HLp b, c⟩
theorem HC.own {z' : Bool} {w : Nat} {t v : T} (hz : (!z || z') = true) (h : HC z ts vs es es1) : HC z (t :: ts) (v :: vs) (.own z' w t v :: es) es1 := let ⟨a, b, c⟩ := h; ⟨_, HL.own hz b, by rw [c]; rfl⟩
theorem HC.agg (h : HC z cs us es es2) (k : HC z ts vs es2 es1) : HC z (.agg cs :: ts) (.agg us :: vs) es es1 := let ⟨a, b, c⟩ := h; let ⟨a', b', c'⟩ := k; ⟨a ++ a', HL.agg b b', by rw [c, c', List.append_assoc]⟩
theorem HC.of {ents : List Ent} (h : HL z ts vs ents) : HC z ts vs (ents ++ es1) es1 := ⟨_, h, rfl⟩
end
section
variable {P : Program} {md : Nat → Md} {X : Ext} {ops : Array Oper} {m : Mo} {l : List Oper} {K : Fr → Prop} {σ0 : St} {L L' : List (Nat × T)} {es es1 ents : List Ent} {β γ : Type} {eb : β → T} {r : γ} {fn : Nat} {h : β → Option γ}
variable {d : Nat} {ty : TypeId} {ps : String} {af : Array Edge} {g : Option (Nat × Bool)} {fo : Operand} {as : Array Operand} {tys : Array TypeId}
theorem aL_ {xs : List T} (k : ∀ y, semV P md X eb fn xs = some y → Kn σ0 ((d, eb y) :: L) es (h y = some r) (opsX P (run P md X) ops (nxM m) l K)) (hf : gE (get L) fo = some (.fn fn [] []) := by rfl) (ha : gEs (get L) as.toList = some xs := by rfl) (hw : want ops L g = some true := by rfl) : Kn σ0 L es ((semV P md X eb fn xs).bind h = some r) (opsX P (run P md X) ops m (⟨some d, .call ⟨.value fo, as, tys⟩, ty, ps, af, g⟩ :: l) K) := fun hp s σ hS hH => by
 obtain ⟨y, hy, hp⟩ := bind_some hp
 exact mX_ (a := []) (b := []) (xs := xs) hw hS hf ha (by simpa using hy) fun s' hS' => k y hy hp s' σ hS' hH
theorem one_of {σ : St} {es : List Ent} {z : Bool} {w : Nat} {t v : T} {i : Nat} (hH : Heap σ0 σ es) (h : es[i]? = some (.own z w t v)) : a0_ t := Heap.one (hH.at i h)
theorem bL_ {Sh : dW_ β} {ts vs : List T} {es1 : List Ent} {es' : β → T → List Ent} (k : ∀ y t, semO P md X Sh fn vs = some y → a0_ t → Kn σ0 ((d, Sh.tree [t] y) :: L) (es' y t) (h y = some r) (opsX P (run P md X) ops (nxM m) l K)) (hn : Sh.n = 1 := by rfl) (hf : gE (get L) fo = some (.fn fn [] []) := by rfl) (ha : gEs (get L) as.toList = some ts := by rfl) (hh : HC false ts vs es es1 := by repeat (first | exact HC.nil | apply HC.i | apply HC.s | apply HC.b | apply HC.n | apply HC.p | apply HC.agg | apply HC.own rfl))
  (he : ∀ y t, foL (Sh.en [t] y ++ es) some = some (es' y t) := by intros; rfl) {z : β → T → Bool} {w : β → T → Nat} {v : β → T → T} (ho : ∀ y t, (es' y t)[0]? = some (.own (z y t) (w y t) t (v y t)) := by intros; rfl) (hv : md fn = .own := by rfl) (hm : m.chg = true := by rfl) (hw : want ops L g = some true := by rfl) : Kn σ0 L es ((semO P md X Sh fn vs).bind h = some r) (opsX P (run P md X) ops m (⟨some d, .call ⟨.value fo, as, tys⟩, ty, ps, af, g⟩ :: l) K) := fun hp s σ hS hH => by
 obtain ⟨y, hy, hp⟩ := bind_some hp
 obtain ⟨ents, hh, hE⟩ := hh
 refine m2_ hm hw hS hf ha hv (hE ▸ hH) hh hy fun hs σ' s' hl hH' hS' => ?_
 rw [hn] at hl
 rw [← hE] at hH'
 match hs, hl with
 | [t], _ =>
  have := he y t; rw [bw_] at this; injection this with this
  rw [this] at hH'
  exact k y t hy (one_of hH' (ho y t)) hp s' σ' hS' hH'
end
def KR (P : Program) (σ0 : St) (L : List (Nat × T)) (es : List Ent) (rs : List ResultVar) (l : List T) : Prop := ∀ s σ, Sub L s → Heap σ0 σ es → resL P ⟨s, σ⟩ rs = some l
def okX : al_ → Bool
 | .exit _ => false
 | _ => true
section
variable {P : Program} {md : Nat → Md} {X : Ext} {O : an_} {σ0 : St} {L L0 : List (Nat × T)} {es es1 ents : List Ent} {β : Type} {eb : β → T} {r v : β} {f n : Nat} {p : Prop} {c : Code} {rs : List ResultVar} {args l : List T} {w : Wh} {k : List Ct} {e : al_} {Sh : dW_ β}
theorem rN : KR P σ0 L es [] [] := fun _ _ _ _ => rfl
theorem rT {t : Nat} {v : T} (kk : KR P σ0 L es rs l) (h : get L t = some v := by rfl) : KR P σ0 L es (.tmp t :: rs) (v :: l) := fun s σ hS hH => eV_ hS h (kk s σ hS hH)
theorem rC {a : Nat} {ty : TypeId} {b e off n : Nat} {cells cs : List T} {v : T} (i : Nat) (kk : KR P σ0 L es rs l) (h : get L a = some (.ptr b e off n) := by rfl) (he : es[i]? = some (.box b cells) := by rfl) (hc : drL off cells = some cs := by rfl) (hv : ih_ P ty cs 0 = some v := by rfl) (hn : part P ty (cs.take n) 0 = some v := by kernel_rfl) : KR P σ0 L es (.cell a ty :: rs) (v :: l) := fun s σ hS hH =>
 dV_ (e := e) hS (hH.at i he) h (by rw [← (drL_some hc).2]; exact hn) (kk s σ hS hH)
theorem k_W (hok : Ok P f c n rs) (hi : ∀ a b, eb a = eb b → a = b) (hp : p) (kk : ∀ σ0, Kn σ0 L0 [] p (whQ P (run P md X) w k (endW P rs σ0 (eb r)))) (hf : args.all flat3 = true := by kernel_rfl) (hv : md f = .view := by rfl) (hX : X f = none := by rfl) (hlen : Nat.ble args.length n = true := by kernel_rfl) (hL : foL (nums 0 args) some = some L0 := by rfl) (hc : nx 99 (.c c) [] = some (w, k) := by rfl) : semV P md X eb f args = some r :=
 m9_ hi hv hX hok hlen hf fun σ s hS hH => nx_ok (w := .c c) hc (kk σ hp s σ (by rw [bw_] at hL; injection hL with hL; rw [← hL]; exact hS) hH)
theorem k_O (hok : Ok P f c n rs) (hp : p) (kk : ∀ σ0, Kn σ0 L0 [] p (whQ P (run P md X) w k (lr_ P rs σ0 Sh r))) (hf : args.all flat3 = true := by kernel_rfl) (hv : md f = .own := by rfl) (hX : X f = none := by rfl) (hlen : Nat.ble args.length n = true := by kernel_rfl) (hL : foL (nums 0 args) some = some L0 := by rfl) (hc : nx 99 (.c c) [] = some (w, k) := by rfl) : semO P md X Sh f args = some r :=
 mW_ hv hX hok hlen hf fun σ s hS hH => nx_ok (w := .c c) hc (kk σ hp s σ (by rw [bw_] at hL; injection hL with hL; rw [← hL]; exact hS) hH)
theorem k_eW (hr : KR P σ0 L es rs l) (hp : ∀ v, pureT (eb v) = true) (ht : tupOf l = eb v := by rfl) (hf : flat3 (eb v) = true := by kernel_rfl) (he : okX e = true := by rfl) : Kn σ0 L es (some v = some r) (whQ P O (.x e) [] (endW P rs σ0 (eb r))) := fun h s σ hS hH => by
 injection h with h; subst h
 have := o6_ hH (hr s σ hS hH) ht hf (hp v)
 cases e with
 | exit i => cases he
 | _ => exact this
theorem eW {s : Nat → T} {σ : St} (hS : Sub L s) (hH : Heap σ0 σ es) (hr : KR P σ0 L es rs l) (hp : ∀ v, pureT (eb v) = true) (ht : tupOf l = eb v := by rfl) (hf : flat3 (eb v) = true := by kernel_rfl) : endW P rs σ0 (eb v) .ret ⟨s, σ⟩ := o6_ hH (hr s σ hS hH) ht hf (hp v)
theorem k_eO (hs : List T) (hr : KR P σ0 L es rs l) (ht : tupOf l = Sh.tree hs v := by rfl) (hn : hs.length = Sh.n := by rfl) (he : es = Sh.en hs v ++ es1 := by rfl) (hx : okX e = true := by rfl) : Kn σ0 L es (some v = some r) (whQ P O (.x e) [] (lr_ P rs σ0 Sh r)) := fun h s σ hS hH => by
 injection h with h; subst h
 have := o1_ (P := P) hs es1 (hr s σ hS hH) ht hn hH he
 cases e with
 | exit i => cases hx
 | _ => exact this
end
def splitF : Nat → List Ct → Option (List Ct × List Ct)
 | 0, k => some ([], k)
 | n + 1, x :: k => match splitF n k with
  | some (a, b) => some (x :: a, b)
  | none => none
 | _ + 1, [] => none
theorem d5_ {P : Program} {O : an_} {Q : al_ → Fr → Prop} : ∀ {n : Nat} {k a b : List Ct}, splitF n k = some (a, b) → popQ P O k Q = popQ P O a (popQ P O b Q)
 | 0, k, a, b, h => by injection h with h; injection h with h1 h2; subst h1; subst h2; rfl
 | n + 1, [], _, _, h => by cases h
 | n + 1, x :: k, a, b, h => by
  simp only [splitF] at h
  split at h
  ·rename_i a' b' hs
   injection h with h; injection h with h1 h2; subst h1; subst h2
   cases x with
   | s c => simp only [popQ]; rw [d5_ hs]
   | b i => simp only [popQ]; rw [d5_ hs]
  ·cases h
theorem hr_ {P : Program} {O : an_} {k : List Ct} : ∀ {Q Q' : al_ → Fr → Prop}, (∀ e fr, Q e fr → Q' e fr) → ∀ e fr, popQ P O k Q e fr → popQ P O k Q' e fr := by
 induction k with
 | nil => exact fun h => h
 | cons x k ih =>
  intro Q Q' h e fr hh
  cases x with
  | s c =>
   cases e with
   | normal => exact codeQ_mono (ih h) hh
   | exit i => exact ih h (.exit i) fr hh
   | ret => exact ih h .ret fr hh
  | b i =>
   cases e with
   | normal => exact ih h .normal fr hh
   | exit j => exact ih h _ fr hh
   | ret => exact ih h .ret fr hh
theorem lj_ {P : Program} {O : an_} {w : Wh} {k : List Ct} {Q Q' : al_ → Fr → Prop} (h : ∀ e fr, Q e fr → Q' e fr) {fr : Fr} (hh : whQ P O w k Q fr) : whQ P O w k Q' fr := by
 cases w with
 | c c => exact codeQ_mono (hr_ h) hh
 | x e => exact hr_ h _ _ hh
section
variable {P : Program} {O : an_} {ops : Array Oper} {σ0 : St} {L L1 : List (Nat × T)} {es es' : List Ent} {β γ S : Type} {r : γ} {p : Prop} {G : Fr → Prop}
variable {Q : al_ → Fr → Prop} {k ka kb k1 : List Ct} {w w1 : Wh} {s : Nat → T} {σ : St} {e : al_} {c : Code}
theorem iz_ {A : Option β} {h : β → Option γ} (n : Nat) (F : β → al_ → Fr → Prop) (h2 : ∀ y e fr, h y = some r → F y e fr → popQ P O kb Q e fr) (h1 : ∀ y, Kn σ0 L es (A = some y) (whQ P O w ka (F y))) (hs : splitF n k = some (ka, kb) := by rfl) : Kn σ0 L es (A.bind h = some r) (whQ P O w k Q) := fun hp s σ hS hH => by
 obtain ⟨y, hy, hp⟩ := bind_some hp
 have := lj_ (fun e fr => h2 y e fr hp) (h1 y hy s σ hS hH)
 cases w with
 | c c => simp only [whQ] at this ⊢; rw [d5_ hs]; exact this
 | x e => simp only [whQ] at this ⊢; rw [d5_ hs]; exact this
theorem t_bx (h : p) (hS : Sub L s) (hH : Heap σ0 σ es) (kk : Kn σ0 L es p (whQ P O w1 k1 Q)) (hn : nx 99 (.x e) k = some (w1, k1) := by rfl) : popQ P O k Q e ⟨s, σ⟩ := nx_ok (w := .x e) hn (kk h s σ hS hH)
theorem t_e {v y : γ} (kk : ∀ {s σ}, y = v → Sub L s → Heap σ0 σ es → Q e ⟨s, σ⟩) : Kn σ0 L es (some v = some y) (whQ P O (.x e) [] Q) := fun h s σ hS hH => kk (by injection h with h; exact h.symm) hS hH
theorem ch_ {body : S → Option (S ⊕ β)} {s0 : S} {h : β → Option γ} (Inv : S → Fr → Prop) (F : β → al_ → Fr → Prop) (hi : ∀ {s σ}, Sub L s → Heap σ0 σ es → Inv s0 ⟨s, σ⟩) (hr : ∀ st x fr, body st = some x → Inv st fr → whQ P O w1 k1 (l9_ Inv F x) fr) (hk : ∀ y e fr, h y = some r → F y e fr → popQ P O k Q e fr) (hn : nx 99 (.c c) [] = some (w1, k1) := by rfl) : Kn σ0 L es ((aC_ body s0).bind h = some r) (whQ P O (.c (.loop c)) k Q) := fun hp s σ hS hH => by
 obtain ⟨y, hy, hp⟩ := bind_some hp
 exact oK_ Inv F hy (hi hS hH) (fun st x fr hb hI => nx_ok (w := .c c) (k := []) hn (hr st x fr hb hI)) (fun e fr => hk y e fr hp)
theorem t_D {id : Nat} (kk : ∀ mb, Kn σ0 L es p (opsX P O ops (.d mb 0) ops.toList (popQ P O k Q .normal))) (hd : dH_ ops = true := by kernel_rfl) : Kn σ0 L es p (whQ P O (.c (.region id ops true)) k Q) := fun hp s σ hS hH =>
 nO_ (id := id) hd hH fun mb σ' hH' => kk mb hp s σ' hS hH'
end
section
variable {P : Program} {md : Nat → Md} {X : Ext} {ops : Array Oper} {σ0 : St} {L : List (Nat × T)} {es : List Ent} {p : Prop} {Q : al_ → Fr → Prop} {k : List Ct}
theorem fv_ {id : Nat} (W : List (Nat × (Nat → Prop))) (hX : XOk X) (kk : ∀ B σs, σ0.next ≤ B → (∀ x cells, Ent.box x cells ∈ es → x < B) → (∀ z w t v, Ent.own z w t v ∈ es → ∀ b e o n, t = .ref b e o n → b < B) → Kn σ0 L es p (opsX P (run P md X) ops (.c B 0 (Wc W) σs (lo_ [] md ops)) ops.toList (popQ P (run P md X) k Q .normal))) (hst : dH_ ops = true := by kernel_rfl) (hch : kZ_ [] md ops = true := by kernel_rfl) : Kn σ0 L es p (whQ P (run P md X) (.c (.region id ops true)) k Q) := fun hp s σ hS hH =>
 mz_ (id := id) [] (Wc W) hX hst hch hH fun B σs σ' h1 h2 h3 hH' => kk B σs h1 h2 h3 hp s σ' hS hH'
end
section
variable {σ0 : St} {es : List Ent} {bs : List Nat} {cs : List (List T)} {b : Nat} {c : List T}
end
section
variable {P : Program} {md : Nat → Md} {X : Ext} {ops : Array Oper} {m : Mo} {l : List Oper} {K : Fr → Prop} {σ0 : St} {L L' : List (Nat × T)} {es ents : List Ent} {β γ : Type} {eb : β → T} {r : γ} {fn : Nat} {h : β → Option γ}
variable {d : Nat} {dO : Option Nat} {ty : TypeId} {ps : String} {af : Array Edge} {g : Option (Nat × Bool)} {fo : Operand} {as : Array Operand} {tys : Array TypeId}
theorem ep_ {ts vs : List T} {es1 : List Ent} (k : ∀ y, semV P md X eb fn vs = some y → Kn σ0 ((d, eb y) :: L) es (h y = some r) (opsX P (run P md X) ops (nxM m) l K)) (hlf : ∀ y, leafT (eb y) = true := by intro; kernel_rfl) (hf : gE (get L) fo = some (.fn fn [] []) := by rfl) (ha : gEs (get L) as.toList = some ts := by rfl) (hh : HC false ts vs es es1 := by repeat (first | exact HC.nil | apply HC.i | apply HC.s | apply HC.b | apply HC.n | apply HC.p | apply HC.agg | apply HC.own rfl)) (hv : md fn = .view := by rfl) (hw : want ops L g = some true := by rfl) (hvw : m.vw = false := by rfl) : Kn σ0 L es ((semV P md X eb fn vs).bind h = some r) (opsX P (run P md X) ops m (⟨some d, .call ⟨.value fo, as, tys⟩, ty, ps, af, g⟩ :: l) K) := fun hp s σ hS hH => by
 obtain ⟨y, hy, hp⟩ := bind_some hp
 obtain ⟨ents, hh, hE⟩ := hh
 exact mF_ hw hS hf ha hv (hE ▸ hH) hh hy (hlf y) (fun s' hS' => k y hy hp s' σ hS' hH) hvw
theorem il_ {xs : List T} {q : T} (k : ∀ y, fV_ P md X eb q xs = some y → Kn σ0 ((d, eb y) :: L) es (h y = some r) (opsX P (run P md X) ops (nxM m) l K)) (hf : gE (get L) fo = some q := by rfl) (ha : gEs (get L) as.toList = some xs := by rfl) (hw : want ops L g = some true := by rfl) : Kn σ0 L es ((fV_ P md X eb q xs).bind h = some r) (opsX P (run P md X) ops m (⟨some d, .call ⟨.value fo, as, tys⟩, ty, ps, af, g⟩ :: l) K) := fun hp s σ hS hH => by
 obtain ⟨y, hy, hp⟩ := bind_some hp
 exact mE_ hw hS hf ha hy fun s' hS' => k y hy hp s' σ hS' hH
theorem a3_ {A : Option β} {xs a b : List T} {tree : β → List T → T} {ents' : β → List T → List Ent} {n : Nat} {es1 : List Ent} (k : ∀ y hs, A = some y → hs.length = n → Kn σ0 ((d, tree y hs) :: L) (ents' y hs ++ es1) (h y = some r) (opsX P (run P md X) ops .q l K)) (hf : gE (get L) fo = some (.fn fn a b) := by rfl) (ha : gEs (get L) as.toList = some xs := by rfl) (hr : ∀ y, A = some y → RawS P md X fn (a ++ xs ++ b) n (tree y) ents (ents' y)) (hE : es = ents ++ es1 := by rfl) (hw : want ops L g = some true := by rfl) : Kn σ0 L es (A.bind h = some r) (opsX P (run P md X) ops .q (⟨some d, .call ⟨.value fo, as, tys⟩, ty, ps, af, g⟩ :: l) K) := fun hp s σ hS hH => by
 obtain ⟨y, hy, hp⟩ := bind_some hp
 exact mt_ hw hS hf ha (hE ▸ hH) (hr y hy) fun hs σ' s' hl hH' hS' => k y hs hy hl hp s' σ' hS' hH'
theorem lI_ {A : Option β} {xs a b : List T} {tree : β → List T → T} {ents' : β → List T → List Ent} {n : Nat} {es1 : List Ent} (R : Nat → Prop) (hX : XOk X) (hR : Stay R es1) (hwr : ∀ x, ¬ R x → m.wr x) (k : ∀ y hs, A = some y → hs.length = n → Kn σ0 ((d, tree y hs) :: L) (ents' y hs ++ es1) (h y = some r) (opsX P (run P md X) ops (nxM m) l K)) (hf : gE (get L) fo = some (.fn fn a b) := by rfl) (ha : gEs (get L) as.toList = some xs := by rfl) (hr : ∀ y, A = some y → RawS P md X fn (a ++ xs ++ b) n (tree y) ents (ents' y)) (hE : es = ents ++ es1 := by rfl) (hm : m.chg = true := by rfl) (hw : want ops L g = some true := by rfl) : Kn σ0 L es (A.bind h = some r) (opsX P (run P md X) ops m (⟨some d, .call ⟨.value fo, as, tys⟩, ty, ps, af, g⟩ :: l) K) := fun hp s σ hS hH => by
 obtain ⟨y, hy, hp⟩ := bind_some hp
 exact k7_ hX hm R hR hwr hw hS hf ha (hE ▸ hH) (hr y hy) fun hs σ' s' hl hH' hS' => k y hs hy hl hp s' σ' hS' hH'
theorem mM_ {xs a b args : List T} {c : Code} {n0 : Nat} {rs : List ResultVar} {L0 : List (Nat × T)} {w : Wh} {k : List Ct} {p : Prop} (hok : Ok P fn c n0 rs) (kk : Kn σ0 L0 es p (whQ P (run P md X) w k (endI P rs fun v σ' => ∀ s', Sub (putL L dO v) s' → opsX P (run P md X) ops .q l K ⟨s', σ'⟩))) (hf : gE (get L) fo = some (.fn fn a b) := by rfl) (ha : gEs (get L) as.toList = some xs := by rfl) (hab : foL (a ++ xs ++ b) some = some args := by rfl) (hL : foL (nums 0 args) some = some L0 := by rfl) (hv : md fn = .raw := by rfl) (hX : X fn = none := by rfl) (hlen : Nat.ble args.length n0 = true := by kernel_rfl) (hn : nx 99 (.c c) [] = some (w, k) := by rfl) (hw : want ops L g = some true := by rfl) : Kn σ0 L es p (opsX P (run P md X) ops .q (⟨dO, .call ⟨.value fo, as, tys⟩, ty, ps, af, g⟩ :: l) K) := fun hp s σ hS hH =>
 oP_ args hw hS hf ha (by rw [bw_] at hab; injection hab) hv hX hok hlen fun s1 h1 => nx_ok (w := .c c) (k := []) hn (kk hp s1 σ (by rw [bw_] at hL; injection hL with hL; rw [← hL]; exact h1) hH)
theorem l1_ {A : Option β} {xs a b args : List T} {c : Code} {n0 : Nat} {rs : List ResultVar} {L0 : List (Nat × T)} {w : Wh} {k : List Ct} (HF : β → (Nat → T) → St → Prop) (hok : Ok P fn c n0 rs) (k1 : ∀ y, Kn σ0 L0 es (A = some y) (whQ P (run P md X) w k (endI P rs fun v σ' => ∀ s', Sub (putL L dO v) s' → HF y s' σ'))) (k2 : ∀ y s σ, HF y s σ → h y = some r → opsX P (run P md X) ops .q l K ⟨s, σ⟩) (hf : gE (get L) fo = some (.fn fn a b) := by rfl) (ha : gEs (get L) as.toList = some xs := by rfl) (hab : foL (a ++ xs ++ b) some = some args := by rfl) (hL : foL (nums 0 args) some = some L0 := by rfl) (hv : md fn = .raw := by rfl) (hX : X fn = none := by rfl) (hlen : Nat.ble args.length n0 = true := by kernel_rfl) (hn : nx 99 (.c c) [] = some (w, k) := by rfl) (hw : want ops L g = some true := by rfl) : Kn σ0 L es (A.bind h = some r) (opsX P (run P md X) ops .q (⟨dO, .call ⟨.value fo, as, tys⟩, ty, ps, af, g⟩ :: l) K) := fun hp s σ hS hH => by
 obtain ⟨y, hy, hp⟩ := bind_some hp
 exact n7_ (HF := HF y) args hw hS hf ha (by rw [bw_] at hab; injection hab) hv hX hok hlen (fun s1 h1 => nx_ok (w := .c c) (k := []) hn (k1 y hy s1 σ (by rw [bw_] at hL; injection hL with hL; rw [← hL]; exact h1) hH)) fun s' σ' hF => k2 y s' σ' hF hp
theorem k_eI {L1 : List (Nat × T)} {rs : List ResultVar} {l1 : List T} {v : T} {e : al_} {p : Prop} {O : an_} (hr : KR P σ0 L es rs l1) (kk : Kn σ0 L' es p (opsX P O ops m l K)) (ht : tupOf l1 = v := by rfl) (hL : pu L1 dO v = some L' := by rfl) (he : okX e = true := by rfl) : Kn σ0 L es p (whQ P O (.x e) [] (endI P rs fun v σ' => ∀ s', Sub (putL L1 dO v) s' → opsX P O ops m l K ⟨s', σ'⟩)) := fun hp s σ hS hH => by
 have := n0_ (K := fun v σ' => ∀ s', Sub (putL L1 dO v) s' → opsX P O ops m l K ⟨s', σ'⟩) (hr s σ hS hH) ht fun s' hS' => kk hp s' σ (lM_ hL ▸ hS') hH
 cases e with
 | exit i => cases he
 | _ => exact this
theorem f1_ {L1 : List (Nat × T)} {rs : List ResultVar} {l1 : List T} {v : T} {e : al_} {O : an_} {HF : (Nat → T) → St → Prop} {u y : β} (hr : KR P σ0 L es rs l1) (kk : ∀ {s σ}, y = u → Sub L' s → Heap σ0 σ es → HF s σ) (ht : tupOf l1 = v := by rfl) (hL : pu L1 dO v = some L' := by rfl) (he : okX e = true := by rfl) : Kn σ0 L es (some u = some y) (whQ P O (.x e) [] (endI P rs fun v σ' => ∀ s', Sub (putL L1 dO v) s' → HF s' σ')) := fun hp s σ hS hH => by
 have := n0_ (K := fun v σ' => ∀ s', Sub (putL L1 dO v) s' → HF s' σ') (hr s σ hS hH) ht fun s' hS' => kk (by injection hp with hp; exact hp.symm) (lM_ hL ▸ hS') hH
 cases e with
 | exit i => cases he
 | _ => exact this
theorem fu_ {α : Type} [Enc α] {z : Bool} {w : Nat} {t1 : T} {a : Sl α} {t : TypeId} {x : Operand} {p : Prop} {O : an_} (i : Nat) (kk : Kn σ0 ((d, .int .i64 a.l.length) :: L) es p (opsX P O ops (nxM m) l K)) (hx : gE (get L) x = some t1 := by rfl) (he : es[i]? = some (.own z w t1 a.t) := by rfl) (hk : ap_ P t = 4 := by kernel_rfl) (hw : want ops L g = some true := by rfl) : Kn σ0 L es p (opsX P O ops m (⟨some d, .call ⟨.builtin .len, #[x], #[t]⟩, ty, ps, af, g⟩ :: l) K) := fun hp s σ hS hH =>
 o4_ (z := z) (w := w) hw hS (hH.at i he) hx hk fun s' hS' => kk hp s' σ hS' hH
end
def entT : List Ent → Nat → Option T
 | .own _ _ t _ :: _, 0 => some t
 | .flt _ t _ :: _, 0 => some t
 | _ :: es, n + 1 => entT es n
 | _, _ => none
theorem iP_ {σ0 σ : St} : ∀ {es : List Ent} {i : Nat} {t : T}, Heap σ0 σ es → entT es i = some t → a0_ t
 | .own z w t v :: es, 0, t', hH, h => by injection h with h; subst h; exact Heap.one hH
 | .flt w t v :: es, 0, t', hH, h => by injection h with h; subst h; exact Heap.fltOne hH
 | .box .. :: es, 0, _, _, h => by cases h
 | .frt .. :: es, 0, _, _, h => by cases h
 | .keep .. :: es, 0, _, _, h => by cases h
 | e :: es, n + 1, t, hH, h => iP_ (es := es) (i := n) hH.drop (by cases e <;> exact h)
 | [], 0, _, _, h => by cases h
 | [], _ + 1, _, _, h => by cases h
section
variable {σ0 : St} {L : List (Nat × T)} {es es' : List Ent} {p : Prop} {G : Fr → Prop} {α β : Type} {r : α}
theorem jm_ {t : T} (i : Nat) (kk : a0_ t → Kn σ0 L es p G) (h : entT es i = some t := by rfl) : Kn σ0 L es p G := fun hp s σ hS hH => kk (iP_ hH h) hp s σ hS hH
theorem cA_ (kk : Kn σ0 L es' p G) (h : foL es some = some es' := by rfl) : Kn σ0 L es p G := fun hp s σ hS hH => kk hp s σ hS (by rw [bw_] at h; injection h with h; rw [← h]; exact hH)
theorem el_l {γ : Type} {f : α → Option γ} {g : β → Option γ} {a : α} {r : γ} (h : Sum.elim f g (Sum.inl a) = some r) : f a = some r := h
theorem el_r {γ : Type} {f : α → Option γ} {g : β → Option γ} {a : β} {r : γ} (h : Sum.elim f g (Sum.inr a) = some r) : g a = some r := h
end
def gVF (g : Nat → Option T) : Nat → List (Nat × Operand) → Option (List T)
 | _, [] => some []
 | i, (j, x) :: l => match Nat.beq i j with
  | true => match gE g x with
   | some v => match gVF g (i + 1) l with
    | some vs => some (v :: vs)
    | none => none
   | none => none
  | false => none
theorem jE_ {g : Nat → Option T} : ∀ {l : List (Nat × Operand)} {i : Nat} {vs : List T}, gVF g i l = some vs → gPs g l = some (enumV i vs)
 | [], i, vs, h => by injection h with h; subst h; rfl
 | (j, x) :: l, i, vs, h => by
  simp only [gVF] at h
  split at h
  ·rename_i hb
   split at h
   ·rename_i v hv
    split at h
    ·rename_i us hu
     injection h with h; subst h
     simp only [gPs, hv, jE_ hu, enumV, Nat.eq_of_beq_eq_true hb]
    ·cases h
   ·cases h
  ·cases h
def csF : List T → Option (List T)
 | [] => some []
 | v :: vs => match cellsF v with
  | some c => match csF vs with
   | some r => foL (c ++ r) some
   | none => none
  | none => none
theorem csF_ok : ∀ {vs cs : List T}, csF vs = some cs → vs.flatMap T.cells = cs
 | [], cs, h => by injection h
 | v :: vs, cs, h => by
  simp only [csF] at h
  split at h
  ·rename_i c hc
   split at h
   ·rename_i r hr
    rw [bw_] at h; injection h with h; subst h
    rw [List.flatMap_cons, eE_ hc, csF_ok hr]
   ·cases h
  ·cases h
theorem in_ {sz : Nat} : ∀ {vs : List T}, (vs.all fun v => Nat.beq v.cells.length sz) = true → (vs.flatMap T.cells).all T.one = true → allV sz vs
 | [], _, _ => trivial
 | v :: vs, h, k => by
  simp only [List.all_cons, Bool.and_eq_true] at h
  rw [List.flatMap_cons, List.all_append, Bool.and_eq_true] at k
  exact ⟨Nat.eq_of_beq_eq_true h.1, k.1, in_ h.2 k.2⟩
def litL {α : Type} [Enc α] [Lit α] : List α → List T
 | [] => []
 | x :: l => Lit.c x ++ litL l
theorem ig_ {α : Type} [Enc α] [Lit α] : ∀ (l : List α), af_ l = litL l
 | [] => rfl
 | x :: l => by rw [af_, litL, Lit.h, ig_ l]
section
variable {P : Program} {O : an_} {ops : Array Oper} {m : Mo} {l : List Oper} {K : Fr → Prop} {σ0 : St} {L L' : List (Nat × T)} {es es1 es' ents : List Ent} {γ : Type} {r : γ} {p : Prop} {α : Type} [Enc α]
variable {d : Nat} {dO : Option Nat} {ty : TypeId} {ps : String} {af : Array Edge} {g : Option (Nat × Bool)} {t t2 e by_ w sz len : Nat} {x y i0 : Operand} {z : Bool} {t1 ty1 : T} {zc : List T} {parts : Array (Nat × Operand)} {kk0 : IntKind} {j : Int}
theorem k_bs [Lit α] {vs cs us : List T} (a : Sl α) (kk : ∀ t', a0_ t' → Kn σ0 ((d, t') :: L) (.own z sz t' a.t :: es1) p (opsX P O ops (nxM m) l K)) (hg : gVF (get L) 0 parts.toList = some vs := by rfl) (hc : csF vs = some cs := by rfl) (hu : foL (litL a.l) some = some us := by rfl) (hh : HC z cs us es es1 := by repeat (first | exact HC.nil | apply HC.i | apply HC.s | apply HC.b | apply HC.n | apply HC.p | apply HC.agg | apply HC.own rfl)) (he : ae_ P t = some e := by rfl) (hz : szOf P e = some sz := by rfl) (hzz : az_ P e = some zc := by rfl) (hl : (Nat.beq zc.length sz && Nat.beq vs.length len && Nat.ble (len * sz) 16777216 && !Nat.beq sz 0 && !Nat.beq len 0) = true := by kernel_rfl) (hv : (vs.all fun v => Nat.beq v.cells.length sz) = true := by kernel_rfl) (h1 : cs.all T.one = true := by kernel_rfl) (hr : T.row false len (af_ a.l) = a.t := by rfl) (hb : m.base σ0 := by exact trivial) (hm : m.chg = true := by rfl) (hw : want ops L g = some true := by rfl) : Kn σ0 L es p (opsX P O ops m (⟨some d, .buildSlice t len parts, ty, ps, af, g⟩ :: l) K) := fun hp s σ hS hH => by
 obtain ⟨ents, hh, hE⟩ := hh
 exact qf_ hm hb hw hS (hE ▸ hH) (jE_ hg) he hz hzz hl (in_ hv (by rw [csF_ok hc]; exact h1)) (csF_ok hc) hh (by rw [bw_] at hu; injection hu with hu; rw [← hu, ← ig_]; exact hr) fun t' σ' s' h1 h2 h3 => kk t' h1 hp s' σ' h3 h2
theorem oW_ (kk : ∀ t', a0_ t' → Kn σ0 ((d, t') :: L) (.own true sz t' (Sl.t (⟨false, []⟩ : Sl α)) :: es) p (opsX P O ops (nxM m) l K)) (he : ae_ P t = some e := by rfl) (hz : szOf P e = some sz := by rfl) (hzz : az_ P e = some zc := by rfl) (hl : (Nat.beq zc.length sz && !Nat.beq sz 0) = true := by kernel_rfl) (hb : m.base σ0 := by exact trivial) (hm : m.chg = true := by rfl) (hw : want ops L g = some true := by rfl) : Kn σ0 L es p (opsX P O ops m (⟨some d, .buildSlice t 0 #[], ty, ps, af, g⟩ :: l) K) := fun hp s σ hS hH =>
 qx_ hm hb hw hS hH he hz hzz hl fun t' σ' s' h1 h2 h3 => kk t' h1 hp s' σ' h3 h2
theorem kF_ {a b : Sl α} {f : Sl α → Option γ} (i i2 : Nat) (k : ∀ c t', appS by_ a b = some c → a0_ t' → Kn σ0 ((d, t') :: L) (.own z (Enc.w α) t' c.t :: es') (f c = some r) (opsX P O ops (nxM m) l K)) (hx : gE (get L) x = some t1 := by rfl) (hy : gE (get L) y = some ty1 := by rfl) (h1 : pickE i es = some (.own z (Enc.w α) t1 a.t, es1) := by rfl) (h2 : pickE i2 es1 = some (.own z (Enc.w α) ty1 b.t, es') := by rfl)
  (he : ae_ P t = some e := by rfl) (hz : szOf P e = some (Enc.w α) := by kernel_rfl) (hby : cc_ P e = some by_ := by kernel_rfl) (hzz : az_ P e = some zc := by rfl) (hcl : (!b6_ P t2 && Nat.beq zc.length (Enc.w α) && !Nat.beq (Enc.w α) 0 && !Nat.beq by_ 0 && Nat.ble by_ 1048576) = true := by kernel_rfl) (hk : ap_ P t2 = 4 := by kernel_rfl) (hb : m.base σ0 := by exact trivial) (hwr : ∀ {σ}, Heap σ0 σ es → ∀ b e o n, t1 = .ref b e o n → m.wr b := by exact fun _ _ _ _ _ _ => trivial) (hm : m.chg = true := by rfl) (hw : want ops L g = some true := by rfl) : Kn σ0 L es ((appS by_ a b).bind f = some r) (opsX P O ops m (⟨some d, .call ⟨.builtin .append, #[x, y], #[t, t2]⟩, ty, ps, af, g⟩ :: l) K) := fun hp s σ hS hH => by
 obtain ⟨c, hc, hp⟩ := bind_some hp
 have hH0 := hH
 have hH : Heap σ0 σ (.own z (Enc.w α) t1 a.t :: .own z (Enc.w α) ty1 b.t :: es') := (hH.pick h1).perm ((pickE_perm h2).cons _)
 exact n9_ hm hb (hwr hH0) hw hS hH hx hy he hz hby hzz hcl hk hc fun t' σ' s' h1 h2 h3 => k c t' hc h1 hp s' σ' h3 h2
theorem nJ_ [Hld z α] {a b : Sl α} {f : Sl α → Option γ} (i : Nat) (k : ∀ c t', appS by_ a b = some c → a0_ t' → Kn σ0 ((d, t') :: L) (.own z (Enc.w α) t' c.t :: es') (f c = some r) (opsX P O ops (nxM m) l K)) (hx : gE (get L) x = some t1 := by rfl) (hy : gE (get L) y = some b.t := by rfl) (h1 : pickE i es = some (.own z (Enc.w α) t1 a.t, es') := by rfl)
  (he : ae_ P t = some e := by rfl) (hz : szOf P e = some (Enc.w α) := by kernel_rfl) (hby : cc_ P e = some by_ := by kernel_rfl) (hzz : az_ P e = some zc := by rfl) (hcl : (!b6_ P t2 && Nat.beq zc.length (Enc.w α) && !Nat.beq (Enc.w α) 0 && !Nat.beq by_ 0 && Nat.ble by_ 1048576) = true := by kernel_rfl) (hk : ap_ P t2 = 4 := by kernel_rfl) (hb : m.base σ0 := by exact trivial) (hwr : ∀ {σ}, Heap σ0 σ es → ∀ b e o n, t1 = .ref b e o n → m.wr b := by exact fun _ _ _ _ _ _ => trivial) (hm : m.chg = true := by rfl) (hw : want ops L g = some true := by rfl) : Kn σ0 L es ((appS by_ a b).bind f = some r) (opsX P O ops m (⟨some d, .call ⟨.builtin .append, #[x, y], #[t, t2]⟩, ty, ps, af, g⟩ :: l) K) := fun hp s σ hS hH => by
 obtain ⟨c, hc, hp⟩ := bind_some hp
 exact mH_ hm hb (hwr hH) hw hS (hH.pick h1) hx hy he hz hby hzz hcl hk hc fun t' σ' s' h1 h2 h3 => k c t' hc h1 hp s' σ' h3 h2
theorem p3_ [Lit α] {vs cs : List T} (a : Sl α) (kk : ∀ t', a0_ t' → Kn σ0 ((d, t') :: L) (.flt sz t' a.t :: es) p (opsX P O ops (nxM m) l K)) (hg : gVF (get L) 0 parts.toList = some vs := by rfl) (hc : csF vs = some cs := by rfl) (hu : foL (litL a.l) some = some cs := by rfl) (he : ae_ P t = some e := by rfl) (hz : szOf P e = some sz := by rfl) (hzz : az_ P e = some zc := by rfl) (hl : (Nat.beq zc.length sz && Nat.beq vs.length len && Nat.ble (len * sz) 16777216 && !Nat.beq sz 0 && !Nat.beq len 0) = true := by kernel_rfl) (hv : (vs.all fun v => Nat.beq v.cells.length sz) = true := by kernel_rfl) (h1 : cs.all T.one = true := by kernel_rfl) (hr : T.row false len (af_ a.l) = a.t := by rfl) (hb : m.base σ0 := by exact trivial) (hm : m.chg = true := by rfl) (hw : want ops L g = some true := by rfl) : Kn σ0 L es p (opsX P O ops m (⟨some d, .buildSlice t len parts, ty, ps, af, g⟩ :: l) K) := fun hp s σ hS hH =>
 p1_ hm hb hw hS hH (jE_ hg) he hz hzz hl (in_ hv (by rw [csF_ok hc]; exact h1)) (csF_ok hc) (by rw [bw_] at hu; injection hu with hu; rw [← hu, ← ig_]; exact hr) fun t' σ' s' h1 h2 h3 => kk t' h1 hp s' σ' h3 h2
theorem e7_ {a : Sl α} {f : α → Option γ} (i : Nat) (k : ∀ b ep y, elt a j = some y → t1 = .ref b ep 0 a.l.length → Kn σ0 ((d, .ptr b ep (j.toNat * Enc.w α) (Enc.w α)) :: L) es (f y = some r) (opsX P O ops (nxM m) l K)) (hx : gE (get L) x = some t1 := by rfl) (hi : gE (get L) i0 = some (.int kk0 j) := by rfl) (h1 : es[i]? = some (.own z w t1 a.t) := by rfl) (he : ae_ P t = some e := by rfl) (hz : szOf P e = some (Enc.w α) := by kernel_rfl) (hlt : ∀ b e o n, t1 = .ref b e o n → m.lt b := by exact fun _ _ _ _ _ => trivial) (hw : want ops L g = some true := by rfl) : Kn σ0 L es ((elt a j).bind f = some r) (opsX P O ops m (⟨some d, .indexAddr t x i0, ty, ps, af, g⟩ :: l) K) := fun hp s σ hS hH => by
 obtain ⟨y, hy, hp⟩ := bind_some hp
 exact nU_ (z := z) (w := w) hlt hw hS (hH.at i h1) hx hi he hz hy fun b ep s' hr h3 => k b ep y hy hr hp s' σ h3 hH
theorem kI_ {a : Sl α} {f : α → Option γ} (i : Nat) (k : ∀ b ep y, elt a j = some y → t1 = .ref b ep 0 a.l.length → Kn σ0 ((d, .ptr b ep (j.toNat * Enc.w α) (Enc.w α)) :: L) es (f y = some r) (opsX P O ops (nxM m) l K)) (hx : gE (get L) x = some t1 := by rfl) (hi : gE (get L) i0 = some (.int kk0 j) := by rfl) (h1 : es[i]? = some (.flt (Enc.w α) t1 a.t) := by rfl) (he : ae_ P t = some e := by rfl) (hz : szOf P e = some (Enc.w α) := by kernel_rfl) (hlt : ∀ b e o n, t1 = .ref b e o n → m.lt b := by exact fun _ _ _ _ _ => trivial) (hw : want ops L g = some true := by rfl) : Kn σ0 L es ((elt a j).bind f = some r) (opsX P O ops m (⟨some d, .indexAddr t x i0, ty, ps, af, g⟩ :: l) K) := fun hp s σ hS hH => by
 obtain ⟨y, hy, hp⟩ := bind_some hp
 exact ov_ hlt hw hS (hH.at i h1) hx hi he hz hy fun b ep s' hr h3 => k b ep y hy hr hp s' σ h3 hH
theorem nY_ {a : Sl α} (i : Nat) (kk : Kn σ0 ((d, .int .i64 a.l.length) :: L) es p (opsX P O ops (nxM m) l K)) (hx : gE (get L) x = some t1 := by rfl) (he : es[i]? = some (.flt w t1 a.t) := by rfl) (hk : ap_ P t = 4 := by kernel_rfl) (hw : want ops L g = some true := by rfl) : Kn σ0 L es p (opsX P O ops m (⟨some d, .call ⟨.builtin .len, #[x], #[t]⟩, ty, ps, af, g⟩ :: l) K) := fun hp s σ hS hH =>
 ob_ (w := w) hw hS (hH.at i he) hx hk fun s' hS' => kk hp s' σ hS' hH
theorem ek_ [Lit α] {a : Sl α} {b ep n : Nat} {c : List T} {v : T} {y : α} (i off : Nat) (hr : t1 = .ref b ep 0 a.l.length) (hy : elt a j = some y) (kk : Kn σ0 ((d, v) :: L) es p (opsX P O ops (nxM m) l K)) (ha : gE (get L) x = some (.ptr b ep (j.toNat * Enc.w α + off) n) := by rfl) (he : es[i]? = some (.own z w t1 a.t) := by rfl) (hc : foL (Lit.c y) some = some c := by rfl) (hv : c[off]? = some v := by rfl) (hag : fr_ P t = some false := by kernel_rfl) (hn : Nat.ble 1 n = true := by kernel_rfl) (hlf : ∀ σ d t S, hold z σ d t = some (v, S) → t = v := by first | exact lJ_ | exact k3_ | exact kO_) (hlt : ∀ b e o n, t1 = .ref b e o n → m.lt b := by exact fun _ _ _ _ _ => trivial) (hw : want ops L g = some true := by rfl) : Kn σ0 L es p (opsX P O ops m (⟨some d, .load t x, ty, ps, af, g⟩ :: l) K) := fun hp s σ hS hH =>
 ne_ (z := z) (w := w) (c := c) hlt hw hS (hH.at i he) hr ha hy (by rw [Lit.h]; rw [bw_] at hc; injection hc) hag hv hn hlf fun s' h3 => kk hp s' σ h3 hH
theorem ip_ [Lit α] {a : Sl α} {b ep n : Nat} {c cs : List T} {v : T} {y : α} (i off : Nat) (hr : t1 = .ref b ep 0 a.l.length) (hy : elt a j = some y) (kk : Kn σ0 ((d, v) :: L) es p (opsX P O ops (nxM m) l K)) (ha : gE (get L) x = some (.ptr b ep (j.toNat * Enc.w α + off) n) := by rfl) (he : es[i]? = some (.flt (Enc.w α) t1 a.t) := by rfl) (hc : foL (Lit.c y) some = some c := by rfl) (hd : drL off c = some cs := by rfl) (hv : ih_ P t cs 0 = some v := by rfl) (hn : Nat.ble (off + n) (Enc.w α) = true := by kernel_rfl) (hvn : part P t (cs.take n) 0 = some v := by kernel_rfl) (hlt : ∀ b e o n, t1 = .ref b e o n → m.lt b := by exact fun _ _ _ _ _ => trivial) (hw : want ops L g = some true := by rfl) : Kn σ0 L es p (opsX P O ops m (⟨some d, .load t x, ty, ps, af, g⟩ :: l) K) := fun hp s σ hS hH =>
 mv_ (c := c) hlt hw hS (hH.at i he) hr ha hy (by rw [Lit.h]; rw [bw_] at hc; injection hc) hn (by rw [← (drL_some hd).2]; exact hvn) fun s' h3 => kk hp s' σ h3 hH
end
section
variable {P : Program} {O : an_} {ops : Array Oper} {m : Mo} {l : List Oper} {K : Fr → Prop} {σ0 σk : St} {F : List Nat} {L : List (Nat × T)} {es : List Ent} {p : Prop}
variable {d : Nat} {ty : TypeId} {ps : String} {af : Array Edge} {g : Option (Nat × Bool)} {t : TypeId} {x : Operand} {pp : T} {c : List T}
end
end Go.Am
end
section
set_option linter.unusedVariables false
set_option linter.unusedSimpArgs false
namespace Go.Am
open Classical
def tri (o : Oper) : Option (Nat × Bool) × Option Nat × Op := (o.guard, o.dst, o.op)
theorem a1_ {l : List Oper} {g : Option (Nat × Bool)} {d : Option Nat} {op : Op} {rest : List (Option (Nat × Bool) × Option Nat × Op)} (h : l.map tri = (g, d, op) :: rest) : ∃ ty ps af l', l = ⟨d, op, ty, ps, af, g⟩ :: l' ∧ l'.map tri = rest := by
 cases l with
 | nil => cases h
 | cons o l =>
  obtain ⟨d', op', ty, ps, af, g'⟩ := o
  simp only [List.map_cons, tri, List.cons.injEq, Prod.mk.injEq] at h
  obtain ⟨⟨rfl, rfl, rfl⟩, h⟩ := h
  exact ⟨ty, ps, af, l, rfl, h⟩
theorem gR_ {l : List Oper} (h : l.map tri = []) : l = [] := by simpa using h
structure me_ (P : Program) (I : It) (tS tE : TypeId) : Prop where
 r0 : ∃ ti, I.R0.toList.map tri = [(none, some 4, .load tS (.tmp 1)), (none, some 5, .call ⟨.builtin .len, #[.tmp 4], #[tS]⟩), (none, some 6, .binOp .sub ti (.tmp 5) (.const (.int .i64 1)) ti), (none, some 3, .assign (.tmp 6))]
 r1 : ∃ ti, I.R1.toList.map tri = [(none, some 7, .move (.tmp 3)), (none, some 8, .binOp .geq ti (.tmp 7) (.const (.int .i64 0)) ti)]
 c1 : I.c1 = .tmp 8
 r3 : ∃ a17 tb, I.R3.toList.map tri = [(none, some 11, .move (.tmp 0)), (none, some 12, .move (.tmp 3)), (none, some 13, .load tS (.tmp 1)), (none, some 14, .move (.tmp 3)), (none, some 15, .indexAddr tS (.tmp 13) (.tmp 14)), (none, some 16, .load tE (.tmp 15)), (none, some 17, .call ⟨.value (.tmp 11), #[.tmp 12, .tmp 16], a17⟩), (none, some 18, .unOp .not tb (.tmp 17))]
 c2 : I.c2 = .tmp 18
 r2 : ∃ ti, I.R2.toList.map tri = [(none, some 9, .move (.tmp 3)), (none, some 10, .binOp .sub ti (.tmp 9) (.const (.int .i64 1)) ti), (none, some 3, .assign (.tmp 10))]
def hi_ {α S : Type} (bd : Int → α → S → Option S) (l : List α) : Nat → S → Option S
 | 0, s => some s
 | n + 1, s => (l[n]?).bind fun y => (bd n y s).bind (hi_ bd l n)
def pp_ {α S : Type} (x : Sl α) (bd : Int → α → S → Option S) (s : S) : Option S := hi_ bd x.l x.l.length s
section
variable {P : Program} {O : an_} {ops : Array Oper} {s : Nat → T} {σ : St} {L M : List (Nat × T)}
theorem e0_ {l : List Oper} (h : seg P ops l.length l L = some M) (hS : Sub L s) : ∃ s', opsL P O ops l ⟨s, σ⟩ = some ⟨s', σ⟩ ∧ Sub M s' := by
 have := seg_sound (P := P) (O := O) (ops := ops) (σ := σ) (K := fun fr => fr.σ = σ ∧ Sub M fr.s) (m := .q) h hS (fun s' hM => by rw [List.drop_length]; exact oS_ ⟨rfl, hM⟩)
 obtain ⟨⟨s', σ'⟩, h1, h2, h3⟩ := c8_ (l := l) this
 subst h2; exact ⟨s', h1, h3⟩
theorem hW_ {l l' : List Oper} {fr fr' : Fr} (h : opsL P O ops l fr = some fr') : opsL P O ops (l ++ l') fr = opsL P O ops l' fr' := by
 induction l generalizing fr with
 | nil => injection h with h; subst h; rfl
 | cons o l ih =>
  simp only [opsL, List.cons_append] at h ⊢
  obtain ⟨fr1, h1, h2⟩ := Option.bind_eq_some_iff.1 h
  rw [h1]; exact ih h2
theorem ks_ {b : Nat} {cells : List T} {v : T} {t a d : Nat} {ty : TypeId} {ps : String} {af : Array Edge} (hS : Sub L s) (hL : Lent σ b cells) (ha : get L a = some (.ptr b 0 0 1)) (hv : part P t (cells.take 1) 0 = some v) : ∃ s', opsL P O ops [⟨some d, .load t (.tmp a), ty, ps, af, none⟩] ⟨s, σ⟩ = some ⟨s', σ⟩ ∧ Sub ((d, v) :: L) s' := by
 obtain ⟨_, B, h1, rfl, h3, h4⟩ := hL
 have := d7_ (P := P) (O := O) (ops := ops) (m := .q) (d := some d) (op := .load t (.tmp a)) (ty := ty) (ps := ps) (af := af) (g := none) (l := []) (L := L) (s := s) (σ := σ) (v := v) (K := fun fr => fr.σ = σ ∧ Sub ((d, v) :: L) fr.s) rfl hS
  (fun kk σ' ha' => by
   have : σ' = σ := ha'
   subst this
   have e : evalO s (.tmp a) = some (.ptr b 0 0 1) := ab_ (g := get L) hS ha
   rw [hq_, e, Option.bind_some, dF_, h1, Option.bind_some, if_pos (by omega)]
   simp only [List.drop_zero, hv]; rfl) (fun s' hS' => ⟨rfl, hS'⟩)
 obtain ⟨⟨s', σ'⟩, k1, k2, k3⟩ := c8_ (l := [_]) this
 subst k2; exact ⟨s', k1, k3⟩
theorem oO_ {α : Type} [Enc α] {x : Sl α} {n : Nat} {y : α} {tS tE d a i : Nat} {ty : TypeId} {ps : String} {af : Array Edge} (hS : Sub L s) (hx : get L a = some x.t) (hi : get L i = some (i4 n)) (he : ae_ P tS = some tE) (hz : szOf P tE = some (Enc.w α)) (hy : x.l[n]? = some y) :
  ∃ s' rest, opsL P O ops [⟨some d, .indexAddr tS (.tmp a) (.tmp i), ty, ps, af, none⟩] ⟨s, σ⟩ = some ⟨s', σ⟩ ∧ Sub ((d, .vw (Enc.cells y ++ rest)) :: L) s' := by
 have := oe_ (P := P) (O := O) (ops := ops) (m := .q) (l := []) (K := fun fr => fr.σ = σ ∧ ∃ rest, Sub ((d, .vw (Enc.cells y ++ rest)) :: L) fr.s) (sl := x) (j := (n : Int)) (kk := .i64) (y := y) (d := some d) (g := none) (ty := ty) (ps := ps) (af := af) (σ := σ) (Enc.cells y) rfl hS (x := .tmp a) (i := .tmp i) hx hi he hz (by unfold elt; rw [if_pos (by omega)]; simpa using hy) rfl (fun rest s' hS' => ⟨rfl, rest, hS'⟩)
 obtain ⟨⟨s', σ'⟩, k1, k2, rest, k3⟩ := c8_ (l := [_]) this
 subst k2; exact ⟨s', rest, k1, k3⟩
theorem g7_ {fr : Fr} : idxL P O ops none (List.range ops.size) fr = opsL P O ops ops.toList fr := by
 rw [List.range_eq_range', ← Array.length_toList, fh_ O ops ops.toList 0 (by simp)]
theorem kj_ {fr : Fr} (k n : Nat) (h : k + n ≤ ops.size) : idxL P O ops none (List.range' k n) fr = opsL P O ops ((ops.toList.drop k).take n) fr := by
 have hl : ((ops.toList.drop k).take n).length = n := by simp; omega
 have := fh_ (P := P) O ops ((ops.toList.drop k).take n) k (fun j hj => by rw [hl] at hj; simp [List.getElem?_take, hj]) fr
 rw [hl] at this; exact this
end
section
variable {P : Program} {O : an_} {α S : Type} [Enc α]
theorem qk_ {ops : Array Oper} {l b n tS tE : Nat} {x : Sl α} {y : α} {si : Nat → T} {σ : St} {L : List (Nat × T)} {y1 y2 y3 y4 y5 y6 : TypeId} {pw1 pw2 pw3 pw4 pw5 pw6 : String} {z1 z2 z3 z4 z5 z6 : Array Edge} (hS : Sub ((3, i4 n) :: (1, .ptr b 0 0 1) :: (0, .yld l) :: L) si) (hL : Lent σ b [x.t])
  (he : ae_ P tS = some tE) (hz : szOf P tE = some (Enc.w α)) (hps : part P tS [x.t] 0 = some x.t) (hpe : ∀ (y : α) rest, part P tE (Enc.cells y ++ rest) 0 = some (.agg (Enc.cells y))) (hy : x.l[n]? = some y) :
  ∃ s', opsL P O ops [⟨some 11, .move (.tmp 0), y1, pw1, z1, none⟩, ⟨some 12, .move (.tmp 3), y2, pw2, z2, none⟩, ⟨some 13, .load tS (.tmp 1), y3, pw3, z3, none⟩, ⟨some 14, .move (.tmp 3), y4, pw4, z4, none⟩, ⟨some 15, .indexAddr tS (.tmp 13) (.tmp 14), y5, pw5, z5, none⟩, ⟨some 16, .load tE (.tmp 15), y6, pw6, z6, none⟩] ⟨si, σ⟩ = some ⟨s', σ⟩ ∧ Sub [(16, .agg (Enc.cells y)), (12, i4 n), (11, .yld l), (3, i4 n), (1, .ptr b 0 0 1), (0, .yld l)] s' := by
 obtain ⟨s1, a1, b1⟩ := e0_ (P := P) (O := O) (ops := ops) (σ := σ) (l := [⟨some 11, .move (.tmp 0), y1, pw1, z1, none⟩, ⟨some 12, .move (.tmp 3), y2, pw2, z2, none⟩]) (M := (12, i4 n) :: (11, .yld l) :: (3, i4 n) :: (1, .ptr b 0 0 1) :: (0, .yld l) :: L) rfl hS
 obtain ⟨s2, a2, b2⟩ := ks_ (P := P) (O := O) (ops := ops) (t := tS) (d := 13) (a := 1) (ty := y3) (ps := pw3) (af := z3) b1 hL rfl hps
 obtain ⟨s3, a3, b3⟩ := e0_ (P := P) (O := O) (ops := ops) (σ := σ) (l := [⟨some 14, .move (.tmp 3), y4, pw4, z4, none⟩]) (M := (14, i4 n) :: (13, x.t) :: (12, i4 n) :: (11, .yld l) :: (3, i4 n) :: (1, .ptr b 0 0 1) :: (0, .yld l) :: L) rfl b2
 obtain ⟨s4, rest, a4, b4⟩ := oO_ (P := P) (O := O) (ops := ops) (σ := σ) (d := 15) (a := 13) (i := 14) (ty := y5) (ps := pw5) (af := z5) b3 rfl rfl he hz hy
 obtain ⟨s5, a5, b5⟩ := e0_ (P := P) (O := O) (ops := ops) (σ := σ) (l := [⟨some 16, .load tE (.tmp 15), y6, pw6, z6, none⟩]) (M := (16, .agg (Enc.cells y)) :: (15, .vw (Enc.cells y ++ rest)) :: (14, i4 n) :: (13, x.t) :: (12, i4 n) :: (11, .yld l) :: (3, i4 n) :: (1, .ptr b 0 0 1) :: (0, .yld l) :: L) (by
  show (match part P tE (Enc.cells y ++ rest) 0 with | some v => some ((16, v) :: _) | none => none) = _
  rw [hpe]) b4
 refine ⟨s5, ?_, ad_ b5 rfl⟩
 show opsL P O ops ([_, _] ++ ([_] ++ ([_] ++ ([_] ++ [_])))) _ = _
 rw [hW_ a1, hW_ a2, hW_ a3, hW_ a4]; exact a5
theorem m6_ {g : Operand} {p0 p1 : Nat} {A : Fr → Option (al_ × Fr)} {s : Nat → T} {σ : St} {f b : Nat} {fn : Func} {I : It} {x : Sl α} {tS tE : TypeId} {bd : Int → α → S → Option S} {s0 r : S} (Inv : S → St → Prop)
  (hg : evalO s g = some (.fn f [] [.ptr b 0 0 1])) (hf : P.funcs[f]? = some fn) (hI : fn.body.bind itOf = some I) (h1 : (fn.name == "runtime.NumGoroutine") = false) (h2 : fn.results.toList = []) (h3 : dstsOk fn.ntmps I.code = true) (h4 : 2 ≤ fn.ntmps) (hB : me_ P I tS tE)
  (he : ae_ P tS = some tE) (hz : szOf P tE = some (Enc.w α)) (ha : fr_ P tE = some true) (hs : fr_ P tS = some false) (hl : lenA P ⟨0, fun _ => none⟩ tS x.t = some (i4 x.l.length)) (hn : x.l.length < 4611686018427387904)
  (hi : Inv s0 σ) (hL : ∀ st σ, Inv st σ → Lent σ b [x.t]) (hr : ∀ i y st st' σ1, bd i y st = some st' → Inv st σ1 → ∃ fr', A ⟨putPs s [(p0, i4 i), (p1, .agg (Enc.cells y))], σ1⟩ = some (.normal, fr') ∧ Inv st' fr'.σ)
  (hb : pp_ x bd s0 = some r) : ∃ σ1, g9_ P O g #[p0, p1] A ⟨s, σ⟩ = some (.normal, ⟨s, σ1⟩) ∧ Inv r σ1 := by
 obtain ⟨⟨ti0, r0⟩, ⟨ti1, r1⟩, c1, ⟨a17, tb, r3⟩, c2, ⟨ti2, r2⟩⟩ := hB
 have hps : part P tS [x.t] 0 = some x.t := by simp [part, hs]
 have hpe : ∀ (y : α) rest, part P tE (Enc.cells y ++ rest) 0 = some (.agg (Enc.cells y)) := fun y rest => by
  have hl := Enc.len y
  simp only [part, ha, hz, Option.bind_some, if_true, List.drop_zero, Nat.zero_add]
  rw [if_pos (by rw [List.length_append, hl]; omega), List.take_append_of_le_length (by omega), List.take_of_length_le (by omega)]
 obtain ⟨_, _, _, l1, e1, r1⟩ := a1_ r1
 obtain ⟨_, _, _, l1', e1', r1⟩ := a1_ r1
 have := gR_ r1; subst this; subst e1'
 obtain ⟨_, _, _, m1, f1, r2⟩ := a1_ r2
 obtain ⟨_, _, _, m2, f2, r2⟩ := a1_ r2
 obtain ⟨_, _, _, m3, f3, r2⟩ := a1_ r2
 have := gR_ r2; subst this; subst f3; subst f2
 obtain ⟨x1, x2, x3, n1, g1, r0⟩ := a1_ r0
 obtain ⟨_, _, _, n2, g2, r0⟩ := a1_ r0
 obtain ⟨_, _, _, n3, g3, r0⟩ := a1_ r0
 obtain ⟨_, _, _, n4, g4, r0⟩ := a1_ r0
 have := gR_ r0; subst this; subst g4; subst g3; have g2' := g2
 obtain ⟨y1, pw1, z1, k1, h1', r3⟩ := a1_ r3
 obtain ⟨y2, pw2, z2, k2, h2', r3⟩ := a1_ r3
 obtain ⟨y3, pw3, z3, k3, h3', r3⟩ := a1_ r3
 obtain ⟨y4, pw4, z4, k4, h4', r3⟩ := a1_ r3
 obtain ⟨y5, pw5, z5, k5, h5', r3⟩ := a1_ r3
 obtain ⟨y6, pw6, z6, k6, h6', r3⟩ := a1_ r3
 obtain ⟨y7, pw7, z7, k7, h7', r3⟩ := a1_ r3
 obtain ⟨y8, pw8, z8, k8, h8', r3⟩ := a1_ r3
 have := gR_ r3; subst this; subst h8'; subst h7'; subst h6'; subst h5'; subst h4'; subst h3'; subst h2'
 have hk : kY I.R3 = 6 := by unfold kY; rw [h1']; rfl
 have hsz : I.R3.size = 8 := by rw [← Array.length_toList, h1']; rfl
 -- the loop, from some index on
 have key : ∀ n st σ1, n ≤ x.l.length → hi_ bd x.l n st = some r → Inv st σ1 → ∃ σ', Inv r σ' ∧ ∀ l si, Sub [(3, i4 ((n : Int) - 1)), (1, .ptr b 0 0 1), (0, .yld l)] si → ∃ it1, fe_ (fa_ P O l I #[p0, p1] A s) ⟨si, σ1⟩ = some (.ret, it1) ∧ it1.σ = σ' := by
  intro n
  induction n with
  | zero =>
   intro st σ1 _ hbn hI1
   injection hbn with hbn; subst hbn
   refine ⟨σ1, hI1, fun l si hS => ?_⟩
   obtain ⟨s1, q1, q2⟩ := e0_ (P := P) (O := O) (ops := I.R1) (l := I.R1.toList) (L := _) (σ := σ1) (M := [(8, .bool (decide ((0 : Int) ≤ ((0 : Nat) : Int) - 1))), (7, i4 (((0 : Nat) : Int) - 1)), (3, i4 (((0 : Nat) : Int) - 1)), (1, .ptr b 0 0 1), (0, .yld l)]) (by rw [e1]; rfl) hS
   refine ⟨⟨s1, σ1⟩, ?_, rfl⟩
   rw [dY_]
   have : fa_ P O l I #[p0, p1] A s ⟨si, σ1⟩ = some (.ret, ⟨s1, σ1⟩) := by
    unfold fa_
    rw [g7_, q1, Option.bind_some, c1]
    have e : evalO s1 (.tmp 8) = some (.bool false) := ab_ (g := get _) q2 rfl
    rw [e]; rfl
   rw [this]; rfl
  | succ n ih =>
   intro st σ1 hle hbn hI1
   simp only [hi_] at hbn
   obtain ⟨y, hy, hbn⟩ := Option.bind_eq_some_iff.1 hbn
   obtain ⟨st1, hb1, hbn⟩ := Option.bind_eq_some_iff.1 hbn
   obtain ⟨⟨sA, σA⟩, hA, hIA⟩ := hr _ _ _ _ _ hb1 hI1
   obtain ⟨σ', hI', hrest⟩ := ih st1 σA (by omega) hbn hIA
   refine ⟨σ', hI', fun l si hS => ?_⟩
   have hS : Sub [(3, i4 n), (1, .ptr b 0 0 1), (0, .yld l)] si := by
    have : (((n + 1 : Nat) : Int) - 1) = (n : Int) := by omega
    rw [this] at hS; exact hS
   obtain ⟨s1, q1, q2⟩ := e0_ (P := P) (O := O) (ops := I.R1) (l := I.R1.toList) (L := _) (σ := σ1) (M := [(8, .bool (decide ((0 : Int) ≤ (n : Int)))), (7, i4 n), (3, i4 n), (1, .ptr b 0 0 1), (0, .yld l)]) (by rw [e1]; rfl) hS
   have hL1 := hL _ _ hI1
   obtain ⟨s2, q3, q4⟩ := qk_ (P := P) (O := O) (ops := I.R3) (L := []) (y1 := y1) (pw1 := pw1) (z1 := z1) (y2 := y2) (pw2 := pw2) (z2 := z2) (y3 := y3) (pw3 := pw3) (z3 := z3) (y4 := y4) (pw4 := pw4) (z4 := z4) (y5 := y5) (pw5 := pw5) (z5 := z5) (y6 := y6) (pw6 := pw6) (z6 := z6) (ad_ q2 rfl) hL1 he hz hps hpe hy
   obtain ⟨s3, q5, q6⟩ := e0_ (P := P) (O := O) (ops := I.R3) (l := [⟨some 18, .unOp .not tb (.tmp 17), y8, pw8, z8, none⟩]) (s := (Fr.put ⟨s2, σ1⟩ (some 17) (.bool true) σA).s) (σ := σA) (M := (18, .bool false) :: (17, .bool true) :: [(16, .agg (Enc.cells y)), (12, i4 n), (11, .yld l), (3, i4 n), (1, .ptr b 0 0 1), (0, .yld l)]) (L := (17, .bool true) :: [(16, .agg (Enc.cells y)), (12, i4 n), (11, .yld l), (3, i4 n), (1, .ptr b 0 0 1), (0, .yld l)]) rfl (gX_ q4 17 (.bool true))
   obtain ⟨s4, q7, q8⟩ := e0_ (P := P) (O := O) (ops := I.R2) (l := I.R2.toList) (s := s3) (σ := σA) (L := [(3, i4 n), (1, .ptr b 0 0 1), (0, .yld l)]) (M := [(3, i4 (w4 ((n : Int) - 1))), (10, i4 (w4 ((n : Int) - 1))), (9, i4 n), (3, i4 n), (1, .ptr b 0 0 1), (0, .yld l)]) (by rw [f1]; rfl) (ad_ q6 rfl)
   have ho : I.R3[6]? = some ⟨some 17, .call ⟨.value (.tmp 11), #[.tmp 12, .tmp 16], a17⟩, y7, pw7, z7, none⟩ := by rw [← Array.getElem?_toList, h1']; rfl
   have hy0 : evalO s2 (.tmp 11) = some (.yld l) := ab_ (g := get _) q4 rfl
   have hya : bm_ s2 [.tmp 12, .tmp 16] = some [i4 n, .agg (Enc.cells y)] := bk_ (g := get _) q4 rfl
   have hround : fa_ P O l I #[p0, p1] A s ⟨si, σ1⟩ = some (.normal, ⟨s4, σA⟩) := by
    unfold fa_
    rw [g7_, q1, Option.bind_some, c1, show evalO s1 (.tmp 8) = some (.bool true) from ab_ (g := get _) q2 (by show some (T.bool (decide ((0 : Int) ≤ (n : Int)))) = _; rw [show decide ((0 : Int) ≤ (n : Int)) = true by simp])]
    simp only [Option.bind_some]
    have e6 : idxL P O I.R3 none (List.range (kY I.R3)) ⟨s1, σ1⟩ = some ⟨s2, σ1⟩ := by
     rw [hk, List.range_eq_range', kj_ 0 6 (by omega), h1']; exact q3
    have ey : yOp l s2 ⟨some 17, .call ⟨.value (.tmp 11), #[.tmp 12, .tmp 16], a17⟩, y7, pw7, z7, none⟩ = some [i4 n, .agg (Enc.cells y)] := by
     simp only [yOp, hy0, if_true]; exact hya
    have e7 : idxL P O I.R3 none (List.range' (kY I.R3 + 1) (I.R3.size - (kY I.R3 + 1))) (Fr.put ⟨s2, σ1⟩ (some 17) (.bool true) σA) = some ⟨s3, σA⟩ := by
     rw [hk, hsz, kj_ 7 1 (by omega), h1']; exact q5
    rw [e6]
    simp only [Option.bind_some, hk, ho, ey]
    rw [if_pos (show [i4 (n : Int), T.agg (Enc.cells y)].length = #[p0, p1].size from rfl)]
    have hA' : A ⟨putPs s ([p0, p1].zip [i4 n, .agg (Enc.cells y)]), σ1⟩ = some (.normal, ⟨sA, σA⟩) := hA
    rw [hA']
    simp only [Option.bind_some]
    rw [hk] at e7
    rw [e7, Option.bind_some, c2, show evalO s3 (.tmp 18) = some (.bool false) from ab_ (g := get _) q6 rfl]
    simp only [Option.bind_some]
    rw [g7_, q7]; rfl
   rw [dY_, hround]
   exact hrest l s4 (by
    have := w64 (x := (n : Int) - 1) (by omega) (by omega)
    rw [this] at q8; exact ad_ q8 rfl)
 obtain ⟨σ', hI', hrest⟩ := key x.l.length s0 σ (Nat.le_refl _) hb hi
 have hL0 := hL _ _ hi
 have hall : ∀ l, ∃ it1, lH_ P O #[p0, p1] A ⟨s, σ⟩ I [.ptr b 0 0 1] l = some (.ret, it1) ∧ it1.σ = σ' := fun l => by
  have hS0 : Sub [(1, .ptr b 0 0 1), (0, .yld l)] (enterS [.yld l, .ptr b 0 0 1]) := fun j v hj => by
   simp only [get] at hj
   split at hj
   ·rename_i e; have := Nat.eq_of_beq_eq_true e; subst this; injection hj
   ·split at hj
    ·rename_i e; have := Nat.eq_of_beq_eq_true e; subst this; injection hj
    ·cases hj
  obtain ⟨s1, a1, b1⟩ := ks_ (P := P) (O := O) (ops := I.R0) (t := tS) (d := 4) (a := 1) (ty := x1) (ps := x2) (af := x3) hS0 hL0 rfl hps
  obtain ⟨s2, a2, b2⟩ := e0_ (P := P) (O := O) (ops := I.R0) (σ := σ) (l := n1) (M := [(3, i4 (w4 ((x.l.length : Int) - 1))), (6, i4 (w4 ((x.l.length : Int) - 1))), (5, i4 x.l.length), (4, x.t), (1, .ptr b 0 0 1), (0, .yld l)]) (by
   rw [g2']
   have hp : pOp P (get [(4, x.t), (1, .ptr b 0 0 1), (0, .yld l)]) (.call ⟨.builtin .len, #[.tmp 4], #[tS]⟩) = some (i4 x.l.length) := hl
   simp only [List.length_cons, List.length_nil, Nat.zero_add, Nat.reduceAdd, seg, want, hp]
   rfl) b1
  have e0 : idxL P O I.R0 none (List.range I.R0.size) ⟨enterS [.yld l, .ptr b 0 0 1], σ⟩ = some ⟨s2, σ⟩ := by
   rw [g7_, g1]
   show opsL P O I.R0 ([_] ++ n1) _ = _
   rw [hW_ a1]; exact a2
  have := w64 (x := (x.l.length : Int) - 1) (by omega) (by omega)
  rw [this] at b2
  unfold lH_
  rw [e0]
  exact hrest l s2 (ad_ b2 rfl)
 have hex : ((fn.name == "runtime.NumGoroutine") = false ∧ fn.results.toList = [] ∧ dstsOk fn.ntmps I.code = true ∧ [T.ptr b 0 0 1].length + 1 ≤ fn.ntmps) ∧ ∃ σ1, ∀ l, ∃ it1, lH_ P O #[p0, p1] A ⟨s, σ⟩ I [.ptr b 0 0 1] l = some (.ret, it1) ∧ it1.σ = σ1 := ⟨⟨h1, h2, h3, h4⟩, σ', hall⟩
 refine ⟨σ', ?_, hI'⟩
 unfold g9_
 simp only [hg, hf, hI]
 rw [dif_pos hex]
 obtain ⟨it, i1, i2⟩ := Classical.choose_spec hex.2 0
 obtain ⟨it', i3, i4⟩ := hall 0
 rw [i1] at i3; injection i3 with i3; injection i3 with _ i3; subst i3
 rw [← i4, i2]
end
structure pi_ (P : Program) (f tS tE w : Nat) : Prop where
 ex : ∃ c I n, Ok P f c n [] ∧ itOf c = some I ∧ 2 ≤ n ∧ me_ P I tS tE
 he : ae_ P tS = some tE
 hz : szOf P tE = some w
 ha : fr_ P tE = some true
 hs : fr_ P tS = some false
 hk : ap_ P tS = 4
noncomputable def im_ {α S : Type} (x : Sl α) (bd : Int → α → S → Option S) (s : S) : Option S := if x.l.length < 4611686018427387904 then pp_ x bd s else none
section
variable {P : Program} {O : an_} {α S γ : Type} [Enc α] [Lit α] {σ0 : St} {L : List (Nat × T)} {es : List Ent} {r : γ}
theorem mc_ {f b tS tE p0 p1 : Nat} {x : Sl α} {bd : Int → α → S → Option S} {s0 : S} {h : S → Option γ} {g : Operand} {assign body : Code} {c : α → List T} {pw1 pw2 : Wh} {k k1 k2 : List Ct} {Q : al_ → Fr → Prop} (hF : pi_ P f tS tE (Enc.w α)) (Inv : S → St → Prop) (hi : ∀ {σ}, Heap σ0 σ es → Inv s0 σ) (hL : ∀ {st σ}, Inv st σ → Lent σ b [x.t])
  (hr : ∀ i y st st', bd i y st = some st' → ∀ s σ, Inv st σ → Sub ((p1, .agg (c y)) :: (p0, i4 i) :: L) s → whQ P O pw1 k1 (fun e fr => e = .normal ∧ Inv st' fr.σ) ⟨s, σ⟩)
  (hk : ∀ y s σ, h y = some r → Sub L s → Inv y σ → whQ P O pw2 k2 Q ⟨s, σ⟩)
  (hg : gE (get L) g = some (.fn f [] [.ptr b 0 0 1]) := by rfl) (hc : ∀ y, foL (Lit.c y) some = some (c y) := by intro; rfl) (e1 : nx 99 (.c (.seq assign body)) [] = some (pw1, k1) := by rfl) (e2 : nx 99 (.x .normal) k = some (pw2, k2) := by rfl) (hf0 : ((Nat.beq p0 p1 || (get L p0).isSome) || (get L p1).isSome) = false := by kernel_rfl) :
  Kn σ0 L es ((im_ x bd s0).bind h = some r) (whQ P O (.c (.rangeFunc g #[p0, p1] assign body)) k Q) := fun hp s σ hS hH => by
 obtain ⟨y, hy, hp⟩ := bind_some hp
 unfold im_ at hy
 split at hy
 ·rename_i hlen
  obtain ⟨⟨cd, I, n, hok, hI, hn, hB⟩, he, hz, ha, hs, hkd⟩ := hF
  obtain ⟨fn, q1, q2, q3, q4, q5, q6⟩ := hok
  have hcy : ∀ y : α, Enc.cells y = c y := fun y => by rw [Lit.h]; have := hc y; rw [bw_] at this; injection this
  have hcode := hn_ hI
  subst hcode
  simp only [Bool.or_eq_false_iff] at hf0
  obtain ⟨⟨f1, f2⟩, f3⟩ := hf0
  have hne : p0 ≠ p1 := fun e => by subst e; simp at f1
  have hround : ∀ i y st st' σ1, bd i y st = some st' → Inv st σ1 → ∃ fr', bH_ P O (.seq assign body) ⟨putPs s [(p0, i4 i), (p1, .agg (Enc.cells y))], σ1⟩ = some (.normal, fr') ∧ Inv st' fr'.σ := fun i y' st st' σ1 hb hI2 => by
   have hS1 : Sub ((p1, .agg (c y')) :: (p0, i4 i) :: L) (putPs s [(p0, i4 i), (p1, .agg (Enc.cells y'))]) := by
    rw [hcy]
    exact gX_ (gX_ hS p0 (i4 i)) p1 (.agg (c y'))
   obtain ⟨e, fr', pw1', pw2', pw3'⟩ := codeQ_sound (nx_ok (w := .c (.seq assign body)) (k := []) e1 (hr i y' st st' hb _ σ1 hI2 hS1))
   subst pw2'
   exact ⟨fr', pw1', pw3'⟩
  obtain ⟨σ1, hrun, hI1⟩ := m6_ (P := P) (O := O) (g := g) (p0 := p0) (p1 := p1) (A := bH_ P O (.seq assign body)) (s := s) (σ := σ) (f := f) (b := b) (fn := fn) (I := I) (x := x) (tS := tS) (tE := tE) (bd := bd) (s0 := s0) (r := y) Inv (ab_ hS hg) q1 (by rw [q3]; exact hI) q2 q6 q4 (by omega) hB he hz ha hs (by show (if ap_ P tS = 4 then _ else _) = _; rw [if_pos hkd]) hlen (hi hH) (fun st σ h => hL h) hround hy
  exact ⟨_, _, hrun, nx_ok (w := .x .normal) (k := k) e2 (hk y s σ1 hp hS hI1)⟩
 ·cases hy
end
section
variable {P : Program} {O : an_} {ops : Array Oper} {l : List Oper} {K : Fr → Prop} {s : Nat → T} {σ σ0 : St} {L : List (Nat × T)} {es : List Ent}
variable {d : Option Nat} {ty : TypeId} {ps : String} {af : Array Edge} {g : Option (Nat × Bool)}
theorem jR_ {α : Type} [Enc α] [Hld false α] {t : T} {a : Sl α} (h : Heap σ0 σ (.flt (Enc.w α) t a.t :: es)) : ∃ D S, frzL (frz σ D) [t] = some ([a.t], S) := by
 obtain ⟨D, S, h1⟩ := mQ_ h
 exact ⟨D, S ++ [], by simp only [frzL, h1, Option.bind_some, Option.map_some]⟩
theorem oA_ {α : Type} [Enc α] [Hld false α] {x hi : Operand} {t e : TypeId} {t1 : T} {a c : Sl α} {kk : IntKind} {j : Int} (hw : want ops L g = some true) (hS : Sub L s) (hH : Heap σ0 σ (.flt (Enc.w α) t1 a.t :: es)) (hx : gE (get L) x = some t1) (hhi : gE (get L) hi = some (.int kk j))
  (he : ae_ P t = some e) (hz : szOf P e = some (Enc.w α)) (hc : cutS a j = some c)
  (k : ∀ t' s', (∀ {σ2 es2}, Heap σ0 σ2 (.flt (Enc.w α) t1 a.t :: es2) → ∃ D S, frzL (frz σ2 D) [t'] = some ([c.t], S)) → Sub (putL L d t') s' → opsX P O ops .q l K ⟨s', σ⟩) : opsX P O ops .q (⟨d, .slice t x none (some hi) none, ty, ps, af, g⟩ :: l) K ⟨s, σ⟩ := by
 unfold cutS at hc
 split at hc
 ·rename_i hh
  injection hc with hc; subst hc
  rcases dc_ hH with ⟨rfl, rfl⟩ | ⟨rfl, rfl⟩ | ⟨b, B, rfl, hz2, hB, d1, d2, d3, d4, d5, d6⟩
  ·exact absurd rfl hh.2.2
  ·exact absurd rfl hh.2.2
  ·have hj : j.toNat ≤ a.l.length := by omega
   refine d7_ (m := .q) hw hS (v := .ref b B.ep 0 j.toNat) (fun kk' σ' ha' => ?_) (fun s' hs' => k _ s' (fun {σ2 es2} h2 => ?_) hs')
   ·have : σ' = σ := ha'
    subst this
    rw [ij_, ab_ hS hx, Option.bind_some, dN_, Option.bind_some]
    show ((Option.map some (evalO s hi)).bind _) = _
    rw [ab_ hS hhi, Option.map_some, Option.bind_some, Option.bind_some, iw_]
    simp only [okO, Bool.and_self, if_true, i2_, he, hz, hB, Option.bind_some, boundA, if_pos hh.1]
    rw [if_pos ⟨by omega, hj, d3, d2, d4⟩]; simp
   ·rcases dc_ h2 with ⟨e, _⟩ | ⟨e, _⟩ | ⟨b2, B2, e, hz3, hB2, f1, f2, f3, f4, f5, f6⟩
    ·cases e
    ·cases e
    ·injection e with e1 e2
     subst e1
     refine ⟨1, [b] ++ [], ?_⟩
     have h1 : frzL (frz σ2 0) (af_ (a.l.take j.toNat)) = some (af_ (a.l.take j.toNat), []) := ai_ (fun t v S _ hq _ => do_ 0 t v S hq) (Hld.list (z := false) σ2 0 (a.l.take j.toNat))
     have hcs : B2.cells.take (j.toNat * B2.esz) = af_ (a.l.take j.toNat) := by
      rw [f3, ← cellsL_take, ← f6, List.take_take, Nat.min_eq_left (Nat.mul_le_mul_right _ hj)]
     have hf : frz σ2 1 (.ref b B.ep 0 j.toNat) = some (.row false j.toNat (af_ (a.l.take j.toNat)), [b]) := by
      simp only [frz, hB2, Option.bind_some, List.drop_zero, hcs, h1, Option.map_some]
      rw [if_pos ⟨by rw [e2]; exact f2, by rw [f3]; exact f4⟩]
     have hl : (a.l.take j.toNat).length = j.toNat := by rw [List.length_take]; omega
     simp only [frzL, hf, Option.bind_some, Option.map_some]
     show some ([T.row false j.toNat (af_ (a.l.take j.toNat))], _) = some ([T.row false (a.l.take j.toNat).length (af_ (a.l.take j.toNat))], _)
     rw [hl]
 ·cases hc
end
end Go.Am
end
section
set_option linter.unusedVariables false
set_option linter.unusedSimpArgs false
namespace Go.Am
section
variable {P : Program} {O : an_} {ops : Array Oper} {m : Mo} {l : List Oper} {K : Fr → Prop} {s : Nat → T} {σ σ0 : St} {L : List (Nat × T)} {es es' ents : List Ent} {γ : Type} {r0 : γ} {p : Prop}
variable {d0 : Nat} {d : Option Nat} {ty : TypeId} {ps : String} {af : Array Edge} {g : Option (Nat × Bool)}
end
end Go.Am
end
section
set_option linter.unusedVariables false
set_option linter.unusedSimpArgs false
namespace Go.Am
section
variable {P : Program} {O : an_} {ops : Array Oper} {m : Mo} {l : List Oper} {K : Fr → Prop} {s : Nat → T} {σ σ0 σk : St} {L L' : List (Nat × T)} {es es' ents : List Ent} {p : Prop} {F : List Nat}
variable {d : Nat} {dO : Option Nat} {ty : TypeId} {ps : String} {af : Array Edge} {g : Option (Nat × Bool)}
@[simp] theorem pu_ (k : Option Nat) (fr : Fr) (dd : Option Nat) (t : TypeId) (y x : Operand) : aOp P k fr ⟨dd, .lookup t y x false, ty, ps, af, g⟩ = (evalO fr.s y).bind fun y => (evalO fr.s x).bind fun x => if isMpx y = true ∧ gM_ P t = true ∧ keyA fr.σ x = true then some (.val .anyi fr.σ) else none := rfl
@[simp] theorem mL_ (k : Option Nat) (fr : Fr) (dd : Option Nat) (t : TypeId) (y x z : Operand) : aOp P k fr ⟨dd, .mapUpdate t y x z, ty, ps, af, g⟩ = (evalO fr.s y).bind fun y => (evalO fr.s x).bind fun x => (evalO fr.s z).bind fun z => if isMpx y = true ∧ gM_ P t = true ∧ keyA fr.σ x = true ∧ isAnyi z = true then some (.skip fr.σ) else none := rfl
def KeyM (m : Mo) (σ0 : St) (es : List Ent) (t : T) : Prop := ∀ σ σ', Heap σ0 σ es → m.al σ σ' → keyA σ' t = true
theorem KeyM.nil : KeyM m σ0 es .nilp := fun _ _ _ _ => rfl
theorem KeyM.vw {c : T} {cs : List T} : KeyM m σ0 es (.vw (c :: cs)) := fun _ _ _ _ => rfl
end
section
variable {P : Program} {O : an_} {σ0 : St} {L L' : List (Nat × T)} {es es' : List Ent} {Q : al_ → Fr → Prop} {γ : Type} {r : γ} {t : Bool} {c : Operand} {a b : Code} {w w' w1 w2 : Wh} {k k' k1 k2 : List Ct} {p : Prop}
end
section
open Go.RowKit
theorem VL.one {E : Env} {vs : List Value} {t : T} (h : VL E vs [t]) : ∃ v, vs = [v] ∧ V E v t := by
 match vs, h with
 | [v], h => exact ⟨v, rfl, h.head⟩
 | [], h => have := h.1; simp at this
 | _ :: _ :: _, h => have := h.1; simp at this
end
end Go.Am
end
section
set_option linter.unusedVariables false
set_option linter.unusedSimpArgs false
namespace Go.Am
section
variable {P : Program} {O : an_} {ops : Array Oper} {m : Mo} {l : List Oper} {K : Fr → Prop} {s : Nat → T} {σ σ0 : St} {L : List (Nat × T)} {es es' ents : List Ent} {p : Prop}
variable {d0 : Nat} {d : Option Nat} {ty : TypeId} {ps : String} {af : Array Edge} {g : Option (Nat × Bool)}
end
def Kx (σk : St) (b : Nat) (c : List T) : Prop := ∃ B, σk.blk b = some B ∧ B.cells = c ∧ B.ep = 0 ∧ B.low = 0 ∧ B.st = true
theorem Kx.kb {σk : St} {b : Nat} {c : List T} (h : Kx σk b c) : Kb [b] σk b c := by
 obtain ⟨B, h1, h2, h3, h4, _⟩ := h
 exact ⟨by simp, B, h1, h2, h3, h4⟩
def fJ_ (R : Nat → Prop) (es ents : List Ent) (ents' : List T → List Ent) : Prop := ∀ x, R x → (∃ e ∈ es, EB e x) ∨ ∃ F σk, Ent.keep F σk ∈ ents ∧ x ∈ F ∧ ∀ hs, Ent.keep F σk ∈ ents' hs
theorem fJ_.nil {es ents : List Ent} {ents' : List T → List Ent} : fJ_ RN es ents ents' := fun x h => h.elim
theorem fJ_.box {R : Nat → Prop} {es ents : List Ent} {ents' : List T → List Ent} {b : Nat} {c : List T} (h : Ent.box b c ∈ es) (k : fJ_ R es ents ents') : fJ_ (RB b R) es ents ents' := fun y hy => by
 rcases hy with rfl | hy
 ·exact .inl ⟨_, h, rfl⟩
 ·exact k y hy
theorem fJ_.own {R : Nat → Prop} {es ents : List Ent} {ents' : List T → List Ent} {z : Bool} {w : Nat} {t v : T} (h : Ent.own z w t v ∈ es) (k : fJ_ R es ents ents') : fJ_ (RT t R) es ents ents' := fun y hy => by
 rcases hy with hy | hy
 ·exact .inl ⟨_, h, hy⟩
 ·exact k y hy
theorem fJ_.keep {R : Nat → Prop} {es ents : List Ent} {ents' : List T → List Ent} {b : Nat} {σk : St} (h : Ent.keep [b] σk ∈ ents) (h' : ∀ hs, Ent.keep [b] σk ∈ ents' hs) (k : fJ_ R es ents ents') : fJ_ (RB b R) es ents ents' := fun y hy => by
 rcases hy with rfl | hy
 ·exact .inr ⟨_, _, h, by simp, h'⟩
 ·exact k y hy
section
variable {P : Program} {md : Nat → Md} {X : Ext} {ops : Array Oper} {m : Mo} {l : List Oper} {K : Fr → Prop} {s : Nat → T} {σ σ0 : St} {L : List (Nat × T)} {es ents : List Ent} {f : Nat}
variable {ty : TypeId} {ps : String} {af : Array Edge} {g : Option (Nat × Bool)}
end
section
variable {P : Program} {md : Nat → Md} {X : Ext} {ops : Array Oper} {σ0 : St} {L : List (Nat × T)} {es : List Ent} {p : Prop} {Q : al_ → Fr → Prop} {k : List Ct}
end
end Go.Am
end
section
set_option linter.unusedVariables false
set_option linter.unusedSimpArgs false
namespace Go.Am
noncomputable def tell (p : Prop) : Option Bool := some (@decide p (Classical.propDecidable p))
def A2 {α : Type} (R : α → α → Prop) : List α → List α → Prop
 | [], [] => True
 | x :: xs, y :: ys => R x y ∧ A2 R xs ys
 | _, _ => False
theorem A2.refl {α : Type} {R : α → α → Prop} : ∀ {l : List α}, (∀ x ∈ l, R x x) → A2 R l l
 | [], _ => trivial
 | x :: xs, h => ⟨h x (by simp), A2.refl (fun y hy => h y (by simp [hy]))⟩
theorem A2.len {α : Type} {R : α → α → Prop} : ∀ {l m : List α}, A2 R l m → l.length = m.length
 | [], [], _ => rfl
 | _ :: xs, _ :: ys, h => by simp [A2.len h.2]
 | [], _ :: _, h => h.elim
 | _ :: _, [], h => h.elim
theorem A2.drop {α : Type} {R : α → α → Prop} {l m : List α} {i : Nat} {x y : α} (hx : l[i]? = some x) (hy : m[i]? = some y) : A2 R (l.drop i) (m.drop i) ↔ R x y ∧ A2 R (l.drop (i + 1)) (m.drop (i + 1)) := by
 obtain ⟨h1, rfl⟩ := List.getElem?_eq_some_iff.1 hx
 obtain ⟨h2, rfl⟩ := List.getElem?_eq_some_iff.1 hy
 rw [List.drop_eq_getElem_cons h1, List.drop_eq_getElem_cons h2]
 exact Iff.rfl
theorem kX_ {n : Int} (h0 : -9223372036854775808 ≤ n) (h1 : n < 9223372036854775808) : w4 n = n := by
 simp only [w4, IntKind.wrap, IntKind.signed, IntKind.bits]
 simp
 omega
theorem kW_ {α : Type} {s : Sl α} {i : Nat} {x : α} (h : s.l[i]? = some x) : elt s (i : Int) = some x := by
 simp [elt, h]
/- sizes -/
def SzOk (o : Option Int) (l : Int) (P : Prop) : Prop := o = some (-1) ∨ ∃ l', o = some l' ∧ 0 ≤ l' ∧ l' ≤ l ∧ P
theorem SzOk.imp {o : Option Int} {l m : Int} {P Q : Prop} (h : SzOk o l P) (hm : l ≤ m) (f : P → Q) : SzOk o m Q := by
 rcases h with h | ⟨l', h1, h2, h3, h4⟩
 ·exact .inl h
 ·exact .inr ⟨l', h1, h2, by omega, f h4⟩
/- copies -/
def FitS {α : Type} (n : Nat) (F : α → Prop) (s : Sl α) : Prop := s.l.length ≤ n ∧ ∀ x ∈ s.l, F x
/- comparisons, put together -/
end Go.Am
end
section
set_option linter.unusedVariables false
set_option linter.unusedSimpArgs false
namespace Go.Am
section
variable {P : Program} {t : TypeId} {d : Nat} {ts : List T}
theorem lV_ {α : Type} [Enc α] {B : α → Prop} : ∀ (els : List (List T)), (∀ el ∈ els, ∃ x : α, el = Enc.cells x ∧ B x) → ∃ l : List α, els.flatten = af_ l ∧ l.length = els.length ∧ ∀ x ∈ l, B x
 | [], _ => ⟨[], rfl, rfl, fun _ h => absurd h (by simp)⟩
 | el :: els, h => by
  obtain ⟨x, rfl, hx⟩ := h el (by simp)
  obtain ⟨l, h1, h2, h3⟩ := lV_ els (fun e he => h e (by simp [he]))
  refine ⟨x :: l, by simp [af_, h1], by simp [h2], fun y hy => ?_⟩
  rcases List.mem_cons.1 hy with rfl | hy
  ·exact hx
  ·exact h3 y hy
theorem os_ {α : Type} [Enc α] {B : α → Prop} {e : TypeId} (kt : ap_ P t = 4) (he : ae_ P t = some e) (hd : ∀ d ts, Shp P d e ts → ∃ x : α, ts = Enc.cells x ∧ B x) (h : Shp P d t ts) : ∃ x : Sl α, ts = [Sl.t x] ∧ FitS maxLen B x := by
 cases d with
 | zero => exact h.elim
 | succ d =>
  rcases h with h | h | h | h | h
  ·rw [kt] at h; exact absurd h.1 (by decide)
  ·simp [b6_, kt] at h
  ·rw [kt] at h; exact absurd h.1 (by decide)
  ·obtain ⟨_, e', h1, h2⟩ := h
   rw [he] at h1
   injection h1 with h1; subst h1
   rcases h2 with rfl | ⟨els, rfl, h2, h3⟩
   ·exact ⟨⟨true, []⟩, rfl, ⟨by simp, by simp⟩⟩
   ·obtain ⟨l, q1, q2, q3⟩ := lV_ (B := B) els (fun el hel => hd d el (h3 el hel).2)
    exact ⟨⟨false, l⟩, by simp [Sl.t, q1, q2], ⟨by show l.length ≤ maxLen; omega, q3⟩⟩
  ·rw [kt] at h; exact absurd h.1 (by decide)
end
end Go.Am
end
section
set_option linter.unusedVariables false
set_option linter.unusedSimpArgs false
namespace Go.Am
theorem bl_ {α : Type} {s : Sl α} {i : Nat} (h : i < s.l.length) : elt s (i : Int) = some s.l[i] := kW_ (List.getElem?_eq_getElem h)
@[simp] theorem qh_ {α : Type} {s : Sl α} {i : Int} {x : α} : (setS s i x).l.length = s.l.length := by simp [setS]
theorem ct_ {n : Int} (h0 : 0 ≤ n) (h1 : n ≤ 4611686018427387904) : w4 n = n := kX_ (by omega) (by omega)
theorem maxLen_eq : maxLen = 9223372036854775807 := by decide
theorem lp_ {n : Nat} {R : Type} {p : Nat → Prop} {bd : Int → Option (Int ⊕ R)} {x y : R} (j0 : Nat) (hn : n < 9223372036854775807) (h1 : ∀ i : Nat, j0 ≤ i → i < n → p i → bd i = some (.inl (w4 ((i : Int) + 1)))) (h2 : ∀ i : Nat, j0 ≤ i → i < n → ¬ p i → bd i = some (.inr y)) :
  ((∀ i, j0 ≤ i → i < n → p i) → aC_ (fun st1 : Int => if decide (st1 < (n : Int)) = true then bd st1 else some (.inr x)) (j0 : Int) = some x) ∧
  (¬ (∀ i, j0 ≤ i → i < n → p i) → aC_ (fun st1 : Int => if decide (st1 < (n : Int)) = true then bd st1 else some (.inr x)) (j0 : Int) = some y) := by
 suffices H : ∀ k i0, j0 ≤ i0 → n - i0 = k → ((∀ i, i0 ≤ i → i < n → p i) → aC_ (fun st1 : Int => if decide (st1 < (n : Int)) = true then bd st1 else some (.inr x)) (i0 : Int) = some x) ∧
  (¬ (∀ i, i0 ≤ i → i < n → p i) → aC_ (fun st1 : Int => if decide (st1 < (n : Int)) = true then bd st1 else some (.inr x)) (i0 : Int) = some y) from H _ j0 (Nat.le_refl _) rfl
 intro k
 induction k with
 | zero =>
  intro i0 _ hk
  refine ⟨fun _ => ar_ (by rw [if_neg (by simp; omega)]), fun h => absurd (fun i h1 h2 => by omega) h⟩
 | succ k ih =>
  intro i0 hj hk
  have hlt : i0 < n := by omega
  obtain ⟨q1, q2⟩ := ih (i0 + 1) (by omega) (by omega)
  have hc : ((i0 + 1 : Nat) : Int) = (i0 : Int) + 1 := by simp
  rw [hc] at q1 q2
  by_cases hp : p i0
  ·have hb := h1 i0 hj hlt hp
   rw [kX_ (by omega) (by omega)] at hb
   refine ⟨fun h => aw_ (by rw [if_pos (by simp; omega)]; exact hb) (q1 fun i hi hn => h i (by omega) hn), fun h => aw_ (by rw [if_pos (by simp; omega)]; exact hb) (q2 fun w => h fun i hi hn => ?_)⟩
   by_cases e : i = i0
   ·subst e; exact hp
   ·exact w i (by omega) hn
  ·refine ⟨fun h => absurd (h i0 (Nat.le_refl _) hlt) hp, fun _ => ar_ (by rw [if_pos (by simp; omega)]; exact h2 i0 hj hlt hp)⟩
noncomputable def says (p : Prop) : Bool := @decide p (Classical.propDecidable p)
theorem dU_ {p q : Prop} (h : p ↔ q) : says p = says q := by rw [propext h]
theorem bQ_ {p : Prop} (h : p) : says p = true := by simp [says, h]
theorem bC_ {p : Prop} (h : ¬ p) : says p = false := by simp [says, h]
theorem h1_ {c p : Prop} [Decidable c] {K : Option Bool} (h : c → K = some (says p)) : (if decide c = true then K else some false) = some (says (c ∧ p)) := by
 by_cases hc : c
 ·rw [if_pos (by simp [hc]), h hc]; congr 1; exact dU_ ⟨fun w => ⟨hc, w⟩, fun w => w.2⟩
 ·rw [if_neg (by simp [hc]), bC_ fun w => hc w.1]
theorem ou_ {c p : Prop} {o K : Option Bool} (ho : o = some (says c)) (h : c → K = some (says p)) : (o.bind fun y => if y = true then K else some false) = some (says (c ∧ p)) := by
 rw [ho, Option.bind_some]
 by_cases hc : c
 ·rw [bQ_ hc, if_pos rfl, h hc]; congr 1; exact dU_ ⟨fun w => ⟨hc, w⟩, fun w => w.2⟩
 ·rw [bC_ hc, if_neg (by simp), bC_ fun w => hc w.1]
theorem iI_ {c p : Prop} {o K : Option Bool} (ho : o = some (says c)) (h : ¬ c → K = some (says p)) : (o.bind fun y => if y = true then some true else K) = some (says (c ∨ p)) := by
 rw [ho, Option.bind_some]
 by_cases hc : c
 ·rw [bQ_ hc, if_pos rfl, bQ_ (.inl hc)]
 ·rw [bC_ hc, if_neg (by simp), h hc]; congr 1; exact dU_ ⟨fun w => .inr w, fun w => w.resolve_left hc⟩
theorem eI_ {c : Prop} {o : Option Bool} (ho : o = some (says c)) : (o.bind fun y => some y) = some (says c) := by rw [ho]; rfl
theorem lF_ {c : Prop} [Decidable c] : some (decide c) = some (says c) := by by_cases h : c <;> simp [says, h]
theorem jc_ {o : Option Bool} {p q : Prop} (h : o = some (says p)) (hi : p ↔ q) : o = some (says q) := by rw [h, dU_ hi]
theorem jY_ {n : Nat} {p : Nat → Prop} {bd : Int → Option (Int ⊕ (Unit ⊕ Bool))} (i0 : Nat) (hn : n < 9223372036854775807) (h1 : ∀ i : Nat, i0 ≤ i → i < n → p i → bd i = some (.inl (w4 ((i : Int) + 1)))) (h2 : ∀ i : Nat, i0 ≤ i → i < n → ¬ p i → bd i = some (.inr (.inr false))) :
  ((aC_ (S := Int) (R := Unit ⊕ Bool) (fun st1 : Int => if decide (st1 < (n : Int)) = true then bd st1 else some (.inr (.inl ()))) (i0 : Int)).bind fun y => Sum.elim (fun _ => some true) (fun y => some y) y) = some (says (∀ i, i0 ≤ i → i < n → p i)) := by
 obtain ⟨q1, q2⟩ := lp_ (R := Unit ⊕ Bool) (x := .inl ()) (y := .inr false) i0 hn h1 h2
 by_cases h : ∀ i, i0 ≤ i → i < n → p i
 ·rw [q1 h, bQ_ h]; rfl
 ·rw [q2 h, bC_ h]; rfl
theorem hJ_ {α : Type} {a : Sl α} {p : α → Prop} {bd : Int → Option (Int ⊕ (Unit ⊕ Bool))} (hn : a.l.length < 9223372036854775807) (h : ∀ (i : Nat) x, x ∈ a.l → elt a (i : Int) = some x → (p x → bd i = some (.inl (w4 ((i : Int) + 1)))) ∧ (¬ p x → bd i = some (.inr (.inr false)))) :
  ((aC_ (S := Int) (R := Unit ⊕ Bool) (fun st1 : Int => if decide (st1 < (a.l.length : Int)) = true then bd st1 else some (.inr (.inl ()))) 0).bind fun y => Sum.elim (fun _ => some true) (fun y => some y) y) = some (says (∀ x ∈ a.l, p x)) := by
 have := jY_ (p := fun i => ∀ x, a.l[i]? = some x → p x) (bd := bd) 0 hn (fun i _ hi hp => (h i _ (List.getElem_mem hi) (bl_ hi)).1 (hp _ (List.getElem?_eq_getElem hi))) (fun i _ hi hp => (h i _ (List.getElem_mem hi) (bl_ hi)).2 fun q => hp fun x hx => by rw [List.getElem?_eq_getElem hi] at hx; injection hx with hx; exact hx ▸ q)
 refine Eq.trans this (congrArg some (dU_ ⟨fun w x hx => ?_, fun w i _ hi x hx => w x (List.mem_of_getElem? hx)⟩))
 obtain ⟨i, hi, rfl⟩ := List.getElem_of_mem hx
 exact w i (Nat.zero_le _) hi _ (List.getElem?_eq_getElem hi)
def MH {α : Type} (B : α → Int → Option (Int × α)) (F : α → Int → Option Int) (N : Nat) (x : α) : Prop :=
 ∀ k : Int, 0 ≤ k → k + N ≤ 4611686018427387904 → ∃ k' x', B x k = some (k', x') ∧ F x' k = some k' ∧ k ≤ k' ∧ k' ≤ k + N
theorem MH.mono {α : Type} {B : α → Int → Option (Int × α)} {F : α → Int → Option Int} {N M : Nat} {x : α} (h : MH B F N x) (hm : N ≤ M) : MH B F M x := fun k h0 h1 => by
 obtain ⟨k', x', q1, q2, q3, q4⟩ := h k h0 (by omega)
 exact ⟨k', x', q1, q2, q3, by omega⟩
theorem d0_ {α : Type} {by_ : Nat} {z : Bool} {a : List α} {x : α} (h : (a.length + 1) * by_ ≤ 1099511627776) : appS by_ (⟨z, a⟩ : Sl α) ⟨false, [x]⟩ = some ⟨false, a ++ [x]⟩ := by
 simp only [appS, List.length_singleton]; rw [if_pos h]
end Go.Am
end
