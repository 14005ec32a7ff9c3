/- The abstract machine. -/
import Derived.Test.YtkgmfmcpbgffpaaAm4
import Derived.Laws.Externs
section
set_option linter.unusedVariables false
set_option linter.unusedSimpArgs false
namespace Go.Am
open Classical
def Lent (σ : St) (b : Nat) (cells : List T) : Prop := b < σ.next ∧ ∃ B, σ.blk b = some B ∧ B.cells = cells ∧ B.ep = 0 ∧ B.low = 0
def l1_ (σ : St) : List Nat → List (List T) → Prop
 | [], [] => True
 | b :: bs, c :: cs => Lent σ b c ∧ l1_ σ bs cs
 | _, _ => False
theorem Lent.grow {σ σ' : St} {b : Nat} {cells : List T} (h : Lent σ b cells) (g : Grow σ σ') : Lent σ' b cells := by
 obtain ⟨h1, B, h2, h3⟩ := h
 exact ⟨Nat.lt_of_lt_of_le h1 g.nx, B, by rw [g.old b h1, h2], h3⟩
theorem Heap.lent {σ0 σ : St} {b : Nat} {cells : List T} {es : List Ent} (h : Heap σ0 σ (.box b cells :: es)) : Lent σ b cells := by
 obtain ⟨S, ⟨rfl, B, h1, h2, h3, h4, _⟩, _, h5⟩ := h.head
 exact ⟨(h5 b (by simp)).2, B, h1, h2, h3, h4⟩
theorem vA_ {σ : St} {bs : List Nat} {c0 : List T} (h : l1_ σ bs [c0]) : ∃ b0, bs = [b0] ∧ Lent σ b0 c0 := by
 match bs, h with
 | [b0], h => exact ⟨b0, rfl, h.1⟩
theorem lent_ex : ∀ (cs : List (List T)), ∃ σ bs, l1_ σ bs cs := by
 intro cs
 have key : ∀ (cs : List (List T)) (k : Nat) (σ : St), (∀ i c, cs[i]? = some c → Lent σ (k + i) c) → l1_ σ (List.range' k cs.length) cs := by
  intro cs
  induction cs with
  | nil => intro k σ _; trivial
  | cons c cs ih =>
   intro k σ h
   exact ⟨h 0 c (by simp), ih (k + 1) σ fun i c hi => by have := h (i + 1) c (by simpa using hi); rwa [show k + (i + 1) = k + 1 + i by omega] at this⟩
 refine ⟨⟨cs.length, fun i => (cs[i]?).map fun c => aH_ c 1⟩, _, key cs 0 _ fun i c hi => ?_⟩
 exact ⟨by have := (List.getElem?_eq_some_iff.1 hi).1; simpa using this, aH_ c 1, by simp [hi], rfl, rfl, rfl⟩
section
variable {P : Program} {md : Nat → Md} {X : Ext} {β : Type} {eb : β → T} {f : Nat} {r : β}
variable {O : ax_} {ops : Array Oper} {m : Mo} {l : List Oper} {K : Fr → Prop} {s : Nat → T} {σ σ0 : St} {L : List (Nat × T)} {es ents : List Ent}
variable {d : Option Nat} {ty : TypeId} {ps : String} {af : Array Edge} {g : Option (Nat × Bool)}
theorem rS_ {a : Operand} {t : TypeId} {b e off n : Nat} {cells : List T} {v : T} (hlt : m.lt b) (hw : want ops L g = some true) (hS : Sub L s) (hH : Heap σ0 σ es) (hL : Lent σ0 b cells) (ha : gE (get L) a = some (.ptr b e off n)) (hv : part P t ((cells.drop off).take n) 0 = some v)
  (k : ∀ s', Sub (putL L d v) s' → opsX P O ops (nxM m) l K ⟨s', σ⟩) : opsX P O ops m (⟨d, .load t a, ty, ps, af, g⟩ :: l) K ⟨s, σ⟩ := by
 obtain ⟨_, B, h1, rfl, h3, h4⟩ := hL.grow hH.grow
 exact dX_ hw hS (fun kk σ' ha' => by rw [i2_, ag_ hS ha, Option.bind_some, fg_, Mo.al_blk ha' hlt, h1, Option.bind_some, if_pos (by omega), hv]; rfl) k
def pE_ (P : Program) (md : Nat → Md) (X : Ext) (eb : β → T) (f : Nat) (mk : List Nat → List T) (cs : List (List T)) (r : β) : Prop := ∀ σ bs, l1_ σ bs cs → run P md X f (mk bs) σ = some (eb r, σ)
noncomputable def semL (P : Program) (md : Nat → Md) (X : Ext) (eb : β → T) (f : Nat) (mk : List Nat → List T) (cs : List (List T)) : Option β :=
 if h : ∃ r, pE_ P md X eb f mk cs r then some (Classical.choose h) else none
theorem pk_ {mk : List Nat → List T} {cs : List (List T)} (h : semL P md X eb f mk cs = some r) : pE_ P md X eb f mk cs r := by
 unfold semL at h
 split at h
 ·rename_i hx; injection h with h; subst h; exact Classical.choose_spec hx
 ·cases h
theorem nf_ {mk : List Nat → List T} {cs : List (List T)} (hi : ∀ a b, eb a = eb b → a = b) (h : pE_ P md X eb f mk cs r) : semL P md X eb f mk cs = some r := by
 have hx : ∃ r, pE_ P md X eb f mk cs r := ⟨r, h⟩
 unfold semL
 rw [dif_pos hx]
 obtain ⟨σ, bs, hl⟩ := lent_ex cs
 have h1 := Classical.choose_spec hx σ bs hl
 rw [h σ bs hl] at h1
 injection h1 with h1; injection h1 with h1
 rw [← hi _ _ h1]
theorem r3_ {c : Code} {n : Nat} {rs : List ResultVar} {mk : List Nat → List T} {cs : List (List T)} (hi : ∀ a b, eb a = eb b → a = b) (hv : md f = .view) (hX : X f = none) (hok : Ok P f c n rs) (hlen : ∀ bs, bs.length = cs.length → Nat.ble (mk bs).length n = true) (hf : ∀ bs, bs.length = cs.length → (mk bs).all flat3 = true)
  (h : ∀ σ bs s, l1_ σ bs cs → Sub (nums 0 (mk bs)) s → Heap σ σ [] → codeQ P (run P md X) c (endW P rs σ (eb r)) ⟨s, σ⟩) : semL P md X eb f mk cs = some r :=
 nf_ hi fun σ bs hl => by
  have hlb : bs.length = cs.length := by
   clear h hf hlen
   induction bs generalizing cs with
   | nil => cases cs with
    | nil => rfl
    | cons c cs => exact hl.elim
   | cons b bs ih => cases cs with
    | nil => exact hl.elim
    | cons c cs => simp [ih hl.2]
  exact mB_ hv hX hok (Nat.le_of_ble_eq_true (hlen bs hlb)) (i4_ (hf bs hlb)) (h σ bs _ hl (fb_ _) (Heap.nil σ))
end
def eqB : List T → List T → Bool
 | .int _ a :: xs, .int _ b :: ys => decide (a = b) && eqB xs ys
 | .bool a :: xs, .bool b :: ys => (a == b) && eqB xs ys
 | .str a :: xs, .str b :: ys => decide (a = b) && eqB xs ys
 | _, _ => true
def kP_ (P : Program) (t : TypeId) : T → T → Bool
 | .int k _, .int k' _ => cz_ P t && decide (k = k')
 | .bool _, .bool _ => Nat.beq (aD_ P t) 1
 | .str _, .str _ => Nat.beq (aD_ P t) 3
 | _, _ => false
def eqOk (P : Program) : Nat → Nat → Nat → List Field → List T → List T → Bool
 | _, _, _, [], [], [] => true
 | n + 1, d, i, f :: fs, xs, ys => (f.name != "_") && Nat.beq f.offset i && (match j2_ P f.type with
  | some false => match xs, ys with
   | x :: xs', y :: ys' => kP_ P f.type x y && eqOk P n d (i + 1) fs xs' ys'
   | _, _ => false
  | some true => match szOf P f.type, d with
   | some m, d' + 1 => Nat.beq (aD_ P f.type) 7 && (!P.stoodInHeld f.type) && Nat.ble m xs.length && Nat.ble m ys.length && eqOk P n d' 0 (ck_ P f.type) (xs.take m) (ys.take m) && eqOk P n (d' + 1) (i + m) fs (xs.drop m) (ys.drop m)
   | _, _ => false
  | none => false)
 | _, _, _, _, _, _ => false
theorem qa_ {P : Program} {t : TypeId} {x y : T} {n : Nat} (h : kP_ P t x y = true) : eqT P (n + 1) t x y = some (eqB [x] [y]) := by
 unfold kP_ at h
 split at h
 ·simp only [Bool.and_eq_true, decide_eq_true_eq] at h
  simp only [eqT, eqB]; rw [if_pos h]; simp
 ·simp only [eqT, eqB]; rw [if_pos (Nat.eq_of_beq_eq_true h)]; simp
 ·simp only [eqT, eqB]; rw [if_pos (Nat.eq_of_beq_eq_true h)]; simp
 ·cases h
theorem j5_ {P : Program} {t : TypeId} {x y : T} {xs ys : List T} (h : kP_ P t x y = true) : eqB (x :: xs) (y :: ys) = (eqB [x] [y] && eqB xs ys) := by
 unfold kP_ at h
 split at h <;> first | (simp [eqB]; done) | cases h
theorem fY_ {P : Program} : ∀ (n d i : Nat) (fs : List Field) (xs ys xs' ys' : List T), eqOk P n d i fs xs ys = true → eqB (xs ++ xs') (ys ++ ys') = (eqB xs ys && eqB xs' ys')
 | _, _, _, [], [], [], xs', ys', _ => by simp [eqB]
 | n, d, i, [], [], _ :: _, _, _, h => by cases n <;> simp [eqOk] at h
 | n, d, i, [], _ :: _, _, _, _, h => by cases n <;> simp [eqOk] at h
 | n + 1, d, i, f :: fs, xs, ys, xs', ys', h => by
  simp only [eqOk, Bool.and_eq_true] at h
  obtain ⟨_, h⟩ := h
  split at h
  ·split at h
   ·simp only [Bool.and_eq_true] at h
    rename_i x xs y ys
    rw [List.cons_append, List.cons_append, j5_ (xs := xs ++ xs') (ys := ys ++ ys') h.1, fY_ n d (i + 1) fs _ _ xs' ys' h.2, j5_ (xs := xs) (ys := ys) h.1, Bool.and_assoc]
   ·cases h
  ·split at h
   ·rename_i d1 m d' _
    simp only [Bool.and_eq_true] at h
    have e1 := fY_ n d' 0 (ck_ P f.type) (xs.take m) (ys.take m) (xs.drop m) (ys.drop m) h.1.2
    have e2 := fY_ n d' 0 (ck_ P f.type) (xs.take m) (ys.take m) (xs.drop m ++ xs') (ys.drop m ++ ys') h.1.2
    have e3 := fY_ n (d' + 1) (i + m) fs (xs.drop m) (ys.drop m) xs' ys' h.2
    rw [List.take_append_drop, List.take_append_drop] at e1
    rw [← List.append_assoc, ← List.append_assoc, List.take_append_drop, List.take_append_drop] at e2
    rw [e2, e3, e1, Bool.and_assoc]
   ·cases h
  ·cases h
theorem j7_ {P : Program} : ∀ (n d i k : Nat) (fs : List Field) (xs ys px py : List T), d ≤ k → px.length = i → py.length = i → eqOk P n d i fs xs ys = true → eqFs P (eqT P (k + 1)) (px ++ xs) (py ++ ys) fs = some (eqB xs ys)
 | _, _, _, _, [], [], [], px, py, _, _, _, _ => rfl
 | n, d, i, _, [], [], _ :: _, _, _, _, _, _, h => by cases n <;> simp [eqOk] at h
 | n, d, i, _, [], _ :: _, _, _, _, _, _, _, h => by cases n <;> simp [eqOk] at h
 | n + 1, d, i, k, f :: fs, xs, ys, px, py, hk, hx, hy, h => by
  simp only [eqOk, Bool.and_eq_true, bne_iff_ne, ne_eq] at h
  obtain ⟨⟨h1, h2⟩, h⟩ := h
  have h2 := Nat.eq_of_beq_eq_true h2
  simp only [eqFs, if_pos h1, oG_, h2]
  split at h
  ·rename_i ha
   split at h
   ·rename_i x xs y ys
    simp only [Bool.and_eq_true] at h
    have ih := j7_ n d (i + 1) k fs xs ys (px ++ [x]) (py ++ [y]) hk (by simp [hx]) (by simp [hy]) h.2
    simp only [List.append_assoc, List.singleton_append] at ih
    simp only [ha, Option.bind_some, iQ_]
    have ex : (px ++ x :: xs)[i]? = some x := by rw [← hx, List.getElem?_append_right (Nat.le_refl _), Nat.sub_self]; rfl
    have ey : (py ++ y :: ys)[i]? = some y := by rw [← hy, List.getElem?_append_right (Nat.le_refl _), Nat.sub_self]; rfl
    rw [ex, ey, Option.bind_some, Option.bind_some, qa_ h.1, Option.bind_some, j5_ (xs := xs) (ys := ys) h.1]
    cases hb : eqB [x] [y] with
    | true => simp only [if_true, Bool.true_and]; exact ih
    | false => simp
   ·cases h
  ·rename_i ha
   split at h
   ·rename_i d1 m d' hm
    simp only [Bool.and_eq_true, Bool.not_eq_true'] at h
    obtain ⟨⟨⟨⟨⟨c1, c2⟩, c3⟩, c4⟩, c5⟩, c6⟩ := h
    have c3 := Nat.le_of_ble_eq_true c3; have c4 := Nat.le_of_ble_eq_true c4
    obtain ⟨k, rfl⟩ : ∃ k', k = k' + 1 := ⟨k - 1, by omega⟩
    have ih1 := j7_ n d' 0 k (ck_ P f.type) (xs.take m) (ys.take m) [] [] (by omega) rfl rfl c5
    have ih2 := j7_ n (d' + 1) (i + m) (k + 1) fs (xs.drop m) (ys.drop m) (px ++ xs.take m) (py ++ ys.take m) hk (by simp [hx]; omega) (by simp [hy]; omega) c6
    rw [List.append_assoc, List.append_assoc, List.take_append_drop, List.take_append_drop] at ih2
    have e1 := fY_ n d' 0 (ck_ P f.type) (xs.take m) (ys.take m) (xs.drop m) (ys.drop m) c5
    rw [List.take_append_drop, List.take_append_drop] at e1
    simp only [ha, Option.bind_some, np_, hm]
    rw [if_pos (by simp [hx]; omega), if_pos (by simp [hy]; omega), Option.bind_some, Option.bind_some]
    have ex : (px ++ xs).drop i = xs := by rw [← hx, List.drop_left]
    have ey : (py ++ ys).drop i = ys := by rw [← hy, List.drop_left]
    have et : eqT P (k + 1 + 1) f.type (.agg (xs.take m)) (.agg (ys.take m)) = some (eqB (xs.take m) (ys.take m)) := by
     rw [eqT, if_pos ⟨Nat.eq_of_beq_eq_true c1, c2⟩]; exact ih1
    rw [ex, ey, et, Option.bind_some, e1]
    cases hb : eqB (xs.take m) (ys.take m) with
    | true => simp only [if_true, Bool.true_and]; exact ih2
    | false => simp
   ·cases h
  ·cases h
def r2_ (P : Program) (t : TypeId) (xs ys : List T) : Bool := Nat.beq (aD_ P t) 7 && (!P.stoodInHeld t) && (!P.eqGuardType P.depth t) && eqOk P 100 6 0 (ck_ P t) xs ys
theorem pM_ {P : Program} {t : TypeId} {xs ys : List T} (h : r2_ P t xs ys = true) : eqA P t (.agg xs) (.agg ys) = some (eqB xs ys) := by
 simp only [r2_, Bool.and_eq_true, Bool.not_eq_true'] at h
 obtain ⟨⟨⟨h1, h2⟩, h3⟩, h4⟩ := h
 simp only [eqA, h3, if_true]
 rw [eqT, if_pos ⟨Nat.eq_of_beq_eq_true h1, h2⟩]
 exact j7_ 100 6 0 6 (ck_ P t) xs ys [] [] (Nat.le_refl _) rfl rfl h4
section
variable {P : Program} {O : ax_} {ops : Array Oper} {m : Mo} {l : List Oper} {K : Fr → Prop} {s : Nat → T} {σ : St} {L : List (Nat × T)}
variable {d : Option Nat} {ty : TypeId} {ps : String} {af : Array Edge} {g : Option (Nat × Bool)}
theorem vl_ {x y : Operand} {t u : TypeId} {xs ys : List T} {v : Bool} (hw : want ops L g = some true) (hS : Sub L s) (hx : gE (get L) x = some (.agg xs)) (hy : gE (get L) y = some (.agg ys)) (h : r2_ P t xs ys = true) (hv : eqB xs ys = v)
  (k : ∀ s', Sub (putL L d (.bool (!v))) s' → opsX P O ops (nxM m) l K ⟨s', σ⟩) : opsX P O ops m (⟨d, .binOp .neq t x y u, ty, ps, af, g⟩ :: l) K ⟨s, σ⟩ :=
 dX_ hw hS (fun kk σ' _ => by rw [iv_, ag_ hS hx, Option.bind_some, ag_ hS hy, Option.bind_some]; simp only [binA, pM_ h, hv]; rfl) k
end
def ps_ (o : Oper) : Bool := (match o.op with
 | .alloc _ => true
 | .box _ _ => true
 | .buildSlice _ _ _ => true
 | .makeSlice _ _ _ => true
 | _ => false) && o.guard.isNone
def fQ_ (ops : Array Oper) (i : Nat) : Bool := match ops[i]? with
 | some o => ps_ o
 | none => false
def wk1 (md : Nat → Md) (ops : Array Oper) (i : Nat) : Bool := match ops[i]? with
 | some o => match o.op with
  | .store .. => true
  | .call d => match d.callee with
   | .builtin .append => true
   | .value (.func f) => decide (md f = .raw)
   | .value (.tmp _) => true
   | _ => false
  | _ => false
 | none => false
def vwB (vs : List Nat) (md : Nat → Md) (ops : Array Oper) (i : Nat) : Bool := vs.elem i && !fQ_ ops i && !wk1 md ops i
def bM_ (vs : List Nat) (md : Nat → Md) (ops : Array Oper) : List Nat := (List.range ops.size).filter fun i => match ops[i]? with
 | some o => isChg o.op && !vwB vs md ops i
 | none => false
def cmpB (vs : List Nat) (md : Nat → Md) (ops : Array Oper) (i : Nat) : Bool := (bM_ vs md ops).all fun k => bif Nat.blt k i then hq_ ((ancM ops).getD i 0) k else (Nat.beq k i || fQ_ ops k || hq_ ((ancM ops).getD k 0) i)
def wkB (md : Nat → Md) (ops : Array Oper) (c i : Nat) : Bool := Nat.beq c i && wk1 md ops i
def cmp1 (ops : Array Oper) (k i : Nat) : Bool := bif Nat.blt k i then hq_ ((ancM ops).getD i 0) k else (Nat.beq k i || fQ_ ops k || hq_ ((ancM ops).getD k 0) i)
def ckB (md : Nat → Md) (ops : Array Oper) (c i : Nat) : Bool := !wk1 md ops c || cmp1 ops c i
def qp_ (vs : List Nat) (md : Nat → Md) (ops : Array Oper) : Cmp := ⟨vwB vs md ops, cmpB vs md ops, ckB md ops, wkB md ops⟩
def n8_ (vs : List Nat) (md : Nat → Md) (ops : Array Oper) : Bool := (bM_ vs md ops).all fun i => (bM_ vs md ops).all fun j => !Nat.blt i j || fQ_ ops j || hq_ ((ancM ops).getD j 0) i
def bB_ (ch : List Nat) (c : Nat → Bool) : Nat := ch.foldr (fun k a => if c k then max (k + 1) a else a) 0
theorem dm_ {ch : List Nat} {c : Nat → Bool} {n : Nat} : bB_ ch c ≤ n ↔ ∀ k ∈ ch, c k = true → k + 1 ≤ n := by
 induction ch with
 | nil => simp [bB_]
 | cons a ch ih =>
  have e : bB_ (a :: ch) c = if c a then max (a + 1) (bB_ ch c) else bB_ ch c := rfl
  rw [e]
  by_cases h : c a = true
  ·rw [if_pos h]
   constructor
   ·intro hle k hk hc
    rcases List.mem_cons.1 hk with rfl | hk
    ·omega
    ·exact ih.1 (by omega) k hk hc
   ·intro hall
    have := hall a (by simp) h
    have := ih.2 fun k hk hc => hall k (by simp [hk]) hc
    omega
  ·rw [if_neg h]
   exact ⟨fun hle k hk hc => by rcases List.mem_cons.1 hk with rfl | hk; exact absurd hc h; exact ih.1 hle k hk hc, fun hall => ih.2 fun k hk hc => hall k (by simp [hk]) hc⟩
theorem fo_ {ch : List Nat} {c c' : Nat → Bool} (h : ∀ k ∈ ch, c k = c' k) : bB_ ch c = bB_ ch c' := by
 apply Nat.le_antisymm
 ·exact dm_.2 fun k hk hc => dm_.1 (Nat.le_refl _) k hk (by rw [← h k hk]; exact hc)
 ·exact dm_.2 fun k hk hc => dm_.1 (Nat.le_refl _) k hk (by rw [h k hk]; exact hc)
theorem mJ_ {ch : List Nat} {c : Nat → Bool} {i : Nat} (hi : i ∈ ch) (hc : c i = true) (h : ∀ k ∈ ch, c k = true → k ≤ i) : bB_ ch c = i + 1 :=
 Nat.le_antisymm (dm_.2 fun k hk hck => by have := h k hk hck; omega) (dm_.1 (Nat.le_refl _) i hi hc)
theorem kJ_ {ch : List Nat} {c : Nat → Bool} (h : bB_ ch c ≠ 0) : ∃ k ∈ ch, c k = true ∧ bB_ ch c = k + 1 := by
 induction ch with
 | nil => simp [bB_] at h
 | cons a ch ih =>
  have e : bB_ (a :: ch) c = if c a then max (a + 1) (bB_ ch c) else bB_ ch c := rfl
  rw [e] at h ⊢
  by_cases hc : c a = true
  ·rw [if_pos hc] at h ⊢
   by_cases hm : bB_ ch c ≤ a + 1
   ·exact ⟨a, by simp, hc, by omega⟩
   ·obtain ⟨k, k1, k2, k3⟩ := ih (by omega)
    exact ⟨k, by simp [k1], k2, by omega⟩
  ·rw [if_neg hc] at h ⊢
   obtain ⟨k, k1, k2, k3⟩ := ih h
   exact ⟨k, by simp [k1], k2, k3⟩
def St.over (σ : St) (p : Nat → Bool) (Bk : Nat → Blk) : St := ⟨σ.next, fun i => if p i = true then some (Bk i) else σ.blk i⟩
theorem g9_ {σ : St} {p : Nat → Bool} {Bk : Nat → Blk} (h : ∀ i, p i = false) : σ.over p Bk = σ := St.ext' rfl fun i => by simp [St.over, h i]
theorem pu_ {σ : St} {p q r : Nat → Bool} {Bk : Nat → Blk} (h : ∀ i, r i = (p i || q i)) : (σ.over p Bk).over q Bk = σ.over r Bk := St.ext' rfl fun i => by
 simp only [St.over, h i]
 cases hq : q i <;> cases hp : p i <;> simp
theorem kp_ {σ : St} {p : Nat → Bool} {Bk : Nat → Blk} {x : Nat} : (σ.over p Bk).set x (Bk x) = σ.over (fun i => p i || decide (i = x)) Bk := St.ext' rfl fun i => by
 simp only [St.over, St.set]
 by_cases h : i = x
 ·subst h; simp
 ·simp [h]
section
variable {P : Program} {md : Nat → Md} {X : Ext} {O : ax_} {ops : Array Oper} {K : Fr → Prop} {s : Nat → T} {b : Nat} {W : Nat → Nat → Prop} {σs : St} {cm : Cmp}
theorem g8_ {i : Nat} {o : Oper} (ho : ops[i]? = some o) (s : Nat → T) (σ : St) : ef_ P O ops b i s σ = dn_ P O ops (b + i) o s σ := by
 unfold ef_ dn_; rw [ho]; rfl
theorem n5_ (hX : XOk X) {k : Nat} {o : Oper} {s : Nat → T} {σ σ' : St} {v : T} {x : Nat} {B : Blk} (h : dn_ P (run P md X) ops k o s σ = some (v, σ')) (hk : k ≠ x) (hx : σ.blk x = none) (hl : x < σ.next) :
  dn_ P (run P md X) ops k o s (σ.set x B) = some (v, σ'.set x B) ∧ σ'.blk x = none ∧ x < σ'.next := by
 unfold dn_ at h ⊢
 have hk' : some k ≠ some x := fun e => hk (by injection e)
 split at h
 ·rename_i hw
  rw [if_pos hw]
  obtain ⟨r, h1, h2⟩ := Option.bind_eq_some_iff.1 h
  cases r with
  | val v' σ1 =>
   injection h2 with h2; injection h2 with e1 e2; subst e1; subst e2
   obtain ⟨a1, a2⟩ := ok_ (fr := ⟨s, σ⟩) (B := B) hk' hx hl h1
   have a1 : aOp P (some k) ⟨s, σ.set x B⟩ o = _ := a1
   rw [a1]; exact ⟨rfl, a2⟩
  | skip σ1 =>
   injection h2 with h2; injection h2 with e1 e2; subst e1; subst e2
   obtain ⟨a1, a2⟩ := m6_ (fr := ⟨s, σ⟩) (B := B) hk' hx hl h1
   have a1 : aOp P (some k) ⟨s, σ.set x B⟩ o = _ := a1
   rw [a1]; exact ⟨rfl, a2⟩
  | call f args =>
   have a1 := m5_ (fr := ⟨s, σ⟩) (B := B) hk' hx hl h1
   have a1 : aOp P (some k) ⟨s, σ.set x B⟩ o = _ := a1
   rw [a1]; exact qz_ hX h2 hx hl
 ·rename_i hw
  rw [if_neg hw]
  injection h with h; injection h with e1 e2; subst e1; subst e2
  exact ⟨rfl, hx, hl⟩
theorem kB_ (hX : XOk X) {k : Nat} {o : Oper} {s : Nat → T} {σ σ' : St} {v : T} {Bk : Nat → Blk} (h : dn_ P (run P md X) ops k o s σ = some (v, σ')) : ∀ (l : List Nat), (∀ x ∈ l, k ≠ x ∧ σ.blk x = none ∧ x < σ.next) → l.Nodup →
  dn_ P (run P md X) ops k o s (σ.over (fun i => l.contains i) Bk) = some (v, σ'.over (fun i => l.contains i) Bk) ∧ ∀ x, x ∉ l → σ.blk x = none → x < σ.next → k ≠ x → (σ'.over (fun i => l.contains i) Bk).blk x = none ∧ x < σ'.next
 | [], _, _ => by
  rw [g9_ (fun i => by simp), g9_ (fun i => by simp)]
  exact ⟨h, fun x _ h1 h2 h3 => by obtain ⟨_, a, b⟩ := n5_ (B := aH_ [] 0) hX h h3 h1 h2; exact ⟨a, b⟩⟩
 | y :: l, hl, hn => by
  obtain ⟨n1, n2⟩ := List.nodup_cons.1 hn
  obtain ⟨y1, y2, y3⟩ := hl y (by simp)
  obtain ⟨k1, k2⟩ := kB_ hX (Bk := Bk) h l (fun x hx => hl x (by simp [hx])) n2
  have e : ∀ σ : St, (σ.over (fun i => l.contains i) Bk).set y (Bk y) = σ.over (fun i => (y :: l).contains i) Bk := fun σ => by
   rw [kp_]; congr 1; funext i
   rw [Bool.eq_iff_iff]; simp [or_comm]
  have hfree : (σ.over (fun i => l.contains i) Bk).blk y = none := by simp [St.over, n1, y2]
  obtain ⟨a1, a2, a3⟩ := n5_ (B := Bk y) hX k1 y1 hfree y3
  rw [e, e] at a1
  refine ⟨a1, fun x hx h1 h2 h3 => ?_⟩
  obtain ⟨c1, c2⟩ := k2 x (fun h => hx (by simp [h])) h1 h2 h3
  rw [← e]
  have hxy : x ≠ y := fun e => hx (by simp [e])
  refine ⟨?_, c2⟩
  rw [cN_, if_neg hxy]; exact c1
theorem qm_ {k : Nat} {o : Oper} {s : Nat → T} {σ σ' : St} {v : T} (hf : ps_ o = true) (h : dn_ P O ops k o s σ = some (v, σ')) : ∃ C, σ' = σ.set k C ∧ ∀ σ2 : St, σ2.blk k = none → k < σ2.next → dn_ P O ops k o s σ2 = some (v, σ2.set k C) := by
 obtain ⟨d, op, ty, ps, af, g⟩ := o
 simp only [ps_, Bool.and_eq_true, Option.isNone_iff_eq_none] at hf
 obtain ⟨hf, rfl⟩ := hf
 have hw : wantedA ops (⟨d, op, ty, ps, af, none⟩ : Oper) s = true := rfl
 have hok : ∀ σ2 : St, σ2.blk k = none → k < σ2.next → σ2.okK (some k) = true := fun σ2 h1 h2 => by simp [St.okK, h1, h2]
 unfold dn_ at h ⊢
 rw [if_pos hw] at h
 cases op with
 | alloc t =>
  have e : ∀ σ2 : St, aOp P (some k) ⟨s, σ2⟩ ⟨d, .alloc t, ty, ps, af, none⟩ = (aT_ P t).bind fun z => if σ2.okK (some k) = true then some (ARes.val (T.ptr k 0 0 z.length) (σ2.set k (aH_ z z.length))) else none := fun _ => rfl
  rw [e] at h
  cases hz : aT_ P t with
  | none => rw [hz] at h; cases h
  | some z =>
   rw [hz, Option.bind_some] at h
   split at h
   ·injection h with h; injection h with h1 h2
    subst h1; subst h2
    refine ⟨aH_ z z.length, rfl, fun σ2 c1 c2 => ?_⟩
    rw [if_pos hw, e, hz, Option.bind_some, if_pos (hok σ2 c1 c2)]; rfl
   ·cases h
 | box t x =>
  have e : ∀ σ2 : St, aOp P (some k) ⟨s, σ2⟩ ⟨d, .box t x, ty, ps, af, none⟩ = (evalO s x).bind fun x => if x.cells.all T.one = true ∧ σ2.okK (some k) = true then some (ARes.val (T.ptr k 0 0 x.cells.length) (σ2.set k (aH_ x.cells x.cells.length))) else none := fun _ => rfl
  rw [e] at h
  cases hz : evalO s x with
  | none => rw [hz] at h; cases h
  | some z =>
   rw [hz, Option.bind_some] at h
   split at h
   ·rename_i hc
    injection h with h; injection h with h1 h2
    subst h1; subst h2
    refine ⟨aH_ z.cells z.cells.length, rfl, fun σ2 c1 c2 => ?_⟩
    rw [if_pos hw, e, hz, Option.bind_some, if_pos ⟨hc.1, hok σ2 c1 c2⟩]; rfl
   ·cases h
 | buildSlice t len parts =>
  have e : ∀ σ2 : St, aOp P (some k) ⟨s, σ2⟩ ⟨d, .buildSlice t len parts, ty, ps, af, none⟩ = (ao_ P t).bind fun e => (szOf P e).bind fun sz => (aT_ P e).bind fun z => (dr_ s parts.toList).bind fun ps =>
   if z.length = sz ∧ len * sz ≤ 2 ^ 24 ∧ sz ≠ 0 ∧ σ2.okK (some k) = true then (ez_ (fun i => some (i * sz, sz)) ((List.replicate len z).flatten) ps).map fun cs => ARes.val (if len = 0 then .emp else .ref k 0 0 len) (σ2.set k (aH_ cs sz)) else none := fun _ => rfl
  rw [e] at h
  obtain ⟨r, h, hr⟩ := Option.bind_eq_some_iff.1 h
  obtain ⟨x1, h1, h⟩ := Option.bind_eq_some_iff.1 h
  obtain ⟨x2, h2, h⟩ := Option.bind_eq_some_iff.1 h
  obtain ⟨x3, h3, h⟩ := Option.bind_eq_some_iff.1 h
  obtain ⟨x4, h4, h⟩ := Option.bind_eq_some_iff.1 h
  split at h
  ·rename_i hc
   obtain ⟨cs, h5, h6⟩ := Option.map_eq_some_iff.1 h
   subst h6
   injection hr with hr; injection hr with hr1 hr2
   subst hr1; subst hr2
   refine ⟨aH_ cs x2, rfl, fun σ2 c1 c2 => ?_⟩
   rw [if_pos hw, e, h1, Option.bind_some, h2, Option.bind_some, h3, Option.bind_some, h4, Option.bind_some, if_pos ⟨hc.1, hc.2.1, hc.2.2.1, hok σ2 c1 c2⟩, h5]; rfl
  ·cases h
 | makeSlice t x y =>
  have e : ∀ σ2 : St, aOp P (some k) ⟨s, σ2⟩ ⟨d, .makeSlice t x y, ty, ps, af, none⟩ = (evalO s x).bind fun l => (evalO s y).bind fun c =>
   match l, c with
   | .int _ l, .int _ c => (ao_ P t).bind fun e => (szOf P e).bind fun sz => (cu_ P e).bind fun by_ => (aT_ P e).bind fun z =>
     if 0 ≤ l ∧ l ≤ c ∧ c * by_ ≤ 2 ^ 40 ∧ c ≤ 2 ^ 40 ∧ z.length = sz ∧ sz ≠ 0 ∧ σ2.okK (some k) = true then
      some (.val (if l = 0 ∧ c = 0 then .emp else .ref k 0 0 l.toNat) (σ2.set k (aH_ ((List.replicate l.toNat z).flatten) sz))) else none
   | _, _ => none := fun _ => rfl
  rw [e] at h
  obtain ⟨r, h, hr⟩ := Option.bind_eq_some_iff.1 h
  obtain ⟨x1, h1, h⟩ := Option.bind_eq_some_iff.1 h
  obtain ⟨x2, h2, h⟩ := Option.bind_eq_some_iff.1 h
  split at h
  ·obtain ⟨x3, h3, h⟩ := Option.bind_eq_some_iff.1 h
   obtain ⟨x4, h4, h⟩ := Option.bind_eq_some_iff.1 h
   obtain ⟨x5, h5, h⟩ := Option.bind_eq_some_iff.1 h
   obtain ⟨x6, h6, h⟩ := Option.bind_eq_some_iff.1 h
   split at h
   ·rename_i hc
    injection h with h; subst h
    injection hr with hr; injection hr with hr1 hr2
    subst hr1; subst hr2
    refine ⟨_, rfl, fun σ2 c1 c2 => ?_⟩
    rw [if_pos hw, e, h1, Option.bind_some, h2, Option.bind_some]
    simp only
    rw [h3, Option.bind_some, h4, Option.bind_some, h5, Option.bind_some, h6, Option.bind_some, if_pos ⟨hc.1, hc.2.1, hc.2.2.1, hc.2.2.2.1, hc.2.2.2.2.1, hc.2.2.2.2.2.1, hok σ2 c1 c2⟩]; rfl
   ·cases h
  ·cases h
 | _ => cases hf
theorem po_ (vs : List Nat) (hcv : ∀ i, cm.vw i = vwB vs md ops i) (hf : fh_ ops) : ∀ n k (vals : Nat → T) (S : Nat → St), k + n = ops.size →
  (∀ i, i < k → ef_ P O ops b i (sl ops vals s (fun j => decide (j < i))) (S i) = some (vals i, S (i + 1)) ∧ (∀ x, x < b → (∀ c, cm.wk c i = true → ¬ W c x) → (S (i + 1)).blk x = (S i).blk x) ∧ e0_ b W σs (S (i + 1)) ∧ Room b (i + 1) (ops.size - (i + 1)) (S (i + 1)) ∧ (i ∉ bM_ vs md ops → S (i + 1) = S i ∧ ∀ σ', (cm.cm i = true → σ' = S i) → (∀ x, x < b → (∀ c, cm.ck c i = false → ¬ W c x) → σ'.blk x = (S i).blk x) → e0_ b W σs σ' → ef_ P O ops b i (sl ops vals s (fun j => decide (j < i))) σ' = some (vals i, σ'))) →
  e0_ b W σs (S k) → Room b k (ops.size - k) (S k) → opsC P O ops b W σs cm k (ops.toList.drop k) K ⟨sl ops vals s (fun j => decide (j < k)), S k⟩ →
  ∃ (vals' : Nat → T) (S' : Nat → St), S' 0 = S 0 ∧ (∀ i, i < ops.size → ef_ P O ops b i (sl ops vals' s (fun j => decide (j < i))) (S' i) = some (vals' i, S' (i + 1)) ∧ (∀ x, x < b → (∀ c, cm.wk c i = true → ¬ W c x) → (S' (i + 1)).blk x = (S' i).blk x) ∧ e0_ b W σs (S' (i + 1)) ∧ Room b (i + 1) (ops.size - (i + 1)) (S' (i + 1)) ∧ (i ∉ bM_ vs md ops → S' (i + 1) = S' i ∧ ∀ σ', (cm.cm i = true → σ' = S' i) → (∀ x, x < b → (∀ c, cm.ck c i = false → ¬ W c x) → σ'.blk x = (S' i).blk x) → e0_ b W σs σ' → ef_ P O ops b i (sl ops vals' s (fun j => decide (j < i))) σ' = some (vals' i, σ'))) ∧
   K ⟨sl ops vals' s (fun j => decide (j < ops.size)), S' ops.size⟩ := by
 intro n
 induction n with
 | zero =>
  intro k vals S hk h1 hA hR h2
  have : k = ops.size := by omega
  subst this
  rw [List.drop_of_length_le (by simp)] at h2
  exact ⟨vals, S, rfl, h1, h2⟩
 | succ n ih =>
  intro k vals S hk h1 hA hR h2
  have hlt : k < ops.size := by omega
  have ho : ops[k]? = some ops[k] := by simp [hlt]
  have hd : ops.toList.drop k = ops[k] :: ops.toList.drop (k + 1) := by
   rw [List.drop_eq_getElem_cons (by simpa using hlt)]; simp
  have hlen : (ops.toList.drop (k + 1)).length = ops.size - (k + 1) := by simp
  rw [hd] at h2
  have hmem : k ∈ bM_ vs md ops ↔ (isChg ops[k].op && !cm.vw k) = true := by
   rw [hcv]; simp [bM_, hlt, ho]
  have hR1 : Room b (k + 1) (ops.size - (k + 1)) (S k) := Room.nxt (by rw [show ops.size - (k + 1) + 1 = ops.size - k by omega]; exact hR)
  -- the value and the state behind the operation
  have key : ∃ v σ', dn_ P O ops (b + k) ops[k] (sl ops vals s (fun j => decide (j < k))) (S k) = some (v, σ') ∧ (∀ x, x < b → (∀ c, cm.wk c k = true → ¬ W c x) → σ'.blk x = (S k).blk x) ∧ e0_ b W σs σ' ∧ Room b (k + 1) (ops.size - (k + 1)) σ' ∧ (k ∉ bM_ vs md ops → σ' = S k ∧ ∀ σ2, (cm.cm k = true → σ2 = S k) → (∀ x, x < b → (∀ c, cm.ck c k = false → ¬ W c x) → σ2.blk x = (S k).blk x) → e0_ b W σs σ2 → dn_ P O ops (b + k) ops[k] (sl ops vals s (fun j => decide (j < k))) σ2 = some (v, σ2)) ∧
    opsC P O ops b W σs cm (k + 1) (ops.toList.drop (k + 1)) K (Fr.put ⟨sl ops vals s (fun j => decide (j < k)), S k⟩ ops[k].dst v σ') := by
   unfold opsC at h2
   cases hc : (isChg ops[k].op && !cm.vw k) && wantedA ops ops[k] (sl ops vals s (fun j => decide (j < k))) with
   | true =>
    simp only [hc] at h2
    obtain ⟨v, σ', q1, q0, q2, q2', q3⟩ := h2
    have hc := (Bool.and_eq_true _ _ ▸ hc : (isChg ops[k].op && !cm.vw k) = true ∧ _).1
    rw [hlen] at q2'
    exact ⟨v, σ', q1, q0, q2, q2', fun hn => absurd (hmem.2 hc) hn, q3⟩
   | false =>
    simp only [hc] at h2
    obtain ⟨v, q1, q3⟩ := h2
    exact ⟨v, S k, q1 _ (fun _ => rfl) (fun _ _ _ => rfl) hA, fun _ _ _ => rfl, hA, hR1, fun _ => ⟨rfl, q1⟩, q3⟩
  obtain ⟨v, σ', q1, q0, q2, q2', q3, q4⟩ := key
  let vals' : Nat → T := fun j => if j = k then v else vals j
  let S' : Nat → St := fun j => if j = k + 1 then σ' else S j
  have e1 : ∀ i, i ≤ k → sl ops vals' s (fun j => decide (j < i)) = sl ops vals s (fun j => decide (j < i)) := fun i hi => oI_ fun j hj => by
   simp at hj
   simp only [vals']; rw [if_neg (by omega)]
  have e2 : (fun j => decide (j < k) || decide (j = k)) = (fun j => decide (j < k + 1)) := by
   funext j
   rw [Bool.eq_iff_iff]; simp; omega
  have e3 : ∀ i, i ≤ k → S' i = S i := fun i hi => by simp only [S']; rw [if_neg (by omega)]
  have e4 : S' (k + 1) = σ' := by simp [S']
  have e5 : vals' k = v := by simp [vals']
  obtain ⟨vals2, S2, r1, r2, r3⟩ := ih (k + 1) vals' S' (by omega) (fun i hi => by
   by_cases hik : i = k
   ·subst hik
    rw [e1 i (Nat.le_refl _), e3 i (Nat.le_refl _), e4, e5, g8_ ho]
    refine ⟨q1, q0, q2, q2', fun hn => ⟨(q3 hn).1, fun σ2 h2' h3' h2 => ?_⟩⟩
    rw [g8_ ho]; exact (q3 hn).2 σ2 h2' h3' h2
   ·rw [e1 i (by omega), e3 i (by omega), e3 (i + 1) (by omega), show vals' i = vals i from if_neg hik]
    exact h1 i (by omega)) (by rw [e4]; exact q2) (by rw [e4]; exact q2') (by
   have hp := mr_ (vals := vals') (s := s) hf ho (L := fun j => decide (j < k)) (by simp) (S k) σ'
   rw [e1 k (Nat.le_refl _), e2, e5] at hp
   rw [e4, ← hp]; exact q4)
  exact ⟨vals2, S2, by rw [r1, e3 0 (by omega)], r2, r3⟩
theorem lE_ (vs : List Nat) (hX : XOk X) (hst : fW_ ops = true) (hch : n8_ vs md ops = true) {fr : Fr} (h : opsC P (run P md X) ops fr.σ.next W (fr.σ.bump ops.size) (qp_ vs md ops) 0 ops.toList K ⟨fr.s, fr.σ.bump ops.size⟩) : pP_ P (run P md X) ops K fr := by
 have hf := eO_ hst
 obtain ⟨b, hb⟩ : ∃ b, b = fr.σ.next := ⟨_, rfl⟩
 obtain ⟨σs, hσs⟩ : ∃ σs, σs = fr.σ.bump ops.size := ⟨_, rfl⟩
 rw [← hb, ← hσs] at h
 have h0 : sl ops (fun _ => .tup []) fr.s (fun j => decide (j < 0)) = fr.s := by funext t; exact f2_ fun _ _ _ _ => by simp
 have hA0 : e0_ b W σs σs := ⟨by rw [hσs, lo_]; omega, fun _ _ _ => rfl⟩
 have hR0 : Room b 0 ops.size σs := ⟨by rw [hσs, lo_]; omega, fun j hj => by rw [hσs, jQ_, if_neg (by omega)]⟩
 obtain ⟨vals, S, s0, h1, h2⟩ := po_ (P := P) (O := run P md X) (K := K) (s := fr.s) (b := b) (W := W) (σs := σs) (cm := qp_ vs md ops) vs (fun _ => rfl) hf ops.size 0 (fun _ => .tup []) (fun _ => σs) (by omega) (fun i hi => absurd hi (by omega)) hA0 (by simpa using hR0) (by rw [h0]; simpa using h)
 -- the chain and the new boxes
 obtain ⟨ch, hchd⟩ : ∃ ch, ch = (bM_ vs md ops).filter fun i => !fQ_ ops i := ⟨_, rfl⟩
 have hmem : ∀ i, i ∈ bM_ vs md ops → i < ops.size := fun i hi => by
  simp only [bM_, List.mem_filter, List.mem_range] at hi; exact hi.1
 have hchm : ∀ i, i ∈ ch ↔ i ∈ bM_ vs md ops ∧ fQ_ ops i = false := fun i => by rw [hchd]; simp
 have hanc : ∀ i ∈ bM_ vs md ops, ∀ j ∈ ch, i < j → i ∈ (ancs ops).getD j [] := fun i hi j hj hij => by
  have hj := (hchm j).1 hj
  have := List.all_eq_true.1 (List.all_eq_true.1 hch i hi) j hj.1
  simp only [Bool.or_eq_true, Bool.not_eq_true', hj.2] at this
  rcases this with (h | h) | h
  ·have : Nat.blt i j = true := by simp [Nat.blt]; omega
   rw [this] at h; cases h
  ·cases h
  ·exact d9_.2 ⟨hmem i hi, h⟩
 have hflt : ∀ i, fQ_ ops i = true → i ∈ bM_ vs md ops := fun i hi => by
  have hvw : vwB vs md ops i = false := by unfold vwB; rw [hi]; simp
  unfold fQ_ at hi
  split at hi
  ·rename_i o ho
   have hlt : i < ops.size := (Array.getElem?_eq_some_iff.1 ho).1
   simp only [bM_, List.mem_filter, List.mem_range, ho, hvw, Bool.not_false, Bool.and_true]
   refine ⟨hlt, ?_⟩
   simp only [ps_, Bool.and_eq_true] at hi
   revert hi
   cases o.op <;> simp [isChg]
  ·cases hi
 obtain ⟨Bk, hBk⟩ : ∃ Bk : Nat → Blk, Bk = fun x => ((S (x - b + 1)).blk x).getD (aH_ [] 0) := ⟨_, rfl⟩
 -- which new boxes are there beside the chain
 let pX : (Nat → Bool) → Nat → Nat → Bool := fun c L x => decide (b ≤ x) && fQ_ ops (x - b) && c (x - b) && decide (L ≤ x - b)
 let Sg : (Nat → Bool) → St := fun c => (S (bB_ ch c)).over (pX c (bB_ ch c)) Bk
 have hroom : ∀ j, j ≤ ops.size → Room b j (ops.size - j) (S j) ∧ e0_ b W σs (S j) := fun j hj => by
  cases j with
  | zero => rw [s0]; exact ⟨hR0, hA0⟩
  | succ j => exact ⟨(h1 j (by omega)).2.2.2.1, (h1 j (by omega)).2.2.1⟩
 have hle : ∀ c : Nat → Bool, bB_ ch c ≤ ops.size := fun c => dm_.2 fun k hk _ => hmem k ((hchm k).1 hk).1
 have hfl : ∀ i, i < ops.size → fQ_ ops i = true → S (i + 1) = (S i).set (b + i) (Bk (b + i)) ∧ ∀ σ2 : St, σ2.blk (b + i) = none → b + i < σ2.next → ef_ P (run P md X) ops b i (sl ops vals fr.s (fun j => decide (j < i))) σ2 = some (vals i, σ2.set (b + i) (Bk (b + i))) := fun i hi hfi => by
  unfold fQ_ at hfi
  split at hfi
  ·rename_i o ho
   have := (h1 i hi).1
   rw [g8_ ho] at this
   obtain ⟨C, c1, c2⟩ := qm_ hfi this
   have hC : Bk (b + i) = C := by
    rw [hBk]; simp only [Nat.add_sub_cancel_left, c1, cN_, if_true, Option.getD_some]
   rw [hC]
   exact ⟨c1, fun σ2 h3 h4 => by rw [g8_ ho]; exact c2 σ2 h3 h4⟩
  ·cases hfi
 -- the states of the first order
 have hS : ∀ j, j ≤ ops.size → S j = Sg (fun k => decide (k < j)) := by
  intro j
  induction j with
  | zero =>
   intro _
   have e : bB_ ch (fun k => decide (k < 0)) = 0 := Nat.le_zero.1 (dm_.2 fun k _ hk => by simp at hk)
   simp only [Sg, e]
   rw [g9_ fun i => by simp [pX]]
  | succ j ih =>
   intro hj
   have ih := ih (by omega)
   by_cases hc : j ∈ ch
   ·have e : bB_ ch (fun k => decide (k < j + 1)) = j + 1 := mJ_ hc (by simp) fun k _ hk => by simp at hk; omega
    simp only [Sg, e]
    rw [g9_ fun i => by simp only [pX, Bool.and_eq_false_iff, decide_eq_false_iff_not]; omega]
   ·have e : bB_ ch (fun k => decide (k < j + 1)) = bB_ ch (fun k => decide (k < j)) := fo_ fun k hk => by
     have : k ≠ j := fun e => hc (e ▸ hk)
     rw [Bool.eq_iff_iff]; simp; omega
    have hL : bB_ ch (fun k => decide (k < j)) ≤ j := dm_.2 fun k _ hk => by simp at hk; omega
    by_cases hfj : fQ_ ops j = true
    ·rw [(hfl j (by omega) hfj).1, ih]
     simp only [Sg, e]
     rw [kp_]
     congr 1
     funext x
     simp only [pX]
     rw [Bool.eq_iff_iff]
     simp only [Bool.or_eq_true, Bool.and_eq_true, decide_eq_true_eq]
     constructor
     ·rintro (h | rfl)
      ·exact ⟨⟨h.1.1, by omega⟩, h.2⟩
      ·rw [Nat.add_sub_cancel_left]; exact ⟨⟨⟨by omega, hfj⟩, by omega⟩, hL⟩
     ·rintro ⟨⟨⟨q1, q2⟩, q3⟩, q4⟩
      by_cases hx : x = b + j
      ·exact .inr hx
      ·exact .inl ⟨⟨⟨q1, q2⟩, by omega⟩, q4⟩
    ·have hn : j ∉ bM_ vs md ops := fun hm => hc ((hchm j).2 ⟨hm, by simpa using hfj⟩)
     rw [((h1 j (by omega)).2.2.2.2 hn).1, ih]
     simp only [Sg, e]
     congr 1
     funext x
     simp only [pX]
     rw [Bool.eq_iff_iff]
     simp only [Bool.and_eq_true, decide_eq_true_eq]
     constructor
     ·rintro ⟨⟨⟨q1, q2⟩, q3⟩, q4⟩; exact ⟨⟨⟨q1, q2⟩, by omega⟩, q4⟩
     ·rintro ⟨⟨⟨q1, q2⟩, q3⟩, q4⟩
      have : x - b ≠ j := fun e => by rw [e] at q2; exact hfj q2
      exact ⟨⟨⟨q1, q2⟩, by omega⟩, q4⟩
 have hOld : ∀ c, e0_ b W σs (Sg c) := fun c => by
  obtain ⟨q1, q2⟩ := (hroom _ (hle c)).2
  refine ⟨q1, fun x hx hx' => ?_⟩
  simp only [Sg, St.over]
  rw [if_neg (by simp only [pX, Bool.and_eq_true, decide_eq_true_eq]; omega)]
  exact q2 x hx hx'
 have hcg : ∀ c c', (∀ j ∈ bM_ vs md ops, c j = c' j) → Sg c = Sg c' := fun c c' hcc => by
  have e : bB_ ch c = bB_ ch c' := fo_ fun k hk => hcc k ((hchm k).1 hk).1
  simp only [Sg, e]
  congr 1
  funext x
  simp only [pX]
  by_cases hfx : fQ_ ops (x - b) = true
  ·rw [hcc _ (hflt _ hfx)]
  ·simp [hfx]
 -- between what may write, the old blocks are as they were
 have hspan : ∀ x, x < b → ∀ d j, j + d ≤ ops.size → (∀ k, j ≤ k → k < j + d → ∀ c, wkB md ops c k = true → ¬ W c x) → (S (j + d)).blk x = (S j).blk x := by
  intro x hx d
  induction d with
  | zero => intro j _ _; rfl
  | succ d ih =>
   intro j hj hk
   rw [show j + (d + 1) = (j + d) + 1 by omega, (h1 (j + d) (by omega)).2.1 x hx (hk (j + d) (by omega) (by omega))]
   exact ih j (by omega) (fun k h1 h2 => hk k h1 (by omega))
 have hwch : ∀ c k, wkB md ops c k = true → k ∈ ch := fun c k hk => by
  simp only [wkB, Bool.and_eq_true] at hk
  have hk := hk.2
  have hvw : vwB vs md ops k = false := by unfold vwB; rw [hk]; simp
  unfold wk1 at hk
  split at hk
  ·rename_i o ho
   have hlt : k < ops.size := (Array.getElem?_eq_some_iff.1 ho).1
   have key : isChg o.op = true ∧ ps_ o = false := by
    obtain ⟨d, op, ty, ps, af, g⟩ := o
    cases op with
    | store t a x => exact ⟨rfl, rfl⟩
    | call d =>
     refine ⟨?_, rfl⟩
     obtain ⟨cal, as, ts⟩ := d
     cases cal with
     | builtin bi => cases bi <;> first | rfl | cases hk
     | _ => rfl
    | _ => cases hk
   refine (hchm k).2 ⟨?_, ?_⟩
   ·simp only [bM_, List.mem_filter, List.mem_range, ho, hvw, Bool.not_false, Bool.and_true]
    exact ⟨hlt, key.1⟩
   ·unfold fQ_; rw [ho]; exact key.2
  ·cases hk
 have hcmp : ∀ i, i < ops.size → i ∉ bM_ vs md ops → ∀ c, (∀ k ∈ bM_ vs md ops, k ∈ (ancs ops).getD i [] → c k = true) → (∀ k ∈ bM_ vs md ops, i ∈ (ancs ops).getD k [] → c k = false) → (∀ k, k ∈ bM_ vs md ops → ∀ j, j ∈ bM_ vs md ops → j ∈ (ancs ops).getD k [] → c k = true → c j = true) → ∀ k, k ∈ ch → cmp1 ops k i = true → (k < i → k < bB_ ch c) ∧ (i ≤ k → bB_ ch c ≤ k) := by
  intro i hi hn c f1 f2 f4 k hkc hall
  have hkc' := (hchm k).1 hkc
  unfold cmp1 at hall
  rw [hkc'.2] at hall
  constructor
  ·intro hki
   have e : Nat.blt k i = true := by simp [Nat.blt]; omega
   rw [e] at hall
   have := f1 k hkc'.1 (d9_.2 ⟨hmem k hkc'.1, hall⟩)
   have := dm_.1 (Nat.le_refl (bB_ ch c)) k hkc this
   omega
  ·intro hik
   have hne : k ≠ i := fun e => hn (e ▸ hkc'.1)
   have e : Nat.blt k i = false := by cases hb3 : Nat.blt k i with
    | false => rfl
    | true => have := Nat.le_of_ble_eq_true hb3; omega
   have e2 : Nat.beq k i = false := by cases hb2 : Nat.beq k i with
    | false => rfl
    | true => have := Nat.eq_of_beq_eq_true hb2; omega
   rw [e, e2] at hall
   have hck := f2 k hkc'.1 (d9_.2 ⟨hi, by simpa using hall⟩)
   by_cases hz : bB_ ch c = 0
   ·omega
   ·obtain ⟨k', k1, k2, k3⟩ := kJ_ hz
    rw [k3]
    have : ¬ k < k' := fun hkk => by
     have := f4 k' ((hchm k').1 k1).1 k hkc'.1 (hanc k hkc'.1 k' k1 hkk) k2
     rw [this] at hck; cases hck
    have : k ≠ k' := fun e => by rw [e, k2] at hck; cases hck
    omega
 have hold2 : ∀ i, i < ops.size → i ∉ bM_ vs md ops → ∀ c, (∀ k ∈ bM_ vs md ops, k ∈ (ancs ops).getD i [] → c k = true) → (∀ k ∈ bM_ vs md ops, i ∈ (ancs ops).getD k [] → c k = false) → (∀ k, k ∈ bM_ vs md ops → ∀ j, j ∈ bM_ vs md ops → j ∈ (ancs ops).getD k [] → c k = true → c j = true) → ∀ x, x < b → (∀ k d, wkB md ops d k = true → W d x → cmp1 ops k i = true) → (Sg c).blk x = (S i).blk x := by
  intro i hi hn c f1 f2 f4 x hx hcw
  have hsg : (Sg c).blk x = (S (bB_ ch c)).blk x := by
   simp only [Sg, St.over]
   rw [if_neg (by simp only [pX, Bool.and_eq_true, decide_eq_true_eq]; omega)]
  rw [hsg]
  have hL := hle c
  rcases Nat.le_total (bB_ ch c) i with h | h
  ·have := hspan x hx (i - bB_ ch c) (bB_ ch c) (by omega) (fun k a1 a2 d hd hW => by
    have := (hcmp i hi hn c f1 f2 f4 k (hwch d k hd) (hcw k d hd hW)).1 (by omega); omega)
   rw [show bB_ ch c + (i - bB_ ch c) = i by omega] at this
   exact this.symm
  ·have := hspan x hx (bB_ ch c - i) i (by omega) (fun k a1 a2 d hd hW => by
    have := (hcmp i hi hn c f1 f2 f4 k (hwch d k hd) (hcw k d hd hW)).2 (by omega); omega)
   rw [show i + (bB_ ch c - i) = bB_ ch c by omega] at this
   exact this
 refine ⟨⟨sl ops vals fr.s (fun j => decide (j < ops.size)), Sg (fun j => decide (j < ops.size))⟩, ?_, by rw [← hS ops.size (Nat.le_refl _)]; exact h2⟩
 refine jk_ (P := P) (O := run P md X) (vals := vals) (s := fr.s) (Sg := Sg) (ch := bM_ vs md ops) hst rfl ?_ ?_ hcg hmem
 ·have e := hS 0 (Nat.zero_le _)
  rw [s0, hσs] at e
  rw [e]; exact hcg _ _ fun j _ => by simp
 ·intro i hi c hc
  rw [← hb]
  obtain ⟨f1, f2, f3, f4⟩ := hc
  -- what is done, up to where
  have hlast : ∀ i, fQ_ ops i = true → c i = false → bB_ ch c ≤ i := fun i hfi hci => by
   by_cases hz : bB_ ch c = 0
   ·omega
   ·obtain ⟨k, k1, k2, k3⟩ := kJ_ hz
    rw [k3]
    have k4 := (hchm k).1 k1
    have : ¬ i < k := fun hik => by
     have := f4 k k4.1 i (hflt i hfi) (hanc i (hflt i hfi) k k1 hik) k2
     rw [this] at hci; cases hci
    have : k ≠ i := fun e => by rw [e] at k4; rw [k4.2] at hfi; cases hfi
    omega
  by_cases hcmp : i ∈ ch ∨ (i ∉ bM_ vs md ops ∧ cmpB vs md ops i = true)
  ·have hlo : ∀ k ∈ bM_ vs md ops, k < i → c k = true := fun k hk hki => f1 k hk (by
    rcases hcmp with hic | ⟨_, hcm⟩
    ·exact hanc k hk i hic hki
    ·have := List.all_eq_true.1 hcm k hk
     have e : Nat.blt k i = true := by simp [Nat.blt]; omega
     rw [e] at this
     exact d9_.2 ⟨hmem k hk, this⟩)
   have hhi : ∀ k ∈ ch, i < k → c k = false := fun k hk hik => f2 k ((hchm k).1 hk).1 (by
    rcases hcmp with hic | ⟨_, hcm⟩
    ·exact hanc i ((hchm i).1 hic).1 k hk hik
    ·have := List.all_eq_true.1 hcm k ((hchm k).1 hk).1
     have e : Nat.blt k i = false := by cases hb3 : Nat.blt k i with
      | false => rfl
      | true => have := Nat.le_of_ble_eq_true hb3; omega
     have e2 : Nat.beq k i = false := by cases hb2 : Nat.beq k i with
      | false => rfl
      | true => have := Nat.eq_of_beq_eq_true hb2; omega
     rw [e, e2, ((hchm k).1 hk).2] at this
     exact d9_.2 ⟨hi, by simpa using this⟩)
   have e1 : bB_ ch c = bB_ ch (fun k => decide (k < i)) := fo_ fun k hk => by
    rcases Nat.lt_trichotomy k i with h | h | h
    ·rw [hlo k ((hchm k).1 hk).1 h]; simp [h]
    ·subst h; rw [f3]; simp
    ·rw [hhi k hk h]; simp; omega
   -- the boxes that have come early
   let l : List Nat := (((List.range ops.size).filter fun f => fQ_ ops f && c f && decide (i < f)).map fun f => b + f)
   have hl : ∀ x, l.contains x = (decide (b ≤ x) && fQ_ ops (x - b) && c (x - b) && decide (i < x - b)) := fun x => by
    rw [Bool.eq_iff_iff]
    simp only [l, List.contains_iff_mem, List.mem_map, List.mem_filter, List.mem_range, Bool.and_eq_true, decide_eq_true_eq]
    constructor
    ·rintro ⟨f, ⟨a1, ⟨a2, a3⟩, a4⟩, rfl⟩; rw [Nat.add_sub_cancel_left]; exact ⟨⟨⟨by omega, a2⟩, a3⟩, a4⟩
    ·rintro ⟨⟨⟨a1, a2⟩, a3⟩, a4⟩; exact ⟨x - b, ⟨hmem _ (hflt _ a2), ⟨a2, a3⟩, a4⟩, by omega⟩
   have hnd : l.Nodup := List.pairwise_map.2 (List.Pairwise.imp (fun h => by omega) (List.Pairwise.filter _ List.nodup_range))
   have hroom_i := (hroom i (by omega)).1
   have hlx : ∀ x ∈ l, b + i ≠ x ∧ (S i).blk x = none ∧ x < (S i).next := fun x hx => by
    have hx : l.contains x = true := by simpa using hx
    rw [hl] at hx
    simp only [Bool.and_eq_true, decide_eq_true_eq] at hx
    obtain ⟨⟨⟨a1, a2⟩, a3⟩, a4⟩ := hx
    have a5 := hmem _ (hflt _ a2)
    refine ⟨by omega, ?_, by have := hroom_i.1; omega⟩
    have := hroom_i.2 (x - b - i) (by omega)
    rwa [show b + i + (x - b - i) = x by omega] at this
   have ho : ops[i]? = some ops[i] := by simp [hi]
   have hstep := (h1 i hi).1
   rw [g8_ ho] at hstep ⊢
   have hrun := (kB_ hX (Bk := Bk) hstep l hlx hnd).1
   have g1 : Sg c = (S i).over (fun x => l.contains x) Bk := by
    rw [hS i (by omega)]
    simp only [Sg, e1]
    rw [pu_ (r := pX c (bB_ ch (fun k => decide (k < i))))]
    intro x
    rw [hl]
    simp only [pX]
    rw [Bool.eq_iff_iff]
    simp only [Bool.or_eq_true, Bool.and_eq_true, decide_eq_true_eq]
    constructor
    ·rintro ⟨⟨⟨a1, a2⟩, a3⟩, a4⟩
     by_cases hxi : x - b < i
     ·exact .inl ⟨⟨⟨a1, a2⟩, hxi⟩, a4⟩
     ·have : x - b ≠ i := fun e => by rw [e] at a3; rw [a3] at f3; cases f3
      exact .inr ⟨⟨⟨a1, a2⟩, a3⟩, by omega⟩
    ·rintro (⟨⟨⟨a1, a2⟩, a3⟩, a4⟩ | ⟨⟨⟨a1, a2⟩, a3⟩, a4⟩)
     ·exact ⟨⟨⟨a1, a2⟩, hlo _ (hflt _ a2) a3⟩, a4⟩
     ·have : bB_ ch (fun k => decide (k < i)) ≤ i := dm_.2 fun k _ hk => by simp at hk; omega
      exact ⟨⟨⟨a1, a2⟩, a3⟩, by omega⟩
   have g2 : Sg (fun j => c j || decide (j = i)) = (S (i + 1)).over (fun x => l.contains x) Bk := by
    rcases hcmp with hic | ⟨hn, _⟩
    ·have e2 : bB_ ch (fun j => c j || decide (j = i)) = i + 1 := mJ_ hic (by simp) fun k hk hkc => by
      rcases Nat.lt_trichotomy k i with h | h | h
      ·omega
      ·omega
      ·simp [hhi k hk h] at hkc; omega
     simp only [Sg, e2]
     congr 1
     funext x
     rw [hl]
     simp only [pX]
     rw [Bool.eq_iff_iff]
     simp only [Bool.or_eq_true, Bool.and_eq_true, decide_eq_true_eq]
     constructor
     ·rintro ⟨⟨⟨a1, a2⟩, a3 | a3⟩, a4⟩
      ·exact ⟨⟨⟨a1, a2⟩, a3⟩, by omega⟩
      ·omega
     ·rintro ⟨⟨⟨a1, a2⟩, a3⟩, a4⟩; exact ⟨⟨⟨a1, a2⟩, .inl a3⟩, by omega⟩
    ·rw [((h1 i hi).2.2.2.2 hn).1, ← g1]
     exact hcg _ _ fun j hj => by
      have : j ≠ i := fun e => hn (e ▸ hj)
      simp [this]
   rw [g1, g2]; exact hrun
  ·by_cases hfi : fQ_ ops i = true
   ·have hLi := hlast i hfi f3
    obtain ⟨_, h4⟩ := hfl i hi hfi
    have hr := (hroom _ (hle c)).1
    have hfree : (Sg c).blk (b + i) = none := by
     simp only [Sg, St.over]
     rw [if_neg (by simp only [pX, Nat.add_sub_cancel_left, f3]; simp)]
     have := hr.2 (i - bB_ ch c) (by omega)
     rwa [show b + bB_ ch c + (i - bB_ ch c) = b + i by omega] at this
    rw [h4 (Sg c) hfree (by show b + i < (S (bB_ ch c)).next; have := hr.1; omega)]
    congr 2
    have e : bB_ ch (fun j => c j || decide (j = i)) = bB_ ch c := fo_ fun k hk => by
     have : k ≠ i := fun e => hcmp (.inl (e ▸ hk))
     simp [this]
    simp only [Sg, e]
    rw [kp_]
    congr 1
    funext x
    simp only [pX]
    rw [Bool.eq_iff_iff]
    simp only [Bool.or_eq_true, Bool.and_eq_true, decide_eq_true_eq]
    constructor
    ·rintro (h | rfl)
     ·exact ⟨⟨h.1.1, .inl h.1.2⟩, h.2⟩
     ·rw [Nat.add_sub_cancel_left]; exact ⟨⟨⟨by omega, hfi⟩, .inr rfl⟩, hLi⟩
    ·rintro ⟨⟨⟨a1, a2⟩, a3 | a3⟩, a4⟩
     ·exact .inl ⟨⟨⟨a1, a2⟩, a3⟩, a4⟩
     ·exact .inr (by omega)
   ·have hn : i ∉ bM_ vs md ops := fun hm => hcmp (.inl ((hchm i).2 ⟨hm, by simpa using hfi⟩))
    have e2 : Sg (fun j => c j || decide (j = i)) = Sg c := hcg _ _ fun j hj => by
     have : j ≠ i := fun e => hn (e ▸ hj)
     simp [this]
    rw [e2]
    exact ((h1 i hi).2.2.2.2 hn).2 _ (fun w => absurd (.inr ⟨hn, w⟩) hcmp) (fun x hx hW => hold2 i hi hn c f1 f2 f4 x hx fun k d hd hWd => by
     have hd' := hd
     simp only [wkB, Bool.and_eq_true] at hd'
     have e := Nat.eq_of_beq_eq_true hd'.1
     subst e
     cases hc1 : cmp1 ops d i with
     | true => rfl
     | false => exact absurd hWd (hW d (by show (!wk1 md ops d || cmp1 ops d i) = false; rw [hd'.2, hc1]; rfl))) (hOld c)
theorem eJ_ {z : Bool} {σ : St} {k b e o n : Nat} {v : T} {S : List Nat} (h : hold z σ k (.ref b e o n) = some (v, S)) : b ∈ S := by
 cases k with
 | zero => cases h
 | succ k =>
  simp only [hold] at h
  obtain ⟨B, hB, h⟩ := Option.bind_eq_some_iff.1 h
  split at h
  ·obtain ⟨q, _, h⟩ := Option.map_eq_some_iff.1 h
   injection h with _ h; subst h; simp
  ·cases h
theorem rB_ (vs : List Nat) (W : Nat → Nat → Prop) {Q : aA_ → Fr → Prop} {σ σ0 : St} {es : List Ent} {id : Nat} (hX : XOk X) (hst : fW_ ops = true) (hch : n8_ vs md ops = true) (hH : Heap σ0 σ es)
  (h : ∀ B σs σ', σ0.next ≤ B → (∀ x cells, Ent.box x cells ∈ es → x < B) → (∀ z w t v, Ent.own z w t v ∈ es → ∀ b e o n, t = .ref b e o n → b < B) → Heap σ0 σ' es → opsX P (run P md X) ops (.c B 0 W σs (qp_ vs md ops)) ops.toList (Q .normal) ⟨s, σ'⟩) : codeQ P (run P md X) (.region id ops true) Q ⟨s, σ⟩ := by
 refine lE_ vs hX hst hch (W := W) ?_
 refine h σ.next (σ.bump ops.size) (σ.bump ops.size) hH.grow.nx (fun x cells hx => ?_) (fun z w t v hx b e o n ht => ?_) hH.bump ⟨by simp, fun _ _ _ => rfl⟩ ⟨by simp, fun j hj => by rw [jQ_, if_neg (by omega)]⟩
 ·obtain ⟨n, hn, e⟩ := List.getElem_of_mem hx
  obtain ⟨F, h1, h2, h3⟩ := hH.ex
  obtain ⟨l1, l2, rfl⟩ := List.append_of_mem hx
  obtain ⟨F1, F2, rfl, h4, h5⟩ := h1.split
  obtain ⟨S, F', rfl, ⟨rfl, _⟩, _⟩ := h5
  exact (h3 x (by simp)).2
 ·obtain ⟨F, h1, h2, h3⟩ := hH.ex
  obtain ⟨l1, l2, rfl⟩ := List.append_of_mem hx
  obtain ⟨F1, F2, rfl, h4, h5⟩ := h1.split
  obtain ⟨S, F', rfl, ⟨_, _, k, h6⟩, _⟩ := h5
  subst ht
  exact (h3 b (by simp [eJ_ h6])).2
end
theorem bl1 {bs : List Nat} {c : List T} (h : bs.length = [c].length) : ∃ b, bs = [b] := by
 rcases bs with _ | ⟨b, _ | ⟨x, l⟩⟩ <;> simp at h
 exact ⟨b, rfl⟩
end Go.Am
end
section
set_option linter.unusedVariables false
set_option linter.unusedSimpArgs false
namespace Go.Am
open Classical
theorem Heap.wrap {σ0 σ : St} {ents E : List Ent} (h : Heap σ0 σ (ents ++ E)) : ∃ F, Heap σ0 σ (ents ++ [.keep F σ]) ∧ ∀ σ' ents', Heap σ0 σ' (ents' ++ [.keep F σ]) → Heap σ0 σ' (ents' ++ E) := by
 obtain ⟨F, h1, h2, h3⟩ := h.ex
 obtain ⟨F1, F2, rfl, h4, h5⟩ := h1.split
 refine ⟨F2, ⟨h.grow, F1 ++ F2, h4.join ⟨F2, [], by simp, ⟨rfl, fun b hb => ⟨rfl, h5.some b hb⟩⟩, rfl⟩, h2, h3⟩, fun σ' ents' k => ?_⟩
 obtain ⟨G, k1, k2, k3⟩ := k.ex
 obtain ⟨G1, G2, rfl, k4, k5⟩ := k1.split
 obtain ⟨S, F', rfl, ⟨rfl, k6⟩, k7⟩ := k5
 cases k7
 simp only [List.append_nil] at k2 k3
 exact ⟨k.grow, G1 ++ S, k4.join (h5.same fun b hb => (k6 b hb).1), k2, k3⟩
section
variable {P : Program} {md : Nat → Md} {X : Ext} {f : Nat}
variable {ops : Array Oper} {m : Mo} {l : List Oper} {K : Fr → Prop} {s : Nat → T} {σ σ0 : St} {L : List (Nat × T)} {es ents : List Ent}
variable {d : Option Nat} {ty : TypeId} {ps : String} {af : Array Edge} {g : Option (Nat × Bool)}
def RawS (P : Program) (md : Nat → Md) (X : Ext) (f : Nat) (args : List T) (n : Nat) (tree : List T → T) (ents : List Ent) (ents' : List T → List Ent) : Prop :=
 ∀ σ0 σ E, Heap σ0 σ (ents ++ E) → ∃ hs σ', hs.length = n ∧ run P md X f args σ = some (tree hs, σ') ∧ Heap σ0 σ' (ents' hs ++ E)
def endM (P : Program) (rs : List ResultVar) (σ0 : St) (n : Nat) (tree : List T → T) (ents' : List T → List Ent) : aA_ → Fr → Prop
 | .exit _, _ => False
 | .normal, fr => ∃ l hs, resL P fr rs = some l ∧ tupOf l = tree hs ∧ hs.length = n ∧ Heap σ0 fr.σ (ents' hs)
 | .ret, fr => ∃ l hs, resL P fr rs = some l ∧ tupOf l = tree hs ∧ hs.length = n ∧ Heap σ0 fr.σ (ents' hs)
theorem bp_ {rs : List ResultVar} {l : List T} {n : Nat} {tree : List T → T} {ents' : List T → List Ent} (hs : List T) (hl : resL P ⟨s, σ⟩ rs = some l) (ht : tupOf l = tree hs) (hn : hs.length = n) (hH : Heap σ0 σ (ents' hs)) : endM P rs σ0 n tree ents' .ret ⟨s, σ⟩ := ⟨l, hs, hl, ht, hn, hH⟩
theorem cC_ {c : Code} {n0 n : Nat} {rs : List ResultVar} {args : List T} {tree : List T → T} {ents' : List T → List Ent} (hv : md f = .raw) (hX : X f = none) (hok : Ok P f c n0 rs) (hlen : Nat.ble args.length n0 = true)
  (h : ∀ σ0 σ F σk s, Sub (nums 0 args) s → Heap σ0 σ (ents ++ [.keep F σk]) → codeQ P (run P md X) c (endM P rs σ0 n tree (fun hs => ents' hs ++ [.keep F σk])) ⟨s, σ⟩) : RawS P md X f args n tree ents ents' := fun σ0 σ E hH => by
 obtain ⟨F, h1, h2⟩ := hH.wrap
 obtain ⟨fn, k1, k2, k3, k4, k5, k6⟩ := hok
 obtain ⟨x, fr, m1, m2⟩ := codeQ_sound (h σ0 σ F σ _ (fb_ args) h1)
 have hx : (x = .normal ∨ x = .ret) ∧ ∃ l hs, resL P fr rs = some l ∧ tupOf l = tree hs ∧ hs.length = n ∧ Heap σ0 fr.σ (ents' hs ++ [.keep F σ]) := by
  cases x with
  | normal => exact ⟨.inl rfl, m2⟩
  | ret => exact ⟨.inr rfl, m2⟩
  | exit i => exact m2.elim
 obtain ⟨hx, l, hs, q1, q2, q3, q4⟩ := hx
 refine ⟨hs, fr.σ, q3, ?_, h2 _ _ q4⟩
 rw [lK_ (P := P) (vm := md) (X := X) (σ := σ) hv hX k1 k2 k3 k4 (by rw [k5]; exact Nat.le_of_ble_eq_true hlen) m1 hx (by rw [resA, k6, q1]; rfl), q2]
theorem ol_ {fo : Operand} {as : Array Operand} {tys : Array TypeId} {a b xs : List T} {n : Nat} {tree : List T → T} {ents' : List T → List Ent} (hw : want ops L g = some true) (hS : Sub L s) (hf : gE (get L) fo = some (.fn f a b)) (ha : gEs (get L) as.toList = some xs)
  (hH : Heap σ0 σ (ents ++ es)) (hr : RawS P md X f (a ++ xs ++ b) n tree ents ents')
  (k : ∀ hs σ' s', hs.length = n → Heap σ0 σ' (ents' hs ++ es) → Sub (putL L d (tree hs)) s' → opsX P (run P md X) ops .q l K ⟨s', σ'⟩) : opsX P (run P md X) ops .q (⟨d, .call ⟨.value fo, as, tys⟩, ty, ps, af, g⟩ :: l) K ⟨s, σ⟩ := by
 obtain ⟨hs, σ', h1, h2, h3⟩ := hr σ0 σ es hH
 refine lM_ (f := f) (args := a ++ xs ++ b) (aF_ hS hw) (by rw [hO_, co_ hS ha, Option.bind_some, ag_ hS hf]; rfl) h2 ?_
 rw [cb_]
 exact k _ _ _ h1 h3 (aS_ hS d _ σ)
def endI (P : Program) (rs : List ResultVar) (K : T → St → Prop) : aA_ → Fr → Prop
 | .exit _, _ => False
 | .normal, fr => ∃ l, resL P fr rs = some l ∧ K (tupOf l) fr.σ
 | .ret, fr => ∃ l, resL P fr rs = some l ∧ K (tupOf l) fr.σ
theorem tc_ {rs : List ResultVar} {l : List T} {K : T → St → Prop} {v : T} (hl : resL P ⟨s, σ⟩ rs = some l) (ht : tupOf l = v) (h : K v σ) : endI P rs K .ret ⟨s, σ⟩ := ⟨l, hl, ht ▸ h⟩
theorem tP_ {fo : Operand} {as : Array Operand} {tys : Array TypeId} {a b xs : List T} {c : Code} {n0 : Nat} {rs : List ResultVar} (args : List T) (hw : want ops L g = some true) (hS : Sub L s) (hf : gE (get L) fo = some (.fn f a b)) (ha : gEs (get L) as.toList = some xs)
  (hab : a ++ xs ++ b = args) (hv : md f = .raw) (hX : X f = none) (hok : Ok P f c n0 rs) (hlen : Nat.ble args.length n0 = true)
  (h : ∀ s1, Sub (nums 0 args) s1 → codeQ P (run P md X) c (endI P rs fun v σ' => ∀ s', Sub (putL L d v) s' → opsX P (run P md X) ops .q l K ⟨s', σ'⟩) ⟨s1, σ⟩) : opsX P (run P md X) ops .q (⟨d, .call ⟨.value fo, as, tys⟩, ty, ps, af, g⟩ :: l) K ⟨s, σ⟩ := by
 subst hab
 obtain ⟨fn, k1, k2, k3, k4, k5, k6⟩ := hok
 obtain ⟨x, fr, m1, m2⟩ := codeQ_sound (h _ (fb_ _))
 have hx : (x = .normal ∨ x = .ret) ∧ ∃ l1, resL P fr rs = some l1 ∧ ∀ s', Sub (putL L d (tupOf l1)) s' → opsX P (run P md X) ops .q l K ⟨s', fr.σ⟩ := by
  cases x with
  | normal => exact ⟨.inl rfl, m2⟩
  | ret => exact ⟨.inr rfl, m2⟩
  | exit i => exact m2.elim
 obtain ⟨hx, l1, q1, q2⟩ := hx
 refine lM_ (f := f) (args := a ++ xs ++ b) (v := tupOf l1) (σ' := fr.σ) (aF_ hS hw) (by rw [hO_, co_ hS ha, Option.bind_some, ag_ hS hf]; rfl)
  (lK_ (P := P) (vm := md) (X := X) (σ := σ) hv hX k1 k2 k3 k4 (by rw [k5]; exact Nat.le_of_ble_eq_true hlen) m1 hx (by rw [resA, k6, q1]; rfl)) ?_
 rw [cb_]
 exact q2 _ (aS_ hS d _ σ)
theorem tj_ {HF : (Nat → T) → St → Prop} {fo : Operand} {as : Array Operand} {tys : Array TypeId} {a b xs : List T} {c : Code} {n0 : Nat} {rs : List ResultVar} (args : List T) (hw : want ops L g = some true) (hS : Sub L s) (hf : gE (get L) fo = some (.fn f a b)) (ha : gEs (get L) as.toList = some xs)
  (hab : a ++ xs ++ b = args) (hv : md f = .raw) (hX : X f = none) (hok : Ok P f c n0 rs) (hlen : Nat.ble args.length n0 = true)
  (h : ∀ s1, Sub (nums 0 args) s1 → codeQ P (run P md X) c (endI P rs fun v σ' => ∀ s', Sub (putL L d v) s' → HF s' σ') ⟨s1, σ⟩)
  (k : ∀ s' σ', HF s' σ' → opsX P (run P md X) ops .q l K ⟨s', σ'⟩) : opsX P (run P md X) ops .q (⟨d, .call ⟨.value fo, as, tys⟩, ty, ps, af, g⟩ :: l) K ⟨s, σ⟩ :=
 tP_ args hw hS hf ha hab hv hX hok hlen fun s1 h1 => codeQ_mono (fun x fr hx => by
  cases x with
  | exit i => exact hx
  | normal => obtain ⟨l, e1, e2⟩ := hx; exact ⟨l, e1, fun s' hs => k _ _ (e2 s' hs)⟩
  | ret => obtain ⟨l, e1, e2⟩ := hx; exact ⟨l, e1, fun s' hs => k _ _ (e2 s' hs)⟩) (h s1 h1)
end
def ls_ (s : ByteArray) : Option (Sl (Iv .u8)) := if 1 ≤ s.size ∧ s.size ≤ 1099511627776 then some ⟨false, s.data.toList.map fun b => ⟨b.toNat⟩⟩ else none
theorem lt_ (s : ByteArray) : dN_ s = ah_ (s.data.toList.map fun b => (⟨b.toNat⟩ : Iv .u8)) := by
 unfold dN_
 generalize s.data.toList = l
 induction l with
 | nil => rfl
 | cons b l ih => simp only [List.map_cons, ah_]; rw [ih]; rfl
section
variable {P : Program} {O : ax_}
variable {ops : Array Oper} {m : Mo} {l : List Oper} {K : Fr → Prop} {s : Nat → T} {σ σ0 : St} {L : List (Nat × T)} {es ents : List Ent}
variable {d : Option Nat} {ty : TypeId} {ps : String} {af : Array Edge} {g : Option (Nat × Bool)}
theorem nz_ {σ : St} {src dst : TypeId} {w : ByteArray} : je_ P none σ src dst (.str w) = if aD_ P src = 3 then if aD_ P dst = 3 then some (.str w, σ) else (ao_ P dst).bind fun e => if aD_ P e = 10 ∧ w.size ≤ 2 ^ 40 ∧ σ.okK none = true then some (.ref (σ.nid none) 0 0 w.size, σ.pushK none (aH_ (dN_ w) 1)) else none else none := rfl
theorem vz_ {x : Operand} {src dst e : TypeId} {w : ByteArray} {r : Sl (Iv .u8)} (hw : want ops L g = some true) (hS : Sub L s) (hH : Heap σ0 σ es) (hx : gE (get L) x = some (.str w)) (hk : (Nat.beq (aD_ P src) 3 && !Nat.beq (aD_ P dst) 3) = true) (he : ao_ P dst = some e) (hke : Nat.beq (aD_ P e) 10 = true) (hr : ls_ w = some r)
  (k : ∀ t' σ' s', ar_ t' → Heap σ0 σ' (.own true 1 t' r.t :: es) → Sub (putL L d t') s' → opsX P O ops .q l K ⟨s', σ'⟩) : opsX P O ops .q (⟨d, .convert src dst x, ty, ps, af, g⟩ :: l) K ⟨s, σ⟩ := by
 unfold ls_ at hr
 split at hr
 ·rename_i hb
  injection hr with hr; subst hr
  simp only [Bool.and_eq_true, Bool.not_eq_true'] at hk
  have h1 := Nat.eq_of_beq_eq_true hk.1; have h2 := Nat.ne_of_beq_eq_false hk.2; have h3 := Nat.eq_of_beq_eq_true hke
  refine nM_ (v := .ref σ.next 0 0 w.size) (σ' := σ.pushK none (aH_ (dN_ w) 1)) (aF_ hS hw) ?_ ?_
  ·rw [kD_, ag_ hS hx, Option.bind_some]
   rw [nz_, if_pos h1, if_neg h2, he, Option.bind_some, if_pos ⟨h3, by omega, rfl⟩]; rfl
  ·rw [cb_]
   refine k _ _ _ ⟨rfl, rfl⟩ ?_ (aS_ hS d _ σ)
   have hl : (w.data.toList.map fun b => (⟨b.toNat⟩ : Iv .u8)).length = w.size := by rw [List.length_map, Array.length_toList]; rfl
   have hrow : Sl.t (⟨false, w.data.toList.map fun b => ⟨b.toNat⟩⟩ : Sl (Iv .u8)) = .row false w.size (ah_ (w.data.toList.map fun b => (⟨b.toNat⟩ : Iv .u8))) := by
    show T.row false (List.length _) _ = _; rw [hl]
   rw [hrow, lt_]
   refine Heap.mkRow (ents := []) hH (by decide) (by omega) (by rw [cellsL_len, hl]; rfl) (cellsL_one _) ?_
   generalize w.data.toList = l
   induction l with
   | nil => exact .nil
   | cons b l ih => exact .leaf (fun σ d => by cases d <;> rfl) ih
 ·cases hr
end
section
variable {P : Program} {O : ax_}
variable {ops : Array Oper} {m : Mo} {l : List Oper} {K : Fr → Prop} {s : Nat → T} {σ σ0 : St} {L : List (Nat × T)} {es ents : List Ent}
variable {d : Option Nat} {ty : TypeId} {ps : String} {af : Array Edge} {g : Option (Nat × Bool)}
end
def okPs : List (Nat × T) → List (List T) → Prop
 | [], [] => True
 | (_, v) :: ps, c :: cs => v.cells = c ∧ c.all T.one = true ∧ okPs ps cs
 | _, _ => False
def p1_ (place : Nat → Option (Nat × Nat)) (cells : List T) : List (Nat × T) → List (List T) → Option (List T)
 | [], _ => some cells
 | (i, _) :: rest, c :: cs => match place i with
  | some (off, size) => bif Nat.beq c.length size && Nat.ble (off + size) cells.length then p1_ place (splice cells off c) rest cs else none
  | none => none
 | _, _ => none
theorem o7_ {place : Nat → Option (Nat × Nat)} : ∀ {ps : List (Nat × T)} {cs : List (List T)} {cells r : List T}, okPs ps cs → p1_ place cells ps cs = some r → ez_ place cells ps = some r
 | [], [], cells, r, _, h => h
 | (i, v) :: ps, c :: cs, cells, r, hp, h => by
  obtain ⟨h1, h2, h3⟩ := hp
  simp only [p1_] at h
  split at h
  ·rename_i off size hpl
   simp only [ez_, hpl, Option.bind_some, h1]
   cases hb : Nat.beq c.length size && Nat.ble (off + size) cells.length with
   | true =>
    rw [hb] at h
    simp only [Bool.and_eq_true] at hb
    rw [if_pos ⟨Nat.eq_of_beq_eq_true hb.1, Nat.le_of_ble_eq_true hb.2, h2⟩]
    exact o7_ h3 h
   | false => rw [hb] at h; cases h
  ·cases h
 | [], _ :: _, _, _, hp, _ => hp.elim
 | _ :: _, [], _, _, hp, _ => by exact hp.elim
section
variable {P : Program} {O : ax_}
variable {ops : Array Oper} {m : Mo} {l : List Oper} {K : Fr → Prop} {s : Nat → T} {σ σ0 : St} {L : List (Nat × T)}
variable {d : Option Nat} {ty : TypeId} {ps : String} {af : Array Edge} {g : Option (Nat × Bool)}
theorem iV_ {t : TypeId} {parts : Array (Nat × Operand)} {qs : List (Nat × T)} {z r : List T} (cs : List (List T)) (hw : want ops L g = some true) (hS : Sub L s) (hg : gPs (get L) parts.toList = some qs) (hz : aT_ P t = some z)
  (hk : (Nat.beq (aD_ P t) 7 && (ck_ P t).all (fun f => (szOf P f.type).isSome)) = true) (ho : okPs qs cs) (hf : p1_ (fun i => (bJ_ P t i).map fun (o, _, n) => (o, n)) z qs cs = some r)
  (k : ∀ s', Sub (putL L d (.agg r)) s' → opsX P O ops (nxM m) l K ⟨s', σ⟩) : opsX P O ops m (⟨d, .build t parts, ty, ps, af, g⟩ :: l) K ⟨s, σ⟩ := by
 simp only [Bool.and_eq_true] at hk
 refine dX_ hw hS (fun kk σ' _ => ?_) k
 show ((aT_ P t).bind fun z => (dr_ s parts.toList).bind fun ps => if aD_ P t = 7 ∧ (ck_ P t).all (fun f => (szOf P f.type).isSome) = true then ((ez_ (fun i => (bJ_ P t i).map fun (o, _, n) => (o, n)) z ps).map .agg).map (fun x => ARes.val x σ') else none) = _
 rw [hz, Option.bind_some, f8_ hS hg, Option.bind_some, if_pos ⟨Nat.eq_of_beq_eq_true hk.1, hk.2⟩, o7_ ho hf]; rfl
end
def remI (a b : Int) : Option Int := if b = 0 then none else some (a.tmod b)
section
variable {P : Program} {O : ax_}
variable {ops : Array Oper} {m : Mo} {l : List Oper} {K : Fr → Prop} {s : Nat → T} {σ : St} {L : List (Nat × T)}
variable {d : Option Nat} {ty : TypeId} {ps : String} {af : Array Edge} {g : Option (Nat × Bool)}
theorem qy_ {x y : Operand} {t u : TypeId} {kk : IntKind} {a b r : Int} (hw : want ops L g = some true) (hS : Sub L s) (hx : gE (get L) x = some (.int kk a)) (hy : gE (get L) y = some (.int kk b)) (h : remI a b = some r)
  (k : ∀ s', Sub (putL L d (.int kk r)) s' → opsX P O ops (nxM m) l K ⟨s', σ⟩) : opsX P O ops m (⟨d, .binOp .rem t x y u, ty, ps, af, g⟩ :: l) K ⟨s, σ⟩ := by
 unfold remI at h
 split at h
 ·cases h
 ·rename_i hb
  injection h with h; subst h
  exact dX_ hw hS (fun k' σ' _ => by rw [iv_, ag_ hS hx, Option.bind_some, ag_ hS hy, Option.bind_some, pW_, tF_, if_neg hb]; rfl) k
end
end Go.Am
end
section
set_option linter.unusedVariables false
set_option linter.unusedSimpArgs false
namespace Go.Am
section
variable {P : Program} {O : ax_} {ops : Array Oper} {l : List Oper} {K : Fr → Prop} {s : Nat → T} {σ σ0 : St} {L : List (Nat × T)} {es ents : List Ent}
variable {d : Option Nat} {ty : TypeId} {ps : String} {af : Array Edge} {g : Option (Nat × Bool)}
theorem Heap.toFrt {z : Bool} {w : Nat} {t v : T} (h : Heap σ0 σ (.own z w t v :: es)) : Heap σ0 σ (.frt z w t v :: es) :=
 Heap.step (es1 := [.own z w t v]) (es2 := [.frt z w t v]) (es := es) h (Nat.le_refl _) fun S hS hnd hbd => by
  obtain ⟨S1, F1, rfl, h1, hnil⟩ := hS
  exact ⟨S1 ++ F1, ⟨S1, F1, rfl, .inl h1, hnil⟩, hnd, fun b hb => .inl hb, fun _ _ _ => rfl⟩
theorem Heap.ofFrt {α : Type} [Enc α] {z : Bool} {w : Nat} {t : T} {a : Sl α} (h : Heap σ0 σ (.frt z w t a.t :: es)) (ha : (a.z || !decide (a.l.length = 0)) = true) : Heap σ0 σ (.own z w t a.t :: es) :=
 Heap.step (es1 := [.frt z w t a.t]) (es2 := [.own z w t a.t]) (es := es) h (Nat.le_refl _) fun S hS hnd hbd => by
  obtain ⟨S1, F1, rfl, h1, hnil⟩ := hS
  refine ⟨S1 ++ F1, ⟨S1, F1, rfl, ?_, hnil⟩, hnd, fun b hb => .inl hb, fun _ _ _ => rfl⟩
  rcases h1 with h1 | ⟨hv, _⟩
  ·exact h1
  ·have hv : T.row a.z a.l.length (ah_ a.l) = .row false 0 [] := hv
   injection hv with h1 h2 _
   rw [h1, h2] at ha; simp at ha
theorem pK_ {α : Type} [Enc α] {x hi : Operand} {t e : TypeId} {t1 : T} {a : Sl α} {w : Nat} {kk : IntKind} (hw : want ops L g = some true) (hS : Sub L s) (hH : Heap σ0 σ (.own true w t1 a.t :: es)) (hx : gE (get L) x = some t1) (hhi : gE (get L) hi = some (.int kk 0))
  (he : ao_ P t = some e) (hz : szOf P e = some (Enc.w α)) (hsz : Nat.beq (Enc.w α) 0 = false) (hne : (!decide (a.l.length = 0)) = true)
  (k : ∀ t' s', ar_ t' → Heap σ0 σ (.frt true (Enc.w α) t' (Sl.t (⟨false, []⟩ : Sl α)) :: es) → Sub (putL L d t') s' → opsX P O ops .q l K ⟨s', σ⟩) : opsX P O ops .q (⟨d, .slice t x none (some hi) none, ty, ps, af, g⟩ :: l) K ⟨s, σ⟩ := by
 have hne : a.l.length ≠ 0 := by simpa using hne
 have hsz := Nat.ne_of_beq_eq_false hsz
 obtain ⟨S, ⟨ht, hwd, k', h2⟩, _, _⟩ := hH.head
 have ea : a.t = .row a.z a.l.length (ah_ a.l) := rfl
 rw [ea] at h2
 rcases cS_ ht h2 with ⟨rfl, hz, hn0, hcs, rfl⟩ | ⟨rfl, hz, hn0, hcs, rfl⟩ | ⟨hzz, x', B, S', k'', rfl, hB, c1, c3, c5, c6, c7, h3, rfl⟩
 ·exact absurd hn0 hne
 ·exact absurd hn0 hne
 ·have hesz := j6_ c5 h3 (by omega)
  refine dX_ hw hS (v := .ref x' B.ep 0 0) (fun kk σ' ha' => ?_) (fun s' hs' => k _ s' ⟨rfl, rfl⟩ ?_ hs')
  ·obtain rfl := ha'
   rw [j3_, ag_ hS hx, Option.bind_some, eR_, Option.bind_some]
   show ((Option.map some (evalO s hi)).bind _) = _
   rw [ag_ hS hhi, Option.map_some, Option.bind_some, Option.bind_some, ks_]
   simp only [okO, Bool.and_self, if_true, jf_, he, hz, hB, Option.bind_some, boundA]
   simp [hesz, c3, hsz]
  ·refine Heap.step (es1 := [.own true w (.ref x' B.ep 0 a.l.length) a.t]) (es2 := [.frt true (Enc.w α) (.ref x' B.ep 0 0) (Sl.t (⟨false, []⟩ : Sl α))]) (es := es) hH (Nat.le_refl _) fun S hS hnd hbd => ?_
   obtain ⟨S1, F1, rfl, ⟨_, _, k5, h5⟩, hnil⟩ := hS
   cases hnil
   have hm := eJ_ h5
   refine ⟨[x'], ⟨[x'], [], rfl, .inr ⟨rfl, x', B, rfl, rfl, hB, c1 rfl, c3, hesz, hsz⟩, rfl⟩, by simp, fun b hb => .inl ?_, fun _ _ _ => rfl⟩
   simp at hb; subst hb; simpa using hm
def lA_ {α : Type} (by_ : Nat) (x0 : α) (n : Int) : Option (Sl α) := if 0 < n ∧ n * by_ ≤ 1099511627776 then some ⟨false, List.replicate n.toNat x0⟩ else none
theorem tp_ {α : Type} [Enc α] {z : Bool} {x y : Operand} {kk : IntKind} {n : Int} {t t2 e by_ : Nat} {x0 : α} {r : Sl α} (hz0 : ∀ σ d, frzL (hold z σ d) (Enc.cells x0) = some (Enc.cells x0, [])) (hw : want ops L g = some true) (hS : Sub L s) (hH : Heap σ0 σ es)
  (hx : gE (get L) x = some (.row true 0 [])) (hy : gE (get L) y = some (.int kk n)) (he : ao_ P t = some e) (hz : szOf P e = some (Enc.w α)) (hby : cu_ P e = some by_) (hzz : aT_ P e = some (Enc.cells x0))
  (hcl : (cz_ P t2 && !Nat.beq (Enc.w α) 0 && !Nat.beq by_ 0 && Nat.ble by_ 1048576) = true) (hc : lA_ by_ x0 n = some r)
  (k : ∀ t' σ' s', ar_ t' → Heap σ0 σ' (.own z (Enc.w α) t' r.t :: es) → Sub (putL L d t') s' → opsX P O ops .q l K ⟨s', σ'⟩) : opsX P O ops .q (⟨d, .call ⟨.builtin .append, #[x, y], #[t, t2]⟩, ty, ps, af, g⟩ :: l) K ⟨s, σ⟩ := by
 simp only [Bool.and_eq_true, Bool.not_eq_true'] at hcl
 obtain ⟨⟨⟨c1, c2⟩, c3⟩, c4⟩ := hcl
 have c2 := Nat.ne_of_beq_eq_false c2; have c3 := Nat.ne_of_beq_eq_false c3; have c4 := Nat.le_of_ble_eq_true c4
 unfold lA_ at hc
 split at hc
 ·rename_i hh
  injection hc with hc; subst hc
  have hlen : ((List.replicate n.toNat (Enc.cells x0)).flatten).length = n.toNat * Enc.w α := by simp [Enc.len]
  have hfr : ∀ (σ' : St) (m : Nat), frzL (hold z σ' 0) (ah_ (List.replicate m x0)) = some (ah_ (List.replicate m x0), []) := fun σ' m => by
   induction m with
   | zero => rfl
   | succ m ih => simpa [List.replicate_succ, ah_] using dB_ (hz0 σ' 0) ih
  have hrow : Sl.t (⟨false, List.replicate n.toNat x0⟩ : Sl α) = .row false n.toNat (ah_ (List.replicate n.toNat x0)) := by simp [Sl.t]
  refine nM_ (v := .ref σ.next 0 0 n.toNat) (σ' := σ.pushK none (aH_ ((List.replicate n.toNat (Enc.cells x0)).flatten) (Enc.w α))) (aF_ hS hw) ?_ ?_
  ·have ev : bT_ s [x, y] = some [.row true 0 [], .int kk n] := by simp only [bT_, ag_ hS hx, ag_ hS hy, Option.bind_some, Option.map_some]
   show ((bT_ s [x, y]).bind fun args => match args, [t, t2] with | [x, y], [t, t2] => (bh_ P none σ t t2 x y).map fun (x, σ) => ARes.val x σ | _, _ => none) = _
   rw [ev, Option.bind_some]
   show (bh_ P none σ t t2 _ _).map _ = _
   unfold bh_
   rw [he, Option.bind_some, hz, Option.bind_some, hby, Option.bind_some, hzz, Option.bind_some, if_pos c1, if_neg (by rintro (h | h | h | h); exact h (Enc.len x0); exact c2 h; exact c3 h; omega)]
   unfold appZ
   simp only
   rw [if_pos ⟨hh.1, hh.2, rfl⟩]; rfl
  ·rw [cb_]
   refine k _ _ _ ⟨rfl, rfl⟩ ?_ (aS_ hS d _ σ)
   rw [hrow, ← d2_]
   refine Heap.step (es1 := []) (es2 := [.own z (Enc.w α) (.ref σ.next 0 0 n.toNat) (.row false n.toNat (ah_ (List.replicate n.toNat x0)))]) (es := es) hH (by simp) fun S hS _ _ => ?_
   refine ⟨[σ.next], ⟨[σ.next], [], rfl, ⟨rfl, (fun b e o n B h hB _ => by injection h with h; subst h; rw [g3_] at hB; injection hB with hB; subst hB; rfl), 1, ?_⟩, rfl⟩, by simp, fun b hb => by simp at hb; subst hb; exact .inr ⟨Nat.le_refl _, by simp⟩, fun b hb _ => by rw [kb_, if_neg (by omega)]⟩
   simp only [hold, g3_, Option.bind_some, dF_, hfr, Option.map_some]
   rw [if_pos (by simp only [aH_]; exact ⟨fun _ => trivial, trivial, Nat.le_refl _, trivial, by rw [d2_]; exact hlen, c2, cellsL_one _, by have := hh.1; omega⟩)]
 ·cases hc
theorem qV_ {m : Mo} {x : Operand} {t : TypeId} (hw : want ops L g = some true) (hS : Sub L s) (hx : gE (get L) x = some (.row true 0 [])) (hk : aD_ P t = 4)
  (k : ∀ s', Sub (putL L d (.int .i64 0)) s' → opsX P O ops (nxM m) l K ⟨s', σ⟩) : opsX P O ops m (⟨d, .call ⟨.builtin .cap, #[x], #[t]⟩, ty, ps, af, g⟩ :: l) K ⟨s, σ⟩ :=
 dX_ hw hS (fun kk σ' _ => by
  have ev : bT_ s [x] = some [.row true 0 []] := by simp only [bT_, ag_ hS hx, Option.bind_some, Option.map_some]
  show ((bT_ s [x]).bind fun args => match args, [t] with | [x], [t] => (capA P t x).map fun x => ARes.val x σ' | _, _ => none) = _
  rw [ev, Option.bind_some]
  show (capA P t (.row true 0 [])).map _ = _
  simp only [capA, hk, if_true]; rfl) k
theorem sT_ {α : Type} [Enc α] {z : Bool} [Hld z α] {x y : Operand} {t1 : T} {a b c : Sl α} {t t2 e by_ : Nat} {zc : List T} (hw : want ops L g = some true) (hS : Sub L s) (hH : Heap σ0 σ (.frt z (Enc.w α) t1 a.t :: es))
  (hx : gE (get L) x = some t1) (hy : gE (get L) y = some b.t) (he : ao_ P t = some e) (hz : szOf P e = some (Enc.w α)) (hby : cu_ P e = some by_) (hzz : aT_ P e = some zc)
  (hcl : (!cz_ P t2 && Nat.beq zc.length (Enc.w α) && !Nat.beq (Enc.w α) 0 && !Nat.beq by_ 0 && Nat.ble by_ 1048576) = true) (hk : aD_ P t2 = 4) (hc : appS by_ a b = some c)
  (kk : ∀ t' σ' s', ar_ t' → Heap σ0 σ' (.frt z (Enc.w α) t' c.t :: es) → Sub (putL L d t') s' → opsX P O ops .q l K ⟨s', σ'⟩) : opsX P O ops .q (⟨d, .call ⟨.builtin .append, #[x, y], #[t, t2]⟩, ty, ps, af, g⟩ :: l) K ⟨s, σ⟩ := by
 obtain ⟨S, h1, hnd, hbd⟩ := hH.head
 rcases h1 with h1 | ⟨hv, x', B, rfl, rfl, hB, d1, d2, d3, d4⟩
 ·have hH' : Heap σ0 σ (.own z (Enc.w α) t1 a.t :: es) := Heap.step (es1 := [.frt z (Enc.w α) t1 a.t]) (es2 := [.own z (Enc.w α) t1 a.t]) (es := es) hH (Nat.le_refl _) fun S' hS' hnd' hbd' => by
   obtain ⟨S1, F1, rfl, h2, hnil⟩ := hS'
   cases hnil
   rcases h2 with h2 | ⟨hv, x', B, rfl, rfl, hB, d1, d2, d3, d4⟩
   ·exact ⟨S1 ++ [], ⟨S1, [], rfl, h2, rfl⟩, hnd', fun b hb => .inl hb, fun _ _ _ => rfl⟩
   ·obtain ⟨ht, hwd, k, h3⟩ := h1
    have hv' : a.t = .row false 0 [] := hv
    rw [hv'] at h3
    rcases cS_ ht h3 with ⟨h, _⟩ | ⟨h, _⟩ | ⟨_, x2, B2, _, _, h, _, _, _, _, _, _, _, _⟩
    ·cases h
    ·cases h
    ·exfalso
     cases k with
     | zero => cases h3
     | succ k =>
      simp only [hold, hB, Option.bind_some] at h3
      rw [if_neg (fun hh => hh.2.2.2.2.2.2.2 rfl)] at h3; cases h3
  exact ue_ hw hS hH' hx hy he hz hby hzz hcl hk hc fun t' σ' s' k1 k2 k3 => kk t' σ' s' k1 k2.toFrt k3
 ·have hv : T.row a.z a.l.length (ah_ a.l) = .row false 0 [] := hv
  injection hv with e1 e2 e3
  have ha : a = ⟨false, []⟩ := by
   obtain ⟨az, al⟩ := a
   simp only at e1 e2
   rw [e1, List.length_eq_zero_iff.1 e2]
  subst ha
  simp only [Bool.and_eq_true, Bool.not_eq_true'] at hcl
  obtain ⟨⟨⟨⟨c1, c2⟩, c3⟩, c4⟩, c5⟩ := hcl
  have c2 := Nat.eq_of_beq_eq_true c2; have c3 := Nat.ne_of_beq_eq_false c3; have c4 := Nat.ne_of_beq_eq_false c4; have c5 := Nat.le_of_ble_eq_true c5
  have hnews : e2_ σ (Enc.w α) b.t = some (b.l.length, ah_ b.l) := by simp only [e2_, Sl.t, cellsOf, Option.bind_some, cellsL_len, if_true]
  have hsrc : e8_ P t2 b.t = true := by simp [e8_, Sl.t, T.isStr, hk]
  have ev : bT_ s [x, y] = some [.ref x' B.ep 0 0, b.t] := by simp only [bT_, ag_ hS hx, ag_ hS hy, Option.bind_some, Option.map_some]
  have hop : ∀ r, bh_ P none σ t t2 (.ref x' B.ep 0 0) b.t = some r → aOp P none ⟨s, σ⟩ ⟨d, .call ⟨.builtin .append, #[x, y], #[t, t2]⟩, ty, ps, af, g⟩ = some (ARes.val r.1 r.2) := fun r h => by
   show ((bT_ s [x, y]).bind fun args => match args, [t, t2] with | [x, y], [t, t2] => (bh_ P none σ t t2 x y).map fun (x, σ) => ARes.val x σ | _, _ => none) = _
   rw [ev, Option.bind_some]
   show (bh_ P none σ t t2 _ _).map _ = _
   rw [h]; rfl
  have happ : bh_ P none σ t t2 (.ref x' B.ep 0 0) b.t = if b.l.length = 0 then (if B.esz = Enc.w α ∧ B.low ≤ B.ep then some (.ref x' B.ep 0 0, σ) else none)
     else if 0 = 0 ∧ B.ep = B.ep ∧ B.esz = Enc.w α ∧ B.cells.length = 0 * Enc.w α ∧ (0 + b.l.length) * by_ ≤ 2 ^ 40 then
      some (.ref x' (B.ep + 1) 0 (0 + b.l.length), σ.set x' { B with cells := B.cells ++ ah_ b.l, ep := B.ep + 1, ver := B.ver + 1 })
     else if 0 = 0 ∧ B.ep = B.ep ∧ B.esz = Enc.w α ∧ 0 * Enc.w α ≤ B.cells.length ∧ B.st = true ∧ (0 + b.l.length) * by_ ≤ 2 ^ 40 then
      some (.ref x' (B.ep + 2) 0 (0 + b.l.length), σ.set x' { B with cells := B.cells.take (0 * Enc.w α) ++ ah_ b.l, ep := B.ep + 2, low := B.ep + 1, ver := B.ver + 2 })
     else none := by
   unfold bh_
   rw [he, Option.bind_some, hz, Option.bind_some, hby, Option.bind_some, hzz, Option.bind_some, c1, if_neg (by simp), if_neg (by omega), hnews, Option.bind_some]
   simp only
   rw [if_neg (by simp [cellsL_one, hsrc])]
   simp only [hB, Option.bind_some]
  rcases hb_ hc with ⟨hb, rfl⟩ | ⟨hb, hlim, rfl⟩
  ·have hb0 : b.l.length = 0 := by rw [hb]; rfl
   refine nM_ (aF_ hS hw) (hop (.ref x' B.ep 0 0, σ) (by rw [happ, if_pos hb0, if_pos ⟨d3, d2⟩])) ?_
   rw [cb_]
   exact kk _ _ _ ⟨rfl, rfl⟩ hH (aS_ hS d _ σ)
  ·have hb0 : b.l.length ≠ 0 := fun h => hb (List.length_eq_zero_iff.1 h)
   have hlim' : (0 + b.l.length) * by_ ≤ 2 ^ 40 := by simpa using hlim
   have fin : ∀ B' : Blk, B'.cells = ah_ b.l → B'.esz = B.esz → B'.low ≤ B'.ep → B'.st = true → Heap σ0 (σ.set x' B') (.frt z (Enc.w α) (.ref x' B'.ep 0 (0 + b.l.length)) (Sl.t (⟨false, [] ++ b.l⟩ : Sl α)) :: es) := fun B' q1 q2 q3 q4 => by
    refine Heap.toFrt (Heap.step (es1 := [.frt z (Enc.w α) (.ref x' B.ep 0 0) (Sl.t (⟨false, []⟩ : Sl α))]) (es2 := [.own z (Enc.w α) (.ref x' B'.ep 0 (0 + b.l.length)) (Sl.t (⟨false, [] ++ b.l⟩ : Sl α))]) (es := es) hH (by simp) fun S hS hnd hbd => ?_)
    obtain ⟨S1, F1, rfl, h2, hnil⟩ := hS
    cases hnil
    have hx1 : x' ∈ S1 := by
     rcases h2 with ⟨_, _, k, h2⟩ | ⟨_, b2, B2, h2, rfl, _⟩
     ·exact eJ_ h2
     ·injection h2 with h2 _; subst h2; simp
    refine ⟨[x'], ⟨[x'], [], rfl, ⟨rfl, (fun b e o n B2 h hB2 _ => by injection h with h; subst h; rw [cD_] at hB2; injection hB2 with hB2; subst hB2; rw [q2, d3]), 1, ?_⟩, rfl⟩, by simp, fun b hb => .inl ?_, fun y hy hm => ?_⟩
    ·simp only [hold, cD_, Option.bind_some, q1, Hld.list, Option.map_some, Sl.t, List.nil_append]
     rw [Nat.zero_add, if_pos ⟨fun _ => q4, trivial, q3, trivial, by rw [cellsL_len, q2, d3], by rw [q2, d3]; exact d4, cellsL_one _, hb0⟩]
    ·simp at hb; subst hb; simpa using hx1
    ·rw [cN_, if_neg (fun e => hm (by simp [e, hx1]))]
   by_cases hcl : B.cells.length = 0 * Enc.w α
   ·have hnil : B.cells = [] := List.length_eq_zero_iff.1 (by simpa using hcl)
    refine nM_ (aF_ hS hw) (hop (.ref x' (B.ep + 1) 0 (0 + b.l.length), σ.set x' { B with cells := B.cells ++ ah_ b.l, ep := B.ep + 1, ver := B.ver + 1 }) (by rw [happ, if_neg hb0, if_pos ⟨rfl, rfl, d3, hcl, hlim'⟩])) ?_
    rw [cb_]
    exact kk _ _ _ ⟨rfl, rfl⟩ (fin _ (by simp [hnil]) rfl (Nat.le_succ_of_le d2) d1) (aS_ hS d _ σ)
   ·refine nM_ (aF_ hS hw) (hop (.ref x' (B.ep + 2) 0 (0 + b.l.length), σ.set x' { B with cells := B.cells.take (0 * Enc.w α) ++ ah_ b.l, ep := B.ep + 2, low := B.ep + 1, ver := B.ver + 2 }) (by rw [happ, if_neg hb0, if_neg fun h => hcl h.2.2.2.1, if_pos ⟨rfl, rfl, d3, by simp, d1, hlim'⟩])) ?_
    rw [cb_]
    exact kk _ _ _ ⟨rfl, rfl⟩ (fin _ (by simp) rfl (by simp) d1) (aS_ hS d _ σ)
end
section
variable {P : Program} {md : Nat → Md} {X : Ext} {ops : Array Oper} {m : Mo} {l : List Oper} {K : Fr → Prop} {s : Nat → T} {σ σ0 : St} {L : List (Nat × T)} {es ents : List Ent} {f : Nat}
variable {d : Option Nat} {ty : TypeId} {ps : String} {af : Array Edge} {g : Option (Nat × Bool)}
theorem n1_ (hX : XOk X) (hm : m.chg = true) {o : Oper} {args : List T} {r : T} {σ' : St} (hwr : ∀ x, m.wr x ∨ σ'.blk x = σ.blk x) (hcl : isCall o.op = true) (hw : wantedA ops o s = true) (h : ∀ k σ, aOp P k ⟨s, σ⟩ o = some (.call f args)) (hc : run P md X f args σ = some (r, σ'))
  (kk : opsX P (run P md X) ops (nxM m) l K (Fr.put ⟨s, σ⟩ o.dst r σ')) : opsX P (run P md X) ops m (o :: l) K ⟨s, σ⟩ := by
 cases m with
 | q => show opQ P (run P md X) ops none o (opsQ P (run P md X) ops l K) ⟨s, σ⟩; unfold opQ; simp only [hw, cond_true, h]; exact ⟨r, σ', hc, kk⟩
 | d b i => cases hm
 | c b i W σs cm =>
  intro hA hR
  have free : ∀ x, σ.blk x = none → x < σ.next → σ'.blk x = none ∧ x < σ'.next := fun x h1 h2 => (qz_ hX (B := aH_ [] 0) hc h1 h2).2
  have hR0 : b + i + (l.length + 1) ≤ σ.next := hR.1
  have hR1 : b + (i + 1) + l.length ≤ σ.next := hR.nxt.1
  have h0 := free (b + i) (by have := hR.2 0 (by simp); simpa using this) (by omega)
  have hA' : e0_ b W σs σ' := ⟨by omega, fun x hx hx' => by
   rcases hwr x with (h | ⟨c, _, h⟩) | h
   ·omega
   ·exact absurd h (hx' c)
   ·rw [h, hA.2 x hx hx']⟩
  have hR' : Room b (i + 1) l.length σ' := ⟨by
   by_cases hl : l.length = 0
   ·omega
   ·have := (free (b + (i + 1) + (l.length - 1)) (hR.nxt.2 _ (by omega)) (by omega)).2
    omega, fun j hj => (free _ (hR.nxt.2 j hj) (by omega)).1⟩
  have hp : (Fr.put ⟨s, σ⟩ o.dst r σ').σ = σ' := by cases o.dst <;> rfl
  have kk := kk (by rw [hp]; exact hA') (by rw [hp]; exact hR')
  have hs : dn_ P (run P md X) ops (b + i) o s σ = some (r, σ') := by simp only [dn_, hw, if_true, h, Option.bind_some, hc]
  have hm' : (!cm.vw i) = true := hm
  unfold opsC
  simp only [jy_ hcl, hm', hw, Bool.and_self]
  refine ⟨r, σ', hs, fun x hx hwf => ?_, hA', hR', kk⟩
  rcases hwr x with (h | ⟨c, h1, h2⟩) | h
  ·omega
  ·exact absurd h2 (hwf c h1)
  ·exact h
def EB : Ent → Nat → Prop
 | .box b _, x => x = b
 | .own _ _ t _, x => BT t x
 | .flt _ t _, x => BT t x
 | .keep F _, x => x ∈ F
 | .frt .., _ => False
theorem qA_ {σ : St} : ∀ {es : List Ent} {F : List Nat}, cB_ σ es F → ∀ {e : Ent}, e ∈ es → ∀ {x : Nat}, EB e x → x ∈ F
 | e0 :: es, F, h, e, he, x, hx => by
  obtain ⟨S, F', rfl, h1, h2⟩ := h
  rcases List.mem_cons.1 he with rfl | he
  ·refine List.mem_append_left _ ?_
   cases e with
   | box b c => obtain ⟨rfl, _⟩ := h1; rw [show x = b from hx]; simp
   | own z w t v => obtain ⟨e, o, n, rfl⟩ := hx; obtain ⟨_, _, k, h6⟩ := h1; exact eJ_ h6
   | flt w t v =>
    obtain ⟨e, o, n, rfl⟩ := hx
    rcases h1 with ⟨h1, _⟩ | ⟨h1, _⟩ | ⟨b, B, n', h1, _, rfl, _⟩
    ·cases h1
    ·cases h1
    ·injection h1 with h1; rw [h1]; simp
   | keep F2 σk => obtain ⟨rfl, _⟩ := h1; exact hx
   | frt => exact hx.elim
  ·exact List.mem_append_right _ (qA_ h2 he hx)
 | [], _, _, _, he, _, _ => by cases he
theorem Heap.wrap' {σ0 σ : St} {ents E : List Ent} (h : Heap σ0 σ (ents ++ E)) : ∃ F, Heap σ0 σ (ents ++ [.keep F σ]) ∧ (∀ σ' ents', Heap σ0 σ' (ents' ++ [.keep F σ]) → Heap σ0 σ' (ents' ++ E)) ∧ ∀ e ∈ E, ∀ x, EB e x → x ∈ F := by
 obtain ⟨F, h1, h2, h3⟩ := h.ex
 obtain ⟨F1, F2, rfl, h4, h5⟩ := h1.split
 refine ⟨F2, ⟨h.grow, F1 ++ F2, h4.join ⟨F2, [], by simp, ⟨rfl, fun b hb => ⟨rfl, h5.some b hb⟩⟩, rfl⟩, h2, h3⟩, fun σ' ents' k => ?_, fun e he x hx => qA_ h5 he hx⟩
 obtain ⟨G, k1, k2, k3⟩ := k.ex
 obtain ⟨G1, G2, rfl, k4, k5⟩ := k1.split
 obtain ⟨S, F', rfl, ⟨rfl, k6⟩, k7⟩ := k5
 cases k7
 simp only [List.append_nil] at k2 k3
 exact ⟨k.grow, G1 ++ S, k4.join (h5.same fun b hb => (k6 b hb).1), k2, k3⟩
def Stay (R : Nat → Prop) (es : List Ent) : Prop := ∀ x, R x → ∃ e ∈ es, EB e x
theorem Stay.nil {es : List Ent} : Stay RN es := fun x h => h.elim
theorem Stay.box {R : Nat → Prop} {es : List Ent} {b : Nat} {c : List T} (h : Ent.box b c ∈ es) (k : Stay R es) : Stay (RB b R) es := fun y hy => by
 rcases hy with rfl | hy
 ·exact ⟨_, h, rfl⟩
 ·exact k y hy
theorem Stay.own {R : Nat → Prop} {es : List Ent} {z : Bool} {w : Nat} {t v : T} (h : Ent.own z w t v ∈ es) (k : Stay R es) : Stay (RT t R) es := fun y hy => by
 rcases hy with hy | hy
 ·exact ⟨_, h, hy⟩
 ·exact k y hy
theorem mA_ (hX : XOk X) (hm : m.chg = true) (R : Nat → Prop) (hR : Stay R es) (hwr : ∀ x, ¬ R x → m.wr x) {fo : Operand} {as : Array Operand} {tys : Array TypeId} {a b xs : List T} {n : Nat} {tree : List T → T} {ents' : List T → List Ent} (hw : want ops L g = some true) (hS : Sub L s) (hf : gE (get L) fo = some (.fn f a b)) (ha : gEs (get L) as.toList = some xs)
  (hH : Heap σ0 σ (ents ++ es)) (hr : RawS P md X f (a ++ xs ++ b) n tree ents ents')
  (k : ∀ hs σ' s', hs.length = n → Heap σ0 σ' (ents' hs ++ es) → Sub (putL L d (tree hs)) s' → opsX P (run P md X) ops (nxM m) l K ⟨s', σ'⟩) : opsX P (run P md X) ops m (⟨d, .call ⟨.value fo, as, tys⟩, ty, ps, af, g⟩ :: l) K ⟨s, σ⟩ := by
 obtain ⟨F, hw1, hw2, hw3⟩ := Heap.wrap' hH
 obtain ⟨hs, σ', h1, h2, h3k⟩ := hr σ0 σ _ hw1
 have h3 := hw2 _ _ h3k
 have hst : ∀ x, R x → σ'.blk x = σ.blk x := fun x hx => by
  obtain ⟨e, he, hc⟩ := hR x hx
  have hF : x ∈ F := hw3 e he x hc
  obtain ⟨G', k1, _⟩ := h3k.ex
  obtain ⟨G3, G4, rfl, k3, k4⟩ := k1.split
  obtain ⟨S, F', rfl, ⟨rfl, k6⟩, k7⟩ := k4
  exact (k6 x hF).1
 refine n1_ hX hm (fun x => by by_cases hx : R x; exact .inr (hst x hx); exact .inl (hwr x hx)) (f := f) (args := a ++ xs ++ b) rfl (aF_ hS hw) (fun kk σ2 => by rw [hO_, co_ hS ha, Option.bind_some, ag_ hS hf]; rfl) h2 ?_
 rw [cb_]
 exact k _ _ _ h1 h3 (aS_ hS d _ σ)
theorem tt_ {HF : (Nat → T) → St → Prop} (hX : XOk X) (hm : m.chg = true) (R : Nat → Prop) (hst : ∀ s σ', HF s σ' → ∀ x, R x → σ'.blk x = σ.blk x) (hwr : ∀ x, ¬ R x → m.wr x) {fo : Operand} {as : Array Operand} {tys : Array TypeId} {a b xs : List T} {c : Code} {n0 : Nat} {rs : List ResultVar} (args : List T) (hw : want ops L g = some true) (hS : Sub L s) (hf : gE (get L) fo = some (.fn f a b)) (ha : gEs (get L) as.toList = some xs)
  (hab : a ++ xs ++ b = args) (hv : md f = .raw) (hXf : X f = none) (hok : Ok P f c n0 rs) (hlen : Nat.ble args.length n0 = true)
  (h : ∀ s1, Sub (nums 0 args) s1 → codeQ P (run P md X) c (endI P rs fun v σ' => ∀ s', Sub (putL L d v) s' → HF s' σ') ⟨s1, σ⟩)
  (k : ∀ s' σ', HF s' σ' → opsX P (run P md X) ops (nxM m) l K ⟨s', σ'⟩) : opsX P (run P md X) ops m (⟨d, .call ⟨.value fo, as, tys⟩, ty, ps, af, g⟩ :: l) K ⟨s, σ⟩ := by
 subst hab
 obtain ⟨fn, k1, k2, k3, k4, k5, k6⟩ := hok
 obtain ⟨x, fr, m1, m2⟩ := codeQ_sound (h _ (fb_ _))
 have hx : (x = .normal ∨ x = .ret) ∧ ∃ l1, resL P fr rs = some l1 ∧ ∀ s', Sub (putL L d (tupOf l1)) s' → HF s' fr.σ := by
  cases x with
  | normal => exact ⟨.inl rfl, m2⟩
  | ret => exact ⟨.inr rfl, m2⟩
  | exit i => exact m2.elim
 obtain ⟨hx, l1, q1, q2⟩ := hx
 have hHF := q2 _ (aS_ hS d _ σ)
 refine n1_ hX hm (fun x => by by_cases hx : R x; exact .inr (hst _ _ hHF x hx); exact .inl (hwr x hx)) (f := f) (args := a ++ xs ++ b) (r := tupOf l1) (σ' := fr.σ) rfl (aF_ hS hw) (fun kk σ2 => by rw [hO_, co_ hS ha, Option.bind_some, ag_ hS hf]; rfl)
  (lK_ (P := P) (vm := md) (X := X) (σ := σ) hv hXf k1 k2 k3 k4 (by rw [k5]; exact Nat.le_of_ble_eq_true hlen) m1 hx (by rw [resA, k6, q1]; rfl)) ?_
 rw [cb_]
 exact k _ _ (q2 _ (aS_ hS d _ σ))
end
abbrev nt (α : Type) [Enc α] : T := Sl.t (⟨true, []⟩ : Sl α)
section
variable {z : Bool} {ts vs : List T} {es : List Ent}
theorem HLi {k : IntKind} {n : Int} (r : HL z ts vs es) : HL z (.int k n :: ts) (.int k n :: vs) es := HL.leaf (fun σ d => mQ_ _ σ d _ _) r
theorem HLb {n : Bool} (r : HL z ts vs es) : HL z (.bool n :: ts) (.bool n :: vs) es := HL.leaf (fun σ d => n0_ _ σ d _) r
theorem HLs {n : ByteArray} (r : HL z ts vs es) : HL z (.str n :: ts) (.str n :: vs) es := HL.leaf (fun σ d => pG_ _ σ d _) r
theorem HLn {α : Type} [Enc α] (r : HL z ts vs es) : HL z (Sl.t (⟨true, []⟩ : Sl α) :: ts) (Sl.t (⟨true, []⟩ : Sl α) :: vs) es := HL.leaf (fun σ d => ph_ _ σ d) r
theorem HLp {α : Type} [Enc α] {a : Sl α} (r : HL false ts vs es) : HL false (a.t :: ts) (a.t :: vs) es := HL.leaf (fun σ d => oB_ σ d _) r
end
abbrev i4 (n : Int) : T := .int .i64 n
section
variable {P : Program} {O : ax_} {ops : Array Oper} {m : Mo} {l : List Oper} {K : Fr → Prop} {s : Nat → T} {σ σ0 : St} {L : List (Nat × T)} {es : List Ent}
variable {d : Option Nat} {ty : TypeId} {ps : String} {af : Array Edge} {g : Option (Nat × Bool)}
theorem qs (n : Nat) (L' : List (Nat × T)) (hS : Sub L s) (k : ∀ s', Sub L' s' → opsX P O ops (nxN n m) (l.drop n) K ⟨s', σ⟩) (h : ((seg P ops n l L).map fun M => L'.map fun p => get M p.1) = some (L'.map fun p => some p.2) := by kernel_rfl) : opsX P O ops m l K ⟨s, σ⟩ := vn_ n L' hS h k
end
end Go.Am
end
section
set_option linter.unusedVariables false
set_option linter.unusedSimpArgs false
namespace Go.Am
section
variable {P : Program} {O : ax_} {ops : Array Oper} {m : Mo} {l : List Oper} {K : Fr → Prop} {s : Nat → T} {σ σ0 : St} {L : List (Nat × T)} {es ents : List Ent}
variable {d : Option Nat} {ty : TypeId} {ps : String} {af : Array Edge} {g : Option (Nat × Bool)}
theorem Heap.fltOne {w : Nat} {t v : T} (h : Heap σ0 σ (.flt w t v :: es)) : ar_ t := by
 obtain ⟨S, h1, _⟩ := h.head
 rcases h1 with ⟨rfl, _⟩ | ⟨rfl, _⟩ | ⟨b, B, n, rfl, _⟩ <;> exact ⟨rfl, rfl⟩
theorem dO_ {α : Type} [Enc α] {t1 : T} {a : Sl α} {w : Nat} (h : Heap σ0 σ (.flt w t1 a.t :: es)) :
  (t1 = .row true 0 [] ∧ a = ⟨true, []⟩) ∨ (t1 = .emp ∧ a = ⟨false, []⟩) ∨ ∃ b B, t1 = .ref b B.ep 0 a.l.length ∧ a.z = false ∧ σ.blk b = some B ∧ B.st = true ∧ B.low ≤ B.ep ∧ B.esz = w ∧ w ≠ 0 ∧ a.l.length * w ≤ B.cells.length ∧ B.cells.take (a.l.length * w) = ah_ a.l := by
 obtain ⟨S, h1, _⟩ := h.head
 obtain ⟨z, l⟩ := a
 rcases h1 with ⟨rfl, hv, _⟩ | ⟨rfl, hv, _⟩ | ⟨b, B, n, rfl, hv, _, h3, h4, h5, h6, h7, h8⟩
 ·have hv : T.row z l.length (ah_ l) = .row true 0 [] := hv
  injection hv with e1 e2 e3
  exact .inl ⟨rfl, by rw [e1, List.length_eq_zero_iff.1 e2]⟩
 ·have hv : T.row z l.length (ah_ l) = .row false 0 [] := hv
  injection hv with e1 e2 e3
  exact .inr (.inl ⟨rfl, by rw [e1, List.length_eq_zero_iff.1 e2]⟩)
 ·have hv : T.row z l.length (ah_ l) = .row false n (B.cells.take (n * w)) := hv
  injection hv with e1 e2 e3
  subst e2
  exact .inr (.inr ⟨b, B, rfl, e1, h3, h4, h5, h6, h7, h8, e3.symm⟩)
theorem oK_ {α : Type} [Enc α] {σ' : St} {b n : Nat} {B : Blk} {c : Sl α} (hz : c.z = false) (hn : n = c.l.length) (hB : σ'.blk b = some B) (h1 : B.st = true) (h2 : B.low ≤ B.ep) (h3 : B.esz = Enc.w α) (h4 : Enc.w α ≠ 0) (h5 : B.cells.take (n * Enc.w α) = ah_ c.l) : lU_ σ' (.flt (Enc.w α) (.ref b B.ep 0 n) c.t) [b] := by
 refine .inr (.inr ⟨b, B, n, rfl, ?_, rfl, hB, h1, h2, h3, h4, ?_⟩)
 ·show T.row c.z c.l.length (ah_ c.l) = _
  rw [hz, ← hn, h5]
 ·have := congrArg List.length h5
  rw [cellsL_len, List.length_take, ← hn] at this; omega
theorem Heap.toFlt0 {z : Bool} {w : Nat} {t : T} (w2 : Nat) (h : Heap σ0 σ (.own z w t (.row false 0 []) :: es)) : Heap σ0 σ (.flt w2 t (.row false 0 []) :: es) :=
 Heap.step (es1 := [.own z w t (.row false 0 [])]) (es2 := [.flt w2 t (.row false 0 [])]) (es := es) h (Nat.le_refl _) fun S hS hnd hbd => by
  obtain ⟨S1, F1, rfl, ⟨h1, _, k, h2⟩, hnil⟩ := hS
  cases hnil
  rcases cS_ h1 h2 with ⟨rfl, hz, _⟩ | ⟨rfl, hz, _, _, rfl⟩ | ⟨hz, x, B, S', k', rfl, hB, _⟩
  ·cases hz
  ·exact ⟨[], ⟨[], [], rfl, .inr (.inl ⟨rfl, rfl, rfl⟩), rfl⟩, by simp, by simp, fun _ _ _ => rfl⟩
  ·exfalso
   cases k with
   | zero => cases h2
   | succ k =>
    simp only [hold, hB, Option.bind_some] at h2
    rw [if_neg (fun hh => hh.2.2.2.2.2.2.2 rfl)] at h2; cases h2
theorem Heap.toFltN {z : Bool} {w : Nat} {t : T} (w2 : Nat) (h : Heap σ0 σ (.own z w t (.row true 0 []) :: es)) : Heap σ0 σ (.flt w2 t (.row true 0 []) :: es) :=
 Heap.step (es1 := [.own z w t (.row true 0 [])]) (es2 := [.flt w2 t (.row true 0 [])]) (es := es) h (Nat.le_refl _) fun S hS hnd hbd => by
  obtain ⟨S1, F1, rfl, ⟨h1, _, k, h2⟩, hnil⟩ := hS
  cases hnil
  rcases cS_ h1 h2 with ⟨rfl, hz, _, _, rfl⟩ | ⟨rfl, hz, _⟩ | ⟨hz, x, B, S', k', rfl, hB, _⟩
  ·exact ⟨[], ⟨[], [], rfl, .inl ⟨rfl, rfl, rfl⟩, rfl⟩, by simp, by simp, fun _ _ _ => rfl⟩
  ·cases hz
  ·cases hz
theorem t8_ (hm : m.chg = true) (hmb : m.base σ0) {t e len sz : Nat} {parts : Array (Nat × Operand)} {vs zc cs : List T} {v : T} (hw : want ops L g = some true) (hS : Sub L s) (hH : Heap σ0 σ es) (hg : gPs (get L) parts.toList = some (enumV 0 vs))
  (he : ao_ P t = some e) (hz : szOf P e = some sz) (hzz : aT_ P e = some zc) (hl : (Nat.beq zc.length sz && Nat.beq vs.length len && Nat.ble (len * sz) 16777216 && !Nat.beq sz 0 && !Nat.beq len 0) = true) (hv : allV sz vs)
  (hc : vs.flatMap T.cells = cs) (hr : T.row false len cs = v)
  (kk : ∀ t' σ' s', ar_ t' → Heap σ0 σ' (.flt sz t' v :: es) → Sub (putL L d t') s' → opsX P O ops (nxM m) l K ⟨s', σ'⟩) : opsX P O ops m (⟨d, .buildSlice t len parts, ty, ps, af, g⟩ :: l) K ⟨s, σ⟩ := by
 simp only [Bool.and_eq_true, Bool.not_eq_true'] at hl
 obtain ⟨⟨⟨⟨l1, l2⟩, l3⟩, l4⟩, l5⟩ := hl
 have l1 := Nat.eq_of_beq_eq_true l1; have l2 := Nat.eq_of_beq_eq_true l2; have l3 := Nat.le_of_ble_eq_true l3; have l4 := Nat.ne_of_beq_eq_false l4; have l5 := Nat.ne_of_beq_eq_false l5
 subst hr
 have hlen : cs.length = len * sz := by rw [← hc, ← l2]; exact kz_ vs hv
 refine hL_ hm rfl (aF_ hS hw) fun k hk hi => ⟨T.ref (σ.nid k) 0 0 len, σ.pushK k (aH_ cs sz), ?_, Cg.push hk, ?_⟩
 ·rw [f1_, he, Option.bind_some, hz, Option.bind_some, hzz, Option.bind_some, f8_ hS hg, Option.bind_some, il_, if_pos ⟨l1, l3, l4, hk⟩]
  have := it_ zc l1 vs [] 0 (by simp) hv
  simp only [List.nil_append, l2, hc] at this
  rw [this, if_neg l5]; rfl
 ·rw [cb_]
  refine kk _ _ _ ⟨rfl, rfl⟩ ?_ (aS_ hS d _ σ)
  have hbk := Mo.inb_base hi hmb
  have h0 : σ0.next ≤ σ.nid k := by
   cases k with
   | none => exact hH.grow.nx
   | some i => exact hbk i rfl
  have hf := gl_ hk
  refine Heap.stepN (es1 := []) (es2 := [.flt sz (.ref (σ.nid k) 0 0 len) (.row false len cs)]) (es := es) hH ec_ (fun b hb' => by rw [bu_, if_neg (by omega)]) fun S hS hn hb => ?_
  have hself : (σ.pushK k (aH_ cs sz)).blk (σ.nid k) = some (aH_ cs sz) := by rw [bu_, if_pos rfl]
  refine ⟨[σ.nid k], ⟨[σ.nid k], [], rfl, .inr (.inr ⟨σ.nid k, aH_ cs sz, len, rfl, ?_, rfl, hself, rfl, Nat.le_refl _, rfl, l4, ?_⟩), rfl⟩, by simp, fun b hb' => ?_, fun b hb' hs' _ => en_ hk hs' hb'⟩
  ·rw [dF_, List.take_of_length_le (by omega)]
  ·rw [dF_, hlen]; exact Nat.le_refl _
  ·simp at hb'; subst hb'
   exact .inr ⟨h0, iw_ hk, hf.imp id fun h => h.1⟩
theorem ie_ {α : Type} [Enc α] {t2 : TypeId} {ty1 : T} {b : Sl α} (hH : Heap σ0 σ (.flt (Enc.w α) ty1 b.t :: es)) (hk : aD_ P t2 = 4) : e2_ σ (Enc.w α) ty1 = some (b.l.length, ah_ b.l) ∧ e8_ P t2 ty1 = true := by
 rcases dO_ hH with ⟨rfl, rfl⟩ | ⟨rfl, rfl⟩ | ⟨x, B, rfl, hz, hB, c1, c2, c3, c4, c5, c6⟩
 ·exact ⟨by simp [e2_, cellsOf, ah_], by simp [e8_, T.isStr, hk]⟩
 ·exact ⟨by simp [e2_, cellsOf, ah_], by simp [e8_, T.isStr, hk]⟩
 ·refine ⟨?_, by simp [e8_, T.isStr, hk]⟩
  simp only [e2_, cellsOf, hB, Option.bind_some, if_pos c2, List.drop_zero, c3, c6, cellsL_len, if_true]
theorem rJ_ {α : Type} [Enc α] {t1 ty1 : T} {a b c : Sl α} {t t2 e by_ : Nat} {zc : List T} {kx : Option Nat} (hkx : σ.okK kx = true) (hbk : ∀ i, kx = some i → σ0.next ≤ i) (hH : Heap σ0 σ (.flt (Enc.w α) t1 a.t :: es))
  (he : ao_ P t = some e) (hz : szOf P e = some (Enc.w α)) (hby : cu_ P e = some by_) (hzz : aT_ P e = some zc)
  (hcl : (!cz_ P t2 && Nat.beq zc.length (Enc.w α) && !Nat.beq (Enc.w α) 0 && !Nat.beq by_ 0 && Nat.ble by_ 1048576) = true) (hnews : e2_ σ (Enc.w α) ty1 = some (b.l.length, ah_ b.l)) (hsrc : e8_ P t2 ty1 = true) (hc : appS by_ a b = some c) :
  ∃ t' σ', bh_ P kx σ t t2 t1 ty1 = some (t', σ') ∧ ar_ t' ∧ Heap σ0 σ' (.flt (Enc.w α) t' c.t :: es) ∧ σ.next ≤ σ'.next ∧ ∀ x, x < σ.next → kx ≠ some x → σ'.blk x = σ.blk x ∨ ((∃ e o n, t1 = .ref x e o n) ∧ (σ.blk x).isSome = true) := by
 simp only [Bool.and_eq_true, Bool.not_eq_true'] at hcl
 obtain ⟨⟨⟨⟨c1, c2⟩, c3⟩, c4⟩, c5⟩ := hcl
 have c2 := Nat.eq_of_beq_eq_true c2; have c3 := Nat.ne_of_beq_eq_false c3; have c4 := Nat.ne_of_beq_eq_false c4; have c5 := Nat.le_of_ble_eq_true c5
 have happ : bh_ P kx σ t t2 t1 ty1 = match t1 with
   | .row true 0 [] => if b.l.length = 0 then some (t1, σ) else if b.l.length * by_ ≤ 2 ^ 40 ∧ σ.okK kx = true then some (.ref (σ.nid kx) 0 0 b.l.length, σ.pushK kx (aH_ (ah_ b.l) (Enc.w α))) else none
   | .emp => if b.l.length = 0 then some (t1, σ) else if b.l.length * by_ ≤ 2 ^ 40 ∧ σ.okK kx = true then some (.ref (σ.nid kx) 0 0 b.l.length, σ.pushK kx (aH_ (ah_ b.l) (Enc.w α))) else none
   | .row false n cs => if b.l.length = 0 then some (t1, σ) else none
   | .ref x ep off n => (σ.blk x).bind fun B =>
     if b.l.length = 0 then (if B.esz = Enc.w α ∧ B.low ≤ ep then some (t1, σ) else none)
     else if off = 0 ∧ ep = B.ep ∧ B.esz = Enc.w α ∧ B.cells.length = n * Enc.w α ∧ (n + b.l.length) * by_ ≤ 2 ^ 40 then
      some (.ref x (ep + 1) 0 (n + b.l.length), σ.set x { B with cells := B.cells ++ ah_ b.l, ep := ep + 1, ver := B.ver + 1 })
     else if off = 0 ∧ ep = B.ep ∧ B.esz = Enc.w α ∧ n * Enc.w α ≤ B.cells.length ∧ B.st = true ∧ (n + b.l.length) * by_ ≤ 2 ^ 40 then
      some (.ref x (ep + 2) 0 (n + b.l.length), σ.set x { B with cells := B.cells.take (n * Enc.w α) ++ ah_ b.l, ep := ep + 2, low := ep + 1, ver := B.ver + 2 })
     else none
   | _ => none := by
  unfold bh_
  rw [he, Option.bind_some, hz, Option.bind_some, hby, Option.bind_some, hzz, Option.bind_some, c1, if_neg (by simp), if_neg (by omega), hnews, Option.bind_some]
  simp only
  rw [if_neg (by simp [cellsL_one, hsrc])]
  cases t1 with
  | row z n cs => cases z <;> cases n <;> cases cs <;> rfl
  | _ => rfl
 have hnil : b.l = [] → c = a := fun h => by unfold appS at hc; rw [h] at hc; injection hc with hc; exact hc.symm
 have hone := hH.fltOne
 have fresh : b.l ≠ [] → a.l = [] → b.l.length * by_ ≤ 2 ^ 40 ∧ ∃ t' σ', some (T.ref (σ.nid kx) 0 0 b.l.length, σ.pushK kx (aH_ (ah_ b.l) (Enc.w α))) = some (t', σ') ∧ ar_ t' ∧ Heap σ0 σ' (.flt (Enc.w α) t' c.t :: es) ∧ σ.next ≤ σ'.next ∧ ∀ x, x < σ.next → kx ≠ some x → σ'.blk x = σ.blk x ∨ ((∃ e o n, t1 = .ref x e o n) ∧ (σ.blk x).isSome = true) := fun hb ha => by
  rcases hb_ hc with ⟨h, _⟩ | ⟨_, hlim, rfl⟩
  ·exact absurd h hb
  have h0 : σ0.next ≤ σ.nid kx := by
   cases kx with
   | none => exact hH.grow.nx
   | some i => exact hbk i rfl
  have hf := gl_ hkx
  have hcg : Cg .q kx σ (σ.pushK kx (aH_ (ah_ b.l) (Enc.w α))) := Cg.push hkx
  refine ⟨by rw [ha] at hlim; simpa using hlim, _, _, rfl, ⟨rfl, rfl⟩, ?_, hcg.1, fun x hx hne => ?_⟩
  ·refine Heap.stepN (es1 := [.flt (Enc.w α) t1 a.t]) (es2 := [.flt (Enc.w α) (.ref (σ.nid kx) 0 0 b.l.length) (Sl.t ⟨false, a.l ++ b.l⟩)]) (es := es) hH ec_ (fun b hb' => by rw [bu_, if_neg (by omega)]) fun S hS hn hb => ?_
   have hself : (σ.pushK kx (aH_ (ah_ b.l) (Enc.w α))).blk (σ.nid kx) = some (aH_ (ah_ b.l) (Enc.w α)) := by rw [bu_, if_pos rfl]
   refine ⟨[σ.nid kx], ⟨[σ.nid kx], [], rfl, oK_ rfl (by simp [ha]) hself rfl (Nat.le_refl _) rfl c3 ?_, rfl⟩, by simp, fun b hb' => ?_, fun b hb' hs' _ => en_ hkx hs' hb'⟩
   ·rw [dF_, ha, List.nil_append, List.take_of_length_le (by rw [cellsL_len]; exact Nat.le_refl _)]
   ·simp at hb'; subst hb'
    exact .inr ⟨h0, iw_ hkx, hf.imp id fun h => h.1⟩
  ·rcases hcg.2 x hx hne with h | h
   ·exact .inl h
   ·left; rw [bu_, if_neg]
    rintro rfl
    cases kx with
    | none => simp [St.nid] at hx
    | some i => exact hne rfl
 rcases dO_ hH with ⟨rfl, rfl⟩ | ⟨rfl, rfl⟩ | ⟨x, B, rfl, hz, hB, d1, d2, d3, d4, d5, d6⟩
 ·rw [happ]
  by_cases hb : b.l = []
  ·rw [hnil hb, hb]; exact ⟨_, _, rfl, hone, hH, Nat.le_refl _, fun _ _ _ => .inl rfl⟩
  ·obtain ⟨f1, f2⟩ := fresh hb rfl
   show ∃ t' σ', (if b.l.length = 0 then _ else _) = _ ∧ _
   rw [if_neg (fun h => hb (List.length_eq_zero_iff.1 h)), if_pos ⟨f1, hkx⟩]; exact f2
 ·rw [happ]
  by_cases hb : b.l = []
  ·rw [hnil hb, hb]; exact ⟨_, _, rfl, hone, hH, Nat.le_refl _, fun _ _ _ => .inl rfl⟩
  ·obtain ⟨f1, f2⟩ := fresh hb rfl
   show ∃ t' σ', (if b.l.length = 0 then _ else _) = _ ∧ _
   rw [if_neg (fun h => hb (List.length_eq_zero_iff.1 h)), if_pos ⟨f1, hkx⟩]; exact f2
 ·rw [happ]
  simp only [hB, Option.bind_some]
  by_cases hb : b.l = []
  ·rw [hnil hb, hb]
   rw [if_pos List.length_nil, if_pos ⟨d3, d2⟩]
   exact ⟨_, _, rfl, hone, hH, Nat.le_refl _, fun _ _ _ => .inl rfl⟩
  ·have hb0 : b.l.length ≠ 0 := fun h => hb (List.length_eq_zero_iff.1 h)
   rcases hb_ hc with ⟨h, _⟩ | ⟨_, hlim, rfl⟩
   ·exact absurd h hb
   rw [if_neg hb0]
   have fin : ∀ B' : Blk, B'.cells = ah_ a.l ++ ah_ b.l → B'.esz = B.esz → B'.low ≤ B'.ep → B'.st = true → Heap σ0 (σ.set x B') (.flt (Enc.w α) (.ref x B'.ep 0 (a.l.length + b.l.length)) (Sl.t (⟨false, a.l ++ b.l⟩ : Sl α)) :: es) := fun B' q1 q2 q3 q4 => by
    refine Heap.step (es1 := [.flt (Enc.w α) (.ref x B.ep 0 a.l.length) a.t]) (es2 := [.flt (Enc.w α) (.ref x B'.ep 0 (a.l.length + b.l.length)) (Sl.t (⟨false, a.l ++ b.l⟩ : Sl α))]) (es := es) hH (by simp) fun S hS hnd hbd => ?_
    obtain ⟨S1, F1, rfl, h2, hnil⟩ := hS
    cases hnil
    have hx1 : S1 = [x] := by
     rcases h2 with ⟨h, _⟩ | ⟨h, _⟩ | ⟨b2, B2, n2, h2, _, rfl, _⟩
     ·cases h
     ·cases h
     ·injection h2 with h2 _; rw [h2]
    subst hx1
    refine ⟨[x], ⟨[x], [], rfl, oK_ rfl (by simp) (by rw [cD_]) q4 q3 (by rw [q2, d3]) c3 ?_, rfl⟩, by simp, fun b hb => .inl (by simpa using hb), fun y hy hm => by rw [cN_, if_neg (fun e => hm (by simp [e]))]⟩
    rw [q1, ← cellsL_append, List.take_of_length_le (by rw [cellsL_len, List.length_append]; exact Nat.le_refl _)]
   have hch : ∀ B' : Blk, ∀ y, y < σ.next → kx ≠ some y → (σ.set x B').blk y = σ.blk y ∨ ((∃ e o n, T.ref x B.ep 0 a.l.length = .ref y e o n) ∧ (σ.blk y).isSome = true) := fun B' y _ _ => by
    rw [cN_]; split
    ·rename_i e; subst e; exact .inr ⟨⟨_, _, _, rfl⟩, by rw [hB]; rfl⟩
    ·exact .inl rfl
   by_cases hcl : B.cells.length = a.l.length * Enc.w α
   ·rw [if_pos ⟨trivial, trivial, d3, hcl, hlim⟩]
    have hcs : B.cells = ah_ a.l := by rw [← d6, List.take_of_length_le (by omega)]
    exact ⟨_, _, rfl, ⟨rfl, rfl⟩, fin { B with cells := B.cells ++ ah_ b.l, ep := B.ep + 1, ver := B.ver + 1 } (by simp only [hcs]) rfl (Nat.le_succ_of_le d2) d1, Nat.le_refl _, hch _⟩
   ·rw [if_neg fun h => hcl h.2.2.2.1, if_pos ⟨trivial, trivial, d3, d5, d1, hlim⟩]
    exact ⟨_, _, rfl, ⟨rfl, rfl⟩, fin { B with cells := B.cells.take (a.l.length * Enc.w α) ++ ah_ b.l, ep := B.ep + 2, low := B.ep + 1, ver := B.ver + 2 } (by simp only [d6]) rfl (by simp) d1, Nat.le_refl _, hch _⟩
theorem se_ (hm : m.chg = true) (hmb : m.base σ0) {α : Type} [Enc α] {x y : Operand} {t1 ty1 : T} {a b c : Sl α} {t t2 e by_ : Nat} {zc : List T} (hwr : ∀ b e o n, t1 = .ref b e o n → m.wr b) (hw : want ops L g = some true) (hS : Sub L s) (hH : Heap σ0 σ (.flt (Enc.w α) t1 a.t :: es))
  (hn : e2_ σ (Enc.w α) ty1 = some (b.l.length, ah_ b.l) ∧ e8_ P t2 ty1 = true)
  (hx : gE (get L) x = some t1) (hy : gE (get L) y = some ty1) (he : ao_ P t = some e) (hz : szOf P e = some (Enc.w α)) (hby : cu_ P e = some by_) (hzz : aT_ P e = some zc)
  (hcl : (!cz_ P t2 && Nat.beq zc.length (Enc.w α) && !Nat.beq (Enc.w α) 0 && !Nat.beq by_ 0 && Nat.ble by_ 1048576) = true) (hc : appS by_ a b = some c)
  (kk : ∀ t' σ' s', ar_ t' → Heap σ0 σ' (.flt (Enc.w α) t' c.t :: es) → Sub (putL L d t') s' → opsX P O ops (nxM m) l K ⟨s', σ'⟩) : opsX P O ops m (⟨d, .call ⟨.builtin .append, #[x, y], #[t, t2]⟩, ty, ps, af, g⟩ :: l) K ⟨s, σ⟩ := by
 refine hL_ hm rfl (aF_ hS hw) fun kx hkx hi => ?_
 obtain ⟨t', σ', k1, k2, k3, k4, k5⟩ := rJ_ hkx (Mo.inb_base hi hmb) hH he hz hby hzz hcl hn.1 hn.2 hc
 refine ⟨t', σ', ?_, ⟨k4, fun x hx hne => (k5 x hx hne).imp id fun h => ⟨by obtain ⟨⟨e, o, n, h1⟩, _⟩ := h; exact hwr x e o n h1, h.2⟩⟩, ?_⟩
 ·have ev : bT_ s [x, y] = some [t1, ty1] := by simp only [bT_, ag_ hS hx, ag_ hS hy, Option.bind_some, Option.map_some]
  show ((bT_ s [x, y]).bind fun args => match args, [t, t2] with | [x, y], [t, t2] => (bh_ P kx σ t t2 x y).map fun (x, σ) => ARes.val x σ | _, _ => none) = _
  rw [ev, Option.bind_some]
  show (bh_ P kx σ t t2 _ _).map _ = _
  rw [k1]; rfl
 ·rw [cb_]; exact kk _ _ _ k2 k3 (aS_ hS d _ σ)
def cutS {α : Type} (a : Sl α) (h : Int) : Option (Sl α) := if 0 ≤ h ∧ h ≤ a.l.length ∧ a.l.length ≠ 0 then some ⟨false, a.l.take h.toNat⟩ else none
theorem t9_ {α : Type} [Enc α] {x hi : Operand} {t e : TypeId} {t1 : T} {a c : Sl α} {kk : IntKind} {j : Int} (hm : ∀ b e o n, t1 = .ref b e o n → m.lt b) (hw : want ops L g = some true) (hS : Sub L s) (hH : Heap σ0 σ (.flt (Enc.w α) t1 a.t :: es)) (hx : gE (get L) x = some t1) (hhi : gE (get L) hi = some (.int kk j))
  (he : ao_ P t = some e) (hz : szOf P e = some (Enc.w α)) (hc : cutS a j = some c)
  (k : ∀ t' s', ar_ t' → Heap σ0 σ (.flt (Enc.w α) t' c.t :: es) → Sub (putL L d t') s' → opsX P O ops (nxM m) l K ⟨s', σ⟩) : opsX P O ops m (⟨d, .slice t x none (some hi) none, ty, ps, af, g⟩ :: l) K ⟨s, σ⟩ := by
 unfold cutS at hc
 split at hc
 ·rename_i hh
  injection hc with hc; subst hc
  rcases dO_ hH with ⟨rfl, rfl⟩ | ⟨rfl, rfl⟩ | ⟨b, B, rfl, hz2, hB, d1, d2, d3, d4, d5, d6⟩
  ·exact absurd rfl hh.2.2
  ·exact absurd rfl hh.2.2
  ·have hj : j.toNat ≤ a.l.length := by omega
   refine dX_ hw hS (v := .ref b B.ep 0 j.toNat) (fun kk' σ' ha' => ?_) (fun s' hs' => k _ s' ⟨rfl, rfl⟩ ?_ hs')
   ·rw [j3_, ag_ hS hx, Option.bind_some, eR_, Option.bind_some]
    show ((Option.map some (evalO s hi)).bind _) = _
    rw [ag_ hS hhi, Option.map_some, Option.bind_some, Option.bind_some, ks_]
    simp only [okO, Bool.and_self, if_true, jf_, he, hz, Mo.al_blk ha' (hm _ _ _ _ rfl), hB, Option.bind_some, boundA, if_pos hh.1]
    rw [if_pos ⟨by omega, hj, d3, d2, d4⟩]; simp
   ·refine Heap.step (es1 := [.flt (Enc.w α) (.ref b B.ep 0 a.l.length) a.t]) (es2 := [.flt (Enc.w α) (.ref b B.ep 0 j.toNat) (Sl.t (⟨false, a.l.take j.toNat⟩ : Sl α))]) (es := es) hH (Nat.le_refl _) fun S hS hnd hbd => ?_
    obtain ⟨S1, F1, rfl, h2, hnil⟩ := hS
    cases hnil
    have hx1 : S1 = [b] := by
     rcases h2 with ⟨h, _⟩ | ⟨h, _⟩ | ⟨b2, B2, n2, h2, _, rfl, _⟩
     ·cases h
     ·cases h
     ·injection h2 with h2 _; rw [h2]
    subst hx1
    refine ⟨[b], ⟨[b], [], rfl, oK_ rfl (by simp; omega) hB d1 d2 d3 d4 ?_, rfl⟩, by simp, fun b hb => .inl (by simpa using hb), fun y hy hm => rfl⟩
    rw [← cellsL_take, ← d6, List.take_take, Nat.min_eq_left (Nat.mul_le_mul_right _ hj)]
 ·cases hc
theorem sH_ {α : Type} [Enc α] {x : Operand} {w : Nat} {t1 : T} {a : Sl α} {t : TypeId} (hw : want ops L g = some true) (hS : Sub L s) (hH : Heap σ0 σ (.flt w t1 a.t :: es)) (hx : gE (get L) x = some t1) (hk : aD_ P t = 4)
  (kk : ∀ s', Sub (putL L d (.int .i64 a.l.length)) s' → opsX P O ops (nxM m) l K ⟨s', σ⟩) : opsX P O ops m (⟨d, .call ⟨.builtin .len, #[x], #[t]⟩, ty, ps, af, g⟩ :: l) K ⟨s, σ⟩ := by
 have hl : lenA P σ t t1 = some (.int .i64 a.l.length) := by
  rcases dO_ hH with ⟨rfl, rfl⟩ | ⟨rfl, rfl⟩ | ⟨b, B, rfl, _⟩ <;> simp [hk]
 refine dX_ hw hS (fun kk σ' _ => ?_) kk
 have ev : bT_ s [x] = some [t1] := by simp only [bT_, ag_ hS hx, Option.bind_some, Option.map_some]
 rw [rt_]
 show (bT_ s [x]).bind _ = _
 rw [ev, Option.bind_some, lJ_, lZ_ P σ' σ, hl]; rfl
theorem tK_ {α : Type} [Enc α] {x i : Operand} {t e : TypeId} {t1 : T} {a : Sl α} {kk : IntKind} {j : Int} {y : α} (hm : ∀ b e o n, t1 = .ref b e o n → m.lt b) (hw : want ops L g = some true) (hS : Sub L s) (hH : Heap σ0 σ (.flt (Enc.w α) t1 a.t :: es)) (hx : gE (get L) x = some t1) (hi : gE (get L) i = some (.int kk j))
  (he : ao_ P t = some e) (hz : szOf P e = some (Enc.w α)) (hy : elt a j = some y)
  (k : ∀ b ep s', t1 = .ref b ep 0 a.l.length → Sub (putL L d (.ptr b ep (j.toNat * Enc.w α) (Enc.w α))) s' → opsX P O ops (nxM m) l K ⟨s', σ⟩) : opsX P O ops m (⟨d, .indexAddr t x i, ty, ps, af, g⟩ :: l) K ⟨s, σ⟩ := by
 obtain ⟨q1, q2, q3⟩ := fl_ hy
 rcases dO_ hH with ⟨rfl, rfl⟩ | ⟨rfl, rfl⟩ | ⟨b, B, rfl, hz2, hB, d1, d2, d3, d4, d5, d6⟩
 ·simp at q3
 ·simp at q3
 ·refine dX_ hw hS (fun kk σ' ha' => ?_) (fun s' => k b B.ep s' rfl)
  rw [gQ_, ag_ hS hx, Option.bind_some, ag_ hS hi, Option.bind_some, qx_, he, Option.bind_some, hz, Option.bind_some, Mo.al_blk ha' (hm _ _ _ _ rfl), hB, Option.bind_some, if_pos ⟨q1, q2, d3⟩, Nat.zero_add]; rfl
theorem q3_ {α : Type} [Enc α] {ad : Operand} {t : TypeId} {t1 : T} {a : Sl α} {j : Int} {y : α} {b ep off n : Nat} {c : List T} {v : T} (hm : ∀ b e o n, t1 = .ref b e o n → m.lt b) (hw : want ops L g = some true) (hS : Sub L s) (hH : Heap σ0 σ (.flt (Enc.w α) t1 a.t :: es)) (hr : t1 = .ref b ep 0 a.l.length)
  (ha : gE (get L) ad = some (.ptr b ep (j.toNat * Enc.w α + off) n)) (hy : elt a j = some y) (hc : Enc.cells y = c) (hn : Nat.ble (off + n) (Enc.w α) = true) (hv : part P t ((c.drop off).take n) 0 = some v)
  (k : ∀ s', Sub (putL L d v) s' → opsX P O ops (nxM m) l K ⟨s', σ⟩) : opsX P O ops m (⟨d, .load t ad, ty, ps, af, g⟩ :: l) K ⟨s, σ⟩ := by
 obtain ⟨q1, q2, q3⟩ := fl_ hy
 have hn := Nat.le_of_ble_eq_true hn
 rcases dO_ hH with ⟨rfl, rfl⟩ | ⟨rfl, rfl⟩ | ⟨b', B, rfl, hz2, hB, d1, d2, d3, d4, d5, d6⟩
 ·cases hr
 ·cases hr
 ·injection hr with e1 e2 _ _
  subst e1; subst e2
  refine dX_ hw hS (fun kk σ' ha' => ?_) k
  have hcl : c.length = Enc.w α := by rw [← hc, Enc.len]
  have hj : (j.toNat + 1) * Enc.w α ≤ a.l.length * Enc.w α := Nat.mul_le_mul_right _ (by omega)
  have hcell : (B.cells.drop (j.toNat * Enc.w α + off)).take n = (c.drop off).take n := by
   have h1 : ((B.cells.take (a.l.length * Enc.w α)).drop (j.toNat * Enc.w α + off)).take n = (c.drop off).take n := by
    rw [d6, ← List.drop_drop, g2_ a.l j.toNat y q3, hc, List.drop_append_of_le_length (by omega), List.take_append_of_le_length (by simp; omega)]
   rw [← h1, List.drop_take, List.take_take, Nat.min_eq_left (by rw [Nat.succ_mul] at hj; omega)]
  rw [i2_, ag_ hS ha, Option.bind_some, fg_, Mo.al_blk ha' (hm _ _ _ _ rfl), hB, Option.bind_some, if_pos d2, hcell, hv]; rfl
end
end Go.Am
end
section
set_option linter.unusedVariables false
set_option linter.unusedSimpArgs false
namespace Go.Am
open Classical
def Kb (F : List Nat) (σk : St) (x : Nat) (c : List T) : Prop := x ∈ F ∧ ∃ B, σk.blk x = some B ∧ B.cells = c ∧ B.ep = 0 ∧ B.low = 0
def KLe (F : List Nat) (σ : St) (F2 : List Nat) (σ2 : St) : Prop := F.Nodup ∧ ∀ b ∈ F, b ∈ F2 ∧ σ2.blk b = σ.blk b
theorem Kb.mono {F F2 : List Nat} {σ σ2 : St} {x : Nat} {c : List T} (h : Kb F σ x c) (k : KLe F σ F2 σ2) : Kb F2 σ2 x c := by
 obtain ⟨h1, B, h2, h3⟩ := h
 obtain ⟨k1, k2⟩ := k.2 x h1
 exact ⟨k1, B, by rw [k2, h2], h3⟩
theorem cB_.memE {σ : St} : ∀ {es : List Ent} {F : List Nat} {e : Ent}, cB_ σ es F → e ∈ es → ∃ S, lU_ σ e S ∧ S.Sublist F
 | [], F, e, h, he => by cases he
 | e' :: es, F, e, h, he => by
  obtain ⟨S, F', rfl, h1, h2⟩ := h
  rcases List.mem_cons.1 he with rfl | he
  ·exact ⟨S, h1, List.sublist_append_left _ _⟩
  ·obtain ⟨S2, k1, k2⟩ := h2.memE he
   exact ⟨S2, k1, k2.trans (List.sublist_append_right _ _)⟩
theorem Heap.wrapN {σ0 σ : St} {A es : List Ent} (h : Heap σ0 σ (A ++ es)) : ∃ F2 σ2, Heap σ0 σ (.keep F2 σ2 :: es) ∧ (∀ σ' es', Heap σ0 σ' (.keep F2 σ2 :: es') → Heap σ0 σ' (A ++ es')) ∧
  (∀ x c, Ent.box x c ∈ A → Kb F2 σ2 x c) ∧ ∀ Fk σk, Ent.keep Fk σk ∈ A → KLe Fk σk F2 σ2 := by
 obtain ⟨F, h1, h2, h3⟩ := h.ex
 obtain ⟨F1, F2, rfl, h4, h5⟩ := h1.split
 have hnd := (List.nodup_append.1 h2).1
 refine ⟨F1, σ, ⟨h.grow, F1 ++ F2, ⟨F1, F2, rfl, ⟨rfl, fun b hb => ⟨rfl, h4.some b hb⟩⟩, h5⟩, h2, h3⟩, fun σ' es' k => ?_, fun x c hx => ?_, fun Fk σk hx => ?_⟩
 ·obtain ⟨G, k1, k2, k3⟩ := k.ex
  obtain ⟨S, F', rfl, ⟨rfl, k6⟩, k7⟩ := k1
  exact ⟨k.grow, S ++ F', (h4.same fun b hb => (k6 b hb).1).join k7, k2, k3⟩
 ·obtain ⟨S, ⟨rfl, B, q1, q2, q3, q4, _⟩, q5⟩ := h4.memE hx
  exact ⟨q5.subset (by simp), B, q1, q2, q3, q4⟩
 ·obtain ⟨S, ⟨rfl, q1⟩, q5⟩ := h4.memE hx
  exact ⟨hnd.sublist q5, fun b hb => ⟨q5.subset hb, (q1 b hb).1⟩⟩
theorem Heap.part {σ0 σ σk σ2 : St} {Fk F2 : List Nat} {es : List Ent} (h : Heap σ0 σ (.keep F2 σ2 :: es)) (k : KLe Fk σk F2 σ2) : ∃ F3, Heap σ0 σ (.keep Fk σk :: .keep F3 σ2 :: es) ∧ ∀ σ' es', Heap σ0 σ' (.keep Fk σk :: .keep F3 σ2 :: es') → Heap σ0 σ' (.keep F2 σ2 :: es') := by
 obtain ⟨S0, ⟨rfl, _⟩, hn2, _⟩ := h.head
 refine ⟨S0.filter fun b => decide (b ∉ Fk), ?_, fun σ' es' h' => ?_⟩
 ·refine Heap.step (es1 := [.keep S0 σ2]) (es2 := [.keep Fk σk, .keep (S0.filter fun b => decide (b ∉ Fk)) σ2]) (es := es) h (Nat.le_refl _) fun S hS hnd hbd => ?_
  obtain ⟨S1, F1, rfl, ⟨rfl, h1⟩, hnil⟩ := hS
  cases hnil
  refine ⟨Fk ++ S1.filter fun b => decide (b ∉ Fk), ⟨Fk, S1.filter fun b => decide (b ∉ Fk), rfl, ⟨rfl, fun b hb => ?_⟩, _, [], by simp, ⟨rfl, fun b hb => h1 b (List.mem_filter.1 hb).1⟩, rfl⟩, ?_, fun b hb => .inl ?_, fun _ _ _ => rfl⟩
  ·obtain ⟨k1, k2⟩ := k.2 b hb
   exact ⟨by rw [(h1 b k1).1, k2], (h1 b k1).2⟩
  ·exact List.nodup_append.2 ⟨k.1, hn2.filter _, fun a ha b hb => by
    rintro rfl
    have := (List.mem_filter.1 hb).2
    simp at this; exact this ha⟩
  ·rw [List.append_nil]
   rcases List.mem_append.1 hb with hb | hb
   ·exact (k.2 b hb).1
   ·exact (List.mem_filter.1 hb).1
 ·refine Heap.step (es1 := [.keep Fk σk, .keep (S0.filter fun b => decide (b ∉ Fk)) σ2]) (es2 := [.keep S0 σ2]) (es := es') h' (Nat.le_refl _) fun S hS hnd hbd => ?_
  obtain ⟨S1, F1, rfl, ⟨rfl, h1⟩, S3, F3, rfl, ⟨rfl, h3⟩, hnil⟩ := hS
  cases hnil
  refine ⟨S0, ⟨S0, [], by simp, ⟨rfl, fun b hb => ?_⟩, rfl⟩, hn2, fun b hb => .inl ?_, fun _ _ _ => rfl⟩
  ·by_cases hm : b ∈ S1
   ·exact ⟨by rw [(h1 b hm).1, (k.2 b hm).2], (h1 b hm).2⟩
   ·exact h3 b (List.mem_filter.2 ⟨hb, by simpa using hm⟩)
  ·rw [List.append_nil]
   by_cases hm : b ∈ S1
   ·exact List.mem_append_left _ hm
   ·exact List.mem_append_right _ (List.mem_filter.2 ⟨hb, by simpa using hm⟩)
theorem mk_ {σ0 σ : St} {es : List Ent} {i : Nat} {F : List Nat} {σk : St} (hH : Heap σ0 σ es) (he : es[i]? = some (.keep F σk)) : ∀ b ∈ F, σ.blk b = σk.blk b := by
 obtain ⟨S, ⟨rfl, h1⟩, _⟩ := (hH.at i he).head
 exact fun b hb => (h1 b hb).1
section
variable (P : Program) (md : Nat → Md) (X : Ext) {α : Type}
def d3_ (en : α → List T → List Ent) (n : Nat) (th : T) (Φ : Int → α → Option (Bool × α)) (F : List Nat) (σk : St) : Prop :=
 ∀ e S y hs, hs.length = n → Φ e S = some y → ∃ f a b, th = .fn f a b ∧ RawS P md X f (a ++ [.int .i64 e] ++ b) n (fun _ => .bool y.1) (en S hs ++ [.keep F σk]) (fun hs' => en y.2 hs' ++ [.keep F σk])
end
section
variable {P : Program} {md : Nat → Md} {X : Ext} {α : Type} {en : α → List T → List Ent} {n : Nat} {th : T} {Φ : Int → α → Option (Bool × α)} {F F2 : List Nat} {σk σ2 : St}
theorem d3_.mono (h : d3_ P md X en n th Φ F σk) (k : KLe F σk F2 σ2) : d3_ P md X en n th Φ F2 σ2 := fun e S y hs hl hy => by
 obtain ⟨f, a, b, e1, h1⟩ := h e S y hs hl hy
 refine ⟨f, a, b, e1, fun σ0 σ E hH => ?_⟩
 rw [List.append_assoc] at hH
 have hH := hH.perm List.perm_append_comm
 obtain ⟨F3, h2, h3⟩ := Heap.part (es := E ++ en S hs) hH k
 have h2 : Heap σ0 σ ((en S hs ++ [.keep F σk]) ++ (.keep F3 σ2 :: E)) := h2.perm (by
  rw [List.append_assoc]
  refine List.Perm.trans ?_ List.perm_append_comm
  simp only [List.cons_append, List.nil_append]; exact .refl _)
 obtain ⟨hs', σ', q1, q2, q3⟩ := h1 σ0 σ _ h2
 refine ⟨hs', σ', q1, q2, ?_⟩
 have q3 : Heap σ0 σ' (.keep F σk :: .keep F3 σ2 :: (E ++ en y.2 hs')) := q3.perm (by
  rw [List.append_assoc]
  refine List.Perm.trans List.perm_append_comm ?_
  simp only [List.cons_append, List.nil_append]; exact .refl _)
 have q4 := h3 _ _ q3
 rw [List.append_assoc]
 exact q4.perm (by
  refine List.Perm.trans ?_ List.perm_append_comm
  simp only [List.cons_append, List.nil_append]; exact .refl _)
variable {ops : Array Oper} {m : Mo} {l : List Oper} {K : Fr → Prop} {s : Nat → T} {σ σ0 : St} {L : List (Nat × T)} {es ents : List Ent}
variable {d : Option Nat} {ty : TypeId} {ps : String} {af : Array Edge} {g : Option (Nat × Bool)}
theorem RawS.keep {f n : Nat} {args : List T} {tree : List T → T} {ents : List Ent} {ents' : List T → List Ent} (h : RawS P md X f args n tree ents ents') (ks : List Ent) : RawS P md X f args n tree (ents ++ ks) (fun hs => ents' hs ++ ks) := fun σ0 σ E hH => by
 rw [List.append_assoc] at hH
 obtain ⟨hs, σ', h1, h2, h3⟩ := h σ0 σ (ks ++ E) hH
 exact ⟨hs, σ', h1, h2, by rw [List.append_assoc]; exact h3⟩
theorem hD_ {fo : Operand} {as : Array Operand} {tys : Array TypeId} {e : Int} {S : α} {y : Bool × α} {hs : List T} (hth : d3_ P md X en n th Φ F σk) (hl : hs.length = n) (hy : Φ e S = some y) (hw : want ops L g = some true) (hS : Sub L s) (hf : gE (get L) fo = some th) (ha : gEs (get L) as.toList = some [.int .i64 e])
  (hH : Heap σ0 σ ((en S hs ++ [.keep F σk]) ++ es))
  (k : ∀ hs' σ' s', hs'.length = n → Heap σ0 σ' ((en y.2 hs' ++ [.keep F σk]) ++ es) → Sub (putL L d (.bool y.1)) s' → opsX P (run P md X) ops .q l K ⟨s', σ'⟩) : opsX P (run P md X) ops .q (⟨d, .call ⟨.value fo, as, tys⟩, ty, ps, af, g⟩ :: l) K ⟨s, σ⟩ := by
 obtain ⟨f, a, b, rfl, h1⟩ := hth e S y hs hl hy
 exact ol_ hw hS hf ha hH h1 k
theorem ku_ (hX : XOk X) (hm : m.chg = true) (R : Nat → Prop) (hR : Stay R es) (hwr : ∀ x, ¬ R x → m.wr x) {fo : Operand} {as : Array Operand} {tys : Array TypeId} {e : Int} {S : α} {y : Bool × α} {hs : List T} (hth : d3_ P md X en n th Φ F σk) (hl : hs.length = n) (hy : Φ e S = some y) (hw : want ops L g = some true) (hS : Sub L s) (hf : gE (get L) fo = some th) (ha : gEs (get L) as.toList = some [.int .i64 e])
  (hH : Heap σ0 σ ((en S hs ++ [.keep F σk]) ++ es))
  (k : ∀ hs' σ' s', hs'.length = n → Heap σ0 σ' ((en y.2 hs' ++ [.keep F σk]) ++ es) → Sub (putL L d (.bool y.1)) s' → opsX P (run P md X) ops (nxM m) l K ⟨s', σ'⟩) : opsX P (run P md X) ops m (⟨d, .call ⟨.value fo, as, tys⟩, ty, ps, af, g⟩ :: l) K ⟨s, σ⟩ := by
 obtain ⟨f, a, b, rfl, h1⟩ := hth e S y hs hl hy
 exact mA_ hX hm R hR hwr hw hS hf ha hH h1 k
theorem m9_ {O : ax_} {a : Operand} {t : TypeId} {b off n : Nat} {c : List T} {v : T} (i : Nat) (hlt : m.lt b) (hk : Kb F σk b c) (hw : want ops L g = some true) (hS : Sub L s) (hH : Heap σ0 σ es) (he : es[i]? = some (.keep F σk)) (ha : gE (get L) a = some (.ptr b 0 off n)) (hv : part P t ((c.drop off).take n) 0 = some v)
  (k : ∀ s', Sub (putL L d v) s' → opsX P O ops (nxM m) l K ⟨s', σ⟩) : opsX P O ops m (⟨d, .load t a, ty, ps, af, g⟩ :: l) K ⟨s, σ⟩ := by
 obtain ⟨h1, B, h2, h3, h4, h5⟩ := hk
 have h6 := mk_ hH he b h1
 subst h3
 exact dX_ hw hS (fun kk σ' ha' => by rw [i2_, ag_ hS ha, Option.bind_some, fg_, Mo.al_blk ha' hlt, h6, h2, Option.bind_some, if_pos (by omega), hv]; rfl) k
def Pt (F : List Nat) (σk : St) (pp : T) (c : List T) : Prop := (∃ rest, pp = .vw (c ++ rest)) ∨ ∃ b, pp = .ptr b 0 0 c.length ∧ Kb F σk b c
theorem Pt.mono {pp : T} {c : List T} (h : Pt F σk pp c) (k : KLe F σk F2 σ2) : Pt F2 σ2 pp c := h.imp id fun ⟨b, h1, h2⟩ => ⟨b, h1, h2.mono k⟩
theorem Pt.vw {c rest : List T} : Pt F σk (.vw (c ++ rest)) c := .inl ⟨rest, rfl⟩
theorem Pt.box {b : Nat} {c : List T} {n : Nat} (hn : n = c.length) (h : Kb F σk b c) : Pt F σk (.ptr b 0 0 n) c := .inr ⟨b, by rw [hn], h⟩
theorem Pt.one {pp : T} {c : List T} (h : Pt F σk pp c) : ar_ pp := by
 rcases h with ⟨rest, rfl⟩ | ⟨b, rfl, _⟩ <;> exact ⟨rfl, rfl⟩
theorem rp_ {O : ax_} {x : Operand} {pp : T} {c : List T} (hp : Pt F σk pp c) (hw : want ops L g = some true) (hS : Sub L s) (hx : gE (get L) x = some pp)
  (k : ∀ s', Sub (putL L d pp) s' → opsX P O ops (nxM m) l K ⟨s', σ⟩) : opsX P O ops m (⟨d, .nilCheck x, ty, ps, af, g⟩ :: l) K ⟨s, σ⟩ := by
 refine dX_ hw hS (fun kk σ' _ => ?_) k
 refine iq_ hS ?_ kk σ' _ _ _ _ _
 rcases hp with ⟨rest, rfl⟩ | ⟨b, rfl, _⟩ <;> simp only [pOp, hx]
def ptAt (pp : T) (off n : Nat) : T := match pp with
 | .vw cs => .vw (cs.drop off)
 | .ptr b e o m => .ptr b e (o + off) n
 | t => t
theorem mp_ {t : TypeId} {xs ys : List T} {v : T} (h : part P t xs 0 = some v) : part P t (xs ++ ys) 0 = some v := by
 unfold part at h ⊢
 cases ha : j2_ P t with
 | none => rw [ha] at h; cases h
 | some b =>
  rw [ha, Option.bind_some] at h
  rw [Option.bind_some]
  cases b with
  | false =>
   simp only [Bool.false_eq_true, if_false] at h ⊢
   have hl : 0 < xs.length := (List.getElem?_eq_some_iff.1 h).1
   rw [List.getElem?_append_left hl]; exact h
  | true =>
   simp only [if_true] at h ⊢
   cases hs : szOf P t with
   | none => rw [hs] at h; cases h
   | some k =>
    rw [hs, Option.bind_some] at h
    rw [Option.bind_some]
    split at h
    ·rename_i hk
     rw [if_pos (by rw [List.length_append]; omega), List.drop_zero, List.take_append_of_le_length (by omega)]
     rw [List.drop_zero] at h; exact h
    ·cases h
theorem oN_ {O : ax_} {x : Operand} {t : TypeId} {f off n : Nat} {ft : TypeId} {pp : T} {c : List T} (hp : Pt F σk pp c) (hw : want ops L g = some true) (hS : Sub L s) (hx : gE (get L) x = some pp) (hf : bJ_ P t f = some (off, ft, n)) (hn : (!Nat.beq n 0 && Nat.ble (off + n) c.length) = true)
  (k : ∀ s', Sub (putL L d (ptAt pp off n)) s' → opsX P O ops (nxM m) l K ⟨s', σ⟩) : opsX P O ops m (⟨d, .fieldAddr t x f, ty, ps, af, g⟩ :: l) K ⟨s, σ⟩ := by
 simp only [Bool.and_eq_true, Bool.not_eq_true'] at hn
 have n0 := Nat.ne_of_beq_eq_false hn.1; have n1 := Nat.le_of_ble_eq_true hn.2
 refine dX_ hw hS (fun kk σ' _ => ?_) k
 refine iq_ hS ?_ kk σ' _ _ _ _ _
 rcases hp with ⟨rest, rfl⟩ | ⟨b, rfl, _⟩
 ·simp only [pOp, hx, hf, if_neg n0, ptAt]
  rw [if_pos (by rw [List.length_append]; omega)]
 ·simp only [pOp, hx, hf, if_neg n0, ptAt]
  rw [if_pos n1]
theorem pZ_ {O : ax_} {x : Operand} {t : TypeId} {off n : Nat} {pp v : T} {c : List T} (i : Nat) (hm : ∀ b, m.lt b) (hp : Pt F σk pp c) (hw : want ops L g = some true) (hS : Sub L s) (hH : Heap σ0 σ es) (he : es[i]? = some (.keep F σk)) (hx : gE (get L) x = some (ptAt pp off n)) (hn : Nat.ble off c.length = true) (hv : part P t ((c.drop off).take n) 0 = some v)
  (k : ∀ s', Sub (putL L d v) s' → opsX P O ops (nxM m) l K ⟨s', σ⟩) : opsX P O ops m (⟨d, .load t x, ty, ps, af, g⟩ :: l) K ⟨s, σ⟩ := by
 have hn := Nat.le_of_ble_eq_true hn
 rcases hp with ⟨rest, rfl⟩ | ⟨b, rfl, hk⟩
 ·refine dX_ hw hS (fun kk σ' _ => ?_) k
  rw [i2_, ag_ hS hx, Option.bind_some]
  show Option.map _ (iN_ P σ' t (.vw ((c ++ rest).drop off))) = _
  rw [m0_, List.drop_append_of_le_length hn]
  have := mp_ (ys := (c.drop off).drop n) hv
  rw [List.take_append_drop] at this
  rw [mp_ this]; rfl
 ·refine m9_ i (hm _) hk hw hS hH he (off := off) (n := n) ?_ hv k
  rw [hx]; simp [ptAt]
theorem n7_ {β : Type} [Enc β] [Hld false β] {t : T} {a : Sl β} (h : Heap σ0 σ (.flt (Enc.w β) t a.t :: es)) : ∃ D S, frz σ D t = some (a.t, S) := by
 rcases dO_ h with ⟨rfl, rfl⟩ | ⟨rfl, rfl⟩ | ⟨b, B, rfl, hz, hB, c1, c2, c3, c4, c5, c6⟩
 ·exact ⟨0, [], rfl⟩
 ·exact ⟨0, [], rfl⟩
 ·refine ⟨1, [b], ?_⟩
  have h1 : frzL (frz σ 0) (ah_ a.l) = some (ah_ a.l, []) := as_ (fun t v S _ hq _ => fF_ 0 t v S hq) (Hld.list (z := false) σ 0 a.l)
  simp only [frz, hB, Option.bind_some, List.drop_zero, c3, c6, h1, Option.map_some]
  rw [if_pos ⟨c2, c4⟩]
  show some (T.row false a.l.length (ah_ a.l), [b]) = some (T.row a.z a.l.length (ah_ a.l), [b])
  rw [hz]
theorem ro_ {β : Type} [Enc β] [Hld false β] {tb t1 t2 : T} {a1 a2 : Sl β} (h : Heap σ0 σ (.flt 1 tb (.row false 2 [t1, t2]) :: .flt (Enc.w β) t1 a1.t :: .flt (Enc.w β) t2 a2.t :: es)) : ∃ D S, frzL (frz σ D) [tb] = some ([Sl.t (⟨false, [a1, a2]⟩ : Sl (Sl β))], S) := by
 obtain ⟨D1, S1, h1⟩ := n7_ (h.at 1 rfl)
 obtain ⟨D2, S2, h2⟩ := n7_ (h.at 2 rfl)
 have h1 := d8_ D1 _ _ _ h1 (max D1 D2) (Nat.le_max_left _ _)
 have h2 := d8_ D2 _ _ _ h2 (max D1 D2) (Nat.le_max_right _ _)
 obtain ⟨S, hS, _⟩ := h.head
 rcases hS with ⟨_, hv, _⟩ | ⟨_, hv, _⟩ | ⟨b, B, n, rfl, hv, _, h3, h4, h5, h6, h7, h8⟩
 ·cases hv
 ·injection hv with _ e _; cases e
 ·injection hv with _ e1 e2
  subst e1
  refine ⟨max D1 D2 + 1, b :: (S1 ++ S2), ?_⟩
  simp only [frzL, frz, h3, Option.bind_some, List.drop_zero, h6, ← e2, h1, h2, Option.map_some, List.append_nil]
  rw [if_pos ⟨h5, by decide⟩]
  rfl
theorem p4_ {β : Type} {r : β} {f : Nat} (hm : m.chg = true) {Sh : f5_ β} {fo : Operand} {as : Array Operand} {tys : Array TypeId} {ts vs : List T} (hw : want ops L g = some true) (hS : Sub L s) (hf : gE (get L) fo = some (.fn f [] [])) (ha : gEs (get L) as.toList = some ts)
  (hv : md f = .own) (hH : Heap σ0 σ es) (hh : ∃ D S, frzL (frz σ D) ts = some (vs, S)) (hr : semO P md X Sh f vs = some r)
  (k : ∀ hs σ' s', hs.length = Sh.n → Heap σ0 σ' (Sh.en hs r ++ es) → Sub (putL L d (Sh.tree hs r)) s' → opsX P (run P md X) ops (nxM m) l K ⟨s', σ'⟩) : opsX P (run P md X) ops m (⟨d, .call ⟨.value fo, as, tys⟩, ty, ps, af, g⟩ :: l) K ⟨s, σ⟩ := by
 obtain ⟨D, S, h1⟩ := hh
 obtain ⟨hs, σ1, m1, m2, m3⟩ := ld_ hr (σ.mark S)
 have hrun := ir_ hv h1 m2
 have hH' : Heap σ0 ⟨σ1.next, fun i => if i < σ.next then σ.blk i else σ1.blk i⟩ (Sh.en hs r ++ es) := by
  refine Heap.step (es1 := []) (es2 := Sh.en hs r) (es := es) hH m3.grow.nx fun S' hS' _ _ => ?_
  obtain ⟨F, q1, q2, q3⟩ := m3.ex
  refine ⟨F, q1.same fun b hb => ?_, q2, fun b hb => .inr (q3 b hb), fun b hb _ => ?_⟩
  ·have := (q3 b hb).1
   simp only [le_] at this
   simp only; rw [if_neg (by omega)]
  ·simp only; rw [if_pos hb]
 refine jU_ (f := f) (args := [] ++ ts ++ []) (r := Sh.tree hs r) (σ' := ⟨σ1.next, fun i => if i < σ.next then σ.blk i else σ1.blk i⟩) hm rfl (aF_ hS hw) (fun kk σ' => by rw [hO_, co_ hS ha, Option.bind_some, ag_ hS hf]; rfl) (by simpa using hrun) m3.grow.nx (fun x hx => by simp only; rw [if_pos hx]) ?_
 rw [cb_]
 exact k _ _ _ m1 hH' (aS_ hS d _ σ)
end
end Go.Am
end
section
set_option linter.unusedVariables false
set_option linter.unusedSimpArgs false
namespace Go.Am
def idxE : List T → St → Option (T × St)
 | [.str s, .int .u8 c], σ => some (.int .i64 (firstIdx s c.toNat.toUInt8), σ)
 | _, _ => none
theorem sS_ {P : Program} {f : Nat} {fn : Func} (h1 : P.funcs[f]? = some fn) (h2 : (fn.name == "runtime.NumGoroutine") = false) (h3 : fn.body.isNone = true) (h4 : Extern.findNext fn = none) (h5 : Extern.find fn = some Extern.BytealgIndexByte.indexByte)
  (args : List T) (σ : St) (r : T) (σ' : St) (h : idxE args σ = some (r, σ')) : gN_ P f args σ r σ' := by
 intro B0 w0 E w vs hR hv
 unfold idxE at h
 split at h
 ·rename_i σ1 s c
  injection h with h; injection h with e1 e2; subst e1; subst e2
  match vs, hv with
  | [v1, v2], hv =>
   have a1 := hv.head
   have a2 := hv.tail.head
   cases a1; cases a2
   refine .inr ⟨_, w, ?_, E, .refl E, hR, .int .i64 _, .refl _ _ _⟩
   rw [run_callFunc_extern h1 h2 h3 h4 h5]
   show Result.andThen ((Extern.BytealgIndexByte.indexByte #[.string s, .int .u8 c]).run P w) _ = _
   rw [run_indexByte_string]; rfl
  | [], hv => have := hv.1; simp at this
  | [_], hv => have := hv.1; simp at this
  | _ :: _ :: _ :: _, hv => have := hv.1; simp at this
 ·cases h
theorem vy_ (args : List T) (σ : St) (r : T) (σ' : St) (h : idxE args σ = some (r, σ')) : σ' = σ ∧ ∀ σ2, idxE args σ2 = some (r, σ2) := by
 unfold idxE at h
 split at h
 ·injection h with h; injection h with e1 e2; subst e1; subst e2
  exact ⟨rfl, fun _ => rfl⟩
 ·cases h
theorem rW_ {P : Program} {md : Nat → Md} {X : Ext} {f : Nat} {eb : Int → T} (hi : ∀ a b, eb a = eb b → a = b) (hm : md f = .raw) (hX : X f = some idxE) (s : ByteArray) (c : Int) (he : ∀ n, eb n = .int .i64 n) : semV P md X eb f [.str s, .int .u8 c] = some (firstIdx s c.toNat.toUInt8) := by
 refine jM_ hi fun σ => dk_.2 (.raw hm (.ext hX ?_))
 rw [he]; rfl
section
variable {P : Program} {md : Nat → Md} {X : Ext} {β : Type} {eb : β → T} {f : Nat} {r : β}
variable {ops : Array Oper} {m : Mo} {l : List Oper} {K : Fr → Prop} {s : Nat → T} {σ : St} {L : List (Nat × T)}
variable {d : Option Nat} {ty : TypeId} {ps : String} {af : Array Edge} {g : Option (Nat × Bool)}
theorem jZ_ {fo : Operand} {as : Array Operand} {ts : Array TypeId} {xs a b : List T} {mk : List Nat → List T} {cs : List (List T)} (bs : List Nat) (hw : want ops L g = some true) (hS : Sub L s) (hf : gE (get L) fo = some (.fn f a b)) (ha : gEs (get L) as.toList = some xs)
  (hmk : mk bs = a ++ xs ++ b) (hl : l1_ σ bs cs) (hr : semL P md X eb f mk cs = some r) (k : ∀ s', Sub (putL L d (eb r)) s' → opsX P (run P md X) ops (nxM m) l K ⟨s', σ⟩) (hvw : m.vw = false) : opsX P (run P md X) ops m (⟨d, .call ⟨.value fo, as, ts⟩, ty, ps, af, g⟩ :: l) K ⟨s, σ⟩ :=
 jR_ hw hS hf ha (by rw [← hmk]; exact pk_ hr σ bs hl) (fun e => by rw [hvw] at e; cases e) k
end
end Go.Am
namespace Go.Am
theorem nc_.of_ok {P : Program} {f : Nat} {c : Code} {n : Nat} {rs : List ResultVar} (h : Ok P f c n rs) : nc_ P f := by
 obtain ⟨fn, h1, h2, h3, _⟩ := h
 exact ⟨fn, _, h1, h2, h3⟩
end Go.Am
namespace Go.Am
section
variable {P : Program} {O : ax_} {Q : aA_ → Fr → Prop} {s : Nat → T} {σ : St} {L : List (Nat × T)}
theorem c_cT {c : Operand} {a b : Code} {t : Bool} (h : t = true) (hS : Sub L s) (hc : gE (get L) c = some (.bool t)) (k : codeQ P O a Q ⟨s, σ⟩) : codeQ P O (.cond c a b) Q ⟨s, σ⟩ := mq_ hS hc (fun _ => k) (fun hf => oi_ h hf)
theorem c_cF {c : Operand} {a b : Code} {t : Bool} (h : ¬ (t = true)) (hS : Sub L s) (hc : gE (get L) c = some (.bool t)) (k : codeQ P O b Q ⟨s, σ⟩) : codeQ P O (.cond c a b) Q ⟨s, σ⟩ := mq_ hS hc (fun hf => pr_ h hf) (fun _ => k)
end
end Go.Am
namespace Go.Am
section
variable {σ0 σ : St} {es : List Ent}
theorem Heap.up1 {a0 a1 : Ent} (h : Heap σ0 σ (a0 :: a1 :: es)) : Heap σ0 σ (a1 :: a0 :: es) := h.pull 1
theorem Heap.up2 {a0 a1 a2 : Ent} (h : Heap σ0 σ (a0 :: a1 :: a2 :: es)) : Heap σ0 σ (a2 :: a0 :: a1 :: es) := h.pull 2
theorem Heap.up3 {a0 a1 a2 a3 : Ent} (h : Heap σ0 σ (a0 :: a1 :: a2 :: a3 :: es)) : Heap σ0 σ (a3 :: a0 :: a1 :: a2 :: es) := h.pull 3
theorem Heap.up4 {a0 a1 a2 a3 a4 : Ent} (h : Heap σ0 σ (a0 :: a1 :: a2 :: a3 :: a4 :: es)) : Heap σ0 σ (a4 :: a0 :: a1 :: a2 :: a3 :: es) := h.pull 4
theorem Heap.up5 {a0 a1 a2 a3 a4 a5 : Ent} (h : Heap σ0 σ (a0 :: a1 :: a2 :: a3 :: a4 :: a5 :: es)) : Heap σ0 σ (a5 :: a0 :: a1 :: a2 :: a3 :: a4 :: es) := h.pull 5
theorem Heap.up8 {a0 a1 a2 a3 a4 a5 a6 a7 a8 : Ent} (h : Heap σ0 σ (a0 :: a1 :: a2 :: a3 :: a4 :: a5 :: a6 :: a7 :: a8 :: es)) : Heap σ0 σ (a8 :: a0 :: a1 :: a2 :: a3 :: a4 :: a5 :: a6 :: a7 :: es) := h.pull 8
end
end Go.Am
end
