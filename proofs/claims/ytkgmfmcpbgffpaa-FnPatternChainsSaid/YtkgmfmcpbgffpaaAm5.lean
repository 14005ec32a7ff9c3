/- The abstract machine. -/
import Derived.Test.YtkgmfmcpbgffpaaAm4
import Derived.Laws.Externs
section
set_option linter.unusedVariables false
set_option linter.unusedSimpArgs false
namespace Go.Am
open Classical
def Lent (σ : St) (b : Nat) (cells : List T) : Prop := b < σ.next ∧ ∃ B, σ.blk b = some B ∧ B.cells = cells ∧ B.ep = 0 ∧ B.low = 0
def is_ (σ : St) : List Nat → List (List T) → Prop
 | [], [] => True
 | b :: bs, c :: cs => Lent σ b c ∧ is_ σ bs cs
 | _, _ => False
theorem Lent.grow {σ σ' : St} {b : Nat} {cells : List T} (h : Lent σ b cells) (g : Grow σ σ') : Lent σ' b cells := by
 obtain ⟨h1, B, h2, h3⟩ := h
 exact ⟨Nat.lt_of_lt_of_le h1 g.nx, B, by rw [g.old b h1, h2], h3⟩
theorem Heap.lent {σ0 σ : St} {b : Nat} {cells : List T} {es : List Ent} (h : Heap σ0 σ (.box b cells :: es)) : Lent σ b cells := by
 obtain ⟨S, ⟨rfl, B, h1, h2, h3, h4, _⟩, _, h5⟩ := h.head
 exact ⟨(h5 b (by simp)).2, B, h1, h2, h3, h4⟩
theorem lent_ex : ∀ (cs : List (List T)), ∃ σ bs, is_ σ bs cs := by
 intro cs
 have key : ∀ (cs : List (List T)) (k : Nat) (σ : St), (∀ i c, cs[i]? = some c → Lent σ (k + i) c) → is_ σ (List.range' k cs.length) cs := by
  intro cs
  induction cs with
  | nil => intro k σ _; trivial
  | cons c cs ih =>
   intro k σ h
   exact ⟨h 0 c (by simp), ih (k + 1) σ fun i c hi => by have := h (i + 1) c (by simpa using hi); rwa [show k + (i + 1) = k + 1 + i by omega] at this⟩
 refine ⟨⟨cs.length, fun i => (cs[i]?).map fun c => aq_ c 1⟩, _, key cs 0 _ fun i c hi => ?_⟩
 exact ⟨by have := (List.getElem?_eq_some_iff.1 hi).1; simpa using this, aq_ c 1, by simp [hi], rfl, rfl, rfl⟩
section
variable {P : Program} {md : Nat → Md} {X : Ext} {β : Type} {eb : β → T} {f : Nat} {r : β}
variable {O : an_} {ops : Array Oper} {m : Mo} {l : List Oper} {K : Fr → Prop} {s : Nat → T} {σ σ0 : St} {L : List (Nat × T)} {es ents : List Ent}
variable {d : Option Nat} {ty : TypeId} {ps : String} {af : Array Edge} {g : Option (Nat × Bool)}
def mk_ (P : Program) (md : Nat → Md) (X : Ext) (Sh : dW_ β) (f : Nat) (mk : List Nat → List T) (cs : List (List T)) (r : β) : Prop :=
 ∀ σ bs, is_ σ bs cs → ∃ hs σ', hs.length = Sh.n ∧ run P md X f (mk bs) σ = some (Sh.tree hs r, σ') ∧ Heap σ σ' (Sh.en hs r) ∧ ∀ b, b < σ.next → σ'.blk b = σ.blk b
theorem mk_.uniq {Sh : dW_ β} {mk : List Nat → List T} {cs : List (List T)} {r r' : β} (h : mk_ P md X Sh f mk cs r) (h' : mk_ P md X Sh f mk cs r') : r = r' := by
 obtain ⟨σ, bs, hl⟩ := lent_ex cs
 obtain ⟨hs, σ', h1, h2, h3, _⟩ := h σ bs hl
 obtain ⟨hs', σ2, h4, h5, h6, _⟩ := h' σ bs hl
 rw [h2] at h5; injection h5 with h5; injection h5 with h5 h7
 subst h7
 obtain ⟨D, S, k1, _⟩ := (Sh.ok hs r h1).frz (es := []) (by simpa using h3)
 obtain ⟨D', S', k2, _⟩ := (Sh.ok hs' r' h4).frz (es := []) (by simpa using h6)
 rw [← h5] at k2
 have := bO_ k1 k2
 injection this with e _
 injection e with e _
 exact Sh.inj _ _ e
end
section
variable {P : Program} {O : an_} {ops : Array Oper} {m : Mo} {l : List Oper} {K : Fr → Prop} {s : Nat → T} {σ : St} {L : List (Nat × T)}
variable {d : Option Nat} {ty : TypeId} {ps : String} {af : Array Edge} {g : Option (Nat × Bool)}
end
def jJ_ (o : Oper) : Bool := (match o.op with
 | .alloc _ => true
 | .box _ _ => true
 | .buildSlice _ _ _ => true
 | .makeSlice _ _ _ => true
 | _ => false) && o.guard.isNone
def dA_ (ops : Array Oper) (i : Nat) : Bool := match ops[i]? with
 | some o => jJ_ o
 | none => false
def wk1 (md : Nat → Md) (ops : Array Oper) (i : Nat) : Bool := match ops[i]? with
 | some o => match o.op with
  | .store .. => true
  | .call d => match d.callee with
   | .builtin .append => true
   | .value (.func f) => decide (md f = .raw)
   | .value (.tmp _) => true
   | _ => false
  | _ => false
 | none => false
def vwB (vs : List Nat) (md : Nat → Md) (ops : Array Oper) (i : Nat) : Bool := vs.elem i && !dA_ ops i && !wk1 md ops i
def aP_ (vs : List Nat) (md : Nat → Md) (ops : Array Oper) : List Nat := (List.range ops.size).filter fun i => match ops[i]? with
 | some o => isChg o.op && !vwB vs md ops i
 | none => false
def cmpB (vs : List Nat) (md : Nat → Md) (ops : Array Oper) (i : Nat) : Bool := (aP_ vs md ops).all fun k => bif Nat.blt k i then eZ_ ((ancM ops).getD i 0) k else (Nat.beq k i || dA_ ops k || eZ_ ((ancM ops).getD k 0) i)
def wkB (md : Nat → Md) (ops : Array Oper) (c i : Nat) : Bool := Nat.beq c i && wk1 md ops i
def cmp1 (ops : Array Oper) (k i : Nat) : Bool := bif Nat.blt k i then eZ_ ((ancM ops).getD i 0) k else (Nat.beq k i || dA_ ops k || eZ_ ((ancM ops).getD k 0) i)
def ckB (md : Nat → Md) (ops : Array Oper) (c i : Nat) : Bool := !wk1 md ops c || cmp1 ops c i
def lo_ (vs : List Nat) (md : Nat → Md) (ops : Array Oper) : Cmp := ⟨vwB vs md ops, cmpB vs md ops, ckB md ops, wkB md ops⟩
def kZ_ (vs : List Nat) (md : Nat → Md) (ops : Array Oper) : Bool := (aP_ vs md ops).all fun i => (aP_ vs md ops).all fun j => !Nat.blt i j || dA_ ops j || eZ_ ((ancM ops).getD j 0) i
def aM_ (ch : List Nat) (c : Nat → Bool) : Nat := ch.foldr (fun k a => if c k then max (k + 1) a else a) 0
theorem bI_ {ch : List Nat} {c : Nat → Bool} {n : Nat} : aM_ ch c ≤ n ↔ ∀ k ∈ ch, c k = true → k + 1 ≤ n := by
 induction ch with
 | nil => simp [aM_]
 | cons a ch ih =>
  have e : aM_ (a :: ch) c = if c a then max (a + 1) (aM_ ch c) else aM_ ch c := rfl
  rw [e]
  by_cases h : c a = true
  ·rw [if_pos h]
   constructor
   ·intro hle k hk hc
    rcases List.mem_cons.1 hk with rfl | hk
    ·omega
    ·exact ih.1 (by omega) k hk hc
   ·intro hall
    have := hall a (by simp) h
    have := ih.2 fun k hk hc => hall k (by simp [hk]) hc
    omega
  ·rw [if_neg h]
   exact ⟨fun hle k hk hc => by rcases List.mem_cons.1 hk with rfl | hk; exact absurd hc h; exact ih.1 hle k hk hc, fun hall => ih.2 fun k hk hc => hall k (by simp [hk]) hc⟩
theorem ds_ {ch : List Nat} {c c' : Nat → Bool} (h : ∀ k ∈ ch, c k = c' k) : aM_ ch c = aM_ ch c' := by
 apply Nat.le_antisymm
 ·exact bI_.2 fun k hk hc => bI_.1 (Nat.le_refl _) k hk (by rw [← h k hk]; exact hc)
 ·exact bI_.2 fun k hk hc => bI_.1 (Nat.le_refl _) k hk (by rw [h k hk]; exact hc)
theorem iY_ {ch : List Nat} {c : Nat → Bool} {i : Nat} (hi : i ∈ ch) (hc : c i = true) (h : ∀ k ∈ ch, c k = true → k ≤ i) : aM_ ch c = i + 1 :=
 Nat.le_antisymm (bI_.2 fun k hk hck => by have := h k hk hck; omega) (bI_.1 (Nat.le_refl _) i hi hc)
theorem hl_ {ch : List Nat} {c : Nat → Bool} (h : aM_ ch c ≠ 0) : ∃ k ∈ ch, c k = true ∧ aM_ ch c = k + 1 := by
 induction ch with
 | nil => simp [aM_] at h
 | cons a ch ih =>
  have e : aM_ (a :: ch) c = if c a then max (a + 1) (aM_ ch c) else aM_ ch c := rfl
  rw [e] at h ⊢
  by_cases hc : c a = true
  ·rw [if_pos hc] at h ⊢
   by_cases hm : aM_ ch c ≤ a + 1
   ·exact ⟨a, by simp, hc, by omega⟩
   ·obtain ⟨k, k1, k2, k3⟩ := ih (by omega)
    exact ⟨k, by simp [k1], k2, by omega⟩
  ·rw [if_neg hc] at h ⊢
   obtain ⟨k, k1, k2, k3⟩ := ih h
   exact ⟨k, by simp [k1], k2, k3⟩
def St.over (σ : St) (p : Nat → Bool) (Bk : Nat → Blk) : St := ⟨σ.next, fun i => if p i = true then some (Bk i) else σ.blk i⟩
theorem eH_ {σ : St} {p : Nat → Bool} {Bk : Nat → Blk} (h : ∀ i, p i = false) : σ.over p Bk = σ := St.ext' rfl fun i => by simp [St.over, h i]
theorem jW_ {σ : St} {p q r : Nat → Bool} {Bk : Nat → Blk} (h : ∀ i, r i = (p i || q i)) : (σ.over p Bk).over q Bk = σ.over r Bk := St.ext' rfl fun i => by
 simp only [St.over, h i]
 cases hq : q i <;> cases hp : p i <;> simp
theorem gQ_ {σ : St} {p : Nat → Bool} {Bk : Nat → Blk} {x : Nat} : (σ.over p Bk).set x (Bk x) = σ.over (fun i => p i || decide (i = x)) Bk := St.ext' rfl fun i => by
 simp only [St.over, St.set]
 by_cases h : i = x
 ·subst h; simp
 ·simp [h]
section
variable {P : Program} {md : Nat → Md} {X : Ext} {O : an_} {ops : Array Oper} {K : Fr → Prop} {s : Nat → T} {b : Nat} {W : Nat → Nat → Prop} {σs : St} {cm : Cmp}
theorem eB_ {i : Nat} {o : Oper} (ho : ops[i]? = some o) (s : Nat → T) (σ : St) : cm_ P O ops b i s σ = b5_ P O ops (b + i) o s σ := by
 unfold cm_ b5_; rw [ho]; rfl
theorem kJ_ (hX : XOk X) {k : Nat} {o : Oper} {s : Nat → T} {σ σ' : St} {v : T} {x : Nat} {B : Blk} (h : b5_ P (run P md X) ops k o s σ = some (v, σ')) (hk : k ≠ x) (hx : σ.blk x = none) (hl : x < σ.next) :
  b5_ P (run P md X) ops k o s (σ.set x B) = some (v, σ'.set x B) ∧ σ'.blk x = none ∧ x < σ'.next := by
 unfold b5_ at h ⊢
 have hk' : some k ≠ some x := fun e => hk (by injection e)
 split at h
 ·rename_i hw
  rw [if_pos hw]
  obtain ⟨r, h1, h2⟩ := Option.bind_eq_some_iff.1 h
  cases r with
  | val v' σ1 =>
   injection h2 with h2; injection h2 with e1 e2; subst e1; subst e2
   obtain ⟨a1, a2⟩ := jz_ (fr := ⟨s, σ⟩) (B := B) hk' hx hl h1
   have a1 : aOp P (some k) ⟨s, σ.set x B⟩ o = _ := a1
   rw [a1]; exact ⟨rfl, a2⟩
  | skip σ1 =>
   injection h2 with h2; injection h2 with e1 e2; subst e1; subst e2
   obtain ⟨a1, a2⟩ := iH_ (fr := ⟨s, σ⟩) (B := B) hk' hx hl h1
   have a1 : aOp P (some k) ⟨s, σ.set x B⟩ o = _ := a1
   rw [a1]; exact ⟨rfl, a2⟩
  | call f args =>
   have a1 := iB_ (fr := ⟨s, σ⟩) (B := B) hk' hx hl h1
   have a1 : aOp P (some k) ⟨s, σ.set x B⟩ o = _ := a1
   rw [a1]; exact lY_ hX h2 hx hl
 ·rename_i hw
  rw [if_neg hw]
  injection h with h; injection h with e1 e2; subst e1; subst e2
  exact ⟨rfl, hx, hl⟩
theorem hD_ (hX : XOk X) {k : Nat} {o : Oper} {s : Nat → T} {σ σ' : St} {v : T} {Bk : Nat → Blk} (h : b5_ P (run P md X) ops k o s σ = some (v, σ')) : ∀ (l : List Nat), (∀ x ∈ l, k ≠ x ∧ σ.blk x = none ∧ x < σ.next) → l.Nodup →
  b5_ P (run P md X) ops k o s (σ.over (fun i => l.contains i) Bk) = some (v, σ'.over (fun i => l.contains i) Bk) ∧ ∀ x, x ∉ l → σ.blk x = none → x < σ.next → k ≠ x → (σ'.over (fun i => l.contains i) Bk).blk x = none ∧ x < σ'.next
 | [], _, _ => by
  rw [eH_ (fun i => by simp), eH_ (fun i => by simp)]
  exact ⟨h, fun x _ h1 h2 h3 => by obtain ⟨_, a, b⟩ := kJ_ (B := aq_ [] 0) hX h h3 h1 h2; exact ⟨a, b⟩⟩
 | y :: l, hl, hn => by
  obtain ⟨n1, n2⟩ := List.nodup_cons.1 hn
  obtain ⟨y1, y2, y3⟩ := hl y (by simp)
  obtain ⟨k1, k2⟩ := hD_ hX (Bk := Bk) h l (fun x hx => hl x (by simp [hx])) n2
  have e : ∀ σ : St, (σ.over (fun i => l.contains i) Bk).set y (Bk y) = σ.over (fun i => (y :: l).contains i) Bk := fun σ => by
   rw [gQ_]; congr 1; funext i
   rw [Bool.eq_iff_iff]; simp [or_comm]
  have hfree : (σ.over (fun i => l.contains i) Bk).blk y = none := by simp [St.over, n1, y2]
  obtain ⟨a1, a2, a3⟩ := kJ_ (B := Bk y) hX k1 y1 hfree y3
  rw [e, e] at a1
  refine ⟨a1, fun x hx h1 h2 h3 => ?_⟩
  obtain ⟨c1, c2⟩ := k2 x (fun h => hx (by simp [h])) h1 h2 h3
  rw [← e]
  have hxy : x ≠ y := fun e => hx (by simp [e])
  refine ⟨?_, c2⟩
  rw [bJ_, if_neg hxy]; exact c1
theorem lg_ {k : Nat} {o : Oper} {s : Nat → T} {σ σ' : St} {v : T} (hf : jJ_ o = true) (h : b5_ P O ops k o s σ = some (v, σ')) : ∃ C, σ' = σ.set k C ∧ ∀ σ2 : St, σ2.blk k = none → k < σ2.next → b5_ P O ops k o s σ2 = some (v, σ2.set k C) := by
 obtain ⟨d, op, ty, ps, af, g⟩ := o
 simp only [jJ_, Bool.and_eq_true, Option.isNone_iff_eq_none] at hf
 obtain ⟨hf, rfl⟩ := hf
 have hw : wantedA ops (⟨d, op, ty, ps, af, none⟩ : Oper) s = true := rfl
 have hok : ∀ σ2 : St, σ2.blk k = none → k < σ2.next → σ2.okK (some k) = true := fun σ2 h1 h2 => by simp [St.okK, h1, h2]
 unfold b5_ at h ⊢
 rw [if_pos hw] at h
 cases op with
 | alloc t =>
  have e : ∀ σ2 : St, aOp P (some k) ⟨s, σ2⟩ ⟨d, .alloc t, ty, ps, af, none⟩ = (az_ P t).bind fun z => if σ2.okK (some k) = true then some (ARes.val (T.ptr k 0 0 z.length) (σ2.set k (aq_ z z.length))) else none := fun _ => rfl
  rw [e] at h
  cases hz : az_ P t with
  | none => rw [hz] at h; cases h
  | some z =>
   rw [hz, Option.bind_some] at h
   split at h
   ·injection h with h; injection h with h1 h2
    subst h1; subst h2
    refine ⟨aq_ z z.length, rfl, fun σ2 c1 c2 => ?_⟩
    rw [if_pos hw, e, hz, Option.bind_some, if_pos (hok σ2 c1 c2)]; rfl
   ·cases h
 | box t x =>
  have e : ∀ σ2 : St, aOp P (some k) ⟨s, σ2⟩ ⟨d, .box t x, ty, ps, af, none⟩ = (evalO s x).bind fun x => if x.cells.all T.one = true ∧ σ2.okK (some k) = true then some (ARes.val (T.ptr k 0 0 x.cells.length) (σ2.set k (aq_ x.cells x.cells.length))) else none := fun _ => rfl
  rw [e] at h
  cases hz : evalO s x with
  | none => rw [hz] at h; cases h
  | some z =>
   rw [hz, Option.bind_some] at h
   split at h
   ·rename_i hc
    injection h with h; injection h with h1 h2
    subst h1; subst h2
    refine ⟨aq_ z.cells z.cells.length, rfl, fun σ2 c1 c2 => ?_⟩
    rw [if_pos hw, e, hz, Option.bind_some, if_pos ⟨hc.1, hok σ2 c1 c2⟩]; rfl
   ·cases h
 | buildSlice t len parts =>
  have e : ∀ σ2 : St, aOp P (some k) ⟨s, σ2⟩ ⟨d, .buildSlice t len parts, ty, ps, af, none⟩ = (ae_ P t).bind fun e => (szOf P e).bind fun sz => (az_ P e).bind fun z => (bR_ s parts.toList).bind fun ps =>
   if z.length = sz ∧ len * sz ≤ 2 ^ 24 ∧ sz ≠ 0 ∧ σ2.okK (some k) = true then (cq_ (fun i => some (i * sz, sz)) ((List.replicate len z).flatten) ps).map fun cs => ARes.val (if len = 0 then .emp else .ref k 0 0 len) (σ2.set k (aq_ cs sz)) else none := fun _ => rfl
  rw [e] at h
  obtain ⟨r, h, hr⟩ := Option.bind_eq_some_iff.1 h
  obtain ⟨x1, h1, h⟩ := Option.bind_eq_some_iff.1 h
  obtain ⟨x2, h2, h⟩ := Option.bind_eq_some_iff.1 h
  obtain ⟨x3, h3, h⟩ := Option.bind_eq_some_iff.1 h
  obtain ⟨x4, h4, h⟩ := Option.bind_eq_some_iff.1 h
  split at h
  ·rename_i hc
   obtain ⟨cs, h5, h6⟩ := Option.map_eq_some_iff.1 h
   subst h6
   injection hr with hr; injection hr with hr1 hr2
   subst hr1; subst hr2
   refine ⟨aq_ cs x2, rfl, fun σ2 c1 c2 => ?_⟩
   rw [if_pos hw, e, h1, Option.bind_some, h2, Option.bind_some, h3, Option.bind_some, h4, Option.bind_some, if_pos ⟨hc.1, hc.2.1, hc.2.2.1, hok σ2 c1 c2⟩, h5]; rfl
  ·cases h
 | makeSlice t x y =>
  have e : ∀ σ2 : St, aOp P (some k) ⟨s, σ2⟩ ⟨d, .makeSlice t x y, ty, ps, af, none⟩ = (evalO s x).bind fun l => (evalO s y).bind fun c =>
   match l, c with
   | .int _ l, .int _ c => (ae_ P t).bind fun e => (szOf P e).bind fun sz => (cc_ P e).bind fun by_ => (az_ P e).bind fun z =>
     if 0 ≤ l ∧ l ≤ c ∧ c * by_ ≤ 2 ^ 40 ∧ c ≤ 2 ^ 40 ∧ z.length = sz ∧ sz ≠ 0 ∧ σ2.okK (some k) = true then
      some (.val (if l = 0 ∧ c = 0 then .emp else .ref k 0 0 l.toNat) (σ2.set k (aq_ ((List.replicate l.toNat z).flatten) sz))) else none
   | _, _ => none := fun _ => rfl
  rw [e] at h
  obtain ⟨r, h, hr⟩ := Option.bind_eq_some_iff.1 h
  obtain ⟨x1, h1, h⟩ := Option.bind_eq_some_iff.1 h
  obtain ⟨x2, h2, h⟩ := Option.bind_eq_some_iff.1 h
  split at h
  ·obtain ⟨x3, h3, h⟩ := Option.bind_eq_some_iff.1 h
   obtain ⟨x4, h4, h⟩ := Option.bind_eq_some_iff.1 h
   obtain ⟨x5, h5, h⟩ := Option.bind_eq_some_iff.1 h
   obtain ⟨x6, h6, h⟩ := Option.bind_eq_some_iff.1 h
   split at h
   ·rename_i hc
    injection h with h; subst h
    injection hr with hr; injection hr with hr1 hr2
    subst hr1; subst hr2
    refine ⟨_, rfl, fun σ2 c1 c2 => ?_⟩
    rw [if_pos hw, e, h1, Option.bind_some, h2, Option.bind_some]
    simp only
    rw [h3, Option.bind_some, h4, Option.bind_some, h5, Option.bind_some, h6, Option.bind_some, if_pos ⟨hc.1, hc.2.1, hc.2.2.1, hc.2.2.2.1, hc.2.2.2.2.1, hc.2.2.2.2.2.1, hok σ2 c1 c2⟩]; rfl
   ·cases h
  ·cases h
 | _ => cases hf
theorem kM_ (vs : List Nat) (hcv : ∀ i, cm.vw i = vwB vs md ops i) (hf : c5_ ops) : ∀ n k (vals : Nat → T) (S : Nat → St), k + n = ops.size →
  (∀ i, i < k → cm_ P O ops b i (sl ops vals s (fun j => decide (j < i))) (S i) = some (vals i, S (i + 1)) ∧ (∀ x, x < b → (∀ c, cm.wk c i = true → ¬ W c x) → (S (i + 1)).blk x = (S i).blk x) ∧ da_ b W σs (S (i + 1)) ∧ Room b (i + 1) (ops.size - (i + 1)) (S (i + 1)) ∧ (i ∉ aP_ vs md ops → S (i + 1) = S i ∧ ∀ σ', (cm.cm i = true → σ' = S i) → (∀ x, x < b → (∀ c, cm.ck c i = false → ¬ W c x) → σ'.blk x = (S i).blk x) → da_ b W σs σ' → cm_ P O ops b i (sl ops vals s (fun j => decide (j < i))) σ' = some (vals i, σ'))) →
  da_ b W σs (S k) → Room b k (ops.size - k) (S k) → opsC P O ops b W σs cm k (ops.toList.drop k) K ⟨sl ops vals s (fun j => decide (j < k)), S k⟩ →
  ∃ (vals' : Nat → T) (S' : Nat → St), S' 0 = S 0 ∧ (∀ i, i < ops.size → cm_ P O ops b i (sl ops vals' s (fun j => decide (j < i))) (S' i) = some (vals' i, S' (i + 1)) ∧ (∀ x, x < b → (∀ c, cm.wk c i = true → ¬ W c x) → (S' (i + 1)).blk x = (S' i).blk x) ∧ da_ b W σs (S' (i + 1)) ∧ Room b (i + 1) (ops.size - (i + 1)) (S' (i + 1)) ∧ (i ∉ aP_ vs md ops → S' (i + 1) = S' i ∧ ∀ σ', (cm.cm i = true → σ' = S' i) → (∀ x, x < b → (∀ c, cm.ck c i = false → ¬ W c x) → σ'.blk x = (S' i).blk x) → da_ b W σs σ' → cm_ P O ops b i (sl ops vals' s (fun j => decide (j < i))) σ' = some (vals' i, σ'))) ∧
   K ⟨sl ops vals' s (fun j => decide (j < ops.size)), S' ops.size⟩ := by
 intro n
 induction n with
 | zero =>
  intro k vals S hk h1 hA hR h2
  have : k = ops.size := by omega
  subst this
  rw [List.drop_of_length_le (by simp)] at h2
  exact ⟨vals, S, rfl, h1, h2⟩
 | succ n ih =>
  intro k vals S hk h1 hA hR h2
  have hlt : k < ops.size := by omega
  have ho : ops[k]? = some ops[k] := by simp [hlt]
  have hd : ops.toList.drop k = ops[k] :: ops.toList.drop (k + 1) := by
   rw [List.drop_eq_getElem_cons (by simpa using hlt)]; simp
  have hlen : (ops.toList.drop (k + 1)).length = ops.size - (k + 1) := by simp
  rw [hd] at h2
  have hmem : k ∈ aP_ vs md ops ↔ (isChg ops[k].op && !cm.vw k) = true := by
   rw [hcv]; simp [aP_, hlt, ho]
  have hR1 : Room b (k + 1) (ops.size - (k + 1)) (S k) := Room.nxt (by rw [show ops.size - (k + 1) + 1 = ops.size - k by omega]; exact hR)
  -- the value and the state behind the operation
  have key : ∃ v σ', b5_ P O ops (b + k) ops[k] (sl ops vals s (fun j => decide (j < k))) (S k) = some (v, σ') ∧ (∀ x, x < b → (∀ c, cm.wk c k = true → ¬ W c x) → σ'.blk x = (S k).blk x) ∧ da_ b W σs σ' ∧ Room b (k + 1) (ops.size - (k + 1)) σ' ∧ (k ∉ aP_ vs md ops → σ' = S k ∧ ∀ σ2, (cm.cm k = true → σ2 = S k) → (∀ x, x < b → (∀ c, cm.ck c k = false → ¬ W c x) → σ2.blk x = (S k).blk x) → da_ b W σs σ2 → b5_ P O ops (b + k) ops[k] (sl ops vals s (fun j => decide (j < k))) σ2 = some (v, σ2)) ∧
    opsC P O ops b W σs cm (k + 1) (ops.toList.drop (k + 1)) K (Fr.put ⟨sl ops vals s (fun j => decide (j < k)), S k⟩ ops[k].dst v σ') := by
   unfold opsC at h2
   cases hc : (isChg ops[k].op && !cm.vw k) && wantedA ops ops[k] (sl ops vals s (fun j => decide (j < k))) with
   | true =>
    simp only [hc] at h2
    obtain ⟨v, σ', q1, q0, q2, q2', q3⟩ := h2
    have hc := (Bool.and_eq_true _ _ ▸ hc : (isChg ops[k].op && !cm.vw k) = true ∧ _).1
    rw [hlen] at q2'
    exact ⟨v, σ', q1, q0, q2, q2', fun hn => absurd (hmem.2 hc) hn, q3⟩
   | false =>
    simp only [hc] at h2
    obtain ⟨v, q1, q3⟩ := h2
    exact ⟨v, S k, q1 _ (fun _ => rfl) (fun _ _ _ => rfl) hA, fun _ _ _ => rfl, hA, hR1, fun _ => ⟨rfl, q1⟩, q3⟩
  obtain ⟨v, σ', q1, q0, q2, q2', q3, q4⟩ := key
  let vals' : Nat → T := fun j => if j = k then v else vals j
  let S' : Nat → St := fun j => if j = k + 1 then σ' else S j
  have e1 : ∀ i, i ≤ k → sl ops vals' s (fun j => decide (j < i)) = sl ops vals s (fun j => decide (j < i)) := fun i hi => jA_ fun j hj => by
   simp at hj
   simp only [vals']; rw [if_neg (by omega)]
  have e2 : (fun j => decide (j < k) || decide (j = k)) = (fun j => decide (j < k + 1)) := by
   funext j
   rw [Bool.eq_iff_iff]; simp; omega
  have e3 : ∀ i, i ≤ k → S' i = S i := fun i hi => by simp only [S']; rw [if_neg (by omega)]
  have e4 : S' (k + 1) = σ' := by simp [S']
  have e5 : vals' k = v := by simp [vals']
  obtain ⟨vals2, S2, r1, r2, r3⟩ := ih (k + 1) vals' S' (by omega) (fun i hi => by
   by_cases hik : i = k
   ·subst hik
    rw [e1 i (Nat.le_refl _), e3 i (Nat.le_refl _), e4, e5, eB_ ho]
    refine ⟨q1, q0, q2, q2', fun hn => ⟨(q3 hn).1, fun σ2 h2' h3' h2 => ?_⟩⟩
    rw [eB_ ho]; exact (q3 hn).2 σ2 h2' h3' h2
   ·rw [e1 i (by omega), e3 i (by omega), e3 (i + 1) (by omega), show vals' i = vals i from if_neg hik]
    exact h1 i (by omega)) (by rw [e4]; exact q2) (by rw [e4]; exact q2') (by
   have hp := iN_ (vals := vals') (s := s) hf ho (L := fun j => decide (j < k)) (by simp) (S k) σ'
   rw [e1 k (Nat.le_refl _), e2, e5] at hp
   rw [e4, ← hp]; exact q4)
  exact ⟨vals2, S2, by rw [r1, e3 0 (by omega)], r2, r3⟩
theorem ik_ (vs : List Nat) (hX : XOk X) (hst : dH_ ops = true) (hch : kZ_ vs md ops = true) {fr : Fr} (h : opsC P (run P md X) ops fr.σ.next W (fr.σ.bump ops.size) (lo_ vs md ops) 0 ops.toList K ⟨fr.s, fr.σ.bump ops.size⟩) : lB_ P (run P md X) ops K fr := by
 have hf := cG_ hst
 obtain ⟨b, hb⟩ : ∃ b, b = fr.σ.next := ⟨_, rfl⟩
 obtain ⟨σs, hσs⟩ : ∃ σs, σs = fr.σ.bump ops.size := ⟨_, rfl⟩
 rw [← hb, ← hσs] at h
 have h0 : sl ops (fun _ => .tup []) fr.s (fun j => decide (j < 0)) = fr.s := by funext t; exact dJ_ fun _ _ _ _ => by simp
 have hA0 : da_ b W σs σs := ⟨by rw [hσs, hC_]; omega, fun _ _ _ => rfl⟩
 have hR0 : Room b 0 ops.size σs := ⟨by rw [hσs, hC_]; omega, fun j hj => by rw [hσs, fn_, if_neg (by omega)]⟩
 obtain ⟨vals, S, s0, h1, h2⟩ := kM_ (P := P) (O := run P md X) (K := K) (s := fr.s) (b := b) (W := W) (σs := σs) (cm := lo_ vs md ops) vs (fun _ => rfl) hf ops.size 0 (fun _ => .tup []) (fun _ => σs) (by omega) (fun i hi => absurd hi (by omega)) hA0 (by simpa using hR0) (by rw [h0]; simpa using h)
 -- the chain and the new boxes
 obtain ⟨ch, hchd⟩ : ∃ ch, ch = (aP_ vs md ops).filter fun i => !dA_ ops i := ⟨_, rfl⟩
 have hmem : ∀ i, i ∈ aP_ vs md ops → i < ops.size := fun i hi => by
  simp only [aP_, List.mem_filter, List.mem_range] at hi; exact hi.1
 have hchm : ∀ i, i ∈ ch ↔ i ∈ aP_ vs md ops ∧ dA_ ops i = false := fun i => by rw [hchd]; simp
 have hanc : ∀ i ∈ aP_ vs md ops, ∀ j ∈ ch, i < j → i ∈ (ancs ops).getD j [] := fun i hi j hj hij => by
  have hj := (hchm j).1 hj
  have := List.all_eq_true.1 (List.all_eq_true.1 hch i hi) j hj.1
  simp only [Bool.or_eq_true, Bool.not_eq_true', hj.2] at this
  rcases this with (h | h) | h
  ·have : Nat.blt i j = true := by simp [Nat.blt]; omega
   rw [this] at h; cases h
  ·cases h
  ·exact ci_.2 ⟨hmem i hi, h⟩
 have hflt : ∀ i, dA_ ops i = true → i ∈ aP_ vs md ops := fun i hi => by
  have hvw : vwB vs md ops i = false := by unfold vwB; rw [hi]; simp
  unfold dA_ at hi
  split at hi
  ·rename_i o ho
   have hlt : i < ops.size := (Array.getElem?_eq_some_iff.1 ho).1
   simp only [aP_, List.mem_filter, List.mem_range, ho, hvw, Bool.not_false, Bool.and_true]
   refine ⟨hlt, ?_⟩
   simp only [jJ_, Bool.and_eq_true] at hi
   revert hi
   cases o.op <;> simp [isChg]
  ·cases hi
 obtain ⟨Bk, hBk⟩ : ∃ Bk : Nat → Blk, Bk = fun x => ((S (x - b + 1)).blk x).getD (aq_ [] 0) := ⟨_, rfl⟩
 -- which new boxes are there beside the chain
 let pX : (Nat → Bool) → Nat → Nat → Bool := fun c L x => decide (b ≤ x) && dA_ ops (x - b) && c (x - b) && decide (L ≤ x - b)
 let Sg : (Nat → Bool) → St := fun c => (S (aM_ ch c)).over (pX c (aM_ ch c)) Bk
 have hroom : ∀ j, j ≤ ops.size → Room b j (ops.size - j) (S j) ∧ da_ b W σs (S j) := fun j hj => by
  cases j with
  | zero => rw [s0]; exact ⟨hR0, hA0⟩
  | succ j => exact ⟨(h1 j (by omega)).2.2.2.1, (h1 j (by omega)).2.2.1⟩
 have hle : ∀ c : Nat → Bool, aM_ ch c ≤ ops.size := fun c => bI_.2 fun k hk _ => hmem k ((hchm k).1 hk).1
 have hfl : ∀ i, i < ops.size → dA_ ops i = true → S (i + 1) = (S i).set (b + i) (Bk (b + i)) ∧ ∀ σ2 : St, σ2.blk (b + i) = none → b + i < σ2.next → cm_ P (run P md X) ops b i (sl ops vals fr.s (fun j => decide (j < i))) σ2 = some (vals i, σ2.set (b + i) (Bk (b + i))) := fun i hi hfi => by
  unfold dA_ at hfi
  split at hfi
  ·rename_i o ho
   have := (h1 i hi).1
   rw [eB_ ho] at this
   obtain ⟨C, c1, c2⟩ := lg_ hfi this
   have hC : Bk (b + i) = C := by
    rw [hBk]; simp only [Nat.add_sub_cancel_left, c1, bJ_, if_true, Option.getD_some]
   rw [hC]
   exact ⟨c1, fun σ2 h3 h4 => by rw [eB_ ho]; exact c2 σ2 h3 h4⟩
  ·cases hfi
 -- the states of the first order
 have hS : ∀ j, j ≤ ops.size → S j = Sg (fun k => decide (k < j)) := by
  intro j
  induction j with
  | zero =>
   intro _
   have e : aM_ ch (fun k => decide (k < 0)) = 0 := Nat.le_zero.1 (bI_.2 fun k _ hk => by simp at hk)
   simp only [Sg, e]
   rw [eH_ fun i => by simp [pX]]
  | succ j ih =>
   intro hj
   have ih := ih (by omega)
   by_cases hc : j ∈ ch
   ·have e : aM_ ch (fun k => decide (k < j + 1)) = j + 1 := iY_ hc (by simp) fun k _ hk => by simp at hk; omega
    simp only [Sg, e]
    rw [eH_ fun i => by simp only [pX, Bool.and_eq_false_iff, decide_eq_false_iff_not]; omega]
   ·have e : aM_ ch (fun k => decide (k < j + 1)) = aM_ ch (fun k => decide (k < j)) := ds_ fun k hk => by
     have : k ≠ j := fun e => hc (e ▸ hk)
     rw [Bool.eq_iff_iff]; simp; omega
    have hL : aM_ ch (fun k => decide (k < j)) ≤ j := bI_.2 fun k _ hk => by simp at hk; omega
    by_cases hfj : dA_ ops j = true
    ·rw [(hfl j (by omega) hfj).1, ih]
     simp only [Sg, e]
     rw [gQ_]
     congr 1
     funext x
     simp only [pX]
     rw [Bool.eq_iff_iff]
     simp only [Bool.or_eq_true, Bool.and_eq_true, decide_eq_true_eq]
     constructor
     ·rintro (h | rfl)
      ·exact ⟨⟨h.1.1, by omega⟩, h.2⟩
      ·rw [Nat.add_sub_cancel_left]; exact ⟨⟨⟨by omega, hfj⟩, by omega⟩, hL⟩
     ·rintro ⟨⟨⟨q1, q2⟩, q3⟩, q4⟩
      by_cases hx : x = b + j
      ·exact .inr hx
      ·exact .inl ⟨⟨⟨q1, q2⟩, by omega⟩, q4⟩
    ·have hn : j ∉ aP_ vs md ops := fun hm => hc ((hchm j).2 ⟨hm, by simpa using hfj⟩)
     rw [((h1 j (by omega)).2.2.2.2 hn).1, ih]
     simp only [Sg, e]
     congr 1
     funext x
     simp only [pX]
     rw [Bool.eq_iff_iff]
     simp only [Bool.and_eq_true, decide_eq_true_eq]
     constructor
     ·rintro ⟨⟨⟨q1, q2⟩, q3⟩, q4⟩; exact ⟨⟨⟨q1, q2⟩, by omega⟩, q4⟩
     ·rintro ⟨⟨⟨q1, q2⟩, q3⟩, q4⟩
      have : x - b ≠ j := fun e => by rw [e] at q2; exact hfj q2
      exact ⟨⟨⟨q1, q2⟩, by omega⟩, q4⟩
 have hOld : ∀ c, da_ b W σs (Sg c) := fun c => by
  obtain ⟨q1, q2⟩ := (hroom _ (hle c)).2
  refine ⟨q1, fun x hx hx' => ?_⟩
  simp only [Sg, St.over]
  rw [if_neg (by simp only [pX, Bool.and_eq_true, decide_eq_true_eq]; omega)]
  exact q2 x hx hx'
 have hcg : ∀ c c', (∀ j ∈ aP_ vs md ops, c j = c' j) → Sg c = Sg c' := fun c c' hcc => by
  have e : aM_ ch c = aM_ ch c' := ds_ fun k hk => hcc k ((hchm k).1 hk).1
  simp only [Sg, e]
  congr 1
  funext x
  simp only [pX]
  by_cases hfx : dA_ ops (x - b) = true
  ·rw [hcc _ (hflt _ hfx)]
  ·simp [hfx]
 -- between what may write, the old blocks are as they were
 have hspan : ∀ x, x < b → ∀ d j, j + d ≤ ops.size → (∀ k, j ≤ k → k < j + d → ∀ c, wkB md ops c k = true → ¬ W c x) → (S (j + d)).blk x = (S j).blk x := by
  intro x hx d
  induction d with
  | zero => intro j _ _; rfl
  | succ d ih =>
   intro j hj hk
   rw [show j + (d + 1) = (j + d) + 1 by omega, (h1 (j + d) (by omega)).2.1 x hx (hk (j + d) (by omega) (by omega))]
   exact ih j (by omega) (fun k h1 h2 => hk k h1 (by omega))
 have hwch : ∀ c k, wkB md ops c k = true → k ∈ ch := fun c k hk => by
  simp only [wkB, Bool.and_eq_true] at hk
  have hk := hk.2
  have hvw : vwB vs md ops k = false := by unfold vwB; rw [hk]; simp
  unfold wk1 at hk
  split at hk
  ·rename_i o ho
   have hlt : k < ops.size := (Array.getElem?_eq_some_iff.1 ho).1
   have key : isChg o.op = true ∧ jJ_ o = false := by
    obtain ⟨d, op, ty, ps, af, g⟩ := o
    cases op with
    | store t a x => exact ⟨rfl, rfl⟩
    | call d =>
     refine ⟨?_, rfl⟩
     obtain ⟨cal, as, ts⟩ := d
     cases cal with
     | builtin bi => cases bi <;> first | rfl | cases hk
     | _ => rfl
    | _ => cases hk
   refine (hchm k).2 ⟨?_, ?_⟩
   ·simp only [aP_, List.mem_filter, List.mem_range, ho, hvw, Bool.not_false, Bool.and_true]
    exact ⟨hlt, key.1⟩
   ·unfold dA_; rw [ho]; exact key.2
  ·cases hk
 have hcmp : ∀ i, i < ops.size → i ∉ aP_ vs md ops → ∀ c, (∀ k ∈ aP_ vs md ops, k ∈ (ancs ops).getD i [] → c k = true) → (∀ k ∈ aP_ vs md ops, i ∈ (ancs ops).getD k [] → c k = false) → (∀ k, k ∈ aP_ vs md ops → ∀ j, j ∈ aP_ vs md ops → j ∈ (ancs ops).getD k [] → c k = true → c j = true) → ∀ k, k ∈ ch → cmp1 ops k i = true → (k < i → k < aM_ ch c) ∧ (i ≤ k → aM_ ch c ≤ k) := by
  intro i hi hn c f1 f2 f4 k hkc hall
  have hkc' := (hchm k).1 hkc
  unfold cmp1 at hall
  rw [hkc'.2] at hall
  constructor
  ·intro hki
   have e : Nat.blt k i = true := by simp [Nat.blt]; omega
   rw [e] at hall
   have := f1 k hkc'.1 (ci_.2 ⟨hmem k hkc'.1, hall⟩)
   have := bI_.1 (Nat.le_refl (aM_ ch c)) k hkc this
   omega
  ·intro hik
   have hne : k ≠ i := fun e => hn (e ▸ hkc'.1)
   have e : Nat.blt k i = false := by cases hb3 : Nat.blt k i with
    | false => rfl
    | true => have := Nat.le_of_ble_eq_true hb3; omega
   have e2 : Nat.beq k i = false := by cases hb2 : Nat.beq k i with
    | false => rfl
    | true => have := Nat.eq_of_beq_eq_true hb2; omega
   rw [e, e2] at hall
   have hck := f2 k hkc'.1 (ci_.2 ⟨hi, by simpa using hall⟩)
   by_cases hz : aM_ ch c = 0
   ·omega
   ·obtain ⟨k', k1, k2, k3⟩ := hl_ hz
    rw [k3]
    have : ¬ k < k' := fun hkk => by
     have := f4 k' ((hchm k').1 k1).1 k hkc'.1 (hanc k hkc'.1 k' k1 hkk) k2
     rw [this] at hck; cases hck
    have : k ≠ k' := fun e => by rw [e, k2] at hck; cases hck
    omega
 have hold2 : ∀ i, i < ops.size → i ∉ aP_ vs md ops → ∀ c, (∀ k ∈ aP_ vs md ops, k ∈ (ancs ops).getD i [] → c k = true) → (∀ k ∈ aP_ vs md ops, i ∈ (ancs ops).getD k [] → c k = false) → (∀ k, k ∈ aP_ vs md ops → ∀ j, j ∈ aP_ vs md ops → j ∈ (ancs ops).getD k [] → c k = true → c j = true) → ∀ x, x < b → (∀ k d, wkB md ops d k = true → W d x → cmp1 ops k i = true) → (Sg c).blk x = (S i).blk x := by
  intro i hi hn c f1 f2 f4 x hx hcw
  have hsg : (Sg c).blk x = (S (aM_ ch c)).blk x := by
   simp only [Sg, St.over]
   rw [if_neg (by simp only [pX, Bool.and_eq_true, decide_eq_true_eq]; omega)]
  rw [hsg]
  have hL := hle c
  rcases Nat.le_total (aM_ ch c) i with h | h
  ·have := hspan x hx (i - aM_ ch c) (aM_ ch c) (by omega) (fun k a1 a2 d hd hW => by
    have := (hcmp i hi hn c f1 f2 f4 k (hwch d k hd) (hcw k d hd hW)).1 (by omega); omega)
   rw [show aM_ ch c + (i - aM_ ch c) = i by omega] at this
   exact this.symm
  ·have := hspan x hx (aM_ ch c - i) i (by omega) (fun k a1 a2 d hd hW => by
    have := (hcmp i hi hn c f1 f2 f4 k (hwch d k hd) (hcw k d hd hW)).2 (by omega); omega)
   rw [show i + (aM_ ch c - i) = aM_ ch c by omega] at this
   exact this
 refine ⟨⟨sl ops vals fr.s (fun j => decide (j < ops.size)), Sg (fun j => decide (j < ops.size))⟩, ?_, by rw [← hS ops.size (Nat.le_refl _)]; exact h2⟩
 refine gv_ (P := P) (O := run P md X) (vals := vals) (s := fr.s) (Sg := Sg) (ch := aP_ vs md ops) hst rfl ?_ ?_ hcg hmem
 ·have e := hS 0 (Nat.zero_le _)
  rw [s0, hσs] at e
  rw [e]; exact hcg _ _ fun j _ => by simp
 ·intro i hi c hc
  rw [← hb]
  obtain ⟨f1, f2, f3, f4⟩ := hc
  -- what is done, up to where
  have hlast : ∀ i, dA_ ops i = true → c i = false → aM_ ch c ≤ i := fun i hfi hci => by
   by_cases hz : aM_ ch c = 0
   ·omega
   ·obtain ⟨k, k1, k2, k3⟩ := hl_ hz
    rw [k3]
    have k4 := (hchm k).1 k1
    have : ¬ i < k := fun hik => by
     have := f4 k k4.1 i (hflt i hfi) (hanc i (hflt i hfi) k k1 hik) k2
     rw [this] at hci; cases hci
    have : k ≠ i := fun e => by rw [e] at k4; rw [k4.2] at hfi; cases hfi
    omega
  by_cases hcmp : i ∈ ch ∨ (i ∉ aP_ vs md ops ∧ cmpB vs md ops i = true)
  ·have hlo : ∀ k ∈ aP_ vs md ops, k < i → c k = true := fun k hk hki => f1 k hk (by
    rcases hcmp with hic | ⟨_, hcm⟩
    ·exact hanc k hk i hic hki
    ·have := List.all_eq_true.1 hcm k hk
     have e : Nat.blt k i = true := by simp [Nat.blt]; omega
     rw [e] at this
     exact ci_.2 ⟨hmem k hk, this⟩)
   have hhi : ∀ k ∈ ch, i < k → c k = false := fun k hk hik => f2 k ((hchm k).1 hk).1 (by
    rcases hcmp with hic | ⟨_, hcm⟩
    ·exact hanc i ((hchm i).1 hic).1 k hk hik
    ·have := List.all_eq_true.1 hcm k ((hchm k).1 hk).1
     have e : Nat.blt k i = false := by cases hb3 : Nat.blt k i with
      | false => rfl
      | true => have := Nat.le_of_ble_eq_true hb3; omega
     have e2 : Nat.beq k i = false := by cases hb2 : Nat.beq k i with
      | false => rfl
      | true => have := Nat.eq_of_beq_eq_true hb2; omega
     rw [e, e2, ((hchm k).1 hk).2] at this
     exact ci_.2 ⟨hi, by simpa using this⟩)
   have e1 : aM_ ch c = aM_ ch (fun k => decide (k < i)) := ds_ fun k hk => by
    rcases Nat.lt_trichotomy k i with h | h | h
    ·rw [hlo k ((hchm k).1 hk).1 h]; simp [h]
    ·subst h; rw [f3]; simp
    ·rw [hhi k hk h]; simp; omega
   -- the boxes that have come early
   let l : List Nat := (((List.range ops.size).filter fun f => dA_ ops f && c f && decide (i < f)).map fun f => b + f)
   have hl : ∀ x, l.contains x = (decide (b ≤ x) && dA_ ops (x - b) && c (x - b) && decide (i < x - b)) := fun x => by
    rw [Bool.eq_iff_iff]
    simp only [l, List.contains_iff_mem, List.mem_map, List.mem_filter, List.mem_range, Bool.and_eq_true, decide_eq_true_eq]
    constructor
    ·rintro ⟨f, ⟨a1, ⟨a2, a3⟩, a4⟩, rfl⟩; rw [Nat.add_sub_cancel_left]; exact ⟨⟨⟨by omega, a2⟩, a3⟩, a4⟩
    ·rintro ⟨⟨⟨a1, a2⟩, a3⟩, a4⟩; exact ⟨x - b, ⟨hmem _ (hflt _ a2), ⟨a2, a3⟩, a4⟩, by omega⟩
   have hnd : l.Nodup := List.pairwise_map.2 (List.Pairwise.imp (fun h => by omega) (List.Pairwise.filter _ List.nodup_range))
   have hroom_i := (hroom i (by omega)).1
   have hlx : ∀ x ∈ l, b + i ≠ x ∧ (S i).blk x = none ∧ x < (S i).next := fun x hx => by
    have hx : l.contains x = true := by simpa using hx
    rw [hl] at hx
    simp only [Bool.and_eq_true, decide_eq_true_eq] at hx
    obtain ⟨⟨⟨a1, a2⟩, a3⟩, a4⟩ := hx
    have a5 := hmem _ (hflt _ a2)
    refine ⟨by omega, ?_, by have := hroom_i.1; omega⟩
    have := hroom_i.2 (x - b - i) (by omega)
    rwa [show b + i + (x - b - i) = x by omega] at this
   have ho : ops[i]? = some ops[i] := by simp [hi]
   have hstep := (h1 i hi).1
   rw [eB_ ho] at hstep ⊢
   have hrun := (hD_ hX (Bk := Bk) hstep l hlx hnd).1
   have g1 : Sg c = (S i).over (fun x => l.contains x) Bk := by
    rw [hS i (by omega)]
    simp only [Sg, e1]
    rw [jW_ (r := pX c (aM_ ch (fun k => decide (k < i))))]
    intro x
    rw [hl]
    simp only [pX]
    rw [Bool.eq_iff_iff]
    simp only [Bool.or_eq_true, Bool.and_eq_true, decide_eq_true_eq]
    constructor
    ·rintro ⟨⟨⟨a1, a2⟩, a3⟩, a4⟩
     by_cases hxi : x - b < i
     ·exact .inl ⟨⟨⟨a1, a2⟩, hxi⟩, a4⟩
     ·have : x - b ≠ i := fun e => by rw [e] at a3; rw [a3] at f3; cases f3
      exact .inr ⟨⟨⟨a1, a2⟩, a3⟩, by omega⟩
    ·rintro (⟨⟨⟨a1, a2⟩, a3⟩, a4⟩ | ⟨⟨⟨a1, a2⟩, a3⟩, a4⟩)
     ·exact ⟨⟨⟨a1, a2⟩, hlo _ (hflt _ a2) a3⟩, a4⟩
     ·have : aM_ ch (fun k => decide (k < i)) ≤ i := bI_.2 fun k _ hk => by simp at hk; omega
      exact ⟨⟨⟨a1, a2⟩, a3⟩, by omega⟩
   have g2 : Sg (fun j => c j || decide (j = i)) = (S (i + 1)).over (fun x => l.contains x) Bk := by
    rcases hcmp with hic | ⟨hn, _⟩
    ·have e2 : aM_ ch (fun j => c j || decide (j = i)) = i + 1 := iY_ hic (by simp) fun k hk hkc => by
      rcases Nat.lt_trichotomy k i with h | h | h
      ·omega
      ·omega
      ·simp [hhi k hk h] at hkc; omega
     simp only [Sg, e2]
     congr 1
     funext x
     rw [hl]
     simp only [pX]
     rw [Bool.eq_iff_iff]
     simp only [Bool.or_eq_true, Bool.and_eq_true, decide_eq_true_eq]
     constructor
     ·rintro ⟨⟨⟨a1, a2⟩, a3 | a3⟩, a4⟩
      ·exact ⟨⟨⟨a1, a2⟩, a3⟩, by omega⟩
      ·omega
     ·rintro ⟨⟨⟨a1, a2⟩, a3⟩, a4⟩; exact ⟨⟨⟨a1, a2⟩, .inl a3⟩, by omega⟩
    ·rw [((h1 i hi).2.2.2.2 hn).1, ← g1]
     exact hcg _ _ fun j hj => by
      have : j ≠ i := fun e => hn (e ▸ hj)
      simp [this]
   rw [g1, g2]; exact hrun
  ·by_cases hfi : dA_ ops i = true
   ·have hLi := hlast i hfi f3
    obtain ⟨_, h4⟩ := hfl i hi hfi
    have hr := (hroom _ (hle c)).1
    have hfree : (Sg c).blk (b + i) = none := by
     simp only [Sg, St.over]
     rw [if_neg (by simp only [pX, Nat.add_sub_cancel_left, f3]; simp)]
     have := hr.2 (i - aM_ ch c) (by omega)
     rwa [show b + aM_ ch c + (i - aM_ ch c) = b + i by omega] at this
    rw [h4 (Sg c) hfree (by show b + i < (S (aM_ ch c)).next; have := hr.1; omega)]
    congr 2
    have e : aM_ ch (fun j => c j || decide (j = i)) = aM_ ch c := ds_ fun k hk => by
     have : k ≠ i := fun e => hcmp (.inl (e ▸ hk))
     simp [this]
    simp only [Sg, e]
    rw [gQ_]
    congr 1
    funext x
    simp only [pX]
    rw [Bool.eq_iff_iff]
    simp only [Bool.or_eq_true, Bool.and_eq_true, decide_eq_true_eq]
    constructor
    ·rintro (h | rfl)
     ·exact ⟨⟨h.1.1, .inl h.1.2⟩, h.2⟩
     ·rw [Nat.add_sub_cancel_left]; exact ⟨⟨⟨by omega, hfi⟩, .inr rfl⟩, hLi⟩
    ·rintro ⟨⟨⟨a1, a2⟩, a3 | a3⟩, a4⟩
     ·exact .inl ⟨⟨⟨a1, a2⟩, a3⟩, a4⟩
     ·exact .inr (by omega)
   ·have hn : i ∉ aP_ vs md ops := fun hm => hcmp (.inl ((hchm i).2 ⟨hm, by simpa using hfi⟩))
    have e2 : Sg (fun j => c j || decide (j = i)) = Sg c := hcg _ _ fun j hj => by
     have : j ≠ i := fun e => hn (e ▸ hj)
     simp [this]
    rw [e2]
    exact ((h1 i hi).2.2.2.2 hn).2 _ (fun w => absurd (.inr ⟨hn, w⟩) hcmp) (fun x hx hW => hold2 i hi hn c f1 f2 f4 x hx fun k d hd hWd => by
     have hd' := hd
     simp only [wkB, Bool.and_eq_true] at hd'
     have e := Nat.eq_of_beq_eq_true hd'.1
     subst e
     cases hc1 : cmp1 ops d i with
     | true => rfl
     | false => exact absurd hWd (hW d (by show (!wk1 md ops d || cmp1 ops d i) = false; rw [hd'.2, hc1]; rfl))) (hOld c)
theorem e3_ {z : Bool} {σ : St} {k b e o n : Nat} {v : T} {S : List Nat} (h : hold z σ k (.ref b e o n) = some (v, S)) : b ∈ S := by
 cases k with
 | zero => cases h
 | succ k =>
  simp only [hold] at h
  obtain ⟨B, hB, h⟩ := Option.bind_eq_some_iff.1 h
  split at h
  ·obtain ⟨q, _, h⟩ := Option.map_eq_some_iff.1 h
   injection h with _ h; subst h; simp
  ·cases h
theorem mz_ (vs : List Nat) (W : Nat → Nat → Prop) {Q : al_ → Fr → Prop} {σ σ0 : St} {es : List Ent} {id : Nat} (hX : XOk X) (hst : dH_ ops = true) (hch : kZ_ vs md ops = true) (hH : Heap σ0 σ es)
  (h : ∀ B σs σ', σ0.next ≤ B → (∀ x cells, Ent.box x cells ∈ es → x < B) → (∀ z w t v, Ent.own z w t v ∈ es → ∀ b e o n, t = .ref b e o n → b < B) → Heap σ0 σ' es → opsX P (run P md X) ops (.c B 0 W σs (lo_ vs md ops)) ops.toList (Q .normal) ⟨s, σ'⟩) : codeQ P (run P md X) (.region id ops true) Q ⟨s, σ⟩ := by
 refine ik_ vs hX hst hch (W := W) ?_
 refine h σ.next (σ.bump ops.size) (σ.bump ops.size) hH.grow.nx (fun x cells hx => ?_) (fun z w t v hx b e o n ht => ?_) hH.bump ⟨by simp, fun _ _ _ => rfl⟩ ⟨by simp, fun j hj => by rw [fn_, if_neg (by omega)]⟩
 ·obtain ⟨n, hn, e⟩ := List.getElem_of_mem hx
  obtain ⟨F, h1, h2, h3⟩ := hH.ex
  obtain ⟨l1, l2, rfl⟩ := List.append_of_mem hx
  obtain ⟨F1, F2, rfl, h4, h5⟩ := h1.split
  obtain ⟨S, F', rfl, ⟨rfl, _⟩, _⟩ := h5
  exact (h3 x (by simp)).2
 ·obtain ⟨F, h1, h2, h3⟩ := hH.ex
  obtain ⟨l1, l2, rfl⟩ := List.append_of_mem hx
  obtain ⟨F1, F2, rfl, h4, h5⟩ := h1.split
  obtain ⟨S, F', rfl, ⟨_, _, k, h6⟩, _⟩ := h5
  subst ht
  exact (h3 b (by simp [e3_ h6])).2
end
end Go.Am
end
section
set_option linter.unusedVariables false
set_option linter.unusedSimpArgs false
namespace Go.Am
open Classical
theorem Heap.wrap {σ0 σ : St} {ents E : List Ent} (h : Heap σ0 σ (ents ++ E)) : ∃ F, Heap σ0 σ (ents ++ [.keep F σ]) ∧ ∀ σ' ents', Heap σ0 σ' (ents' ++ [.keep F σ]) → Heap σ0 σ' (ents' ++ E) := by
 obtain ⟨F, h1, h2, h3⟩ := h.ex
 obtain ⟨F1, F2, rfl, h4, h5⟩ := h1.split
 refine ⟨F2, ⟨h.grow, F1 ++ F2, h4.join ⟨F2, [], by simp, ⟨rfl, fun b hb => ⟨rfl, h5.some b hb⟩⟩, rfl⟩, h2, h3⟩, fun σ' ents' k => ?_⟩
 obtain ⟨G, k1, k2, k3⟩ := k.ex
 obtain ⟨G1, G2, rfl, k4, k5⟩ := k1.split
 obtain ⟨S, F', rfl, ⟨rfl, k6⟩, k7⟩ := k5
 cases k7
 simp only [List.append_nil] at k2 k3
 exact ⟨k.grow, G1 ++ S, k4.join (h5.same fun b hb => (k6 b hb).1), k2, k3⟩
section
variable {P : Program} {md : Nat → Md} {X : Ext} {f : Nat}
variable {ops : Array Oper} {m : Mo} {l : List Oper} {K : Fr → Prop} {s : Nat → T} {σ σ0 : St} {L : List (Nat × T)} {es ents : List Ent}
variable {d : Option Nat} {ty : TypeId} {ps : String} {af : Array Edge} {g : Option (Nat × Bool)}
def RawS (P : Program) (md : Nat → Md) (X : Ext) (f : Nat) (args : List T) (n : Nat) (tree : List T → T) (ents : List Ent) (ents' : List T → List Ent) : Prop :=
 ∀ σ0 σ E, Heap σ0 σ (ents ++ E) → ∃ hs σ', hs.length = n ∧ run P md X f args σ = some (tree hs, σ') ∧ Heap σ0 σ' (ents' hs ++ E)
def endM (P : Program) (rs : List ResultVar) (σ0 : St) (n : Nat) (tree : List T → T) (ents' : List T → List Ent) : al_ → Fr → Prop
 | .exit _, _ => False
 | .normal, fr => ∃ l hs, resL P fr rs = some l ∧ tupOf l = tree hs ∧ hs.length = n ∧ Heap σ0 fr.σ (ents' hs)
 | .ret, fr => ∃ l hs, resL P fr rs = some l ∧ tupOf l = tree hs ∧ hs.length = n ∧ Heap σ0 fr.σ (ents' hs)
theorem db_ {rs : List ResultVar} {l : List T} {n : Nat} {tree : List T → T} {ents' : List T → List Ent} (hs : List T) (hl : resL P ⟨s, σ⟩ rs = some l) (ht : tupOf l = tree hs) (hn : hs.length = n) (hH : Heap σ0 σ (ents' hs)) : endM P rs σ0 n tree ents' .ret ⟨s, σ⟩ := ⟨l, hs, hl, ht, hn, hH⟩
theorem cX_ {c : Code} {n0 n : Nat} {rs : List ResultVar} {args : List T} {tree : List T → T} {ents' : List T → List Ent} (hv : md f = .raw) (hX : X f = none) (hok : Ok P f c n0 rs) (hlen : Nat.ble args.length n0 = true)
  (h : ∀ σ0 σ F σk s, Sub (nums 0 args) s → Heap σ0 σ (ents ++ [.keep F σk]) → codeQ P (run P md X) c (endM P rs σ0 n tree (fun hs => ents' hs ++ [.keep F σk])) ⟨s, σ⟩) : RawS P md X f args n tree ents ents' := fun σ0 σ E hH => by
 obtain ⟨F, h1, h2⟩ := hH.wrap
 obtain ⟨fn, k1, k2, k3, k4, k5, k6⟩ := hok
 obtain ⟨x, fr, m1, m2⟩ := codeQ_sound (h σ0 σ F σ _ (ey_ args) h1)
 have hx : (x = .normal ∨ x = .ret) ∧ ∃ l hs, resL P fr rs = some l ∧ tupOf l = tree hs ∧ hs.length = n ∧ Heap σ0 fr.σ (ents' hs ++ [.keep F σ]) := by
  cases x with
  | normal => exact ⟨.inl rfl, m2⟩
  | ret => exact ⟨.inr rfl, m2⟩
  | exit i => exact m2.elim
 obtain ⟨hx, l, hs, q1, q2, q3, q4⟩ := hx
 refine ⟨hs, fr.σ, q3, ?_, h2 _ _ q4⟩
 rw [kS_ (P := P) (vm := md) (X := X) (σ := σ) hv hX k1 k2 k3 k4 (by rw [k5]; exact Nat.le_of_ble_eq_true hlen) m1 hx (by rw [resA, k6, q1]; rfl), q2]
theorem mt_ {fo : Operand} {as : Array Operand} {tys : Array TypeId} {a b xs : List T} {n : Nat} {tree : List T → T} {ents' : List T → List Ent} (hw : want ops L g = some true) (hS : Sub L s) (hf : gE (get L) fo = some (.fn f a b)) (ha : gEs (get L) as.toList = some xs)
  (hH : Heap σ0 σ (ents ++ es)) (hr : RawS P md X f (a ++ xs ++ b) n tree ents ents')
  (k : ∀ hs σ' s', hs.length = n → Heap σ0 σ' (ents' hs ++ es) → Sub (putL L d (tree hs)) s' → opsX P (run P md X) ops .q l K ⟨s', σ'⟩) : opsX P (run P md X) ops .q (⟨d, .call ⟨.value fo, as, tys⟩, ty, ps, af, g⟩ :: l) K ⟨s, σ⟩ := by
 obtain ⟨hs, σ', h1, h2, h3⟩ := hr σ0 σ es hH
 refine jD_ (f := f) (args := a ++ xs ++ b) (av_ hS hw) (by rw [ga_, bk_ hS ha, Option.bind_some, ab_ hS hf]; rfl) h2 ?_
 rw [bD_]
 exact k _ _ _ h1 h3 (aN_ hS d _ σ)
def endI (P : Program) (rs : List ResultVar) (K : T → St → Prop) : al_ → Fr → Prop
 | .exit _, _ => False
 | .normal, fr => ∃ l, resL P fr rs = some l ∧ K (tupOf l) fr.σ
 | .ret, fr => ∃ l, resL P fr rs = some l ∧ K (tupOf l) fr.σ
theorem n0_ {rs : List ResultVar} {l : List T} {K : T → St → Prop} {v : T} (hl : resL P ⟨s, σ⟩ rs = some l) (ht : tupOf l = v) (h : K v σ) : endI P rs K .ret ⟨s, σ⟩ := ⟨l, hl, ht ▸ h⟩
theorem oP_ {fo : Operand} {as : Array Operand} {tys : Array TypeId} {a b xs : List T} {c : Code} {n0 : Nat} {rs : List ResultVar} (args : List T) (hw : want ops L g = some true) (hS : Sub L s) (hf : gE (get L) fo = some (.fn f a b)) (ha : gEs (get L) as.toList = some xs)
  (hab : a ++ xs ++ b = args) (hv : md f = .raw) (hX : X f = none) (hok : Ok P f c n0 rs) (hlen : Nat.ble args.length n0 = true)
  (h : ∀ s1, Sub (nums 0 args) s1 → codeQ P (run P md X) c (endI P rs fun v σ' => ∀ s', Sub (putL L d v) s' → opsX P (run P md X) ops .q l K ⟨s', σ'⟩) ⟨s1, σ⟩) : opsX P (run P md X) ops .q (⟨d, .call ⟨.value fo, as, tys⟩, ty, ps, af, g⟩ :: l) K ⟨s, σ⟩ := by
 subst hab
 obtain ⟨fn, k1, k2, k3, k4, k5, k6⟩ := hok
 obtain ⟨x, fr, m1, m2⟩ := codeQ_sound (h _ (ey_ _))
 have hx : (x = .normal ∨ x = .ret) ∧ ∃ l1, resL P fr rs = some l1 ∧ ∀ s', Sub (putL L d (tupOf l1)) s' → opsX P (run P md X) ops .q l K ⟨s', fr.σ⟩ := by
  cases x with
  | normal => exact ⟨.inl rfl, m2⟩
  | ret => exact ⟨.inr rfl, m2⟩
  | exit i => exact m2.elim
 obtain ⟨hx, l1, q1, q2⟩ := hx
 refine jD_ (f := f) (args := a ++ xs ++ b) (v := tupOf l1) (σ' := fr.σ) (av_ hS hw) (by rw [ga_, bk_ hS ha, Option.bind_some, ab_ hS hf]; rfl)
  (kS_ (P := P) (vm := md) (X := X) (σ := σ) hv hX k1 k2 k3 k4 (by rw [k5]; exact Nat.le_of_ble_eq_true hlen) m1 hx (by rw [resA, k6, q1]; rfl)) ?_
 rw [bD_]
 exact q2 _ (aN_ hS d _ σ)
theorem n7_ {HF : (Nat → T) → St → Prop} {fo : Operand} {as : Array Operand} {tys : Array TypeId} {a b xs : List T} {c : Code} {n0 : Nat} {rs : List ResultVar} (args : List T) (hw : want ops L g = some true) (hS : Sub L s) (hf : gE (get L) fo = some (.fn f a b)) (ha : gEs (get L) as.toList = some xs)
  (hab : a ++ xs ++ b = args) (hv : md f = .raw) (hX : X f = none) (hok : Ok P f c n0 rs) (hlen : Nat.ble args.length n0 = true)
  (h : ∀ s1, Sub (nums 0 args) s1 → codeQ P (run P md X) c (endI P rs fun v σ' => ∀ s', Sub (putL L d v) s' → HF s' σ') ⟨s1, σ⟩)
  (k : ∀ s' σ', HF s' σ' → opsX P (run P md X) ops .q l K ⟨s', σ'⟩) : opsX P (run P md X) ops .q (⟨d, .call ⟨.value fo, as, tys⟩, ty, ps, af, g⟩ :: l) K ⟨s, σ⟩ :=
 oP_ args hw hS hf ha hab hv hX hok hlen fun s1 h1 => codeQ_mono (fun x fr hx => by
  cases x with
  | exit i => exact hx
  | normal => obtain ⟨l, e1, e2⟩ := hx; exact ⟨l, e1, fun s' hs => k _ _ (e2 s' hs)⟩
  | ret => obtain ⟨l, e1, e2⟩ := hx; exact ⟨l, e1, fun s' hs => k _ _ (e2 s' hs)⟩) (h s1 h1)
end
def hw_ (s : ByteArray) : Option (Sl (Iv .u8)) := if 1 ≤ s.size ∧ s.size ≤ 1099511627776 then some ⟨false, s.data.toList.map fun b => ⟨b.toNat⟩⟩ else none
theorem hA_ (s : ByteArray) : b7_ s = af_ (s.data.toList.map fun b => (⟨b.toNat⟩ : Iv .u8)) := by
 unfold b7_
 generalize s.data.toList = l
 induction l with
 | nil => rfl
 | cons b l ih => simp only [List.map_cons, af_]; rw [ih]; rfl
section
variable {P : Program} {O : an_}
variable {ops : Array Oper} {m : Mo} {l : List Oper} {K : Fr → Prop} {s : Nat → T} {σ σ0 : St} {L : List (Nat × T)} {es ents : List Ent}
variable {d : Option Nat} {ty : TypeId} {ps : String} {af : Array Edge} {g : Option (Nat × Bool)}
theorem jn_ {σ : St} {src dst : TypeId} {w : ByteArray} : f7_ P none σ src dst (.str w) = if ap_ P src = 3 then if ap_ P dst = 3 then some (.str w, σ) else (ae_ P dst).bind fun e => if ap_ P e = 10 ∧ w.size ≤ 2 ^ 40 ∧ σ.okK none = true then some (.ref (σ.nid none) 0 0 w.size, σ.pushK none (aq_ (b7_ w) 1)) else none else none := rfl
theorem qe_ {x : Operand} {src dst e : TypeId} {w : ByteArray} {r : Sl (Iv .u8)} (hw : want ops L g = some true) (hS : Sub L s) (hH : Heap σ0 σ es) (hx : gE (get L) x = some (.str w)) (hk : (Nat.beq (ap_ P src) 3 && !Nat.beq (ap_ P dst) 3) = true) (he : ae_ P dst = some e) (hke : Nat.beq (ap_ P e) 10 = true) (hr : hw_ w = some r)
  (k : ∀ t' σ' s', a0_ t' → Heap σ0 σ' (.own true 1 t' r.t :: es) → Sub (putL L d t') s' → opsX P O ops .q l K ⟨s', σ'⟩) : opsX P O ops .q (⟨d, .convert src dst x, ty, ps, af, g⟩ :: l) K ⟨s, σ⟩ := by
 unfold hw_ at hr
 split at hr
 ·rename_i hb
  injection hr with hr; subst hr
  simp only [Bool.and_eq_true, Bool.not_eq_true'] at hk
  have h1 := Nat.eq_of_beq_eq_true hk.1; have h2 := Nat.ne_of_beq_eq_false hk.2; have h3 := Nat.eq_of_beq_eq_true hke
  refine qy_ (v := .ref σ.next 0 0 w.size) (σ' := σ.pushK none (aq_ (b7_ w) 1)) (av_ hS hw) ?_ ?_
  ·rw [hB_, ab_ hS hx, Option.bind_some]
   rw [jn_, if_pos h1, if_neg h2, he, Option.bind_some, if_pos ⟨h3, by omega, rfl⟩]; rfl
  ·rw [bD_]
   refine k _ _ _ ⟨rfl, rfl⟩ ?_ (aN_ hS d _ σ)
   have hl : (w.data.toList.map fun b => (⟨b.toNat⟩ : Iv .u8)).length = w.size := by rw [List.length_map, Array.length_toList]; rfl
   have hrow : Sl.t (⟨false, w.data.toList.map fun b => ⟨b.toNat⟩⟩ : Sl (Iv .u8)) = .row false w.size (af_ (w.data.toList.map fun b => (⟨b.toNat⟩ : Iv .u8))) := by
    show T.row false (List.length _) _ = _; rw [hl]
   rw [hrow, hA_]
   refine Heap.mkRow (ents := []) hH (by decide) (by omega) (by rw [cellsL_len, hl]; rfl) (cellsL_one _) ?_
   generalize w.data.toList = l
   induction l with
   | nil => exact .nil
   | cons b l ih => exact .leaf (fun σ d => by cases d <;> rfl) ih
 ·cases hr
end
section
variable {P : Program} {O : an_}
variable {ops : Array Oper} {m : Mo} {l : List Oper} {K : Fr → Prop} {s : Nat → T} {σ σ0 : St} {L : List (Nat × T)} {es ents : List Ent}
variable {d : Option Nat} {ty : TypeId} {ps : String} {af : Array Edge} {g : Option (Nat × Bool)}
end
def okPs : List (Nat × T) → List (List T) → Prop
 | [], [] => True
 | (_, v) :: ps, c :: cs => v.cells = c ∧ c.all T.one = true ∧ okPs ps cs
 | _, _ => False
def lt_ (place : Nat → Option (Nat × Nat)) (cells : List T) : List (Nat × T) → List (List T) → Option (List T)
 | [], _ => some cells
 | (i, _) :: rest, c :: cs => match place i with
  | some (off, size) => bif Nat.beq c.length size && Nat.ble (off + size) cells.length then lt_ place (splice cells off c) rest cs else none
  | none => none
 | _, _ => none
theorem ki_ {place : Nat → Option (Nat × Nat)} : ∀ {ps : List (Nat × T)} {cs : List (List T)} {cells r : List T}, okPs ps cs → lt_ place cells ps cs = some r → cq_ place cells ps = some r
 | [], [], cells, r, _, h => h
 | (i, v) :: ps, c :: cs, cells, r, hp, h => by
  obtain ⟨h1, h2, h3⟩ := hp
  simp only [lt_] at h
  split at h
  ·rename_i off size hpl
   simp only [cq_, hpl, Option.bind_some, h1]
   cases hb : Nat.beq c.length size && Nat.ble (off + size) cells.length with
   | true =>
    rw [hb] at h
    simp only [Bool.and_eq_true] at hb
    rw [if_pos ⟨Nat.eq_of_beq_eq_true hb.1, Nat.le_of_ble_eq_true hb.2, h2⟩]
    exact ki_ h3 h
   | false => rw [hb] at h; cases h
  ·cases h
 | [], _ :: _, _, _, hp, _ => hp.elim
 | _ :: _, [], _, _, hp, _ => by exact hp.elim
section
variable {P : Program} {O : an_}
variable {ops : Array Oper} {m : Mo} {l : List Oper} {K : Fr → Prop} {s : Nat → T} {σ σ0 : St} {L : List (Nat × T)}
variable {d : Option Nat} {ty : TypeId} {ps : String} {af : Array Edge} {g : Option (Nat × Bool)}
theorem kk_ {t : TypeId} {parts : Array (Nat × Operand)} {qs : List (Nat × T)} {z r : List T} (cs : List (List T)) (hw : want ops L g = some true) (hS : Sub L s) (hg : gPs (get L) parts.toList = some qs) (hz : az_ P t = some z)
  (hk : (Nat.beq (ap_ P t) 7 && (cf_ P t).all (fun f => (szOf P f.type).isSome)) = true) (ho : okPs qs cs) (hf : lt_ (fun i => (aV_ P t i).map fun (o, _, n) => (o, n)) z qs cs = some r)
  (k : ∀ s', Sub (putL L d (.agg r)) s' → opsX P O ops (nxM m) l K ⟨s', σ⟩) : opsX P O ops m (⟨d, .build t parts, ty, ps, af, g⟩ :: l) K ⟨s, σ⟩ := by
 simp only [Bool.and_eq_true] at hk
 refine d7_ hw hS (fun kk σ' _ => ?_) k
 show ((az_ P t).bind fun z => (bR_ s parts.toList).bind fun ps => if ap_ P t = 7 ∧ (cf_ P t).all (fun f => (szOf P f.type).isSome) = true then ((cq_ (fun i => (aV_ P t i).map fun (o, _, n) => (o, n)) z ps).map .agg).map (fun x => ARes.val x σ') else none) = _
 rw [hz, Option.bind_some, dI_ hS hg, Option.bind_some, if_pos ⟨Nat.eq_of_beq_eq_true hk.1, hk.2⟩, ki_ ho hf]; rfl
end
def remI (a b : Int) : Option Int := if b = 0 then none else some (a.tmod b)
section
variable {P : Program} {O : an_}
variable {ops : Array Oper} {m : Mo} {l : List Oper} {K : Fr → Prop} {s : Nat → T} {σ : St} {L : List (Nat × T)}
variable {d : Option Nat} {ty : TypeId} {ps : String} {af : Array Edge} {g : Option (Nat × Bool)}
theorem ma_ {x y : Operand} {t u : TypeId} {kk : IntKind} {a b r : Int} (hw : want ops L g = some true) (hS : Sub L s) (hx : gE (get L) x = some (.int kk a)) (hy : gE (get L) y = some (.int kk b)) (h : remI a b = some r)
  (k : ∀ s', Sub (putL L d (.int kk r)) s' → opsX P O ops (nxM m) l K ⟨s', σ⟩) : opsX P O ops m (⟨d, .binOp .rem t x y u, ty, ps, af, g⟩ :: l) K ⟨s, σ⟩ := by
 unfold remI at h
 split at h
 ·cases h
 ·rename_i hb
  injection h with h; subst h
  exact d7_ hw hS (fun k' σ' _ => by rw [iu_, ab_ hS hx, Option.bind_some, ab_ hS hy, Option.bind_some, k5_, oD_, if_neg hb]; rfl) k
end
end Go.Am
end
section
set_option linter.unusedVariables false
set_option linter.unusedSimpArgs false
namespace Go.Am
section
variable {P : Program} {O : an_} {ops : Array Oper} {l : List Oper} {K : Fr → Prop} {s : Nat → T} {σ σ0 : St} {L : List (Nat × T)} {es ents : List Ent}
variable {d : Option Nat} {ty : TypeId} {ps : String} {af : Array Edge} {g : Option (Nat × Bool)}
end
section
variable {P : Program} {md : Nat → Md} {X : Ext} {ops : Array Oper} {m : Mo} {l : List Oper} {K : Fr → Prop} {s : Nat → T} {σ σ0 : St} {L : List (Nat × T)} {es ents : List Ent} {f : Nat}
variable {d : Option Nat} {ty : TypeId} {ps : String} {af : Array Edge} {g : Option (Nat × Bool)}
theorem mu_ (hX : XOk X) (hm : m.chg = true) {o : Oper} {args : List T} {r : T} {σ' : St} (hwr : ∀ x, m.wr x ∨ σ'.blk x = σ.blk x) (hcl : isCall o.op = true) (hw : wantedA ops o s = true) (h : ∀ k σ, aOp P k ⟨s, σ⟩ o = some (.call f args)) (hc : run P md X f args σ = some (r, σ'))
  (kk : opsX P (run P md X) ops (nxM m) l K (Fr.put ⟨s, σ⟩ o.dst r σ')) : opsX P (run P md X) ops m (o :: l) K ⟨s, σ⟩ := by
 cases m with
 | q => show opQ P (run P md X) ops none o (opsQ P (run P md X) ops l K) ⟨s, σ⟩; unfold opQ; simp only [hw, cond_true, h]; exact ⟨r, σ', hc, kk⟩
 | d b i => cases hm
 | c b i W σs cm =>
  intro hA hR
  have free : ∀ x, σ.blk x = none → x < σ.next → σ'.blk x = none ∧ x < σ'.next := fun x h1 h2 => (lY_ hX (B := aq_ [] 0) hc h1 h2).2
  have hR0 : b + i + (l.length + 1) ≤ σ.next := hR.1
  have hR1 : b + (i + 1) + l.length ≤ σ.next := hR.nxt.1
  have h0 := free (b + i) (by have := hR.2 0 (by simp); simpa using this) (by omega)
  have hA' : da_ b W σs σ' := ⟨by omega, fun x hx hx' => by
   rcases hwr x with (h | ⟨c, _, h⟩) | h
   ·omega
   ·exact absurd h (hx' c)
   ·rw [h, hA.2 x hx hx']⟩
  have hR' : Room b (i + 1) l.length σ' := ⟨by
   by_cases hl : l.length = 0
   ·omega
   ·have := (free (b + (i + 1) + (l.length - 1)) (hR.nxt.2 _ (by omega)) (by omega)).2
    omega, fun j hj => (free _ (hR.nxt.2 j hj) (by omega)).1⟩
  have hp : (Fr.put ⟨s, σ⟩ o.dst r σ').σ = σ' := by cases o.dst <;> rfl
  have kk := kk (by rw [hp]; exact hA') (by rw [hp]; exact hR')
  have hs : b5_ P (run P md X) ops (b + i) o s σ = some (r, σ') := by simp only [b5_, hw, if_true, h, Option.bind_some, hc]
  have hm' : (!cm.vw i) = true := hm
  unfold opsC
  simp only [gt_ hcl, hm', hw, Bool.and_self]
  refine ⟨r, σ', hs, fun x hx hwf => ?_, hA', hR', kk⟩
  rcases hwr x with (h | ⟨c, h1, h2⟩) | h
  ·omega
  ·exact absurd h2 (hwf c h1)
  ·exact h
def EB : Ent → Nat → Prop
 | .box b _, x => x = b
 | .own _ _ t _, x => BT t x
 | .flt _ t _, x => BT t x
 | .keep F _, x => x ∈ F
 | .frt .., _ => False
theorem mf_ {σ : St} : ∀ {es : List Ent} {F : List Nat}, bz_ σ es F → ∀ {e : Ent}, e ∈ es → ∀ {x : Nat}, EB e x → x ∈ F
 | e0 :: es, F, h, e, he, x, hx => by
  obtain ⟨S, F', rfl, h1, h2⟩ := h
  rcases List.mem_cons.1 he with rfl | he
  ·refine List.mem_append_left _ ?_
   cases e with
   | box b c => obtain ⟨rfl, _⟩ := h1; rw [show x = b from hx]; simp
   | own z w t v => obtain ⟨e, o, n, rfl⟩ := hx; obtain ⟨_, _, k, h6⟩ := h1; exact e3_ h6
   | flt w t v =>
    obtain ⟨e, o, n, rfl⟩ := hx
    rcases h1 with ⟨h1, _⟩ | ⟨h1, _⟩ | ⟨b, B, n', h1, _, rfl, _⟩
    ·cases h1
    ·cases h1
    ·injection h1 with h1; rw [h1]; simp
   | keep F2 σk => obtain ⟨rfl, _⟩ := h1; exact hx
   | frt => exact hx.elim
  ·exact List.mem_append_right _ (mf_ h2 he hx)
 | [], _, _, _, he, _, _ => by cases he
theorem Heap.wrap' {σ0 σ : St} {ents E : List Ent} (h : Heap σ0 σ (ents ++ E)) : ∃ F, Heap σ0 σ (ents ++ [.keep F σ]) ∧ (∀ σ' ents', Heap σ0 σ' (ents' ++ [.keep F σ]) → Heap σ0 σ' (ents' ++ E)) ∧ ∀ e ∈ E, ∀ x, EB e x → x ∈ F := by
 obtain ⟨F, h1, h2, h3⟩ := h.ex
 obtain ⟨F1, F2, rfl, h4, h5⟩ := h1.split
 refine ⟨F2, ⟨h.grow, F1 ++ F2, h4.join ⟨F2, [], by simp, ⟨rfl, fun b hb => ⟨rfl, h5.some b hb⟩⟩, rfl⟩, h2, h3⟩, fun σ' ents' k => ?_, fun e he x hx => mf_ h5 he hx⟩
 obtain ⟨G, k1, k2, k3⟩ := k.ex
 obtain ⟨G1, G2, rfl, k4, k5⟩ := k1.split
 obtain ⟨S, F', rfl, ⟨rfl, k6⟩, k7⟩ := k5
 cases k7
 simp only [List.append_nil] at k2 k3
 exact ⟨k.grow, G1 ++ S, k4.join (h5.same fun b hb => (k6 b hb).1), k2, k3⟩
def Stay (R : Nat → Prop) (es : List Ent) : Prop := ∀ x, R x → ∃ e ∈ es, EB e x
theorem Stay.nil {es : List Ent} : Stay RN es := fun x h => h.elim
theorem Stay.box {R : Nat → Prop} {es : List Ent} {b : Nat} {c : List T} (h : Ent.box b c ∈ es) (k : Stay R es) : Stay (RB b R) es := fun y hy => by
 rcases hy with rfl | hy
 ·exact ⟨_, h, rfl⟩
 ·exact k y hy
theorem Stay.own {R : Nat → Prop} {es : List Ent} {z : Bool} {w : Nat} {t v : T} (h : Ent.own z w t v ∈ es) (k : Stay R es) : Stay (RT t R) es := fun y hy => by
 rcases hy with hy | hy
 ·exact ⟨_, h, hy⟩
 ·exact k y hy
theorem k7_ (hX : XOk X) (hm : m.chg = true) (R : Nat → Prop) (hR : Stay R es) (hwr : ∀ x, ¬ R x → m.wr x) {fo : Operand} {as : Array Operand} {tys : Array TypeId} {a b xs : List T} {n : Nat} {tree : List T → T} {ents' : List T → List Ent} (hw : want ops L g = some true) (hS : Sub L s) (hf : gE (get L) fo = some (.fn f a b)) (ha : gEs (get L) as.toList = some xs)
  (hH : Heap σ0 σ (ents ++ es)) (hr : RawS P md X f (a ++ xs ++ b) n tree ents ents')
  (k : ∀ hs σ' s', hs.length = n → Heap σ0 σ' (ents' hs ++ es) → Sub (putL L d (tree hs)) s' → opsX P (run P md X) ops (nxM m) l K ⟨s', σ'⟩) : opsX P (run P md X) ops m (⟨d, .call ⟨.value fo, as, tys⟩, ty, ps, af, g⟩ :: l) K ⟨s, σ⟩ := by
 obtain ⟨F, hw1, hw2, hw3⟩ := Heap.wrap' hH
 obtain ⟨hs, σ', h1, h2, h3k⟩ := hr σ0 σ _ hw1
 have h3 := hw2 _ _ h3k
 have hst : ∀ x, R x → σ'.blk x = σ.blk x := fun x hx => by
  obtain ⟨e, he, hc⟩ := hR x hx
  have hF : x ∈ F := hw3 e he x hc
  obtain ⟨G', k1, _⟩ := h3k.ex
  obtain ⟨G3, G4, rfl, k3, k4⟩ := k1.split
  obtain ⟨S, F', rfl, ⟨rfl, k6⟩, k7⟩ := k4
  exact (k6 x hF).1
 refine mu_ hX hm (fun x => by by_cases hx : R x; exact .inr (hst x hx); exact .inl (hwr x hx)) (f := f) (args := a ++ xs ++ b) rfl (av_ hS hw) (fun kk σ2 => by rw [ga_, bk_ hS ha, Option.bind_some, ab_ hS hf]; rfl) h2 ?_
 rw [bD_]
 exact k _ _ _ h1 h3 (aN_ hS d _ σ)
theorem is_.mark {S : List Nat} : ∀ {bs : List Nat} {cs : List (List T)}, is_ σ bs cs → is_ (σ.mark S) bs cs
 | [], [], _ => trivial
 | b :: bs, c :: cs, ⟨⟨h1, B, h2, h3⟩, h4⟩ => ⟨⟨h1, by
   have e : (σ.mark S).blk b = some (if b ∈ S then { B with st := false } else B) := by simp [St.mark, h2]
   refine ⟨_, e, ?_⟩
   split <;> exact h3⟩, h4.mark⟩
 | [], _ :: _, h => h.elim
 | _ :: _, [], h => h.elim
end
abbrev nt (α : Type) [Enc α] : T := Sl.t (⟨true, []⟩ : Sl α)
section
variable {z : Bool} {ts vs : List T} {es : List Ent}
theorem HLi {k : IntKind} {n : Int} (r : HL z ts vs es) : HL z (.int k n :: ts) (.int k n :: vs) es := HL.leaf (fun σ d => iZ_ _ σ d _ _) r
theorem HLb {n : Bool} (r : HL z ts vs es) : HL z (.bool n :: ts) (.bool n :: vs) es := HL.leaf (fun σ d => kU_ _ σ d _) r
theorem HLs {n : ByteArray} (r : HL z ts vs es) : HL z (.str n :: ts) (.str n :: vs) es := HL.leaf (fun σ d => ly_ _ σ d _) r
theorem HLn {α : Type} [Enc α] (r : HL z ts vs es) : HL z (Sl.t (⟨true, []⟩ : Sl α) :: ts) (Sl.t (⟨true, []⟩ : Sl α) :: vs) es := HL.leaf (fun σ d => j1_ _ σ d) r
theorem HLp {α : Type} [Enc α] {a : Sl α} (r : HL false ts vs es) : HL false (a.t :: ts) (a.t :: vs) es := HL.leaf (fun σ d => kf_ σ d _) r
end
abbrev i4 (n : Int) : T := .int .i64 n
section
variable {P : Program} {O : an_} {ops : Array Oper} {m : Mo} {l : List Oper} {K : Fr → Prop} {s : Nat → T} {σ σ0 : St} {L : List (Nat × T)} {es : List Ent}
variable {d : Option Nat} {ty : TypeId} {ps : String} {af : Array Edge} {g : Option (Nat × Bool)}
theorem qs (n : Nat) (L' : List (Nat × T)) (hS : Sub L s) (k : ∀ s', Sub L' s' → opsX P O ops (nxN n m) (l.drop n) K ⟨s', σ⟩) (h : ((seg P ops n l L).map fun M => L'.map fun p => get M p.1) = some (L'.map fun p => some p.2) := by kernel_rfl) : opsX P O ops m l K ⟨s, σ⟩ := p8_ n L' hS h k
end
end Go.Am
end
section
set_option linter.unusedVariables false
set_option linter.unusedSimpArgs false
namespace Go.Am
section
variable {P : Program} {O : an_} {ops : Array Oper} {m : Mo} {l : List Oper} {K : Fr → Prop} {s : Nat → T} {σ σ0 : St} {L : List (Nat × T)} {es ents : List Ent}
variable {d : Option Nat} {ty : TypeId} {ps : String} {af : Array Edge} {g : Option (Nat × Bool)}
theorem Heap.fltOne {w : Nat} {t v : T} (h : Heap σ0 σ (.flt w t v :: es)) : a0_ t := by
 obtain ⟨S, h1, _⟩ := h.head
 rcases h1 with ⟨rfl, _⟩ | ⟨rfl, _⟩ | ⟨b, B, n, rfl, _⟩ <;> exact ⟨rfl, rfl⟩
theorem dc_ {α : Type} [Enc α] {t1 : T} {a : Sl α} {w : Nat} (h : Heap σ0 σ (.flt w t1 a.t :: es)) :
  (t1 = .row true 0 [] ∧ a = ⟨true, []⟩) ∨ (t1 = .emp ∧ a = ⟨false, []⟩) ∨ ∃ b B, t1 = .ref b B.ep 0 a.l.length ∧ a.z = false ∧ σ.blk b = some B ∧ B.st = true ∧ B.low ≤ B.ep ∧ B.esz = w ∧ w ≠ 0 ∧ a.l.length * w ≤ B.cells.length ∧ B.cells.take (a.l.length * w) = af_ a.l := by
 obtain ⟨S, h1, _⟩ := h.head
 obtain ⟨z, l⟩ := a
 rcases h1 with ⟨rfl, hv, _⟩ | ⟨rfl, hv, _⟩ | ⟨b, B, n, rfl, hv, _, h3, h4, h5, h6, h7, h8⟩
 ·have hv : T.row z l.length (af_ l) = .row true 0 [] := hv
  injection hv with e1 e2 e3
  exact .inl ⟨rfl, by rw [e1, List.length_eq_zero_iff.1 e2]⟩
 ·have hv : T.row z l.length (af_ l) = .row false 0 [] := hv
  injection hv with e1 e2 e3
  exact .inr (.inl ⟨rfl, by rw [e1, List.length_eq_zero_iff.1 e2]⟩)
 ·have hv : T.row z l.length (af_ l) = .row false n (B.cells.take (n * w)) := hv
  injection hv with e1 e2 e3
  subst e2
  exact .inr (.inr ⟨b, B, rfl, e1, h3, h4, h5, h6, h7, h8, e3.symm⟩)
theorem p1_ (hm : m.chg = true) (hmb : m.base σ0) {t e len sz : Nat} {parts : Array (Nat × Operand)} {vs zc cs : List T} {v : T} (hw : want ops L g = some true) (hS : Sub L s) (hH : Heap σ0 σ es) (hg : gPs (get L) parts.toList = some (enumV 0 vs))
  (he : ae_ P t = some e) (hz : szOf P e = some sz) (hzz : az_ P e = some zc) (hl : (Nat.beq zc.length sz && Nat.beq vs.length len && Nat.ble (len * sz) 16777216 && !Nat.beq sz 0 && !Nat.beq len 0) = true) (hv : allV sz vs)
  (hc : vs.flatMap T.cells = cs) (hr : T.row false len cs = v)
  (kk : ∀ t' σ' s', a0_ t' → Heap σ0 σ' (.flt sz t' v :: es) → Sub (putL L d t') s' → opsX P O ops (nxM m) l K ⟨s', σ'⟩) : opsX P O ops m (⟨d, .buildSlice t len parts, ty, ps, af, g⟩ :: l) K ⟨s, σ⟩ := by
 simp only [Bool.and_eq_true, Bool.not_eq_true'] at hl
 obtain ⟨⟨⟨⟨l1, l2⟩, l3⟩, l4⟩, l5⟩ := hl
 have l1 := Nat.eq_of_beq_eq_true l1; have l2 := Nat.eq_of_beq_eq_true l2; have l3 := Nat.le_of_ble_eq_true l3; have l4 := Nat.ne_of_beq_eq_false l4; have l5 := Nat.ne_of_beq_eq_false l5
 subst hr
 have hlen : cs.length = len * sz := by rw [← hc, ← l2]; exact gD_ vs hv
 refine fw_ hm rfl (av_ hS hw) fun k hk hi => ⟨T.ref (σ.nid k) 0 0 len, σ.pushK k (aq_ cs sz), ?_, Cg.push hk, ?_⟩
 ·rw [dE_, he, Option.bind_some, hz, Option.bind_some, hzz, Option.bind_some, dI_ hS hg, Option.bind_some, fx_, if_pos ⟨l1, l3, l4, hk⟩]
  have := fF_ zc l1 vs [] 0 (by simp) hv
  simp only [List.nil_append, l2, hc] at this
  rw [this, if_neg l5]; rfl
 ·rw [bD_]
  refine kk _ _ _ ⟨rfl, rfl⟩ ?_ (aN_ hS d _ σ)
  have hbk := Mo.inb_base hi hmb
  have h0 : σ0.next ≤ σ.nid k := by
   cases k with
   | none => exact hH.grow.nx
   | some i => exact hbk i rfl
  have hf := eC_ hk
  refine Heap.stepN (es1 := []) (es2 := [.flt sz (.ref (σ.nid k) 0 0 len) (.row false len cs)]) (es := es) hH cH_ (fun b hb' => by rw [a2_, if_neg (by omega)]) fun S hS hn hb => ?_
  have hself : (σ.pushK k (aq_ cs sz)).blk (σ.nid k) = some (aq_ cs sz) := by rw [a2_, if_pos rfl]
  refine ⟨[σ.nid k], ⟨[σ.nid k], [], rfl, .inr (.inr ⟨σ.nid k, aq_ cs sz, len, rfl, ?_, rfl, hself, rfl, Nat.le_refl _, rfl, l4, ?_⟩), rfl⟩, by simp, fun b hb' => ?_, fun b hb' hs' _ => cZ_ hk hs' hb'⟩
  ·rw [di_, List.take_of_length_le (by omega)]
  ·rw [di_, hlen]; exact Nat.le_refl _
  ·simp at hb'; subst hb'
   exact .inr ⟨h0, gH_ hk, hf.imp id fun h => h.1⟩
def cutS {α : Type} (a : Sl α) (h : Int) : Option (Sl α) := if 0 ≤ h ∧ h ≤ a.l.length ∧ a.l.length ≠ 0 then some ⟨false, a.l.take h.toNat⟩ else none
theorem ob_ {α : Type} [Enc α] {x : Operand} {w : Nat} {t1 : T} {a : Sl α} {t : TypeId} (hw : want ops L g = some true) (hS : Sub L s) (hH : Heap σ0 σ (.flt w t1 a.t :: es)) (hx : gE (get L) x = some t1) (hk : ap_ P t = 4)
  (kk : ∀ s', Sub (putL L d (.int .i64 a.l.length)) s' → opsX P O ops (nxM m) l K ⟨s', σ⟩) : opsX P O ops m (⟨d, .call ⟨.builtin .len, #[x], #[t]⟩, ty, ps, af, g⟩ :: l) K ⟨s, σ⟩ := by
 have hl : lenA P σ t t1 = some (.int .i64 a.l.length) := by
  rcases dc_ hH with ⟨rfl, rfl⟩ | ⟨rfl, rfl⟩ | ⟨b, B, rfl, _⟩ <;> simp [hk]
 refine d7_ hw hS (fun kk σ' _ => ?_) kk
 have ev : bm_ s [x] = some [t1] := by simp only [bm_, ab_ hS hx, Option.bind_some, Option.map_some]
 rw [mC_]
 show (bm_ s [x]).bind _ = _
 rw [ev, Option.bind_some, h3_, h4_ P σ' σ, hl]; rfl
theorem ov_ {α : Type} [Enc α] {x i : Operand} {t e : TypeId} {t1 : T} {a : Sl α} {kk : IntKind} {j : Int} {y : α} (hm : ∀ b e o n, t1 = .ref b e o n → m.lt b) (hw : want ops L g = some true) (hS : Sub L s) (hH : Heap σ0 σ (.flt (Enc.w α) t1 a.t :: es)) (hx : gE (get L) x = some t1) (hi : gE (get L) i = some (.int kk j))
  (he : ae_ P t = some e) (hz : szOf P e = some (Enc.w α)) (hy : elt a j = some y)
  (k : ∀ b ep s', t1 = .ref b ep 0 a.l.length → Sub (putL L d (.ptr b ep (j.toNat * Enc.w α) (Enc.w α))) s' → opsX P O ops (nxM m) l K ⟨s', σ⟩) : opsX P O ops m (⟨d, .indexAddr t x i, ty, ps, af, g⟩ :: l) K ⟨s, σ⟩ := by
 obtain ⟨q1, q2, q3⟩ := dn_ hy
 rcases dc_ hH with ⟨rfl, rfl⟩ | ⟨rfl, rfl⟩ | ⟨b, B, rfl, hz2, hB, d1, d2, d3, d4, d5, d6⟩
 ·simp at q3
 ·simp at q3
 ·refine d7_ hw hS (fun kk σ' ha' => ?_) (fun s' => k b B.ep s' rfl)
  rw [el_, ab_ hS hx, Option.bind_some, ab_ hS hi, Option.bind_some, lT_, he, Option.bind_some, hz, Option.bind_some, Mo.al_blk ha' (hm _ _ _ _ rfl), hB, Option.bind_some, if_pos ⟨q1, q2, d3⟩, Nat.zero_add]; rfl
theorem mv_ {α : Type} [Enc α] {ad : Operand} {t : TypeId} {t1 : T} {a : Sl α} {j : Int} {y : α} {b ep off n : Nat} {c : List T} {v : T} (hm : ∀ b e o n, t1 = .ref b e o n → m.lt b) (hw : want ops L g = some true) (hS : Sub L s) (hH : Heap σ0 σ (.flt (Enc.w α) t1 a.t :: es)) (hr : t1 = .ref b ep 0 a.l.length)
  (ha : gE (get L) ad = some (.ptr b ep (j.toNat * Enc.w α + off) n)) (hy : elt a j = some y) (hc : Enc.cells y = c) (hn : Nat.ble (off + n) (Enc.w α) = true) (hv : part P t ((c.drop off).take n) 0 = some v)
  (k : ∀ s', Sub (putL L d v) s' → opsX P O ops (nxM m) l K ⟨s', σ⟩) : opsX P O ops m (⟨d, .load t ad, ty, ps, af, g⟩ :: l) K ⟨s, σ⟩ := by
 obtain ⟨q1, q2, q3⟩ := dn_ hy
 have hn := Nat.le_of_ble_eq_true hn
 rcases dc_ hH with ⟨rfl, rfl⟩ | ⟨rfl, rfl⟩ | ⟨b', B, rfl, hz2, hB, d1, d2, d3, d4, d5, d6⟩
 ·cases hr
 ·cases hr
 ·injection hr with e1 e2 _ _
  subst e1; subst e2
  refine d7_ hw hS (fun kk σ' ha' => ?_) k
  have hcl : c.length = Enc.w α := by rw [← hc, Enc.len]
  have hj : (j.toNat + 1) * Enc.w α ≤ a.l.length * Enc.w α := Nat.mul_le_mul_right _ (by omega)
  have hcell : (B.cells.drop (j.toNat * Enc.w α + off)).take n = (c.drop off).take n := by
   have h1 : ((B.cells.take (a.l.length * Enc.w α)).drop (j.toNat * Enc.w α + off)).take n = (c.drop off).take n := by
    rw [d6, ← List.drop_drop, eL_ a.l j.toNat y q3, hc, List.drop_append_of_le_length (by omega), List.take_append_of_le_length (by simp; omega)]
   rw [← h1, List.drop_take, List.take_take, Nat.min_eq_left (by rw [Nat.succ_mul] at hj; omega)]
  rw [hq_, ab_ hS ha, Option.bind_some, dF_, Mo.al_blk ha' (hm _ _ _ _ rfl), hB, Option.bind_some, if_pos d2, hcell, hv]; rfl
end
end Go.Am
end
section
set_option linter.unusedVariables false
set_option linter.unusedSimpArgs false
namespace Go.Am
open Classical
def Kb (F : List Nat) (σk : St) (x : Nat) (c : List T) : Prop := x ∈ F ∧ ∃ B, σk.blk x = some B ∧ B.cells = c ∧ B.ep = 0 ∧ B.low = 0
def KLe (F : List Nat) (σ : St) (F2 : List Nat) (σ2 : St) : Prop := F.Nodup ∧ ∀ b ∈ F, b ∈ F2 ∧ σ2.blk b = σ.blk b
theorem Kb.mono {F F2 : List Nat} {σ σ2 : St} {x : Nat} {c : List T} (h : Kb F σ x c) (k : KLe F σ F2 σ2) : Kb F2 σ2 x c := by
 obtain ⟨h1, B, h2, h3⟩ := h
 obtain ⟨k1, k2⟩ := k.2 x h1
 exact ⟨k1, B, by rw [k2, h2], h3⟩
theorem Heap.part {σ0 σ σk σ2 : St} {Fk F2 : List Nat} {es : List Ent} (h : Heap σ0 σ (.keep F2 σ2 :: es)) (k : KLe Fk σk F2 σ2) : ∃ F3, Heap σ0 σ (.keep Fk σk :: .keep F3 σ2 :: es) ∧ ∀ σ' es', Heap σ0 σ' (.keep Fk σk :: .keep F3 σ2 :: es') → Heap σ0 σ' (.keep F2 σ2 :: es') := by
 obtain ⟨S0, ⟨rfl, _⟩, hn2, _⟩ := h.head
 refine ⟨S0.filter fun b => decide (b ∉ Fk), ?_, fun σ' es' h' => ?_⟩
 ·refine Heap.step (es1 := [.keep S0 σ2]) (es2 := [.keep Fk σk, .keep (S0.filter fun b => decide (b ∉ Fk)) σ2]) (es := es) h (Nat.le_refl _) fun S hS hnd hbd => ?_
  obtain ⟨S1, F1, rfl, ⟨rfl, h1⟩, hnil⟩ := hS
  cases hnil
  refine ⟨Fk ++ S1.filter fun b => decide (b ∉ Fk), ⟨Fk, S1.filter fun b => decide (b ∉ Fk), rfl, ⟨rfl, fun b hb => ?_⟩, _, [], by simp, ⟨rfl, fun b hb => h1 b (List.mem_filter.1 hb).1⟩, rfl⟩, ?_, fun b hb => .inl ?_, fun _ _ _ => rfl⟩
  ·obtain ⟨k1, k2⟩ := k.2 b hb
   exact ⟨by rw [(h1 b k1).1, k2], (h1 b k1).2⟩
  ·exact List.nodup_append.2 ⟨k.1, hn2.filter _, fun a ha b hb => by
    rintro rfl
    have := (List.mem_filter.1 hb).2
    simp at this; exact this ha⟩
  ·rw [List.append_nil]
   rcases List.mem_append.1 hb with hb | hb
   ·exact (k.2 b hb).1
   ·exact (List.mem_filter.1 hb).1
 ·refine Heap.step (es1 := [.keep Fk σk, .keep (S0.filter fun b => decide (b ∉ Fk)) σ2]) (es2 := [.keep S0 σ2]) (es := es') h' (Nat.le_refl _) fun S hS hnd hbd => ?_
  obtain ⟨S1, F1, rfl, ⟨rfl, h1⟩, S3, F3, rfl, ⟨rfl, h3⟩, hnil⟩ := hS
  cases hnil
  refine ⟨S0, ⟨S0, [], by simp, ⟨rfl, fun b hb => ?_⟩, rfl⟩, hn2, fun b hb => .inl ?_, fun _ _ _ => rfl⟩
  ·by_cases hm : b ∈ S1
   ·exact ⟨by rw [(h1 b hm).1, (k.2 b hm).2], (h1 b hm).2⟩
   ·exact h3 b (List.mem_filter.2 ⟨hb, by simpa using hm⟩)
  ·rw [List.append_nil]
   by_cases hm : b ∈ S1
   ·exact List.mem_append_left _ hm
   ·exact List.mem_append_right _ (List.mem_filter.2 ⟨hb, by simpa using hm⟩)
section
variable (P : Program) (md : Nat → Md) (X : Ext) {α : Type}
def j7_ (en : α → List T → List Ent) (n : Nat) (th : T) (Φ : Int → α → Option (Bool × α)) (F : List Nat) (σk : St) : Prop :=
 ∀ e S y hs, hs.length = n → Φ e S = some y → ∃ f a b, th = .fn f a b ∧ RawS P md X f (a ++ [.int .i64 e] ++ b) n (fun _ => .bool y.1) (en S hs ++ [.keep F σk]) (fun hs' => en y.2 hs' ++ [.keep F σk])
end
section
variable {P : Program} {md : Nat → Md} {X : Ext} {α : Type} {en : α → List T → List Ent} {n : Nat} {th : T} {Φ : Int → α → Option (Bool × α)} {F F2 : List Nat} {σk σ2 : St}
theorem j7_.mono (h : j7_ P md X en n th Φ F σk) (k : KLe F σk F2 σ2) : j7_ P md X en n th Φ F2 σ2 := fun e S y hs hl hy => by
 obtain ⟨f, a, b, e1, h1⟩ := h e S y hs hl hy
 refine ⟨f, a, b, e1, fun σ0 σ E hH => ?_⟩
 rw [List.append_assoc] at hH
 have hH := hH.perm List.perm_append_comm
 obtain ⟨F3, h2, h3⟩ := Heap.part (es := E ++ en S hs) hH k
 have h2 : Heap σ0 σ ((en S hs ++ [.keep F σk]) ++ (.keep F3 σ2 :: E)) := h2.perm (by
  rw [List.append_assoc]
  refine List.Perm.trans ?_ List.perm_append_comm
  simp only [List.cons_append, List.nil_append]; exact .refl _)
 obtain ⟨hs', σ', q1, q2, q3⟩ := h1 σ0 σ _ h2
 refine ⟨hs', σ', q1, q2, ?_⟩
 have q3 : Heap σ0 σ' (.keep F σk :: .keep F3 σ2 :: (E ++ en y.2 hs')) := q3.perm (by
  rw [List.append_assoc]
  refine List.Perm.trans List.perm_append_comm ?_
  simp only [List.cons_append, List.nil_append]; exact .refl _)
 have q4 := h3 _ _ q3
 rw [List.append_assoc]
 exact q4.perm (by
  refine List.Perm.trans ?_ List.perm_append_comm
  simp only [List.cons_append, List.nil_append]; exact .refl _)
variable {ops : Array Oper} {m : Mo} {l : List Oper} {K : Fr → Prop} {s : Nat → T} {σ σ0 : St} {L : List (Nat × T)} {es ents : List Ent}
variable {d : Option Nat} {ty : TypeId} {ps : String} {af : Array Edge} {g : Option (Nat × Bool)}
theorem RawS.keep {f n : Nat} {args : List T} {tree : List T → T} {ents : List Ent} {ents' : List T → List Ent} (h : RawS P md X f args n tree ents ents') (ks : List Ent) : RawS P md X f args n tree (ents ++ ks) (fun hs => ents' hs ++ ks) := fun σ0 σ E hH => by
 rw [List.append_assoc] at hH
 obtain ⟨hs, σ', h1, h2, h3⟩ := h σ0 σ (ks ++ E) hH
 exact ⟨hs, σ', h1, h2, by rw [List.append_assoc]; exact h3⟩
def Pt (F : List Nat) (σk : St) (pp : T) (c : List T) : Prop := (∃ rest, pp = .vw (c ++ rest)) ∨ ∃ b, pp = .ptr b 0 0 c.length ∧ Kb F σk b c
theorem Pt.mono {pp : T} {c : List T} (h : Pt F σk pp c) (k : KLe F σk F2 σ2) : Pt F2 σ2 pp c := h.imp id fun ⟨b, h1, h2⟩ => ⟨b, h1, h2.mono k⟩
theorem Pt.vw {c rest : List T} : Pt F σk (.vw (c ++ rest)) c := .inl ⟨rest, rfl⟩
theorem Pt.box {b : Nat} {c : List T} {n : Nat} (hn : n = c.length) (h : Kb F σk b c) : Pt F σk (.ptr b 0 0 n) c := .inr ⟨b, by rw [hn], h⟩
theorem Pt.one {pp : T} {c : List T} (h : Pt F σk pp c) : a0_ pp := by
 rcases h with ⟨rest, rfl⟩ | ⟨b, rfl, _⟩ <;> exact ⟨rfl, rfl⟩
theorem mQ_ {β : Type} [Enc β] [Hld false β] {t : T} {a : Sl β} (h : Heap σ0 σ (.flt (Enc.w β) t a.t :: es)) : ∃ D S, frz σ D t = some (a.t, S) := by
 rcases dc_ h with ⟨rfl, rfl⟩ | ⟨rfl, rfl⟩ | ⟨b, B, rfl, hz, hB, c1, c2, c3, c4, c5, c6⟩
 ·exact ⟨0, [], rfl⟩
 ·exact ⟨0, [], rfl⟩
 ·refine ⟨1, [b], ?_⟩
  have h1 : frzL (frz σ 0) (af_ a.l) = some (af_ a.l, []) := ai_ (fun t v S _ hq _ => do_ 0 t v S hq) (Hld.list (z := false) σ 0 a.l)
  simp only [frz, hB, Option.bind_some, List.drop_zero, c3, c6, h1, Option.map_some]
  rw [if_pos ⟨c2, c4⟩]
  show some (T.row false a.l.length (af_ a.l), [b]) = some (T.row a.z a.l.length (af_ a.l), [b])
  rw [hz]
theorem gP_ {β : Type} {r : β} {f : Nat} (hm : m.chg = true) {Sh : dW_ β} {fo : Operand} {as : Array Operand} {tys : Array TypeId} {ts vs : List T} (hw : want ops L g = some true) (hS : Sub L s) (hf : gE (get L) fo = some (.fn f [] [])) (ha : gEs (get L) as.toList = some ts)
  (hv : md f = .own) (hH : Heap σ0 σ es) (hh : ∃ D S, frzL (frz σ D) ts = some (vs, S)) (hr : semO P md X Sh f vs = some r)
  (k : ∀ hs σ' s', hs.length = Sh.n → Heap σ0 σ' (Sh.en hs r ++ es) → Sub (putL L d (Sh.tree hs r)) s' → opsX P (run P md X) ops (nxM m) l K ⟨s', σ'⟩) : opsX P (run P md X) ops m (⟨d, .call ⟨.value fo, as, tys⟩, ty, ps, af, g⟩ :: l) K ⟨s, σ⟩ := by
 obtain ⟨D, S, h1⟩ := hh
 obtain ⟨hs, σ1, m1, m2, m3⟩ := hP_ hr (σ.mark S)
 have hrun := fO_ hv h1 m2
 have hH' : Heap σ0 ⟨σ1.next, fun i => if i < σ.next then σ.blk i else σ1.blk i⟩ (Sh.en hs r ++ es) := by
  refine Heap.step (es1 := []) (es2 := Sh.en hs r) (es := es) hH m3.grow.nx fun S' hS' _ _ => ?_
  obtain ⟨F, q1, q2, q3⟩ := m3.ex
  refine ⟨F, q1.same fun b hb => ?_, q2, fun b hb => .inr (q3 b hb), fun b hb _ => ?_⟩
  ·have := (q3 b hb).1
   simp only [hF_] at this
   simp only; rw [if_neg (by omega)]
  ·simp only; rw [if_pos hb]
 refine gT_ (f := f) (args := [] ++ ts ++ []) (r := Sh.tree hs r) (σ' := ⟨σ1.next, fun i => if i < σ.next then σ.blk i else σ1.blk i⟩) hm rfl (av_ hS hw) (fun kk σ' => by rw [ga_, bk_ hS ha, Option.bind_some, ab_ hS hf]; rfl) (by simpa using hrun) m3.grow.nx (fun x hx => by simp only; rw [if_pos hx]) ?_
 rw [bD_]
 exact k _ _ _ m1 hH' (aN_ hS d _ σ)
end
end Go.Am
end
section
set_option linter.unusedVariables false
set_option linter.unusedSimpArgs false
namespace Go.Am
def idxE : List T → St → Option (T × St)
 | [.str s, .int .u8 c], σ => some (.int .i64 (firstIdx s c.toNat.toUInt8), σ)
 | _, _ => none
theorem oF_ {P : Program} {f : Nat} {fn : Func} (h1 : P.funcs[f]? = some fn) (h2 : (fn.name == "runtime.NumGoroutine") = false) (h3 : fn.body.isNone = true) (h4 : Extern.findNext fn = none) (h5 : Extern.find fn = some Extern.BytealgIndexByte.indexByte)
  (args : List T) (σ : St) (r : T) (σ' : St) (h : idxE args σ = some (r, σ')) : ej_ P f args σ r σ' := by
 intro B0 w0 E w vs hR hv
 unfold idxE at h
 split at h
 ·rename_i σ1 s c
  injection h with h; injection h with e1 e2; subst e1; subst e2
  match vs, hv with
  | [v1, v2], hv =>
   have a1 := hv.head
   have a2 := hv.tail.head
   cases a1; cases a2
   refine .inr ⟨_, w, ?_, E, .refl E, hR, .int .i64 _, .refl _ _ _⟩
   rw [run_callFunc_extern h1 h2 h3 h4 h5]
   show Result.andThen ((Extern.BytealgIndexByte.indexByte #[.string s, .int .u8 c]).run P w) _ = _
   rw [run_indexByte_string]; rfl
  | [], hv => have := hv.1; simp at this
  | [_], hv => have := hv.1; simp at this
  | _ :: _ :: _ :: _, hv => have := hv.1; simp at this
 ·cases h
theorem qt_ (args : List T) (σ : St) (r : T) (σ' : St) (h : idxE args σ = some (r, σ')) : σ' = σ ∧ ∀ σ2, idxE args σ2 = some (r, σ2) := by
 unfold idxE at h
 split at h
 ·injection h with h; injection h with e1 e2; subst e1; subst e2
  exact ⟨rfl, fun _ => rfl⟩
 ·cases h
section
variable {P : Program} {md : Nat → Md} {X : Ext} {β : Type} {eb : β → T} {f : Nat} {r : β}
variable {ops : Array Oper} {m : Mo} {l : List Oper} {K : Fr → Prop} {s : Nat → T} {σ : St} {L : List (Nat × T)}
variable {d : Option Nat} {ty : TypeId} {ps : String} {af : Array Edge} {g : Option (Nat × Bool)}
end
end Go.Am
namespace Go.Am
theorem i8_.of_ok {P : Program} {f : Nat} {c : Code} {n : Nat} {rs : List ResultVar} (h : Ok P f c n rs) : i8_ P f := by
 obtain ⟨fn, h1, h2, h3, _⟩ := h
 exact ⟨fn, _, h1, h2, h3⟩
end Go.Am
namespace Go.Am
section
variable {P : Program} {O : an_} {Q : al_ → Fr → Prop} {s : Nat → T} {σ : St} {L : List (Nat × T)}
theorem c_cT {c : Operand} {a b : Code} {t : Bool} (h : t = true) (hS : Sub L s) (hc : gE (get L) c = some (.bool t)) (k : codeQ P O a Q ⟨s, σ⟩) : codeQ P O (.cond c a b) Q ⟨s, σ⟩ := lU_ hS hc (fun _ => k) (fun hf => km_ h hf)
end
end Go.Am
namespace Go.Am
section
variable {σ0 σ : St} {es : List Ent}
theorem Heap.up1 {a0 a1 : Ent} (h : Heap σ0 σ (a0 :: a1 :: es)) : Heap σ0 σ (a1 :: a0 :: es) := h.pull 1
theorem Heap.up2 {a0 a1 a2 : Ent} (h : Heap σ0 σ (a0 :: a1 :: a2 :: es)) : Heap σ0 σ (a2 :: a0 :: a1 :: es) := h.pull 2
theorem Heap.up4 {a0 a1 a2 a3 a4 : Ent} (h : Heap σ0 σ (a0 :: a1 :: a2 :: a3 :: a4 :: es)) : Heap σ0 σ (a4 :: a0 :: a1 :: a2 :: a3 :: es) := h.pull 4
theorem Heap.up5 {a0 a1 a2 a3 a4 a5 : Ent} (h : Heap σ0 σ (a0 :: a1 :: a2 :: a3 :: a4 :: a5 :: es)) : Heap σ0 σ (a5 :: a0 :: a1 :: a2 :: a3 :: a4 :: es) := h.pull 5
theorem Heap.up6 {a0 a1 a2 a3 a4 a5 a6 : Ent} (h : Heap σ0 σ (a0 :: a1 :: a2 :: a3 :: a4 :: a5 :: a6 :: es)) : Heap σ0 σ (a6 :: a0 :: a1 :: a2 :: a3 :: a4 :: a5 :: es) := h.pull 6
theorem Heap.up7 {a0 a1 a2 a3 a4 a5 a6 a7 : Ent} (h : Heap σ0 σ (a0 :: a1 :: a2 :: a3 :: a4 :: a5 :: a6 :: a7 :: es)) : Heap σ0 σ (a7 :: a0 :: a1 :: a2 :: a3 :: a4 :: a5 :: a6 :: es) := h.pull 7
end
end Go.Am
end
section
set_option linter.unusedVariables false
set_option linter.unusedSimpArgs false
namespace Go.Am
def Kn (σ0 : St) (L : List (Nat × T)) (es : List Ent) (p : Prop) (G : Fr → Prop) : Prop := p → ∀ s σ, Sub L s → Heap σ0 σ es → G ⟨s, σ⟩
inductive Ct where
 | s (c : Code)
 | b (i : Nat)
inductive Wh where
 | c (c : Code)
 | x (e : al_)
def nx : Nat → Wh → List Ct → Option (Wh × List Ct)
 | 0, _, _ => none
 | n + 1, .c c, k => match c with
  | .seq a b => nx n (.c a) (.s b :: k)
  | .block i c => nx n (.c c) (.b i :: k)
  | .skip => nx n (.x .normal) k
  | .exit i => nx n (.x (.exit i)) k
  | .ret => nx n (.x .ret) k
  | c => some (.c c, k)
 | n + 1, .x e, k => match k with
  | [] => some (.x e, [])
  | .s c :: k => match e with
   | .normal => nx n (.c c) k
   | .exit j => nx n (.x (.exit j)) k
   | .ret => nx n (.x .ret) k
  | .b i :: k => match e with
   | .exit j => match Nat.beq j i with
    | true => nx n (.x .normal) k
    | false => nx n (.x (.exit j)) k
   | .normal => nx n (.x .normal) k
   | .ret => nx n (.x .ret) k
section
variable (P : Program) (O : an_)
def popQ : List Ct → (al_ → Fr → Prop) → al_ → Fr → Prop
 | [], Q => Q
 | .s c :: k, Q => seqQ (codeQ P O c (popQ k Q)) (popQ k Q)
 | .b i :: k, Q => blkQ i (popQ k Q)
def whQ : Wh → List Ct → (al_ → Fr → Prop) → Fr → Prop
 | .c c, k, Q, fr => codeQ P O c (popQ P O k Q) fr
 | .x e, k, Q, fr => popQ P O k Q e fr
end
section
variable {P : Program} {O : an_} {Q : al_ → Fr → Prop} {fr : Fr}
theorem nx_ok : ∀ {n : Nat} {w : Wh} {k : List Ct} {w' : Wh} {k' : List Ct}, nx n w k = some (w', k') → whQ P O w' k' Q fr → whQ P O w k Q fr
 | 0, _, _, _, _, h, _ => by cases h
 | n + 1, .c c, k, w', k', h, g => by
  have hd : ∀ c, some (Wh.c c, k) = some (w', k') → whQ P O (.c c) k Q fr := fun c h => by injection h with h; injection h with h1 h2; subst h1; subst h2; exact g
  cases c with
  | seq a b => exact nx_ok (n := n) (w := .c a) (k := .s b :: k) h g
  | block i c => exact nx_ok (n := n) (w := .c c) (k := .b i :: k) h g
  | skip => exact nx_ok (n := n) (w := .x .normal) h g
  | exit i => exact nx_ok (n := n) (w := .x (.exit i)) h g
  | ret => exact nx_ok (n := n) (w := .x .ret) h g
  | _ => exact hd _ h
 | n + 1, .x e, [], w', k', h, g => by injection h with h; injection h with h1 h2; subst h1; subst h2; exact g
 | n + 1, .x e, .s c :: k, w', k', h, g => by
  cases e with
  | normal => exact nx_ok (n := n) (w := .c c) (k := k) h g
  | exit j => exact nx_ok (n := n) (w := .x (.exit j)) (k := k) h g
  | ret => exact nx_ok (n := n) (w := .x .ret) (k := k) h g
 | n + 1, .x e, .b i :: k, w', k', h, g => by
  cases e with
  | normal => exact nx_ok (n := n) (w := .x .normal) (k := k) h g
  | exit j =>
   simp only [nx] at h
   show popQ P O k Q (if j = i then .normal else .exit j) fr
   split at h
   ·rename_i hb; rw [if_pos (Nat.eq_of_beq_eq_true hb)]; exact nx_ok (n := n) (w := .x .normal) (k := k) h g
   ·rename_i hb; rw [if_neg (fun e => by rw [e] at hb; simp at hb)]; exact nx_ok (n := n) (w := .x (.exit j)) (k := k) h g
  | ret => exact nx_ok (n := n) (w := .x .ret) (k := k) h g
end
def foL {α β : Type} : List α → (List α → Option β) → Option β
 | [], k => k []
 | x :: xs, k => foL xs fun ys => k (x :: ys)
theorem bw_ {α β : Type} : ∀ (l : List α) (k : List α → Option β), foL l k = k l
 | [], _ => rfl
 | x :: xs, k => by rw [foL, bw_ xs]
def tkL {β : Type} : Nat → List T → (List T → Option β) → Option β
 | 0, _, k => k []
 | _ + 1, [], _ => none
 | n + 1, x :: xs, k => tkL n xs fun ys => k (x :: ys)
theorem gZ_ {β : Type} {b : β} : ∀ {n : Nat} {l : List T} {k : List T → Option β}, tkL n l k = some b → n ≤ l.length ∧ k (l.take n) = some b
 | 0, l, k, h => ⟨Nat.zero_le _, by simpa [tkL] using h⟩
 | n + 1, [], k, h => by cases h
 | n + 1, x :: xs, k, h => by
  obtain ⟨h1, h2⟩ := gZ_ (n := n) (l := xs) h
  exact ⟨by simp; omega, by simpa using h2⟩
def drL : Nat → List T → Option (List T)
 | 0, l => some l
 | _ + 1, [] => none
 | n + 1, _ :: xs => drL n xs
theorem drL_some : ∀ {n : Nat} {l r : List T}, drL n l = some r → n ≤ l.length ∧ r = l.drop n
 | 0, l, r, h => ⟨Nat.zero_le _, by injection h with h; simp [h]⟩
 | n + 1, [], r, h => by cases h
 | n + 1, x :: xs, r, h => by
  obtain ⟨h1, h2⟩ := drL_some (n := n) (l := xs) h
  exact ⟨by simp; omega, by simpa using h2⟩
def ih_ (P : Program) (t : TypeId) (cs : List T) (off : Nat) : Option T :=
 match drL off cs with
 | some cs => match fr_ P t with
  | some true => match szOf P t with
   | some n => tkL n cs fun l => some (.agg l)
   | none => none
  | some false => match cs with
   | x :: _ => some x
   | [] => none
  | none => none
 | none => none
theorem iF_ {P : Program} {t : TypeId} {cs : List T} {off : Nat} {v : T} (h : ih_ P t cs off = some v) : part P t cs off = some v := by
 unfold ih_ at h
 split at h
 ·rename_i r hr
  obtain ⟨h1, rfl⟩ := drL_some hr
  unfold part
  split at h
  ·rename_i ha
   split at h
   ·rename_i n hn
    obtain ⟨h2, h3⟩ := gZ_ h
    simp only [List.length_drop] at h2
    rw [ha, Option.bind_some, hn]
    simp only [if_true, Option.bind_some]
    rw [if_pos (by omega)]; exact h3
   ·cases h
  ·rename_i ha
   rw [ha, Option.bind_some]
   simp only [Bool.false_eq_true, if_false]
   split at h
   ·rename_i x xs hx
    injection h with h; subst h
    have := congrArg (·[0]?) hx
    simpa using this
   ·cases h
  ·cases h
 ·cases h
def k9_ (place : Nat → Option (Nat × Nat)) (cells : List T) : List (Nat × T) → Option (List T)
 | [] => some cells
 | (i, v) :: rest => match place i with
  | some (off, size) => match Nat.beq v.cells.length size && Nat.ble (off + size) cells.length && v.cells.all T.one with
   | true => foL (splice cells off v.cells) fun cells => k9_ place cells rest
   | false => none
  | none => none
theorem iU_ {place : Nat → Option (Nat × Nat)} : ∀ {ps : List (Nat × T)} {cells r : List T}, k9_ place cells ps = some r → cq_ place cells ps = some r
 | [], _, _, h => h
 | (i, v) :: rest, cells, r, h => by
  simp only [k9_] at h
  split at h
  ·rename_i off size hp
   split at h
   ·rename_i hc
    simp only [Bool.and_eq_true] at hc
    rw [bw_] at h
    simp only [cq_, hp, Option.bind_some]
    rw [if_pos ⟨Nat.eq_of_beq_eq_true hc.1.1, Nat.le_of_ble_eq_true hc.1.2, hc.2⟩]
    exact iU_ h
   ·cases h
  ·cases h
def pF (P : Program) (g : Nat → Option T) (op : Op) : Option T :=
 match op with
 | .build t parts => match az_ P t with
  | some z => match gPs g parts.toList with
   | some ps => match okP P t with
    | true => match k9_ (fun i => match aV_ P t i with | some (o, _, n) => some (o, n) | none => none) z ps with
     | some cs => foL cs fun cs => some (.agg cs)
     | none => none
    | false => none
   | none => none
  | none => none
 | .load t a => match gE g a with
  | some (.vw cs) => ih_ P t cs 0
  | _ => none
 | .field t x f => match gE g x with
  | some (.agg cs) => match aV_ P t f with
   | some (off, ft, _) => ih_ P ft cs off
   | none => none
  | _ => none
 | .fieldAddr t x f => match gE g x with
  | some x => match aV_ P t f with
   | some (off, _, n) => match x with
    | .ptr b e o m => match !Nat.beq n 0 && Nat.ble (off + n) m with
     | true => some (.ptr b e (o + off) n)
     | false => none
    | .vw cs => match n with
     | 0 => none
     | _ + 1 => match drL off cs with
      | some cs' => match tkL n cs' (fun _ => some ()) with
       | some _ => some (.vw cs')
       | none => none
      | none => none
    | _ => none
   | none => none
  | none => none
 | op => pOp P g op
theorem pf_ {P : Program} {g : Nat → Option T} {op : Op} {v : T} (h : pF P g op = some v) : pOp P g op = some v := by
 cases op with
 | build t parts =>
  simp only [pF] at h
  split at h
  ·rename_i z hz
   split at h
   ·rename_i ps hp
    split at h
    ·rename_i hk
     split at h
     ·rename_i cs hc
      rw [bw_] at h
      have e : (fun i => (aV_ P t i).map fun (o, _, n) => (o, n)) = fun i => match aV_ P t i with | some (o, _, n) => some (o, n) | none => none := by
       funext i; cases aV_ P t i <;> rfl
      simp only [pOp, hz, hp, hk, e, iU_ hc]; exact h
     ·cases h
    ·cases h
   ·cases h
  ·cases h
 | load t a =>
  simp only [pF] at h
  split at h
  ·rename_i hc; simp only [pOp, hc]; exact iF_ h
  ·cases h
 | field t x f =>
  simp only [pF] at h
  split at h
  ·rename_i hc
   split at h
   ·rename_i hf; simp only [pOp, hc, hf]; exact iF_ h
   ·cases h
  ·cases h
 | fieldAddr t x f =>
  simp only [pF] at h
  split at h
  ·rename_i hx
   split at h
   ·rename_i hf
    simp only [pOp, hx, hf]
    split at h
    ·split at h
     ·rename_i hc
      simp only [Bool.and_eq_true, Bool.not_eq_true'] at hc
      show (if _ = 0 then none else if _ then _ else none) = _; rw [if_neg (fun (e : _ = 0) => by rw [e] at hc; simp at hc), if_pos (Nat.le_of_ble_eq_true hc.2)]; exact h
     ·cases h
    ·split at h
     ·cases h
     ·split at h
      ·rename_i cs' hd
       obtain ⟨h1, rfl⟩ := drL_some hd
       split at h
       ·rename_i u hu
        obtain ⟨h2, _⟩ := gZ_ hu
        simp only [List.length_drop] at h2
        show (if _ = 0 then none else if _ then _ else none) = _; rw [if_neg (by omega), if_pos (by omega)]; exact h
       ·cases h
      ·cases h
    ·cases h
   ·cases h
  ·cases h
 | _ => exact h
def sg (P : Program) (ops : Array Oper) : Nat → List Oper → List (Nat × T) → Option (List (Nat × T) × List Oper)
 | 0, l, L => some (L, l)
 | _ + 1, [], _ => none
 | n + 1, o :: l, L => match want ops L o.guard with
  | some true => match pF P (get L) o.op with
   | some v => match o.dst with
    | some d => sg P ops n l ((d, v) :: L)
    | none => sg P ops n l L
   | none => none
  | some false => match o.dst with
   | some d => sg P ops n l ((d, .tup []) :: L)
   | none => sg P ops n l L
  | none => none
theorem gy_ {P : Program} {ops : Array Oper} : ∀ {n : Nat} {l : List Oper} {L : List (Nat × T)} {M : List (Nat × T)} {l' : List Oper}, sg P ops n l L = some (M, l') → seg P ops n l L = some M ∧ l' = l.drop n
 | 0, l, L, M, l', h => by injection h with h; injection h with h1 h2; subst h1; subst h2; exact ⟨rfl, rfl⟩
 | n + 1, [], L, M, l', h => by cases h
 | n + 1, o :: l, L, M, l', h => by
  simp only [sg] at h
  simp only [seg, List.drop_succ_cons]
  split at h
  ·rename_i hw
   split at h
   ·rename_i v hv
    simp only [hw, pf_ hv]
    split at h
    ·rename_i d hd; rw [hd]; exact gy_ h
    ·rename_i hd; rw [hd]; exact gy_ h
   ·cases h
  ·rename_i hw
   simp only [hw]
   split at h
   ·rename_i d hd; rw [hd]; exact gy_ h
   ·rename_i hd; rw [hd]; exact gy_ h
  ·cases h
def sgA (P : Program) (ops : Array Oper) : List Oper → List (Nat × T) → Option (List (Nat × T))
 | [], L => some L
 | o :: l, L => match want ops L o.guard with
  | some true => match pF P (get L) o.op with
   | some v => match o.dst with
    | some d => sgA P ops l ((d, v) :: L)
    | none => sgA P ops l L
   | none => none
  | some false => match o.dst with
   | some d => sgA P ops l ((d, .tup []) :: L)
   | none => sgA P ops l L
  | none => none
theorem fD_ {P : Program} {ops : Array Oper} : ∀ {l : List Oper} {L : List (Nat × T)} {M : List (Nat × T)}, sgA P ops l L = some M → seg P ops l.length l L = some M
 | [], L, M, h => by injection h with h; subst h; rfl
 | o :: l, L, M, h => by
  simp only [sgA] at h
  simp only [seg, List.length_cons]
  split at h
  ·rename_i hw
   split at h
   ·rename_i v hv
    simp only [hw, pf_ hv]
    split at h
    ·rename_i d hd; rw [hd]; exact fD_ h
    ·rename_i hd; rw [hd]; exact fD_ h
   ·cases h
  ·rename_i hw
   simp only [hw]
   split at h
   ·rename_i d hd; rw [hd]; exact fD_ h
   ·rename_i hd; rw [hd]; exact fD_ h
  ·cases h
section
variable {P : Program} {O : an_} {ops : Array Oper} {m : Mo} {l l' : List Oper} {K : Fr → Prop} {σ0 : St} {L L' : List (Nat × T)} {es es' : List Ent} {p q : Prop} {G : Fr → Prop}
variable {Q : al_ → Fr → Prop} {k k' : List Ct} {w w' : Wh} {s : Nat → T} {σ : St}
theorem t_bk (h : p) (hS : Sub L s) (hH : Heap σ0 σ es) (kk : Kn σ0 L es p G) : G ⟨s, σ⟩ := kk h s σ hS hH
theorem t_h (f : ∀ {σ}, Heap σ0 σ es → Heap σ0 σ es') (kk : Kn σ0 L es' p G) : Kn σ0 L es p G := fun h s σ hS hH => kk h s σ hS (f hH)
theorem t_U (n : Nat) (kk : Kn σ0 L' es p (opsX P O ops (nxN n m) l' K)) (h : sg P ops n l L = some (L', l') := by rfl) : Kn σ0 L es p (opsX P O ops m l K) := fun hp s σ hS hH => by
 obtain ⟨h1, rfl⟩ := gy_ h
 exact seg_sound h1 hS fun s' hM => kk hp s' σ hM hH
theorem t_N (kk : Kn σ0 L' es p (whQ P O w' k' Q)) (h : sgA P ops l L = some L' := by rfl) (h2 : nx 99 (.x .normal) k = some (w', k') := by rfl) : Kn σ0 L es p (opsX P O ops m l (popQ P O k Q .normal)) := fun hp s σ hS hH =>
 seg_sound (fD_ h) hS fun s' hM => by
  rw [List.drop_length]
  exact oS_ (nx_ok (w := .x .normal) h2 (kk hp s' σ hM hH))
theorem t_R {id : Nat} (kk : Kn σ0 L es p (opsX P O ops .q ops.toList (popQ P O k Q .normal))) : Kn σ0 L es p (whQ P O (.c (.region id ops false)) k Q) := kk
theorem t_RU {id : Nat} (n : Nat) (kk : Kn σ0 L' es p (opsX P O ops .q l' (popQ P O k Q .normal))) (h : sg P ops n ops.toList L = some (L', l') := by rfl) : Kn σ0 L es p (whQ P O (.c (.region id ops false)) k Q) := fun hp s σ hS hH => by
 obtain ⟨h1, rfl⟩ := gy_ h
 have e : ∀ n, nxN n Mo.q = .q := fun n => by induction n with
  | zero => rfl
  | succ n ih => exact ih
 exact seg_sound (m := .q) h1 hS fun s' hM => by rw [e]; exact kk hp s' σ hM hH
theorem t_RN {id : Nat} (kk : Kn σ0 L' es p (whQ P O w' k' Q)) (h : sgA P ops ops.toList L = some L' := by rfl) (h2 : nx 99 (.x .normal) k = some (w', k') := by rfl) : Kn σ0 L es p (whQ P O (.c (.region id ops false)) k Q) := t_R (t_N kk h h2)
theorem t_go {c : Code} (h : p) (hS : Sub L s) (hH : Heap σ0 σ es) (kk : Kn σ0 L es p (whQ P O w' k' Q)) (hn : nx 99 (.c c) [] = some (w', k') := by rfl) : codeQ P O c Q ⟨s, σ⟩ := nx_ok (w := .c c) (k := []) hn (kk h s σ hS hH)
end
section
variable {P : Program} {O : an_} {ops : Array Oper} {m : Mo} {l : List Oper} {K : Fr → Prop} {σ0 : St} {L L' : List (Nat × T)} {es es' : List Ent} {p q : Prop} {G : Fr → Prop} {γ : Type} {r : γ} {x y : Option γ}
variable {Q : al_ → Fr → Prop} {k k1 k2 : List Ct} {w1 w2 : Wh} {c : Operand} {a b : Code} {t : Bool}
theorem t_if (h1 : t = true → Kn σ0 L es (x = some r) (whQ P O w1 k1 Q)) (h2 : ¬ (t = true) → Kn σ0 L es (y = some r) (whQ P O w2 k2 Q)) (hc : gE (get L) c = some (.bool t) := by rfl) (e1 : nx 99 (.c a) k = some (w1, k1) := by rfl) (e2 : nx 99 (.c b) k = some (w2, k2) := by rfl) : Kn σ0 L es ((if t = true then x else y) = some r) (whQ P O (.c (.cond c a b)) k Q) := fun hp s σ hS hH =>
 lU_ hS hc (fun h => nx_ok (w := .c a) e1 (h1 h (l6_ h hp) s σ hS hH)) (fun h => have h : ¬ (t = true) := by simp [h]
  nx_ok (w := .c b) e2 (h2 h (l0_ h hp) s σ hS hH))
theorem t_cT (h : t = true) (kk : Kn σ0 L es p (whQ P O w1 k1 Q)) (hc : gE (get L) c = some (.bool t) := by rfl) (e1 : nx 99 (.c a) k = some (w1, k1) := by rfl) : Kn σ0 L es p (whQ P O (.c (.cond c a b)) k Q) := fun hp s σ hS hH =>
 c_cT h hS hc (nx_ok (w := .c a) e1 (kk hp s σ hS hH))
theorem bo_ (d : Nat) (h1 : t = true → Kn σ0 ((d, .bool true) :: L) es (x = some r) G) (h2 : ¬ (t = true) → Kn σ0 ((d, .bool false) :: L) es (y = some r) G) (hc : get L d = some (.bool t) := by rfl) : Kn σ0 L es ((if t = true then x else y) = some r) G := fun hp s σ hS hH => by
 have e := hS d _ hc
 by_cases h : t = true
 ·exact h1 h (l6_ h hp) s σ (iX_ hS (by rw [e, h])) hH
 ·exact h2 h (l0_ h hp) s σ (iX_ hS (by rw [e]; simp at h; rw [h])) hH
end
end Go.Am
end
