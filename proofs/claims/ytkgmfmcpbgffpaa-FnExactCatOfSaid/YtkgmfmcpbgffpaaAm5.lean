/- The abstract machine. -/
import Derived.Test.YtkgmfmcpbgffpaaAm4
import Derived.Laws.Externs
section
set_option linter.unusedVariables false
set_option linter.unusedSimpArgs false
namespace Go.Am
open Classical
def Lent (σ : St) (b : Nat) (cells : List T) : Prop := b < σ.next ∧ ∃ B, σ.blk b = some B ∧ B.cells = cells ∧ B.ep = 0 ∧ B.low = 0
def hL_ (σ : St) : List Nat → List (List T) → Prop
 | [], [] => True
 | b :: bs, c :: cs => Lent σ b c ∧ hL_ σ bs cs
 | _, _ => False
theorem Lent.grow {σ σ' : St} {b : Nat} {cells : List T} (h : Lent σ b cells) (g : Grow σ σ') : Lent σ' b cells := by
 obtain ⟨h1, B, h2, h3⟩ := h
 exact ⟨Nat.lt_of_lt_of_le h1 g.nx, B, by rw [g.old b h1, h2], h3⟩
theorem Heap.lent {σ0 σ : St} {b : Nat} {cells : List T} {es : List Ent} (h : Heap σ0 σ (.box b cells :: es)) : Lent σ b cells := by
 obtain ⟨S, ⟨rfl, B, h1, h2, h3, h4, _⟩, _, h5⟩ := h.head
 exact ⟨(h5 b (by simp)).2, B, h1, h2, h3, h4⟩
theorem lent_ex : ∀ (cs : List (List T)), ∃ σ bs, hL_ σ bs cs := by
 intro cs
 have key : ∀ (cs : List (List T)) (k : Nat) (σ : St), (∀ i c, cs[i]? = some c → Lent σ (k + i) c) → hL_ σ (List.range' k cs.length) cs := by
  intro cs
  induction cs with
  | nil => intro k σ _; trivial
  | cons c cs ih =>
   intro k σ h
   exact ⟨h 0 c (by simp), ih (k + 1) σ fun i c hi => by have := h (i + 1) c (by simpa using hi); rwa [show k + (i + 1) = k + 1 + i by omega] at this⟩
 refine ⟨⟨cs.length, fun i => (cs[i]?).map fun c => ap_ c 1⟩, _, key cs 0 _ fun i c hi => ?_⟩
 exact ⟨by have := (List.getElem?_eq_some_iff.1 hi).1; simpa using this, ap_ c 1, by simp [hi], rfl, rfl, rfl⟩
section
variable {P : Program} {md : Nat → Md} {X : Ext} {β : Type} {eb : β → T} {f : Nat} {r : β}
variable {O : al_} {ops : Array Oper} {m : Mo} {l : List Oper} {K : Fr → Prop} {s : Nat → T} {σ σ0 : St} {L : List (Nat × T)} {es ents : List Ent}
variable {d : Option Nat} {ty : TypeId} {ps : String} {af : Array Edge} {g : Option (Nat × Bool)}
def l0_ (P : Program) (md : Nat → Md) (X : Ext) (Sh : dS_ β) (f : Nat) (mk : List Nat → List T) (cs : List (List T)) (r : β) : Prop :=
 ∀ σ bs, hL_ σ bs cs → ∃ hs σ', hs.length = Sh.n ∧ run P md X f (mk bs) σ = some (Sh.tree hs r, σ') ∧ Heap σ σ' (Sh.en hs r) ∧ ∀ b, b < σ.next → σ'.blk b = σ.blk b
theorem l0_.uniq {Sh : dS_ β} {mk : List Nat → List T} {cs : List (List T)} {r r' : β} (h : l0_ P md X Sh f mk cs r) (h' : l0_ P md X Sh f mk cs r') : r = r' := by
 obtain ⟨σ, bs, hl⟩ := lent_ex cs
 obtain ⟨hs, σ', h1, h2, h3, _⟩ := h σ bs hl
 obtain ⟨hs', σ2, h4, h5, h6, _⟩ := h' σ bs hl
 rw [h2] at h5; injection h5 with h5; injection h5 with h5 h7
 subst h7
 obtain ⟨D, S, k1, _⟩ := (Sh.ok hs r h1).frz (es := []) (by simpa using h3)
 obtain ⟨D', S', k2, _⟩ := (Sh.ok hs' r' h4).frz (es := []) (by simpa using h6)
 rw [← h5] at k2
 have := bI_ k1 k2
 injection this with e _
 injection e with e _
 exact Sh.inj _ _ e
end
section
variable {P : Program} {O : al_} {ops : Array Oper} {m : Mo} {l : List Oper} {K : Fr → Prop} {s : Nat → T} {σ : St} {L : List (Nat × T)}
variable {d : Option Nat} {ty : TypeId} {ps : String} {af : Array Edge} {g : Option (Nat × Bool)}
end
def j2_ (o : Oper) : Bool := (match o.op with
 | .alloc _ => true
 | .box _ _ => true
 | .buildSlice _ _ _ => true
 | .makeSlice _ _ _ => true
 | _ => false) && o.guard.isNone
def dr_ (ops : Array Oper) (i : Nat) : Bool := match ops[i]? with
 | some o => j2_ o
 | none => false
def wk1 (md : Nat → Md) (ops : Array Oper) (i : Nat) : Bool := match ops[i]? with
 | some o => match o.op with
  | .store .. => true
  | .call d => match d.callee with
   | .builtin .append => true
   | .value (.func f) => decide (md f = .raw)
   | .value (.tmp _) => true
   | _ => false
  | _ => false
 | none => false
def vwB (vs : List Nat) (md : Nat → Md) (ops : Array Oper) (i : Nat) : Bool := vs.elem i && !dr_ ops i && !wk1 md ops i
def aJ_ (vs : List Nat) (md : Nat → Md) (ops : Array Oper) : List Nat := (List.range ops.size).filter fun i => match ops[i]? with
 | some o => isChg o.op && !vwB vs md ops i
 | none => false
def cmpB (vs : List Nat) (md : Nat → Md) (ops : Array Oper) (i : Nat) : Bool := (aJ_ vs md ops).all fun k => bif Nat.blt k i then eQ_ ((ancM ops).getD i 0) k else (Nat.beq k i || dr_ ops k || eQ_ ((ancM ops).getD k 0) i)
def wkB (md : Nat → Md) (ops : Array Oper) (c i : Nat) : Bool := Nat.beq c i && wk1 md ops i
def cmp1 (ops : Array Oper) (k i : Nat) : Bool := bif Nat.blt k i then eQ_ ((ancM ops).getD i 0) k else (Nat.beq k i || dr_ ops k || eQ_ ((ancM ops).getD k 0) i)
def ckB (md : Nat → Md) (ops : Array Oper) (c i : Nat) : Bool := !wk1 md ops c || cmp1 ops c i
def kS_ (vs : List Nat) (md : Nat → Md) (ops : Array Oper) : Cmp := ⟨vwB vs md ops, cmpB vs md ops, ckB md ops, wkB md ops⟩
def jn_ (vs : List Nat) (md : Nat → Md) (ops : Array Oper) : Bool := (aJ_ vs md ops).all fun i => (aJ_ vs md ops).all fun j => !Nat.blt i j || dr_ ops j || eQ_ ((ancM ops).getD j 0) i
def aF_ (ch : List Nat) (c : Nat → Bool) : Nat := ch.foldr (fun k a => if c k then max (k + 1) a else a) 0
theorem bH_ {ch : List Nat} {c : Nat → Bool} {n : Nat} : aF_ ch c ≤ n ↔ ∀ k ∈ ch, c k = true → k + 1 ≤ n := by
 induction ch with
 | nil => simp [aF_]
 | cons a ch ih =>
  have e : aF_ (a :: ch) c = if c a then max (a + 1) (aF_ ch c) else aF_ ch c := rfl
  rw [e]
  by_cases h : c a = true
  ·rw [if_pos h]
   constructor
   ·intro hle k hk hc
    rcases List.mem_cons.1 hk with rfl | hk
    ·omega
    ·exact ih.1 (by omega) k hk hc
   ·intro hall
    have := hall a (by simp) h
    have := ih.2 fun k hk hc => hall k (by simp [hk]) hc
    omega
  ·rw [if_neg h]
   exact ⟨fun hle k hk hc => by rcases List.mem_cons.1 hk with rfl | hk; exact absurd hc h; exact ih.1 hle k hk hc, fun hall => ih.2 fun k hk hc => hall k (by simp [hk]) hc⟩
theorem di_ {ch : List Nat} {c c' : Nat → Bool} (h : ∀ k ∈ ch, c k = c' k) : aF_ ch c = aF_ ch c' := by
 apply Nat.le_antisymm
 ·exact bH_.2 fun k hk hc => bH_.1 (Nat.le_refl _) k hk (by rw [← h k hk]; exact hc)
 ·exact bH_.2 fun k hk hc => bH_.1 (Nat.le_refl _) k hk (by rw [h k hk]; exact hc)
theorem iu_ {ch : List Nat} {c : Nat → Bool} {i : Nat} (hi : i ∈ ch) (hc : c i = true) (h : ∀ k ∈ ch, c k = true → k ≤ i) : aF_ ch c = i + 1 :=
 Nat.le_antisymm (bH_.2 fun k hk hck => by have := h k hk hck; omega) (bH_.1 (Nat.le_refl _) i hi hc)
theorem g5_ {ch : List Nat} {c : Nat → Bool} (h : aF_ ch c ≠ 0) : ∃ k ∈ ch, c k = true ∧ aF_ ch c = k + 1 := by
 induction ch with
 | nil => simp [aF_] at h
 | cons a ch ih =>
  have e : aF_ (a :: ch) c = if c a then max (a + 1) (aF_ ch c) else aF_ ch c := rfl
  rw [e] at h ⊢
  by_cases hc : c a = true
  ·rw [if_pos hc] at h ⊢
   by_cases hm : aF_ ch c ≤ a + 1
   ·exact ⟨a, by simp, hc, by omega⟩
   ·obtain ⟨k, k1, k2, k3⟩ := ih (by omega)
    exact ⟨k, by simp [k1], k2, by omega⟩
  ·rw [if_neg hc] at h ⊢
   obtain ⟨k, k1, k2, k3⟩ := ih h
   exact ⟨k, by simp [k1], k2, k3⟩
def St.over (σ : St) (p : Nat → Bool) (Bk : Nat → Blk) : St := ⟨σ.next, fun i => if p i = true then some (Bk i) else σ.blk i⟩
theorem ef_ {σ : St} {p : Nat → Bool} {Bk : Nat → Blk} (h : ∀ i, p i = false) : σ.over p Bk = σ := St.ext' rfl fun i => by simp [St.over, h i]
theorem jQ_ {σ : St} {p q r : Nat → Bool} {Bk : Nat → Blk} (h : ∀ i, r i = (p i || q i)) : (σ.over p Bk).over q Bk = σ.over r Bk := St.ext' rfl fun i => by
 simp only [St.over, h i]
 cases hq : q i <;> cases hp : p i <;> simp
theorem gF_ {σ : St} {p : Nat → Bool} {Bk : Nat → Blk} {x : Nat} : (σ.over p Bk).set x (Bk x) = σ.over (fun i => p i || decide (i = x)) Bk := St.ext' rfl fun i => by
 simp only [St.over, St.set]
 by_cases h : i = x
 ·subst h; simp
 ·simp [h]
section
variable {P : Program} {md : Nat → Md} {X : Ext} {O : al_} {ops : Array Oper} {K : Fr → Prop} {s : Nat → T} {b : Nat} {W : Nat → Nat → Prop} {σs : St} {cm : Cmp}
theorem eg_ {i : Nat} {o : Oper} (ho : ops[i]? = some o) (s : Nat → T) (σ : St) : cm_ P O ops b i s σ = cc_ P O ops (b + i) o s σ := by
 unfold cm_ cc_; rw [ho]; rfl
theorem jk_ (hX : XOk X) {k : Nat} {o : Oper} {s : Nat → T} {σ σ' : St} {v : T} {x : Nat} {B : Blk} (h : cc_ P (run P md X) ops k o s σ = some (v, σ')) (hk : k ≠ x) (hx : σ.blk x = none) (hl : x < σ.next) :
  cc_ P (run P md X) ops k o s (σ.set x B) = some (v, σ'.set x B) ∧ σ'.blk x = none ∧ x < σ'.next := by
 unfold cc_ at h ⊢
 have hk' : some k ≠ some x := fun e => hk (by injection e)
 split at h
 ·rename_i hw
  rw [if_pos hw]
  obtain ⟨r, h1, h2⟩ := Option.bind_eq_some_iff.1 h
  cases r with
  | val v' σ1 =>
   injection h2 with h2; injection h2 with e1 e2; subst e1; subst e2
   obtain ⟨a1, a2⟩ := jh_ (fr := ⟨s, σ⟩) (B := B) hk' hx hl h1
   have a1 : aOp P (some k) ⟨s, σ.set x B⟩ o = _ := a1
   rw [a1]; exact ⟨rfl, a2⟩
  | skip σ1 =>
   injection h2 with h2; injection h2 with e1 e2; subst e1; subst e2
   obtain ⟨a1, a2⟩ := ix_ (fr := ⟨s, σ⟩) (B := B) hk' hx hl h1
   have a1 : aOp P (some k) ⟨s, σ.set x B⟩ o = _ := a1
   rw [a1]; exact ⟨rfl, a2⟩
  | call f args =>
   have a1 := iI_ (fr := ⟨s, σ⟩) (B := B) hk' hx hl h1
   have a1 : aOp P (some k) ⟨s, σ.set x B⟩ o = _ := a1
   rw [a1]; exact nw_ hX h2 hx hl
 ·rename_i hw
  rw [if_neg hw]
  injection h with h; injection h with e1 e2; subst e1; subst e2
  exact ⟨rfl, hx, hl⟩
theorem g2_ (hX : XOk X) {k : Nat} {o : Oper} {s : Nat → T} {σ σ' : St} {v : T} {Bk : Nat → Blk} (h : cc_ P (run P md X) ops k o s σ = some (v, σ')) : ∀ (l : List Nat), (∀ x ∈ l, k ≠ x ∧ σ.blk x = none ∧ x < σ.next) → l.Nodup →
  cc_ P (run P md X) ops k o s (σ.over (fun i => l.contains i) Bk) = some (v, σ'.over (fun i => l.contains i) Bk) ∧ ∀ x, x ∉ l → σ.blk x = none → x < σ.next → k ≠ x → (σ'.over (fun i => l.contains i) Bk).blk x = none ∧ x < σ'.next
 | [], _, _ => by
  rw [ef_ (fun i => by simp), ef_ (fun i => by simp)]
  exact ⟨h, fun x _ h1 h2 h3 => by obtain ⟨_, a, b⟩ := jk_ (B := ap_ [] 0) hX h h3 h1 h2; exact ⟨a, b⟩⟩
 | y :: l, hl, hn => by
  obtain ⟨n1, n2⟩ := List.nodup_cons.1 hn
  obtain ⟨y1, y2, y3⟩ := hl y (by simp)
  obtain ⟨k1, k2⟩ := g2_ hX (Bk := Bk) h l (fun x hx => hl x (by simp [hx])) n2
  have e : ∀ σ : St, (σ.over (fun i => l.contains i) Bk).set y (Bk y) = σ.over (fun i => (y :: l).contains i) Bk := fun σ => by
   rw [gF_]; congr 1; funext i
   rw [Bool.eq_iff_iff]; simp [or_comm]
  have hfree : (σ.over (fun i => l.contains i) Bk).blk y = none := by simp [St.over, n1, y2]
  obtain ⟨a1, a2, a3⟩ := jk_ (B := Bk y) hX k1 y1 hfree y3
  rw [e, e] at a1
  refine ⟨a1, fun x hx h1 h2 h3 => ?_⟩
  obtain ⟨c1, c2⟩ := k2 x (fun h => hx (by simp [h])) h1 h2 h3
  rw [← e]
  have hxy : x ≠ y := fun e => hx (by simp [e])
  refine ⟨?_, c2⟩
  rw [bs_, if_neg hxy]; exact c1
theorem lu_ {k : Nat} {o : Oper} {s : Nat → T} {σ σ' : St} {v : T} (hf : j2_ o = true) (h : cc_ P O ops k o s σ = some (v, σ')) : ∃ C, σ' = σ.set k C ∧ ∀ σ2 : St, σ2.blk k = none → k < σ2.next → cc_ P O ops k o s σ2 = some (v, σ2.set k C) := by
 obtain ⟨d, op, ty, ps, af, g⟩ := o
 simp only [j2_, Bool.and_eq_true, Option.isNone_iff_eq_none] at hf
 obtain ⟨hf, rfl⟩ := hf
 have hw : wantedA ops (⟨d, op, ty, ps, af, none⟩ : Oper) s = true := rfl
 have hok : ∀ σ2 : St, σ2.blk k = none → k < σ2.next → σ2.okK (some k) = true := fun σ2 h1 h2 => by simp [St.okK, h1, h2]
 unfold cc_ at h ⊢
 rw [if_pos hw] at h
 cases op with
 | alloc t =>
  have e : ∀ σ2 : St, aOp P (some k) ⟨s, σ2⟩ ⟨d, .alloc t, ty, ps, af, none⟩ = (aB_ P t).bind fun z => if σ2.okK (some k) = true then some (ARes.val (T.ptr k 0 0 z.length) (σ2.set k (ap_ z z.length))) else none := fun _ => rfl
  rw [e] at h
  cases hz : aB_ P t with
  | none => rw [hz] at h; cases h
  | some z =>
   rw [hz, Option.bind_some] at h
   split at h
   ·injection h with h; injection h with h1 h2
    subst h1; subst h2
    refine ⟨ap_ z z.length, rfl, fun σ2 c1 c2 => ?_⟩
    rw [if_pos hw, e, hz, Option.bind_some, if_pos (hok σ2 c1 c2)]; rfl
   ·cases h
 | box t x =>
  have e : ∀ σ2 : St, aOp P (some k) ⟨s, σ2⟩ ⟨d, .box t x, ty, ps, af, none⟩ = (evalO s x).bind fun x => if x.cells.all T.one = true ∧ σ2.okK (some k) = true then some (ARes.val (T.ptr k 0 0 x.cells.length) (σ2.set k (ap_ x.cells x.cells.length))) else none := fun _ => rfl
  rw [e] at h
  cases hz : evalO s x with
  | none => rw [hz] at h; cases h
  | some z =>
   rw [hz, Option.bind_some] at h
   split at h
   ·rename_i hc
    injection h with h; injection h with h1 h2
    subst h1; subst h2
    refine ⟨ap_ z.cells z.cells.length, rfl, fun σ2 c1 c2 => ?_⟩
    rw [if_pos hw, e, hz, Option.bind_some, if_pos ⟨hc.1, hok σ2 c1 c2⟩]; rfl
   ·cases h
 | buildSlice t len parts =>
  have e : ∀ σ2 : St, aOp P (some k) ⟨s, σ2⟩ ⟨d, .buildSlice t len parts, ty, ps, af, none⟩ = (ad_ P t).bind fun e => (szOf P e).bind fun sz => (aB_ P e).bind fun z => (bL_ s parts.toList).bind fun ps =>
   if z.length = sz ∧ len * sz ≤ 2 ^ 24 ∧ sz ≠ 0 ∧ σ2.okK (some k) = true then (cp_ (fun i => some (i * sz, sz)) ((List.replicate len z).flatten) ps).map fun cs => ARes.val (if len = 0 then .emp else .ref k 0 0 len) (σ2.set k (ap_ cs sz)) else none := fun _ => rfl
  rw [e] at h
  obtain ⟨r, h, hr⟩ := Option.bind_eq_some_iff.1 h
  obtain ⟨x1, h1, h⟩ := Option.bind_eq_some_iff.1 h
  obtain ⟨x2, h2, h⟩ := Option.bind_eq_some_iff.1 h
  obtain ⟨x3, h3, h⟩ := Option.bind_eq_some_iff.1 h
  obtain ⟨x4, h4, h⟩ := Option.bind_eq_some_iff.1 h
  split at h
  ·rename_i hc
   obtain ⟨cs, h5, h6⟩ := Option.map_eq_some_iff.1 h
   subst h6
   injection hr with hr; injection hr with hr1 hr2
   subst hr1; subst hr2
   refine ⟨ap_ cs x2, rfl, fun σ2 c1 c2 => ?_⟩
   rw [if_pos hw, e, h1, Option.bind_some, h2, Option.bind_some, h3, Option.bind_some, h4, Option.bind_some, if_pos ⟨hc.1, hc.2.1, hc.2.2.1, hok σ2 c1 c2⟩, h5]; rfl
  ·cases h
 | makeSlice t x y =>
  have e : ∀ σ2 : St, aOp P (some k) ⟨s, σ2⟩ ⟨d, .makeSlice t x y, ty, ps, af, none⟩ = (evalO s x).bind fun l => (evalO s y).bind fun c =>
   match l, c with
   | .int _ l, .int _ c => (ad_ P t).bind fun e => (szOf P e).bind fun sz => (cr_ P e).bind fun by_ => (aB_ P e).bind fun z =>
     if 0 ≤ l ∧ l ≤ c ∧ c * by_ ≤ 2 ^ 40 ∧ c ≤ 2 ^ 40 ∧ z.length = sz ∧ sz ≠ 0 ∧ σ2.okK (some k) = true then
      some (.val (if l = 0 ∧ c = 0 then .emp else .ref k 0 0 l.toNat) (σ2.set k (ap_ ((List.replicate l.toNat z).flatten) sz))) else none
   | _, _ => none := fun _ => rfl
  rw [e] at h
  obtain ⟨r, h, hr⟩ := Option.bind_eq_some_iff.1 h
  obtain ⟨x1, h1, h⟩ := Option.bind_eq_some_iff.1 h
  obtain ⟨x2, h2, h⟩ := Option.bind_eq_some_iff.1 h
  split at h
  ·obtain ⟨x3, h3, h⟩ := Option.bind_eq_some_iff.1 h
   obtain ⟨x4, h4, h⟩ := Option.bind_eq_some_iff.1 h
   obtain ⟨x5, h5, h⟩ := Option.bind_eq_some_iff.1 h
   obtain ⟨x6, h6, h⟩ := Option.bind_eq_some_iff.1 h
   split at h
   ·rename_i hc
    injection h with h; subst h
    injection hr with hr; injection hr with hr1 hr2
    subst hr1; subst hr2
    refine ⟨_, rfl, fun σ2 c1 c2 => ?_⟩
    rw [if_pos hw, e, h1, Option.bind_some, h2, Option.bind_some]
    simp only
    rw [h3, Option.bind_some, h4, Option.bind_some, h5, Option.bind_some, h6, Option.bind_some, if_pos ⟨hc.1, hc.2.1, hc.2.2.1, hc.2.2.2.1, hc.2.2.2.2.1, hc.2.2.2.2.2.1, hok σ2 c1 c2⟩]; rfl
   ·cases h
  ·cases h
 | _ => cases hf
theorem jB_ (vs : List Nat) (hcv : ∀ i, cm.vw i = vwB vs md ops i) (hf : cV_ ops) : ∀ n k (vals : Nat → T) (S : Nat → St), k + n = ops.size →
  (∀ i, i < k → cm_ P O ops b i (sl ops vals s (fun j => decide (j < i))) (S i) = some (vals i, S (i + 1)) ∧ (∀ x, x < b → (∀ c, cm.wk c i = true → ¬ W c x) → (S (i + 1)).blk x = (S i).blk x) ∧ dl_ b W σs (S (i + 1)) ∧ Room b (i + 1) (ops.size - (i + 1)) (S (i + 1)) ∧ (i ∉ aJ_ vs md ops → S (i + 1) = S i ∧ ∀ σ', (cm.cm i = true → σ' = S i) → (∀ x, x < b → (∀ c, cm.ck c i = false → ¬ W c x) → σ'.blk x = (S i).blk x) → dl_ b W σs σ' → cm_ P O ops b i (sl ops vals s (fun j => decide (j < i))) σ' = some (vals i, σ'))) →
  dl_ b W σs (S k) → Room b k (ops.size - k) (S k) → opsC P O ops b W σs cm k (ops.toList.drop k) K ⟨sl ops vals s (fun j => decide (j < k)), S k⟩ →
  ∃ (vals' : Nat → T) (S' : Nat → St), S' 0 = S 0 ∧ (∀ i, i < ops.size → cm_ P O ops b i (sl ops vals' s (fun j => decide (j < i))) (S' i) = some (vals' i, S' (i + 1)) ∧ (∀ x, x < b → (∀ c, cm.wk c i = true → ¬ W c x) → (S' (i + 1)).blk x = (S' i).blk x) ∧ dl_ b W σs (S' (i + 1)) ∧ Room b (i + 1) (ops.size - (i + 1)) (S' (i + 1)) ∧ (i ∉ aJ_ vs md ops → S' (i + 1) = S' i ∧ ∀ σ', (cm.cm i = true → σ' = S' i) → (∀ x, x < b → (∀ c, cm.ck c i = false → ¬ W c x) → σ'.blk x = (S' i).blk x) → dl_ b W σs σ' → cm_ P O ops b i (sl ops vals' s (fun j => decide (j < i))) σ' = some (vals' i, σ'))) ∧
   K ⟨sl ops vals' s (fun j => decide (j < ops.size)), S' ops.size⟩ := by
 intro n
 induction n with
 | zero =>
  intro k vals S hk h1 hA hR h2
  have : k = ops.size := by omega
  subst this
  rw [List.drop_of_length_le (by simp)] at h2
  exact ⟨vals, S, rfl, h1, h2⟩
 | succ n ih =>
  intro k vals S hk h1 hA hR h2
  have hlt : k < ops.size := by omega
  have ho : ops[k]? = some ops[k] := by simp [hlt]
  have hd : ops.toList.drop k = ops[k] :: ops.toList.drop (k + 1) := by
   rw [List.drop_eq_getElem_cons (by simpa using hlt)]; simp
  have hlen : (ops.toList.drop (k + 1)).length = ops.size - (k + 1) := by simp
  rw [hd] at h2
  have hmem : k ∈ aJ_ vs md ops ↔ (isChg ops[k].op && !cm.vw k) = true := by
   rw [hcv]; simp [aJ_, hlt, ho]
  have hR1 : Room b (k + 1) (ops.size - (k + 1)) (S k) := Room.nxt (by rw [show ops.size - (k + 1) + 1 = ops.size - k by omega]; exact hR)
  -- the value and the state behind the operation
  have key : ∃ v σ', cc_ P O ops (b + k) ops[k] (sl ops vals s (fun j => decide (j < k))) (S k) = some (v, σ') ∧ (∀ x, x < b → (∀ c, cm.wk c k = true → ¬ W c x) → σ'.blk x = (S k).blk x) ∧ dl_ b W σs σ' ∧ Room b (k + 1) (ops.size - (k + 1)) σ' ∧ (k ∉ aJ_ vs md ops → σ' = S k ∧ ∀ σ2, (cm.cm k = true → σ2 = S k) → (∀ x, x < b → (∀ c, cm.ck c k = false → ¬ W c x) → σ2.blk x = (S k).blk x) → dl_ b W σs σ2 → cc_ P O ops (b + k) ops[k] (sl ops vals s (fun j => decide (j < k))) σ2 = some (v, σ2)) ∧
    opsC P O ops b W σs cm (k + 1) (ops.toList.drop (k + 1)) K (Fr.put ⟨sl ops vals s (fun j => decide (j < k)), S k⟩ ops[k].dst v σ') := by
   unfold opsC at h2
   cases hc : (isChg ops[k].op && !cm.vw k) && wantedA ops ops[k] (sl ops vals s (fun j => decide (j < k))) with
   | true =>
    simp only [hc] at h2
    obtain ⟨v, σ', q1, q0, q2, q2', q3⟩ := h2
    have hc := (Bool.and_eq_true _ _ ▸ hc : (isChg ops[k].op && !cm.vw k) = true ∧ _).1
    rw [hlen] at q2'
    exact ⟨v, σ', q1, q0, q2, q2', fun hn => absurd (hmem.2 hc) hn, q3⟩
   | false =>
    simp only [hc] at h2
    obtain ⟨v, q1, q3⟩ := h2
    exact ⟨v, S k, q1 _ (fun _ => rfl) (fun _ _ _ => rfl) hA, fun _ _ _ => rfl, hA, hR1, fun _ => ⟨rfl, q1⟩, q3⟩
  obtain ⟨v, σ', q1, q0, q2, q2', q3, q4⟩ := key
  let vals' : Nat → T := fun j => if j = k then v else vals j
  let S' : Nat → St := fun j => if j = k + 1 then σ' else S j
  have e1 : ∀ i, i ≤ k → sl ops vals' s (fun j => decide (j < i)) = sl ops vals s (fun j => decide (j < i)) := fun i hi => jA_ fun j hj => by
   simp at hj
   simp only [vals']; rw [if_neg (by omega)]
  have e2 : (fun j => decide (j < k) || decide (j = k)) = (fun j => decide (j < k + 1)) := by
   funext j
   rw [Bool.eq_iff_iff]; simp; omega
  have e3 : ∀ i, i ≤ k → S' i = S i := fun i hi => by simp only [S']; rw [if_neg (by omega)]
  have e4 : S' (k + 1) = σ' := by simp [S']
  have e5 : vals' k = v := by simp [vals']
  obtain ⟨vals2, S2, r1, r2, r3⟩ := ih (k + 1) vals' S' (by omega) (fun i hi => by
   by_cases hik : i = k
   ·subst hik
    rw [e1 i (Nat.le_refl _), e3 i (Nat.le_refl _), e4, e5, eg_ ho]
    refine ⟨q1, q0, q2, q2', fun hn => ⟨(q3 hn).1, fun σ2 h2' h3' h2 => ?_⟩⟩
    rw [eg_ ho]; exact (q3 hn).2 σ2 h2' h3' h2
   ·rw [e1 i (by omega), e3 i (by omega), e3 (i + 1) (by omega), show vals' i = vals i from if_neg hik]
    exact h1 i (by omega)) (by rw [e4]; exact q2) (by rw [e4]; exact q2') (by
   have hp := if_ (vals := vals') (s := s) hf ho (L := fun j => decide (j < k)) (by simp) (S k) σ'
   rw [e1 k (Nat.le_refl _), e2, e5] at hp
   rw [e4, ← hp]; exact q4)
  exact ⟨vals2, S2, by rw [r1, e3 0 (by omega)], r2, r3⟩
theorem h3_ (vs : List Nat) (hX : XOk X) (hst : dw_ ops = true) (hch : jn_ vs md ops = true) {fr : Fr} (h : opsC P (run P md X) ops fr.σ.next W (fr.σ.bump ops.size) (kS_ vs md ops) 0 ops.toList K ⟨fr.s, fr.σ.bump ops.size⟩) : le_ P (run P md X) ops K fr := by
 have hf := cv_ hst
 obtain ⟨b, hb⟩ : ∃ b, b = fr.σ.next := ⟨_, rfl⟩
 obtain ⟨σs, hσs⟩ : ∃ σs, σs = fr.σ.bump ops.size := ⟨_, rfl⟩
 rw [← hb, ← hσs] at h
 have h0 : sl ops (fun _ => .tup []) fr.s (fun j => decide (j < 0)) = fr.s := by funext t; exact dv_ fun _ _ _ _ => by simp
 have hA0 : dl_ b W σs σs := ⟨by rw [hσs, hg_]; omega, fun _ _ _ => rfl⟩
 have hR0 : Room b 0 ops.size σs := ⟨by rw [hσs, hg_]; omega, fun j hj => by rw [hσs, fh_, if_neg (by omega)]⟩
 obtain ⟨vals, S, s0, h1, h2⟩ := jB_ (P := P) (O := run P md X) (K := K) (s := fr.s) (b := b) (W := W) (σs := σs) (cm := kS_ vs md ops) vs (fun _ => rfl) hf ops.size 0 (fun _ => .tup []) (fun _ => σs) (by omega) (fun i hi => absurd hi (by omega)) hA0 (by simpa using hR0) (by rw [h0]; simpa using h)
 -- the chain and the new boxes
 obtain ⟨ch, hchd⟩ : ∃ ch, ch = (aJ_ vs md ops).filter fun i => !dr_ ops i := ⟨_, rfl⟩
 have hmem : ∀ i, i ∈ aJ_ vs md ops → i < ops.size := fun i hi => by
  simp only [aJ_, List.mem_filter, List.mem_range] at hi; exact hi.1
 have hchm : ∀ i, i ∈ ch ↔ i ∈ aJ_ vs md ops ∧ dr_ ops i = false := fun i => by rw [hchd]; simp
 have hanc : ∀ i ∈ aJ_ vs md ops, ∀ j ∈ ch, i < j → i ∈ (ancs ops).getD j [] := fun i hi j hj hij => by
  have hj := (hchm j).1 hj
  have := List.all_eq_true.1 (List.all_eq_true.1 hch i hi) j hj.1
  simp only [Bool.or_eq_true, Bool.not_eq_true', hj.2] at this
  rcases this with (h | h) | h
  ·have : Nat.blt i j = true := by simp [Nat.blt]; omega
   rw [this] at h; cases h
  ·cases h
  ·exact cd_.2 ⟨hmem i hi, h⟩
 have hflt : ∀ i, dr_ ops i = true → i ∈ aJ_ vs md ops := fun i hi => by
  have hvw : vwB vs md ops i = false := by unfold vwB; rw [hi]; simp
  unfold dr_ at hi
  split at hi
  ·rename_i o ho
   have hlt : i < ops.size := (Array.getElem?_eq_some_iff.1 ho).1
   simp only [aJ_, List.mem_filter, List.mem_range, ho, hvw, Bool.not_false, Bool.and_true]
   refine ⟨hlt, ?_⟩
   simp only [j2_, Bool.and_eq_true] at hi
   revert hi
   cases o.op <;> simp [isChg]
  ·cases hi
 obtain ⟨Bk, hBk⟩ : ∃ Bk : Nat → Blk, Bk = fun x => ((S (x - b + 1)).blk x).getD (ap_ [] 0) := ⟨_, rfl⟩
 -- which new boxes are there beside the chain
 let pX : (Nat → Bool) → Nat → Nat → Bool := fun c L x => decide (b ≤ x) && dr_ ops (x - b) && c (x - b) && decide (L ≤ x - b)
 let Sg : (Nat → Bool) → St := fun c => (S (aF_ ch c)).over (pX c (aF_ ch c)) Bk
 have hroom : ∀ j, j ≤ ops.size → Room b j (ops.size - j) (S j) ∧ dl_ b W σs (S j) := fun j hj => by
  cases j with
  | zero => rw [s0]; exact ⟨hR0, hA0⟩
  | succ j => exact ⟨(h1 j (by omega)).2.2.2.1, (h1 j (by omega)).2.2.1⟩
 have hle : ∀ c : Nat → Bool, aF_ ch c ≤ ops.size := fun c => bH_.2 fun k hk _ => hmem k ((hchm k).1 hk).1
 have hfl : ∀ i, i < ops.size → dr_ ops i = true → S (i + 1) = (S i).set (b + i) (Bk (b + i)) ∧ ∀ σ2 : St, σ2.blk (b + i) = none → b + i < σ2.next → cm_ P (run P md X) ops b i (sl ops vals fr.s (fun j => decide (j < i))) σ2 = some (vals i, σ2.set (b + i) (Bk (b + i))) := fun i hi hfi => by
  unfold dr_ at hfi
  split at hfi
  ·rename_i o ho
   have := (h1 i hi).1
   rw [eg_ ho] at this
   obtain ⟨C, c1, c2⟩ := lu_ hfi this
   have hC : Bk (b + i) = C := by
    rw [hBk]; simp only [Nat.add_sub_cancel_left, c1, bs_, if_true, Option.getD_some]
   rw [hC]
   exact ⟨c1, fun σ2 h3 h4 => by rw [eg_ ho]; exact c2 σ2 h3 h4⟩
  ·cases hfi
 -- the states of the first order
 have hS : ∀ j, j ≤ ops.size → S j = Sg (fun k => decide (k < j)) := by
  intro j
  induction j with
  | zero =>
   intro _
   have e : aF_ ch (fun k => decide (k < 0)) = 0 := Nat.le_zero.1 (bH_.2 fun k _ hk => by simp at hk)
   simp only [Sg, e]
   rw [ef_ fun i => by simp [pX]]
  | succ j ih =>
   intro hj
   have ih := ih (by omega)
   by_cases hc : j ∈ ch
   ·have e : aF_ ch (fun k => decide (k < j + 1)) = j + 1 := iu_ hc (by simp) fun k _ hk => by simp at hk; omega
    simp only [Sg, e]
    rw [ef_ fun i => by simp only [pX, Bool.and_eq_false_iff, decide_eq_false_iff_not]; omega]
   ·have e : aF_ ch (fun k => decide (k < j + 1)) = aF_ ch (fun k => decide (k < j)) := di_ fun k hk => by
     have : k ≠ j := fun e => hc (e ▸ hk)
     rw [Bool.eq_iff_iff]; simp; omega
    have hL : aF_ ch (fun k => decide (k < j)) ≤ j := bH_.2 fun k _ hk => by simp at hk; omega
    by_cases hfj : dr_ ops j = true
    ·rw [(hfl j (by omega) hfj).1, ih]
     simp only [Sg, e]
     rw [gF_]
     congr 1
     funext x
     simp only [pX]
     rw [Bool.eq_iff_iff]
     simp only [Bool.or_eq_true, Bool.and_eq_true, decide_eq_true_eq]
     constructor
     ·rintro (h | rfl)
      ·exact ⟨⟨h.1.1, by omega⟩, h.2⟩
      ·rw [Nat.add_sub_cancel_left]; exact ⟨⟨⟨by omega, hfj⟩, by omega⟩, hL⟩
     ·rintro ⟨⟨⟨q1, q2⟩, q3⟩, q4⟩
      by_cases hx : x = b + j
      ·exact .inr hx
      ·exact .inl ⟨⟨⟨q1, q2⟩, by omega⟩, q4⟩
    ·have hn : j ∉ aJ_ vs md ops := fun hm => hc ((hchm j).2 ⟨hm, by simpa using hfj⟩)
     rw [((h1 j (by omega)).2.2.2.2 hn).1, ih]
     simp only [Sg, e]
     congr 1
     funext x
     simp only [pX]
     rw [Bool.eq_iff_iff]
     simp only [Bool.and_eq_true, decide_eq_true_eq]
     constructor
     ·rintro ⟨⟨⟨q1, q2⟩, q3⟩, q4⟩; exact ⟨⟨⟨q1, q2⟩, by omega⟩, q4⟩
     ·rintro ⟨⟨⟨q1, q2⟩, q3⟩, q4⟩
      have : x - b ≠ j := fun e => by rw [e] at q2; exact hfj q2
      exact ⟨⟨⟨q1, q2⟩, by omega⟩, q4⟩
 have hOld : ∀ c, dl_ b W σs (Sg c) := fun c => by
  obtain ⟨q1, q2⟩ := (hroom _ (hle c)).2
  refine ⟨q1, fun x hx hx' => ?_⟩
  simp only [Sg, St.over]
  rw [if_neg (by simp only [pX, Bool.and_eq_true, decide_eq_true_eq]; omega)]
  exact q2 x hx hx'
 have hcg : ∀ c c', (∀ j ∈ aJ_ vs md ops, c j = c' j) → Sg c = Sg c' := fun c c' hcc => by
  have e : aF_ ch c = aF_ ch c' := di_ fun k hk => hcc k ((hchm k).1 hk).1
  simp only [Sg, e]
  congr 1
  funext x
  simp only [pX]
  by_cases hfx : dr_ ops (x - b) = true
  ·rw [hcc _ (hflt _ hfx)]
  ·simp [hfx]
 -- between what may write, the old blocks are as they were
 have hspan : ∀ x, x < b → ∀ d j, j + d ≤ ops.size → (∀ k, j ≤ k → k < j + d → ∀ c, wkB md ops c k = true → ¬ W c x) → (S (j + d)).blk x = (S j).blk x := by
  intro x hx d
  induction d with
  | zero => intro j _ _; rfl
  | succ d ih =>
   intro j hj hk
   rw [show j + (d + 1) = (j + d) + 1 by omega, (h1 (j + d) (by omega)).2.1 x hx (hk (j + d) (by omega) (by omega))]
   exact ih j (by omega) (fun k h1 h2 => hk k h1 (by omega))
 have hwch : ∀ c k, wkB md ops c k = true → k ∈ ch := fun c k hk => by
  simp only [wkB, Bool.and_eq_true] at hk
  have hk := hk.2
  have hvw : vwB vs md ops k = false := by unfold vwB; rw [hk]; simp
  unfold wk1 at hk
  split at hk
  ·rename_i o ho
   have hlt : k < ops.size := (Array.getElem?_eq_some_iff.1 ho).1
   have key : isChg o.op = true ∧ j2_ o = false := by
    obtain ⟨d, op, ty, ps, af, g⟩ := o
    cases op with
    | store t a x => exact ⟨rfl, rfl⟩
    | call d =>
     refine ⟨?_, rfl⟩
     obtain ⟨cal, as, ts⟩ := d
     cases cal with
     | builtin bi => cases bi <;> first | rfl | cases hk
     | _ => rfl
    | _ => cases hk
   refine (hchm k).2 ⟨?_, ?_⟩
   ·simp only [aJ_, List.mem_filter, List.mem_range, ho, hvw, Bool.not_false, Bool.and_true]
    exact ⟨hlt, key.1⟩
   ·unfold dr_; rw [ho]; exact key.2
  ·cases hk
 have hcmp : ∀ i, i < ops.size → i ∉ aJ_ vs md ops → ∀ c, (∀ k ∈ aJ_ vs md ops, k ∈ (ancs ops).getD i [] → c k = true) → (∀ k ∈ aJ_ vs md ops, i ∈ (ancs ops).getD k [] → c k = false) → (∀ k, k ∈ aJ_ vs md ops → ∀ j, j ∈ aJ_ vs md ops → j ∈ (ancs ops).getD k [] → c k = true → c j = true) → ∀ k, k ∈ ch → cmp1 ops k i = true → (k < i → k < aF_ ch c) ∧ (i ≤ k → aF_ ch c ≤ k) := by
  intro i hi hn c f1 f2 f4 k hkc hall
  have hkc' := (hchm k).1 hkc
  unfold cmp1 at hall
  rw [hkc'.2] at hall
  constructor
  ·intro hki
   have e : Nat.blt k i = true := by simp [Nat.blt]; omega
   rw [e] at hall
   have := f1 k hkc'.1 (cd_.2 ⟨hmem k hkc'.1, hall⟩)
   have := bH_.1 (Nat.le_refl (aF_ ch c)) k hkc this
   omega
  ·intro hik
   have hne : k ≠ i := fun e => hn (e ▸ hkc'.1)
   have e : Nat.blt k i = false := by cases hb3 : Nat.blt k i with
    | false => rfl
    | true => have := Nat.le_of_ble_eq_true hb3; omega
   have e2 : Nat.beq k i = false := by cases hb2 : Nat.beq k i with
    | false => rfl
    | true => have := Nat.eq_of_beq_eq_true hb2; omega
   rw [e, e2] at hall
   have hck := f2 k hkc'.1 (cd_.2 ⟨hi, by simpa using hall⟩)
   by_cases hz : aF_ ch c = 0
   ·omega
   ·obtain ⟨k', k1, k2, k3⟩ := g5_ hz
    rw [k3]
    have : ¬ k < k' := fun hkk => by
     have := f4 k' ((hchm k').1 k1).1 k hkc'.1 (hanc k hkc'.1 k' k1 hkk) k2
     rw [this] at hck; cases hck
    have : k ≠ k' := fun e => by rw [e, k2] at hck; cases hck
    omega
 have hold2 : ∀ i, i < ops.size → i ∉ aJ_ vs md ops → ∀ c, (∀ k ∈ aJ_ vs md ops, k ∈ (ancs ops).getD i [] → c k = true) → (∀ k ∈ aJ_ vs md ops, i ∈ (ancs ops).getD k [] → c k = false) → (∀ k, k ∈ aJ_ vs md ops → ∀ j, j ∈ aJ_ vs md ops → j ∈ (ancs ops).getD k [] → c k = true → c j = true) → ∀ x, x < b → (∀ k d, wkB md ops d k = true → W d x → cmp1 ops k i = true) → (Sg c).blk x = (S i).blk x := by
  intro i hi hn c f1 f2 f4 x hx hcw
  have hsg : (Sg c).blk x = (S (aF_ ch c)).blk x := by
   simp only [Sg, St.over]
   rw [if_neg (by simp only [pX, Bool.and_eq_true, decide_eq_true_eq]; omega)]
  rw [hsg]
  have hL := hle c
  rcases Nat.le_total (aF_ ch c) i with h | h
  ·have := hspan x hx (i - aF_ ch c) (aF_ ch c) (by omega) (fun k a1 a2 d hd hW => by
    have := (hcmp i hi hn c f1 f2 f4 k (hwch d k hd) (hcw k d hd hW)).1 (by omega); omega)
   rw [show aF_ ch c + (i - aF_ ch c) = i by omega] at this
   exact this.symm
  ·have := hspan x hx (aF_ ch c - i) i (by omega) (fun k a1 a2 d hd hW => by
    have := (hcmp i hi hn c f1 f2 f4 k (hwch d k hd) (hcw k d hd hW)).2 (by omega); omega)
   rw [show i + (aF_ ch c - i) = aF_ ch c by omega] at this
   exact this
 refine ⟨⟨sl ops vals fr.s (fun j => decide (j < ops.size)), Sg (fun j => decide (j < ops.size))⟩, ?_, by rw [← hS ops.size (Nat.le_refl _)]; exact h2⟩
 refine gg_ (P := P) (O := run P md X) (vals := vals) (s := fr.s) (Sg := Sg) (ch := aJ_ vs md ops) hst rfl ?_ ?_ hcg hmem
 ·have e := hS 0 (Nat.zero_le _)
  rw [s0, hσs] at e
  rw [e]; exact hcg _ _ fun j _ => by simp
 ·intro i hi c hc
  rw [← hb]
  obtain ⟨f1, f2, f3, f4⟩ := hc
  -- what is done, up to where
  have hlast : ∀ i, dr_ ops i = true → c i = false → aF_ ch c ≤ i := fun i hfi hci => by
   by_cases hz : aF_ ch c = 0
   ·omega
   ·obtain ⟨k, k1, k2, k3⟩ := g5_ hz
    rw [k3]
    have k4 := (hchm k).1 k1
    have : ¬ i < k := fun hik => by
     have := f4 k k4.1 i (hflt i hfi) (hanc i (hflt i hfi) k k1 hik) k2
     rw [this] at hci; cases hci
    have : k ≠ i := fun e => by rw [e] at k4; rw [k4.2] at hfi; cases hfi
    omega
  by_cases hcmp : i ∈ ch ∨ (i ∉ aJ_ vs md ops ∧ cmpB vs md ops i = true)
  ·have hlo : ∀ k ∈ aJ_ vs md ops, k < i → c k = true := fun k hk hki => f1 k hk (by
    rcases hcmp with hic | ⟨_, hcm⟩
    ·exact hanc k hk i hic hki
    ·have := List.all_eq_true.1 hcm k hk
     have e : Nat.blt k i = true := by simp [Nat.blt]; omega
     rw [e] at this
     exact cd_.2 ⟨hmem k hk, this⟩)
   have hhi : ∀ k ∈ ch, i < k → c k = false := fun k hk hik => f2 k ((hchm k).1 hk).1 (by
    rcases hcmp with hic | ⟨_, hcm⟩
    ·exact hanc i ((hchm i).1 hic).1 k hk hik
    ·have := List.all_eq_true.1 hcm k ((hchm k).1 hk).1
     have e : Nat.blt k i = false := by cases hb3 : Nat.blt k i with
      | false => rfl
      | true => have := Nat.le_of_ble_eq_true hb3; omega
     have e2 : Nat.beq k i = false := by cases hb2 : Nat.beq k i with
      | false => rfl
      | true => have := Nat.eq_of_beq_eq_true hb2; omega
     rw [e, e2, ((hchm k).1 hk).2] at this
     exact cd_.2 ⟨hi, by simpa using this⟩)
   have e1 : aF_ ch c = aF_ ch (fun k => decide (k < i)) := di_ fun k hk => by
    rcases Nat.lt_trichotomy k i with h | h | h
    ·rw [hlo k ((hchm k).1 hk).1 h]; simp [h]
    ·subst h; rw [f3]; simp
    ·rw [hhi k hk h]; simp; omega
   -- the boxes that have come early
   let l : List Nat := (((List.range ops.size).filter fun f => dr_ ops f && c f && decide (i < f)).map fun f => b + f)
   have hl : ∀ x, l.contains x = (decide (b ≤ x) && dr_ ops (x - b) && c (x - b) && decide (i < x - b)) := fun x => by
    rw [Bool.eq_iff_iff]
    simp only [l, List.contains_iff_mem, List.mem_map, List.mem_filter, List.mem_range, Bool.and_eq_true, decide_eq_true_eq]
    constructor
    ·rintro ⟨f, ⟨a1, ⟨a2, a3⟩, a4⟩, rfl⟩; rw [Nat.add_sub_cancel_left]; exact ⟨⟨⟨by omega, a2⟩, a3⟩, a4⟩
    ·rintro ⟨⟨⟨a1, a2⟩, a3⟩, a4⟩; exact ⟨x - b, ⟨hmem _ (hflt _ a2), ⟨a2, a3⟩, a4⟩, by omega⟩
   have hnd : l.Nodup := List.pairwise_map.2 (List.Pairwise.imp (fun h => by omega) (List.Pairwise.filter _ List.nodup_range))
   have hroom_i := (hroom i (by omega)).1
   have hlx : ∀ x ∈ l, b + i ≠ x ∧ (S i).blk x = none ∧ x < (S i).next := fun x hx => by
    have hx : l.contains x = true := by simpa using hx
    rw [hl] at hx
    simp only [Bool.and_eq_true, decide_eq_true_eq] at hx
    obtain ⟨⟨⟨a1, a2⟩, a3⟩, a4⟩ := hx
    have a5 := hmem _ (hflt _ a2)
    refine ⟨by omega, ?_, by have := hroom_i.1; omega⟩
    have := hroom_i.2 (x - b - i) (by omega)
    rwa [show b + i + (x - b - i) = x by omega] at this
   have ho : ops[i]? = some ops[i] := by simp [hi]
   have hstep := (h1 i hi).1
   rw [eg_ ho] at hstep ⊢
   have hrun := (g2_ hX (Bk := Bk) hstep l hlx hnd).1
   have g1 : Sg c = (S i).over (fun x => l.contains x) Bk := by
    rw [hS i (by omega)]
    simp only [Sg, e1]
    rw [jQ_ (r := pX c (aF_ ch (fun k => decide (k < i))))]
    intro x
    rw [hl]
    simp only [pX]
    rw [Bool.eq_iff_iff]
    simp only [Bool.or_eq_true, Bool.and_eq_true, decide_eq_true_eq]
    constructor
    ·rintro ⟨⟨⟨a1, a2⟩, a3⟩, a4⟩
     by_cases hxi : x - b < i
     ·exact .inl ⟨⟨⟨a1, a2⟩, hxi⟩, a4⟩
     ·have : x - b ≠ i := fun e => by rw [e] at a3; rw [a3] at f3; cases f3
      exact .inr ⟨⟨⟨a1, a2⟩, a3⟩, by omega⟩
    ·rintro (⟨⟨⟨a1, a2⟩, a3⟩, a4⟩ | ⟨⟨⟨a1, a2⟩, a3⟩, a4⟩)
     ·exact ⟨⟨⟨a1, a2⟩, hlo _ (hflt _ a2) a3⟩, a4⟩
     ·have : aF_ ch (fun k => decide (k < i)) ≤ i := bH_.2 fun k _ hk => by simp at hk; omega
      exact ⟨⟨⟨a1, a2⟩, a3⟩, by omega⟩
   have g2 : Sg (fun j => c j || decide (j = i)) = (S (i + 1)).over (fun x => l.contains x) Bk := by
    rcases hcmp with hic | ⟨hn, _⟩
    ·have e2 : aF_ ch (fun j => c j || decide (j = i)) = i + 1 := iu_ hic (by simp) fun k hk hkc => by
      rcases Nat.lt_trichotomy k i with h | h | h
      ·omega
      ·omega
      ·simp [hhi k hk h] at hkc; omega
     simp only [Sg, e2]
     congr 1
     funext x
     rw [hl]
     simp only [pX]
     rw [Bool.eq_iff_iff]
     simp only [Bool.or_eq_true, Bool.and_eq_true, decide_eq_true_eq]
     constructor
     ·rintro ⟨⟨⟨a1, a2⟩, a3 | a3⟩, a4⟩
      ·exact ⟨⟨⟨a1, a2⟩, a3⟩, by omega⟩
      ·omega
     ·rintro ⟨⟨⟨a1, a2⟩, a3⟩, a4⟩; exact ⟨⟨⟨a1, a2⟩, .inl a3⟩, by omega⟩
    ·rw [((h1 i hi).2.2.2.2 hn).1, ← g1]
     exact hcg _ _ fun j hj => by
      have : j ≠ i := fun e => hn (e ▸ hj)
      simp [this]
   rw [g1, g2]; exact hrun
  ·by_cases hfi : dr_ ops i = true
   ·have hLi := hlast i hfi f3
    obtain ⟨_, h4⟩ := hfl i hi hfi
    have hr := (hroom _ (hle c)).1
    have hfree : (Sg c).blk (b + i) = none := by
     simp only [Sg, St.over]
     rw [if_neg (by simp only [pX, Nat.add_sub_cancel_left, f3]; simp)]
     have := hr.2 (i - aF_ ch c) (by omega)
     rwa [show b + aF_ ch c + (i - aF_ ch c) = b + i by omega] at this
    rw [h4 (Sg c) hfree (by show b + i < (S (aF_ ch c)).next; have := hr.1; omega)]
    congr 2
    have e : aF_ ch (fun j => c j || decide (j = i)) = aF_ ch c := di_ fun k hk => by
     have : k ≠ i := fun e => hcmp (.inl (e ▸ hk))
     simp [this]
    simp only [Sg, e]
    rw [gF_]
    congr 1
    funext x
    simp only [pX]
    rw [Bool.eq_iff_iff]
    simp only [Bool.or_eq_true, Bool.and_eq_true, decide_eq_true_eq]
    constructor
    ·rintro (h | rfl)
     ·exact ⟨⟨h.1.1, .inl h.1.2⟩, h.2⟩
     ·rw [Nat.add_sub_cancel_left]; exact ⟨⟨⟨by omega, hfi⟩, .inr rfl⟩, hLi⟩
    ·rintro ⟨⟨⟨a1, a2⟩, a3 | a3⟩, a4⟩
     ·exact .inl ⟨⟨⟨a1, a2⟩, a3⟩, a4⟩
     ·exact .inr (by omega)
   ·have hn : i ∉ aJ_ vs md ops := fun hm => hcmp (.inl ((hchm i).2 ⟨hm, by simpa using hfi⟩))
    have e2 : Sg (fun j => c j || decide (j = i)) = Sg c := hcg _ _ fun j hj => by
     have : j ≠ i := fun e => hn (e ▸ hj)
     simp [this]
    rw [e2]
    exact ((h1 i hi).2.2.2.2 hn).2 _ (fun w => absurd (.inr ⟨hn, w⟩) hcmp) (fun x hx hW => hold2 i hi hn c f1 f2 f4 x hx fun k d hd hWd => by
     have hd' := hd
     simp only [wkB, Bool.and_eq_true] at hd'
     have e := Nat.eq_of_beq_eq_true hd'.1
     subst e
     cases hc1 : cmp1 ops d i with
     | true => rfl
     | false => exact absurd hWd (hW d (by show (!wk1 md ops d || cmp1 ops d i) = false; rw [hd'.2, hc1]; rfl))) (hOld c)
theorem ho_ {z : Bool} {σ : St} {k b e o n : Nat} {v : T} {S : List Nat} (h : hold z σ k (.ref b e o n) = some (v, S)) : b ∈ S := by
 cases k with
 | zero => cases h
 | succ k =>
  simp only [hold] at h
  obtain ⟨B, hB, h⟩ := Option.bind_eq_some_iff.1 h
  split at h
  ·obtain ⟨q, _, h⟩ := Option.map_eq_some_iff.1 h
   injection h with _ h; subst h; simp
  ·cases h
theorem mk_ (vs : List Nat) (W : Nat → Nat → Prop) {Q : ah_ → Fr → Prop} {σ σ0 : St} {es : List Ent} {id : Nat} (hX : XOk X) (hst : dw_ ops = true) (hch : jn_ vs md ops = true) (hH : Heap σ0 σ es)
  (h : ∀ B σs σ', σ0.next ≤ B → (∀ x cells, Ent.box x cells ∈ es → x < B) → (∀ z w t v, Ent.own z w t v ∈ es → ∀ b e o n, t = .ref b e o n → b < B) → Heap σ0 σ' es → opsX P (run P md X) ops (.c B 0 W σs (kS_ vs md ops)) ops.toList (Q .normal) ⟨s, σ'⟩) : codeQ P (run P md X) (.region id ops true) Q ⟨s, σ⟩ := by
 refine h3_ vs hX hst hch (W := W) ?_
 refine h σ.next (σ.bump ops.size) (σ.bump ops.size) hH.grow.nx (fun x cells hx => ?_) (fun z w t v hx b e o n ht => ?_) hH.bump ⟨by simp, fun _ _ _ => rfl⟩ ⟨by simp, fun j hj => by rw [fh_, if_neg (by omega)]⟩
 ·obtain ⟨n, hn, e⟩ := List.getElem_of_mem hx
  obtain ⟨F, h1, h2, h3⟩ := hH.ex
  obtain ⟨l1, l2, rfl⟩ := List.append_of_mem hx
  obtain ⟨F1, F2, rfl, h4, h5⟩ := h1.split
  obtain ⟨S, F', rfl, ⟨rfl, _⟩, _⟩ := h5
  exact (h3 x (by simp)).2
 ·obtain ⟨F, h1, h2, h3⟩ := hH.ex
  obtain ⟨l1, l2, rfl⟩ := List.append_of_mem hx
  obtain ⟨F1, F2, rfl, h4, h5⟩ := h1.split
  obtain ⟨S, F', rfl, ⟨_, _, k, h6⟩, _⟩ := h5
  subst ht
  exact (h3 b (by simp [ho_ h6])).2
end
end Go.Am
end
section
set_option linter.unusedVariables false
set_option linter.unusedSimpArgs false
namespace Go.Am
open Classical
theorem Heap.wrap {σ0 σ : St} {ents E : List Ent} (h : Heap σ0 σ (ents ++ E)) : ∃ F, Heap σ0 σ (ents ++ [.keep F σ]) ∧ ∀ σ' ents', Heap σ0 σ' (ents' ++ [.keep F σ]) → Heap σ0 σ' (ents' ++ E) := by
 obtain ⟨F, h1, h2, h3⟩ := h.ex
 obtain ⟨F1, F2, rfl, h4, h5⟩ := h1.split
 refine ⟨F2, ⟨h.grow, F1 ++ F2, h4.join ⟨F2, [], by simp, ⟨rfl, fun b hb => ⟨rfl, h5.some b hb⟩⟩, rfl⟩, h2, h3⟩, fun σ' ents' k => ?_⟩
 obtain ⟨G, k1, k2, k3⟩ := k.ex
 obtain ⟨G1, G2, rfl, k4, k5⟩ := k1.split
 obtain ⟨S, F', rfl, ⟨rfl, k6⟩, k7⟩ := k5
 cases k7
 simp only [List.append_nil] at k2 k3
 exact ⟨k.grow, G1 ++ S, k4.join (h5.same fun b hb => (k6 b hb).1), k2, k3⟩
section
variable {P : Program} {md : Nat → Md} {X : Ext} {f : Nat}
variable {ops : Array Oper} {m : Mo} {l : List Oper} {K : Fr → Prop} {s : Nat → T} {σ σ0 : St} {L : List (Nat × T)} {es ents : List Ent}
variable {d : Option Nat} {ty : TypeId} {ps : String} {af : Array Edge} {g : Option (Nat × Bool)}
def RawS (P : Program) (md : Nat → Md) (X : Ext) (f : Nat) (args : List T) (n : Nat) (tree : List T → T) (ents : List Ent) (ents' : List T → List Ent) : Prop :=
 ∀ σ0 σ E, Heap σ0 σ (ents ++ E) → ∃ hs σ', hs.length = n ∧ run P md X f args σ = some (tree hs, σ') ∧ Heap σ0 σ' (ents' hs ++ E)
def endM (P : Program) (rs : List ResultVar) (σ0 : St) (n : Nat) (tree : List T → T) (ents' : List T → List Ent) : ah_ → Fr → Prop
 | .exit _, _ => False
 | .normal, fr => ∃ l hs, resL P fr rs = some l ∧ tupOf l = tree hs ∧ hs.length = n ∧ Heap σ0 fr.σ (ents' hs)
 | .ret, fr => ∃ l hs, resL P fr rs = some l ∧ tupOf l = tree hs ∧ hs.length = n ∧ Heap σ0 fr.σ (ents' hs)
theorem of_ {rs : List ResultVar} {l : List T} {n : Nat} {tree : List T → T} {ents' : List T → List Ent} (hs : List T) (hl : resL P ⟨s, σ⟩ rs = some l) (ht : tupOf l = tree hs) (hn : hs.length = n) (hH : Heap σ0 σ (ents' hs)) : endM P rs σ0 n tree ents' .ret ⟨s, σ⟩ := ⟨l, hs, hl, ht, hn, hH⟩
theorem j5_ {c : Code} {n0 n : Nat} {rs : List ResultVar} {args : List T} {tree : List T → T} {ents' : List T → List Ent} (hv : md f = .raw) (hX : X f = none) (hok : Ok P f c n0 rs) (hlen : Nat.ble args.length n0 = true)
  (h : ∀ σ0 σ F σk s, Sub (nums 0 args) s → Heap σ0 σ (ents ++ [.keep F σk]) → codeQ P (run P md X) c (endM P rs σ0 n tree (fun hs => ents' hs ++ [.keep F σk])) ⟨s, σ⟩) : RawS P md X f args n tree ents ents' := fun σ0 σ E hH => by
 obtain ⟨F, h1, h2⟩ := hH.wrap
 obtain ⟨fn, k1, k2, k3, k4, k5, k6⟩ := hok
 obtain ⟨x, fr, m1, m2⟩ := codeQ_sound (h σ0 σ F σ _ (eq_ args) h1)
 have hx : (x = .normal ∨ x = .ret) ∧ ∃ l hs, resL P fr rs = some l ∧ tupOf l = tree hs ∧ hs.length = n ∧ Heap σ0 fr.σ (ents' hs ++ [.keep F σ]) := by
  cases x with
  | normal => exact ⟨.inl rfl, m2⟩
  | ret => exact ⟨.inr rfl, m2⟩
  | exit i => exact m2.elim
 obtain ⟨hx, l, hs, q1, q2, q3, q4⟩ := hx
 refine ⟨hs, fr.σ, q3, ?_, h2 _ _ q4⟩
 rw [jW_ (P := P) (vm := md) (X := X) (σ := σ) hv hX k1 k2 k3 k4 (by rw [k5]; exact Nat.le_of_ble_eq_true hlen) m1 hx (by rw [resA, k6, q1]; rfl), q2]
theorem mP_ {fo : Operand} {as : Array Operand} {tys : Array TypeId} {a b xs : List T} {n : Nat} {tree : List T → T} {ents' : List T → List Ent} (hw : want ops L g = some true) (hS : Sub L s) (hf : gE (get L) fo = some (.fn f a b)) (ha : gEs (get L) as.toList = some xs)
  (hH : Heap σ0 σ (ents ++ es)) (hr : RawS P md X f (a ++ xs ++ b) n tree ents ents')
  (k : ∀ hs σ' s', hs.length = n → Heap σ0 σ' (ents' hs ++ es) → Sub (putL L d (tree hs)) s' → opsX P (run P md X) ops .q l K ⟨s', σ'⟩) : opsX P (run P md X) ops .q (⟨d, .call ⟨.value fo, as, tys⟩, ty, ps, af, g⟩ :: l) K ⟨s, σ⟩ := by
 obtain ⟨hs, σ', h1, h2, h3⟩ := hr σ0 σ es hH
 refine j7_ (f := f) (args := a ++ xs ++ b) (az_ hS hw) (by rw [ii_, bE_ hS ha, Option.bind_some, ac_ hS hf]; rfl) h2 ?_
 rw [b0_]
 exact k _ _ _ h1 h3 (aQ_ hS d _ σ)
def endI (P : Program) (rs : List ResultVar) (K : T → St → Prop) : ah_ → Fr → Prop
 | .exit _, _ => False
 | .normal, fr => ∃ l, resL P fr rs = some l ∧ K (tupOf l) fr.σ
 | .ret, fr => ∃ l, resL P fr rs = some l ∧ K (tupOf l) fr.σ
theorem nv_ {rs : List ResultVar} {l : List T} {K : T → St → Prop} {v : T} (hl : resL P ⟨s, σ⟩ rs = some l) (ht : tupOf l = v) (h : K v σ) : endI P rs K .ret ⟨s, σ⟩ := ⟨l, hl, ht ▸ h⟩
theorem nX_ {fo : Operand} {as : Array Operand} {tys : Array TypeId} {a b xs : List T} {c : Code} {n0 : Nat} {rs : List ResultVar} (args : List T) (hw : want ops L g = some true) (hS : Sub L s) (hf : gE (get L) fo = some (.fn f a b)) (ha : gEs (get L) as.toList = some xs)
  (hab : a ++ xs ++ b = args) (hv : md f = .raw) (hX : X f = none) (hok : Ok P f c n0 rs) (hlen : Nat.ble args.length n0 = true)
  (h : ∀ s1, Sub (nums 0 args) s1 → codeQ P (run P md X) c (endI P rs fun v σ' => ∀ s', Sub (putL L d v) s' → opsX P (run P md X) ops .q l K ⟨s', σ'⟩) ⟨s1, σ⟩) : opsX P (run P md X) ops .q (⟨d, .call ⟨.value fo, as, tys⟩, ty, ps, af, g⟩ :: l) K ⟨s, σ⟩ := by
 subst hab
 obtain ⟨fn, k1, k2, k3, k4, k5, k6⟩ := hok
 obtain ⟨x, fr, m1, m2⟩ := codeQ_sound (h _ (eq_ _))
 have hx : (x = .normal ∨ x = .ret) ∧ ∃ l1, resL P fr rs = some l1 ∧ ∀ s', Sub (putL L d (tupOf l1)) s' → opsX P (run P md X) ops .q l K ⟨s', fr.σ⟩ := by
  cases x with
  | normal => exact ⟨.inl rfl, m2⟩
  | ret => exact ⟨.inr rfl, m2⟩
  | exit i => exact m2.elim
 obtain ⟨hx, l1, q1, q2⟩ := hx
 refine j7_ (f := f) (args := a ++ xs ++ b) (v := tupOf l1) (σ' := fr.σ) (az_ hS hw) (by rw [ii_, bE_ hS ha, Option.bind_some, ac_ hS hf]; rfl)
  (jW_ (P := P) (vm := md) (X := X) (σ := σ) hv hX k1 k2 k3 k4 (by rw [k5]; exact Nat.le_of_ble_eq_true hlen) m1 hx (by rw [resA, k6, q1]; rfl)) ?_
 rw [b0_]
 exact q2 _ (aQ_ hS d _ σ)
theorem oA_ {HF : (Nat → T) → St → Prop} {fo : Operand} {as : Array Operand} {tys : Array TypeId} {a b xs : List T} {c : Code} {n0 : Nat} {rs : List ResultVar} (args : List T) (hw : want ops L g = some true) (hS : Sub L s) (hf : gE (get L) fo = some (.fn f a b)) (ha : gEs (get L) as.toList = some xs)
  (hab : a ++ xs ++ b = args) (hv : md f = .raw) (hX : X f = none) (hok : Ok P f c n0 rs) (hlen : Nat.ble args.length n0 = true)
  (h : ∀ s1, Sub (nums 0 args) s1 → codeQ P (run P md X) c (endI P rs fun v σ' => ∀ s', Sub (putL L d v) s' → HF s' σ') ⟨s1, σ⟩)
  (k : ∀ s' σ', HF s' σ' → opsX P (run P md X) ops .q l K ⟨s', σ'⟩) : opsX P (run P md X) ops .q (⟨d, .call ⟨.value fo, as, tys⟩, ty, ps, af, g⟩ :: l) K ⟨s, σ⟩ :=
 nX_ args hw hS hf ha hab hv hX hok hlen fun s1 h1 => codeQ_mono (fun x fr hx => by
  cases x with
  | exit i => exact hx
  | normal => obtain ⟨l, e1, e2⟩ := hx; exact ⟨l, e1, fun s' hs => k _ _ (e2 s' hs)⟩
  | ret => obtain ⟨l, e1, e2⟩ := hx; exact ⟨l, e1, fun s' hs => k _ _ (e2 s' hs)⟩) (h s1 h1)
end
def hE_ (s : ByteArray) : Option (Sl (Iv .u8)) := if 1 ≤ s.size ∧ s.size ≤ 1099511627776 then some ⟨false, s.data.toList.map fun b => ⟨b.toNat⟩⟩ else none
def ofIv : List (Iv .u8) → Option (List UInt8)
 | [] => some []
 | x :: l => if 0 ≤ x.v ∧ x.v < 256 then (ofIv l).map (UInt8.ofNat x.v.toNat :: ·) else none
def strS (a : Sl (Iv .u8)) : Option ByteArray := (ofIv a.l).map fun l => ⟨l.toArray⟩
theorem ofIv_cells : ∀ l : List (Iv .u8), ofBytes (ab_ l) = ofIv l
 | [] => rfl
 | x :: l => by
  show ofBytes (.int .u8 x.v :: ab_ l) = _
  simp only [ofBytes, ofIv, ofIv_cells l]
theorem g8_ (s : ByteArray) : bZ_ s = ab_ (s.data.toList.map fun b => (⟨b.toNat⟩ : Iv .u8)) := by
 unfold bZ_
 generalize s.data.toList = l
 induction l with
 | nil => rfl
 | cons b l ih => simp only [List.map_cons, ab_]; rw [ih]; rfl
section
variable {P : Program} {O : al_}
variable {ops : Array Oper} {m : Mo} {l : List Oper} {K : Fr → Prop} {s : Nat → T} {σ σ0 : St} {L : List (Nat × T)} {es ents : List Ent}
variable {d : Option Nat} {ty : TypeId} {ps : String} {af : Array Edge} {g : Option (Nat × Bool)}
theorem iN_ {σ : St} {src dst : TypeId} {w : ByteArray} : eP_ P none σ src dst (.str w) = if ak_ P src = 3 then if ak_ P dst = 3 then some (.str w, σ) else (ad_ P dst).bind fun e => if ak_ P e = 10 ∧ w.size ≤ 2 ^ 40 ∧ σ.okK none = true then some (.ref (σ.nid none) 0 0 w.size, σ.pushK none (ap_ (bZ_ w) 1)) else none else none := rfl
theorem pU_ {x : Operand} {src dst e : TypeId} {w : ByteArray} {r : Sl (Iv .u8)} (hw : want ops L g = some true) (hS : Sub L s) (hH : Heap σ0 σ es) (hx : gE (get L) x = some (.str w)) (hk : (Nat.beq (ak_ P src) 3 && !Nat.beq (ak_ P dst) 3) = true) (he : ad_ P dst = some e) (hke : Nat.beq (ak_ P e) 10 = true) (hr : hE_ w = some r)
  (k : ∀ t' σ' s', bK_ t' → Heap σ0 σ' (.own true 1 t' r.t :: es) → Sub (putL L d t') s' → opsX P O ops .q l K ⟨s', σ'⟩) : opsX P O ops .q (⟨d, .convert src dst x, ty, ps, af, g⟩ :: l) K ⟨s, σ⟩ := by
 unfold hE_ at hr
 split at hr
 ·rename_i hb
  injection hr with hr; subst hr
  simp only [Bool.and_eq_true, Bool.not_eq_true'] at hk
  have h1 := Nat.eq_of_beq_eq_true hk.1; have h2 := Nat.ne_of_beq_eq_false hk.2; have h3 := Nat.eq_of_beq_eq_true hke
  refine l2_ (v := .ref σ.next 0 0 w.size) (σ' := σ.pushK none (ap_ (bZ_ w) 1)) (az_ hS hw) ?_ ?_
  ·rw [fy_, ac_ hS hx, Option.bind_some]
   rw [iN_, if_pos h1, if_neg h2, he, Option.bind_some, if_pos ⟨h3, by omega, rfl⟩]; rfl
  ·rw [b0_]
   refine k _ _ _ ⟨rfl, rfl⟩ ?_ (aQ_ hS d _ σ)
   have hl : (w.data.toList.map fun b => (⟨b.toNat⟩ : Iv .u8)).length = w.size := by rw [List.length_map, Array.length_toList]; rfl
   have hrow : Sl.t (⟨false, w.data.toList.map fun b => ⟨b.toNat⟩⟩ : Sl (Iv .u8)) = .row false w.size (ab_ (w.data.toList.map fun b => (⟨b.toNat⟩ : Iv .u8))) := by
    show T.row false (List.length _) _ = _; rw [hl]
   rw [hrow, g8_]
   refine Heap.mkRow (ents := []) hH (by decide) (by omega) (by rw [cellsL_len, hl]; rfl) (cellsL_one _) ?_
   generalize w.data.toList = l
   induction l with
   | nil => exact .nil
   | cons b l ih => exact .leaf (fun σ d => by cases d <;> rfl) ih
 ·cases hr
end
theorem iP_ {σ : St} {k : Nat} {t : T} {z : Bool} {n : Nat} {cs : List T} {S : List Nat} (h : hold true σ k t = some (.row z n cs, S)) : isTop t = true := by
 cases t with
 | row zz m us => cases zz <;> cases m <;> cases us <;> first | rfl | (cases k <;> simp [hold] at h)
 | agg us => cases k <;> simp [hold] at h
 | tup us => cases k <;> simp [hold] at h
 | ref b e off n => rfl
 | emp => rfl
 | _ => cases k <;> simp [hold] at h
section
variable {P : Program} {O : al_}
variable {ops : Array Oper} {m : Mo} {l : List Oper} {K : Fr → Prop} {s : Nat → T} {σ σ0 : St} {L : List (Nat × T)} {es ents : List Ent}
variable {d : Option Nat} {ty : TypeId} {ps : String} {af : Array Edge} {g : Option (Nat × Bool)}
theorem Heap.lens {α β : Type} [Enc α] [Enc β] {w : Nat} {t1 : T} {a : Sl α} {j : Int} {y : α} {b ep off : Nat} {c : List T} {q : Sl β} (hH : Heap σ0 σ (.own true w t1 a.t :: es)) (hr : t1 = .ref b ep 0 a.l.length)
  (hy : elt a j = some y) (hc : Enc.cells y = c) (hv : c[off]? = some q.t) :
  ∃ F t' B S', bK_ t' ∧ Heap σ0 σ (.own true 0 t' q.t :: .keep F σ :: es) ∧
   (∀ (σ1 : St) (es1 : List Ent) (q' : Sl β) (y' : α), Enc.cells y' = c.take off ++ q'.t :: c.drop (off + 1) → Heap σ0 σ1 (.own true 0 t' q'.t :: .keep F σ :: es1) → Heap σ0 σ1 (.own true w t1 (setS a j y').t :: es1)) ∧
   (∀ (σ1 : St) (es1 : List Ent), Heap σ0 σ1 (.own true 0 t' q.t :: .keep F σ :: es1) → Heap σ0 σ1 (.own true w t1 a.t :: es1)) ∧
   (∀ (σ1 : St) (es1 : List Ent) (w2 : Nat) (t2 : T) (q2 : Sl β) (y' : α), Enc.cells y' = c.take off ++ q2.t :: c.drop (off + 1) → Heap σ0 σ1 (.own true w2 t2 q2.t :: .keep F σ :: es1) → ∃ B1, σ1.blk b = some B1 ∧ B1.st = true ∧ ep = B1.ep ∧ j.toNat * Enc.w α + off + 1 ≤ B1.cells.length ∧ Heap σ0 (σ1.set b { B1 with cells := splice B1.cells (j.toNat * Enc.w α + off) [t2], low := B1.ep, ver := B1.ver + 1 }) (.own true w t1 (setS a j y').t :: es1)) ∧
   b ∈ F ∧ σ.blk b = some B ∧ ep = B.ep ∧ B.low ≤ B.ep ∧ B.cells.drop (j.toNat * Enc.w α + off) = t' :: B.cells.drop (j.toNat * Enc.w α + off + 1) ∧ B.cells.all T.one = true ∧ ∃ k, frzL (hold true σ k) B.cells = some (ab_ a.l, S') := by
 obtain ⟨q1, q2, q3⟩ := ea_ hy
 obtain ⟨S, ⟨ht, hwd, k', h2⟩, hnd0, _⟩ := hH.head
 have ea : a.t = .row a.z a.l.length (ab_ a.l) := rfl
 rw [ea] at h2
 rcases cb_ ht h2 with ⟨rfl, hz, hn0, hcs, rfl⟩ | ⟨rfl, hz, hn0, hcs, rfl⟩ | ⟨hzz, x', B, S', k'', rfl, hB, c1, c3, c5, c6, c7, h3, rfl⟩
 ·cases hr
 ·cases hr
 injection hr with e1 e2 _ _
 subst e1; subst e2
 obtain ⟨pos, hpos⟩ : ∃ pos, pos = j.toNat * Enc.w α + off := ⟨_, rfl⟩
 have hoff : off < c.length := (List.getElem?_eq_some_iff.1 hv).1
 have hcl : c.length = Enc.w α := by rw [← hc, Enc.len]
 have hdrop : (ab_ a.l).drop pos = q.t :: (ab_ a.l).drop (pos + 1) := by
  have hd := en_ a.l j.toNat y q3
  rw [hc] at hd
  have e : ∀ m, (ab_ a.l).drop (j.toNat * Enc.w α + m) = (c ++ ab_ (a.l.drop (j.toNat + 1))).drop m := fun m => by rw [← List.drop_drop, hd]
  rw [hpos, e off, Nat.add_assoc, e (off + 1), List.drop_eq_getElem_cons (by simp; omega)]
  congr 1
  rw [List.getElem_append_left hoff]
  exact (List.getElem?_eq_some_iff.1 hv).2
 obtain ⟨G1, G2, rfl, h4, h5⟩ := dN_ pos h3
 rw [hdrop] at h5
 have hlen : B.cells.drop pos ≠ [] := fun h => by rw [h] at h5; simp [frzL] at h5
 obtain ⟨t', cr, hcr⟩ := List.exists_cons_of_ne_nil hlen
 have hcr2 : cr = B.cells.drop (pos + 1) := by rw [← List.drop_drop, hcr]; rfl
 rw [hcr] at h5
 simp only [frzL] at h5
 obtain ⟨⟨v0, G3⟩, h6, h7⟩ := Option.bind_eq_some_iff.1 h5
 obtain ⟨⟨vs, G4⟩, h8, h9⟩ := Option.map_eq_some_iff.1 h7
 injection h9 with h9 h10; injection h9 with h9 h11
 subst h9; subst h10; subst h11
 have htop : isTop t' = true := iP_ h6
 have hperm : ∀ X : List Nat, (X ++ (x' :: (G1 ++ G4))).Perm (x' :: (G1 ++ (X ++ G4))) := fun X =>
  List.perm_middle.trans (List.Perm.cons _ (by rw [← List.append_assoc, ← List.append_assoc]; exact List.perm_append_comm.append_right _))
 have hcells : ∀ (q' : Sl β) (y' : α), Enc.cells y' = c.take off ++ q'.t :: c.drop (off + 1) → ab_ (setS a j y').l = (ab_ a.l).take pos ++ ([q'.t] ++ (ab_ a.l).drop (pos + 1)) := fun q' y' hy' => by
  simp only [setS]
  rw [ez_ a.l j.toNat y y' q3, hy', hpos]
  have hd := en_ a.l j.toNat y q3
  rw [hc] at hd
  have hsplit : ab_ a.l = (ab_ a.l).take (j.toNat * Enc.w α) ++ (c ++ ab_ (a.l.drop (j.toNat + 1))) := by rw [← hd, List.take_append_drop]
  have hl0 : ((ab_ a.l).take (j.toNat * Enc.w α)).length = j.toNat * Enc.w α := by
   rw [List.length_take, cellsL_len]
   have : (j.toNat + 1) * Enc.w α ≤ a.l.length * Enc.w α := Nat.mul_le_mul_right _ (by omega)
   rw [Nat.succ_mul] at this; omega
  generalize (ab_ a.l).take (j.toNat * Enc.w α) = A at hsplit hl0
  generalize ab_ (a.l.drop (j.toNat + 1)) = R at hsplit
  rw [hsplit]
  have := ge_ A c R [q'.t] (j.toNat * Enc.w α) off 1 (Enc.w α) hl0 hcl (by omega)
  simp only [List.append_assoc, List.singleton_append, List.cons_append, List.nil_append, List.drop_drop] at this ⊢
  rw [this]
 have hclose : ∀ (σ1 : St) (es1 : List Ent) (q' : Sl β) (y' : α), Enc.cells y' = c.take off ++ q'.t :: c.drop (off + 1) → Heap σ0 σ1 (.own true 0 t' q'.t :: .keep (x' :: (G1 ++ G4)) σ :: es1) → Heap σ0 σ1 (.own true w (.ref x' B.ep 0 a.l.length) (setS a j y').t :: es1) := by
  intro σ1 es1 q' y' hy' hH1
  refine Heap.step (es1 := [.own true 0 t' q'.t, .keep (x' :: (G1 ++ G4)) σ]) (es2 := [.own true w (.ref x' B.ep 0 a.l.length) (setS a j y').t]) (es := es1) hH1 (Nat.le_refl _) fun F hF hnd hbd => ?_
  obtain ⟨S1, F1, rfl, ⟨_, _, k5, h12⟩, S2, F2, rfl, ⟨rfl, hkeep⟩, hnil⟩ := hF
  cases hnil
  rw [List.append_nil] at hnd
  have hkeep := fun b hb => (hkeep b hb).1
  have cg : ∀ {ts ws : List T} {G : List Nat}, (∀ x ∈ G, x ∈ G1 ++ G4) → frzL (hold true σ k'') ts = some (ws, G) → frzL (hold true σ1 k'') ts = some (ws, G) := fun hG h =>
   af_ (fun t v S'' _ hq hq2 => bk_ k'' t v S'' (fun x hx => hkeep x (by simp only [List.mem_cons]; exact .inr (hG _ (hq2 _ hx)))) hq) h
  have r1 := cg (fun x hx => by simp [hx]) h4
  have r2 := cg (fun x hx => by simp [hx]) h8
  have r0 : frzL (hold true σ1 k5) [t'] = some ([q'.t], S1) := by simp [frzL, h12]
  have r3 := aT_ (aA_ (Nat.le_max_left k'' k5) r1) (aT_ (aA_ (Nat.le_max_right k'' k5) r0) (aA_ (Nat.le_max_left k'' k5) r2))
  have hB1 : σ1.blk x' = some B := by rw [hkeep x' (by simp), hB]
  refine ⟨x' :: (G1 ++ (S1 ++ G4)), ⟨x' :: (G1 ++ (S1 ++ G4)), [], by simp, ⟨rfl, fun b e o n B' h hB' hw0 => ?_, max k'' k5 + 1, ?_⟩, rfl⟩, (hperm S1).nodup_iff.1 hnd, fun b hb => .inl ?_, fun _ _ _ => rfl⟩
  ·injection h with h; subst h
   rw [hB1] at hB'; injection hB' with hB'; subst hB'
   exact hwd _ _ _ _ _ rfl hB hw0
  ·have hll : (setS a j y').l.length = a.l.length := by simp [setS]
   have e3 : List.take pos B.cells ++ ([t'] ++ cr) = B.cells := by
    rw [List.singleton_append, ← hcr, List.take_append_drop]
   rw [e3] at r3
   have hz : (setS a j y').z = false := hzz
   simp only [hold, hB1, Option.bind_some, Sl.t, hll, hcells q' y' hy', hz]
   rw [if_pos ⟨fun _ => c1 rfl, trivial, c3, trivial, c5, c6, c7, by omega⟩, r3]; rfl
  ·rw [List.append_nil]; exact (hperm S1).mem_iff.2 hb
 have hput : ∀ (σ1 : St) (es1 : List Ent) (w2 : Nat) (t2 : T) (q2 : Sl β) (y' : α), Enc.cells y' = c.take off ++ q2.t :: c.drop (off + 1) → Heap σ0 σ1 (.own true w2 t2 q2.t :: .keep (x' :: (G1 ++ G4)) σ :: es1) → ∃ B1, σ1.blk x' = some B1 ∧ B1.st = true ∧ B.ep = B1.ep ∧ j.toNat * Enc.w α + off + 1 ≤ B1.cells.length ∧ Heap σ0 (σ1.set x' { B1 with cells := splice B1.cells (j.toNat * Enc.w α + off) [t2], low := B1.ep, ver := B1.ver + 1 }) (.own true w (.ref x' B.ep 0 a.l.length) (setS a j y').t :: es1) := by
  intro σ1 es1 w2 t2 q2 y' hy' hH1
  have hB1 : σ1.blk x' = some B := by
   obtain ⟨Sk, ⟨rfl, hkp⟩, _⟩ := (hH1.at 1 rfl).head
   rw [(hkp x' (by simp)).1, hB]
  have hplen : pos + 1 ≤ B.cells.length := by
   have := congrArg List.length hcr
   simp only [List.length_drop, List.length_cons] at this; omega
  refine ⟨B, hB1, c1 rfl, rfl, by rw [← hpos]; exact hplen, ?_⟩
  rw [← hpos]
  refine Heap.step (es1 := [.own true w2 t2 q2.t, .keep (x' :: (G1 ++ G4)) σ]) (es2 := [.own true w (.ref x' B.ep 0 a.l.length) (setS a j y').t]) (es := es1) hH1 (by simp) fun F hF hnd hbd => ?_
  obtain ⟨S1, F1, rfl, ⟨htop2, _, k5, h12⟩, S2, F2, rfl, ⟨rfl, hkeep⟩, hnil⟩ := hF
  cases hnil
  rw [List.append_nil] at hnd
  have hkeep := fun b hb => (hkeep b hb).1
  obtain ⟨n1, n2, n3⟩ := List.nodup_append.1 hnd
  have hx1 : x' ∉ S1 := fun h => n3 x' h x' (by simp) rfl
  have hx2 : x' ∉ G1 ++ G4 := (List.nodup_cons.1 n2).1
  have hs : ∀ b, b ≠ x' → (σ1.set x' { B with cells := splice B.cells pos [t2], low := B.ep, ver := B.ver + 1 }).blk b = σ1.blk b := fun b hb => by rw [bs_, if_neg hb]
  have cg : ∀ {ts ws : List T} {G : List Nat}, (∀ x ∈ G, x ∈ G1 ++ G4) → frzL (hold true σ k'') ts = some (ws, G) → frzL (hold true (σ1.set x' { B with cells := splice B.cells pos [t2], low := B.ep, ver := B.ver + 1 }) k'') ts = some (ws, G) := fun hG h =>
   af_ (fun t v S'' _ hq hq2 => bk_ k'' t v S'' (fun x hx => by
    have hxG := hG _ (hq2 _ hx)
    rw [hs x fun e => by subst e; exact hx2 hxG]
    exact hkeep x (by simp only [List.mem_cons]; exact .inr hxG)) hq) h
  have r1 := cg (fun x hx => by simp [hx]) h4
  have r2 := cg (fun x hx => by simp [hx]) h8
  have h13 : hold true (σ1.set x' { B with cells := splice B.cells pos [t2], low := B.ep, ver := B.ver + 1 }) k5 t2 = some (q2.t, S1) := bk_ k5 t2 q2.t S1 (fun x hx => hs x fun e => by subst e; exact hx1 hx) h12
  have r0 : frzL (hold true (σ1.set x' { B with cells := splice B.cells pos [t2], low := B.ep, ver := B.ver + 1 }) k5) [t2] = some ([q2.t], S1) := by
   simp only [frzL, h13, Option.bind_some, Option.map_some, List.append_nil]
  have r3 := aT_ (aA_ (Nat.le_max_left k'' k5) r1) (aT_ (aA_ (Nat.le_max_right k'' k5) r0) (aA_ (Nat.le_max_left k'' k5) r2))
  refine ⟨x' :: (G1 ++ (S1 ++ G4)), ⟨x' :: (G1 ++ (S1 ++ G4)), [], by simp, ⟨rfl, fun b e o n B' h hB' hw0 => ?_, max k'' k5 + 1, ?_⟩, rfl⟩, (hperm S1).nodup_iff.1 hnd, fun b hb => .inl ?_, fun b hb hm => hs b fun e => hm (by simp [e])⟩
  ·injection h with h; subst h
   rw [bv_] at hB'; injection hB' with hB'; subst hB'
   exact hwd _ _ _ _ B rfl hB hw0
  ·have hll : (setS a j y').l.length = a.l.length := by simp [setS]
   have e3 : splice B.cells pos [t2] = List.take pos B.cells ++ ([t2] ++ cr) := by
    unfold splice; rw [hcr2, List.append_assoc]; rfl
   have hz : (setS a j y').z = false := hzz
   have hone := (d9_ htop2).2
   have hall : (List.take pos B.cells ++ ([t2] ++ cr)).all T.one = true := by
    rw [List.all_eq_true] at c7
    rw [List.all_eq_true]
    intro x hx
    rcases List.mem_append.1 hx with hx | hx
    ·exact c7 x (List.mem_of_mem_take hx)
    ·rcases List.mem_cons.1 (show x ∈ t2 :: cr from hx) with rfl | hx
     ·exact hone
     ·rw [hcr2] at hx; exact c7 x (List.mem_of_mem_drop hx)
   have hlen2 : (List.take pos B.cells ++ ([t2] ++ cr)).length = a.l.length * B.esz := by
    rw [← c5, hcr2]; simp only [List.length_append, List.length_take, List.length_drop, List.length_singleton]; omega
   simp only [hold, bv_, Option.bind_some, Sl.t, hll, hcells q2 y' hy', hz]
   rw [e3] at r3 ⊢
   rw [if_pos ⟨fun _ => c1 rfl, trivial, Nat.le_refl _, trivial, hlen2, c6, hall, by omega⟩, r3]; rfl
  ·rw [List.append_nil]; exact (hperm S1).mem_iff.2 hb
 have hsame : setS a j y = a := by
  obtain ⟨z, l⟩ := a
  simp only [setS]
  congr 1
  obtain ⟨hi, hy'⟩ := List.getElem?_eq_some_iff.1 q3
  rw [← hy']; exact List.set_getElem_self hi
 have hcy : Enc.cells y = c.take off ++ q.t :: c.drop (off + 1) := by
  obtain ⟨ho, hv'⟩ := List.getElem?_eq_some_iff.1 hv
  rw [hc, ← hv', List.getElem_cons_drop, List.take_append_drop]
 refine ⟨x' :: (G1 ++ G4), t', B, G1 ++ (G3 ++ G4), d9_ htop, ?_, hclose, fun σ1 es1 hh => by have := hclose σ1 es1 q y hcy hh; rwa [hsame] at this, hput, by simp, hB, rfl, c3, ?_, c7, k'', h3⟩
 ·refine Heap.step (es1 := [.own true w (.ref x' B.ep 0 a.l.length) a.t]) (es2 := [.own true 0 t' q.t, .keep (x' :: (G1 ++ G4)) σ]) (es := es) hH (Nat.le_refl _) fun F hF hnd hbd => ?_
  obtain ⟨S1, F1, rfl, ⟨_, _, k5, h12⟩, hnil⟩ := hF
  cases hnil
  have : S1 = x' :: (G1 ++ (G3 ++ G4)) := by
   have e1 := aX_ k' _ _ _ h2 (max k' k5) (Nat.le_max_left _ _)
   have e2 := aX_ k5 _ _ _ h12 (max k' k5) (Nat.le_max_right _ _)
   rw [ea, e1] at e2; injection e2 with e2; injection e2 with _ e2; exact e2.symm
  subst this
  rw [List.append_nil] at hnd
  have hsome : ∀ b ∈ x' :: (G1 ++ G4), (σ.blk b).isSome = true := fun b hb => fJ_ h12 b (by simp only [List.mem_cons, List.mem_append] at hb ⊢; rcases hb with h | h | h <;> simp [h])
  refine ⟨G3 ++ ((x' :: (G1 ++ G4)) ++ []), ⟨G3, _, rfl, ⟨htop, fun _ _ _ _ _ _ _ h => absurd rfl h, k'', h6⟩, _, [], rfl, ⟨rfl, fun b hb => ⟨rfl, hsome b hb⟩⟩, rfl⟩, ?_, fun b hb => .inl ?_, fun _ _ _ => rfl⟩
  ·rw [List.append_nil]; exact (hperm G3).nodup_iff.2 hnd
  ·rw [List.append_nil] at hb; rw [List.append_nil]; exact (hperm G3).mem_iff.1 hb
 ·rw [← hpos, hcr, hcr2]
theorem mp_ {α β : Type} [Enc α] [Enc β] {w : Nat} {m : Mo} {ad : Operand} {t : TypeId} {t1 : T} {a : Sl α} {j : Int} {y : α} {b ep off n : Nat} {c : List T} {q : Sl β} (hm : ∀ b e o n, t1 = .ref b e o n → m.lt b) (hw : want ops L g = some true) (hS : Sub L s) (hH : Heap σ0 σ (.own true w t1 a.t :: es)) (hr : t1 = .ref b ep 0 a.l.length)
  (ha : gE (get L) ad = some (.ptr b ep (j.toNat * Enc.w α + off) n)) (hy : elt a j = some y) (hc : Enc.cells y = c) (hag : fY_ P t = some false) (hv : c[off]? = some q.t) (hn : Nat.ble 1 n = true)
  (k : ∀ F σk t' s', bK_ t' → Heap σ0 σ (.own true 0 t' q.t :: .keep F σk :: es) →
   (∀ (σ1 : St) (es1 : List Ent) (q' : Sl β) (y' : α), Enc.cells y' = c.take off ++ q'.t :: c.drop (off + 1) → Heap σ0 σ1 (.own true 0 t' q'.t :: .keep F σk :: es1) → Heap σ0 σ1 (.own true w t1 (setS a j y').t :: es1)) →
   (∀ (σ1 : St) (es1 : List Ent), Heap σ0 σ1 (.own true 0 t' q.t :: .keep F σk :: es1) → Heap σ0 σ1 (.own true w t1 a.t :: es1)) →
   (∀ (σ1 : St) (es1 : List Ent) (w2 : Nat) (t2 : T) (q2 : Sl β) (y' : α), Enc.cells y' = c.take off ++ q2.t :: c.drop (off + 1) → Heap σ0 σ1 (.own true w2 t2 q2.t :: .keep F σk :: es1) → ∃ B1, σ1.blk b = some B1 ∧ B1.st = true ∧ ep = B1.ep ∧ j.toNat * Enc.w α + off + 1 ≤ B1.cells.length ∧ Heap σ0 (σ1.set b { B1 with cells := splice B1.cells (j.toNat * Enc.w α + off) [t2], low := B1.ep, ver := B1.ver + 1 }) (.own true w t1 (setS a j y').t :: es1)) →
   Heap σ0 σk (.own true w t1 a.t :: es) → b ∈ F →
   Sub (putL L d t') s' → opsX P O ops (nxM m) l K ⟨s', σ⟩) : opsX P O ops m (⟨d, .load t ad, ty, ps, af, g⟩ :: l) K ⟨s, σ⟩ := by
 obtain ⟨F, t', B, S', h1, h2, h3, h4, hput, hbF, h5, rfl, h7, h8, _⟩ := Heap.lens hH hr hy hc hv
 refine e5_ hw hS (fun kk σ' ha' => ?_) (fun s' => k F σ t' s' h1 h2 h3 h4 hput hH hbF)
 subst hr
 rw [in_, ac_ hS ha, Option.bind_some, ei_, Mo.al_blk ha' (hm _ _ _ _ rfl), h5, Option.bind_some, if_pos h7, mb_, hag, Option.bind_some, hY_, h8]
 have := Nat.le_of_ble_eq_true hn
 obtain ⟨n, rfl⟩ : ∃ k, n = k + 1 := ⟨n - 1, by omega⟩
 simp
end
def okPs : List (Nat × T) → List (List T) → Prop
 | [], [] => True
 | (_, v) :: ps, c :: cs => v.cells = c ∧ c.all T.one = true ∧ okPs ps cs
 | _, _ => False
def ll_ (place : Nat → Option (Nat × Nat)) (cells : List T) : List (Nat × T) → List (List T) → Option (List T)
 | [], _ => some cells
 | (i, _) :: rest, c :: cs => match place i with
  | some (off, size) => bif Nat.beq c.length size && Nat.ble (off + size) cells.length then ll_ place (splice cells off c) rest cs else none
  | none => none
 | _, _ => none
theorem kc_ {place : Nat → Option (Nat × Nat)} : ∀ {ps : List (Nat × T)} {cs : List (List T)} {cells r : List T}, okPs ps cs → ll_ place cells ps cs = some r → cp_ place cells ps = some r
 | [], [], cells, r, _, h => h
 | (i, v) :: ps, c :: cs, cells, r, hp, h => by
  obtain ⟨h1, h2, h3⟩ := hp
  simp only [ll_] at h
  split at h
  ·rename_i off size hpl
   simp only [cp_, hpl, Option.bind_some, h1]
   cases hb : Nat.beq c.length size && Nat.ble (off + size) cells.length with
   | true =>
    rw [hb] at h
    simp only [Bool.and_eq_true] at hb
    rw [if_pos ⟨Nat.eq_of_beq_eq_true hb.1, Nat.le_of_ble_eq_true hb.2, h2⟩]
    exact kc_ h3 h
   | false => rw [hb] at h; cases h
  ·cases h
 | [], _ :: _, _, _, hp, _ => hp.elim
 | _ :: _, [], _, _, hp, _ => by exact hp.elim
section
variable {P : Program} {O : al_}
variable {ops : Array Oper} {m : Mo} {l : List Oper} {K : Fr → Prop} {s : Nat → T} {σ σ0 : St} {L : List (Nat × T)}
variable {d : Option Nat} {ty : TypeId} {ps : String} {af : Array Edge} {g : Option (Nat × Bool)}
theorem kr_ {t : TypeId} {parts : Array (Nat × Operand)} {qs : List (Nat × T)} {z r : List T} (cs : List (List T)) (hw : want ops L g = some true) (hS : Sub L s) (hg : gPs (get L) parts.toList = some qs) (hz : aB_ P t = some z)
  (hk : (Nat.beq (ak_ P t) 7 && (br_ P t).all (fun f => (szOf P f.type).isSome)) = true) (ho : okPs qs cs) (hf : ll_ (fun i => (aN_ P t i).map fun (o, _, n) => (o, n)) z qs cs = some r)
  (k : ∀ s', Sub (putL L d (.agg r)) s' → opsX P O ops (nxM m) l K ⟨s', σ⟩) : opsX P O ops m (⟨d, .build t parts, ty, ps, af, g⟩ :: l) K ⟨s, σ⟩ := by
 simp only [Bool.and_eq_true] at hk
 refine e5_ hw hS (fun kk σ' _ => ?_) k
 show ((aB_ P t).bind fun z => (bL_ s parts.toList).bind fun ps => if ak_ P t = 7 ∧ (br_ P t).all (fun f => (szOf P f.type).isSome) = true then ((cp_ (fun i => (aN_ P t i).map fun (o, _, n) => (o, n)) z ps).map .agg).map (fun x => ARes.val x σ') else none) = _
 rw [hz, Option.bind_some, ew_ hS hg, Option.bind_some, if_pos ⟨Nat.eq_of_beq_eq_true hk.1, hk.2⟩, kc_ ho hf]; rfl
end
section
variable {P : Program} {O : al_}
variable {ops : Array Oper} {m : Mo} {l : List Oper} {K : Fr → Prop} {s : Nat → T} {σ : St} {L : List (Nat × T)}
variable {d : Option Nat} {ty : TypeId} {ps : String} {af : Array Edge} {g : Option (Nat × Bool)}
end
end Go.Am
end
section
set_option linter.unusedVariables false
set_option linter.unusedSimpArgs false
namespace Go.Am
section
variable {P : Program} {O : al_} {ops : Array Oper} {l : List Oper} {K : Fr → Prop} {s : Nat → T} {σ σ0 : St} {L : List (Nat × T)} {es ents : List Ent}
variable {d : Option Nat} {ty : TypeId} {ps : String} {af : Array Edge} {g : Option (Nat × Bool)}
end
section
variable {P : Program} {md : Nat → Md} {X : Ext} {ops : Array Oper} {m : Mo} {l : List Oper} {K : Fr → Prop} {s : Nat → T} {σ σ0 : St} {L : List (Nat × T)} {es ents : List Ent} {f : Nat}
variable {d : Option Nat} {ty : TypeId} {ps : String} {af : Array Edge} {g : Option (Nat × Bool)}
def EB : Ent → Nat → Prop
 | .box b _, x => x = b
 | .own _ _ t _, x => BT t x
 | .flt _ t _, x => BT t x
 | .keep F _, x => x ∈ F
 | .frt .., _ => False
def Stay (R : Nat → Prop) (es : List Ent) : Prop := ∀ x, R x → ∃ e ∈ es, EB e x
theorem Stay.nil {es : List Ent} : Stay RN es := fun x h => h.elim
theorem Stay.box {R : Nat → Prop} {es : List Ent} {b : Nat} {c : List T} (h : Ent.box b c ∈ es) (k : Stay R es) : Stay (RB b R) es := fun y hy => by
 rcases hy with rfl | hy
 ·exact ⟨_, h, rfl⟩
 ·exact k y hy
theorem Stay.own {R : Nat → Prop} {es : List Ent} {z : Bool} {w : Nat} {t v : T} (h : Ent.own z w t v ∈ es) (k : Stay R es) : Stay (RT t R) es := fun y hy => by
 rcases hy with hy | hy
 ·exact ⟨_, h, hy⟩
 ·exact k y hy
theorem hL_.mark {S : List Nat} : ∀ {bs : List Nat} {cs : List (List T)}, hL_ σ bs cs → hL_ (σ.mark S) bs cs
 | [], [], _ => trivial
 | b :: bs, c :: cs, ⟨⟨h1, B, h2, h3⟩, h4⟩ => ⟨⟨h1, by
   have e : (σ.mark S).blk b = some (if b ∈ S then { B with st := false } else B) := by simp [St.mark, h2]
   refine ⟨_, e, ?_⟩
   split <;> exact h3⟩, h4.mark⟩
 | [], _ :: _, h => h.elim
 | _ :: _, [], h => h.elim
end
abbrev nt (α : Type) [Enc α] : T := Sl.t (⟨true, []⟩ : Sl α)
section
variable {z : Bool} {ts vs : List T} {es : List Ent}
theorem HLi {k : IntKind} {n : Int} (r : HL z ts vs es) : HL z (.int k n :: ts) (.int k n :: vs) es := HL.leaf (fun σ d => iz_ _ σ d _ _) r
theorem HLb {n : Bool} (r : HL z ts vs es) : HL z (.bool n :: ts) (.bool n :: vs) es := HL.leaf (fun σ d => jM_ _ σ d _) r
theorem HLs {n : ByteArray} (r : HL z ts vs es) : HL z (.str n :: ts) (.str n :: vs) es := HL.leaf (fun σ d => lf_ _ σ d _) r
theorem HLn {α : Type} [Enc α] (r : HL z ts vs es) : HL z (Sl.t (⟨true, []⟩ : Sl α) :: ts) (Sl.t (⟨true, []⟩ : Sl α) :: vs) es := HL.leaf (fun σ d => ks_ _ σ d) r
theorem HLp {α : Type} [Enc α] {a : Sl α} (r : HL false ts vs es) : HL false (a.t :: ts) (a.t :: vs) es := HL.leaf (fun σ d => jX_ σ d _) r
end
abbrev i4 (n : Int) : T := .int .i64 n
section
variable {P : Program} {O : al_} {ops : Array Oper} {m : Mo} {l : List Oper} {K : Fr → Prop} {s : Nat → T} {σ σ0 : St} {L : List (Nat × T)} {es : List Ent}
variable {d : Option Nat} {ty : TypeId} {ps : String} {af : Array Edge} {g : Option (Nat × Bool)}
theorem qs (n : Nat) (L' : List (Nat × T)) (hS : Sub L s) (k : ∀ s', Sub L' s' → opsX P O ops (nxN n m) (l.drop n) K ⟨s', σ⟩) (h : ((seg P ops n l L).map fun M => L'.map fun p => get M p.1) = some (L'.map fun p => some p.2) := by kernel_rfl) : opsX P O ops m l K ⟨s, σ⟩ := pQ_ n L' hS h k
end
end Go.Am
end
section
set_option linter.unusedVariables false
set_option linter.unusedSimpArgs false
namespace Go.Am
section
variable {P : Program} {O : al_} {ops : Array Oper} {m : Mo} {l : List Oper} {K : Fr → Prop} {s : Nat → T} {σ σ0 : St} {L : List (Nat × T)} {es ents : List Ent}
variable {d : Option Nat} {ty : TypeId} {ps : String} {af : Array Edge} {g : Option (Nat × Bool)}
end
end Go.Am
end
section
set_option linter.unusedVariables false
set_option linter.unusedSimpArgs false
namespace Go.Am
open Classical
def Kb (F : List Nat) (σk : St) (x : Nat) (c : List T) : Prop := x ∈ F ∧ ∃ B, σk.blk x = some B ∧ B.cells = c ∧ B.ep = 0 ∧ B.low = 0
def KLe (F : List Nat) (σ : St) (F2 : List Nat) (σ2 : St) : Prop := F.Nodup ∧ ∀ b ∈ F, b ∈ F2 ∧ σ2.blk b = σ.blk b
theorem Kb.mono {F F2 : List Nat} {σ σ2 : St} {x : Nat} {c : List T} (h : Kb F σ x c) (k : KLe F σ F2 σ2) : Kb F2 σ2 x c := by
 obtain ⟨h1, B, h2, h3⟩ := h
 obtain ⟨k1, k2⟩ := k.2 x h1
 exact ⟨k1, B, by rw [k2, h2], h3⟩
theorem Heap.part {σ0 σ σk σ2 : St} {Fk F2 : List Nat} {es : List Ent} (h : Heap σ0 σ (.keep F2 σ2 :: es)) (k : KLe Fk σk F2 σ2) : ∃ F3, Heap σ0 σ (.keep Fk σk :: .keep F3 σ2 :: es) ∧ ∀ σ' es', Heap σ0 σ' (.keep Fk σk :: .keep F3 σ2 :: es') → Heap σ0 σ' (.keep F2 σ2 :: es') := by
 obtain ⟨S0, ⟨rfl, _⟩, hn2, _⟩ := h.head
 refine ⟨S0.filter fun b => decide (b ∉ Fk), ?_, fun σ' es' h' => ?_⟩
 ·refine Heap.step (es1 := [.keep S0 σ2]) (es2 := [.keep Fk σk, .keep (S0.filter fun b => decide (b ∉ Fk)) σ2]) (es := es) h (Nat.le_refl _) fun S hS hnd hbd => ?_
  obtain ⟨S1, F1, rfl, ⟨rfl, h1⟩, hnil⟩ := hS
  cases hnil
  refine ⟨Fk ++ S1.filter fun b => decide (b ∉ Fk), ⟨Fk, S1.filter fun b => decide (b ∉ Fk), rfl, ⟨rfl, fun b hb => ?_⟩, _, [], by simp, ⟨rfl, fun b hb => h1 b (List.mem_filter.1 hb).1⟩, rfl⟩, ?_, fun b hb => .inl ?_, fun _ _ _ => rfl⟩
  ·obtain ⟨k1, k2⟩ := k.2 b hb
   exact ⟨by rw [(h1 b k1).1, k2], (h1 b k1).2⟩
  ·exact List.nodup_append.2 ⟨k.1, hn2.filter _, fun a ha b hb => by
    rintro rfl
    have := (List.mem_filter.1 hb).2
    simp at this; exact this ha⟩
  ·rw [List.append_nil]
   rcases List.mem_append.1 hb with hb | hb
   ·exact (k.2 b hb).1
   ·exact (List.mem_filter.1 hb).1
 ·refine Heap.step (es1 := [.keep Fk σk, .keep (S0.filter fun b => decide (b ∉ Fk)) σ2]) (es2 := [.keep S0 σ2]) (es := es') h' (Nat.le_refl _) fun S hS hnd hbd => ?_
  obtain ⟨S1, F1, rfl, ⟨rfl, h1⟩, S3, F3, rfl, ⟨rfl, h3⟩, hnil⟩ := hS
  cases hnil
  refine ⟨S0, ⟨S0, [], by simp, ⟨rfl, fun b hb => ?_⟩, rfl⟩, hn2, fun b hb => .inl ?_, fun _ _ _ => rfl⟩
  ·by_cases hm : b ∈ S1
   ·exact ⟨by rw [(h1 b hm).1, (k.2 b hm).2], (h1 b hm).2⟩
   ·exact h3 b (List.mem_filter.2 ⟨hb, by simpa using hm⟩)
  ·rw [List.append_nil]
   by_cases hm : b ∈ S1
   ·exact List.mem_append_left _ hm
   ·exact List.mem_append_right _ (List.mem_filter.2 ⟨hb, by simpa using hm⟩)
section
variable (P : Program) (md : Nat → Md) (X : Ext) {α : Type}
def jI_ (en : α → List T → List Ent) (n : Nat) (th : T) (Φ : Int → α → Option (Bool × α)) (F : List Nat) (σk : St) : Prop :=
 ∀ e S y hs, hs.length = n → Φ e S = some y → ∃ f a b, th = .fn f a b ∧ RawS P md X f (a ++ [.int .i64 e] ++ b) n (fun _ => .bool y.1) (en S hs ++ [.keep F σk]) (fun hs' => en y.2 hs' ++ [.keep F σk])
end
section
variable {P : Program} {md : Nat → Md} {X : Ext} {α : Type} {en : α → List T → List Ent} {n : Nat} {th : T} {Φ : Int → α → Option (Bool × α)} {F F2 : List Nat} {σk σ2 : St}
theorem jI_.mono (h : jI_ P md X en n th Φ F σk) (k : KLe F σk F2 σ2) : jI_ P md X en n th Φ F2 σ2 := fun e S y hs hl hy => by
 obtain ⟨f, a, b, e1, h1⟩ := h e S y hs hl hy
 refine ⟨f, a, b, e1, fun σ0 σ E hH => ?_⟩
 rw [List.append_assoc] at hH
 have hH := hH.perm List.perm_append_comm
 obtain ⟨F3, h2, h3⟩ := Heap.part (es := E ++ en S hs) hH k
 have h2 : Heap σ0 σ ((en S hs ++ [.keep F σk]) ++ (.keep F3 σ2 :: E)) := h2.perm (by
  rw [List.append_assoc]
  refine List.Perm.trans ?_ List.perm_append_comm
  simp only [List.cons_append, List.nil_append]; exact .refl _)
 obtain ⟨hs', σ', q1, q2, q3⟩ := h1 σ0 σ _ h2
 refine ⟨hs', σ', q1, q2, ?_⟩
 have q3 : Heap σ0 σ' (.keep F σk :: .keep F3 σ2 :: (E ++ en y.2 hs')) := q3.perm (by
  rw [List.append_assoc]
  refine List.Perm.trans List.perm_append_comm ?_
  simp only [List.cons_append, List.nil_append]; exact .refl _)
 have q4 := h3 _ _ q3
 rw [List.append_assoc]
 exact q4.perm (by
  refine List.Perm.trans ?_ List.perm_append_comm
  simp only [List.cons_append, List.nil_append]; exact .refl _)
variable {ops : Array Oper} {m : Mo} {l : List Oper} {K : Fr → Prop} {s : Nat → T} {σ σ0 : St} {L : List (Nat × T)} {es ents : List Ent}
variable {d : Option Nat} {ty : TypeId} {ps : String} {af : Array Edge} {g : Option (Nat × Bool)}
theorem RawS.keep {f n : Nat} {args : List T} {tree : List T → T} {ents : List Ent} {ents' : List T → List Ent} (h : RawS P md X f args n tree ents ents') (ks : List Ent) : RawS P md X f args n tree (ents ++ ks) (fun hs => ents' hs ++ ks) := fun σ0 σ E hH => by
 rw [List.append_assoc] at hH
 obtain ⟨hs, σ', h1, h2, h3⟩ := h σ0 σ (ks ++ E) hH
 exact ⟨hs, σ', h1, h2, by rw [List.append_assoc]; exact h3⟩
def Pt (F : List Nat) (σk : St) (pp : T) (c : List T) : Prop := (∃ rest, pp = .vw (c ++ rest)) ∨ ∃ b, pp = .ptr b 0 0 c.length ∧ Kb F σk b c
theorem Pt.mono {pp : T} {c : List T} (h : Pt F σk pp c) (k : KLe F σk F2 σ2) : Pt F2 σ2 pp c := h.imp id fun ⟨b, h1, h2⟩ => ⟨b, h1, h2.mono k⟩
theorem Pt.vw {c rest : List T} : Pt F σk (.vw (c ++ rest)) c := .inl ⟨rest, rfl⟩
theorem Pt.box {b : Nat} {c : List T} {n : Nat} (hn : n = c.length) (h : Kb F σk b c) : Pt F σk (.ptr b 0 0 n) c := .inr ⟨b, by rw [hn], h⟩
theorem Pt.one {pp : T} {c : List T} (h : Pt F σk pp c) : bK_ pp := by
 rcases h with ⟨rest, rfl⟩ | ⟨b, rfl, _⟩ <;> exact ⟨rfl, rfl⟩
end
end Go.Am
end
section
set_option linter.unusedVariables false
set_option linter.unusedSimpArgs false
namespace Go.Am
def idxE : List T → St → Option (T × St)
 | [.str s, .int .u8 c], σ => some (.int .i64 (firstIdx s c.toNat.toUInt8), σ)
 | _, _ => none
theorem nV_ {P : Program} {f : Nat} {fn : Func} (h1 : P.funcs[f]? = some fn) (h2 : (fn.name == "runtime.NumGoroutine") = false) (h3 : fn.body.isNone = true) (h4 : Extern.findNext fn = none) (h5 : Extern.find fn = some Extern.BytealgIndexByte.indexByte)
  (args : List T) (σ : St) (r : T) (σ' : St) (h : idxE args σ = some (r, σ')) : d2_ P f args σ r σ' := by
 intro B0 w0 E w vs hR hv
 unfold idxE at h
 split at h
 ·rename_i σ1 s c
  injection h with h; injection h with e1 e2; subst e1; subst e2
  match vs, hv with
  | [v1, v2], hv =>
   have a1 := hv.head
   have a2 := hv.tail.head
   cases a1; cases a2
   refine .inr ⟨_, w, ?_, E, .refl E, hR, .int .i64 _, .refl _ _ _⟩
   rw [run_callFunc_extern h1 h2 h3 h4 h5]
   show Result.andThen ((Extern.BytealgIndexByte.indexByte #[.string s, .int .u8 c]).run P w) _ = _
   rw [run_indexByte_string]; rfl
  | [], hv => have := hv.1; simp at this
  | [_], hv => have := hv.1; simp at this
  | _ :: _ :: _ :: _, hv => have := hv.1; simp at this
 ·cases h
theorem pZ_ (args : List T) (σ : St) (r : T) (σ' : St) (h : idxE args σ = some (r, σ')) : σ' = σ ∧ ∀ σ2, idxE args σ2 = some (r, σ2) := by
 unfold idxE at h
 split at h
 ·injection h with h; injection h with e1 e2; subst e1; subst e2
  exact ⟨rfl, fun _ => rfl⟩
 ·cases h
section
variable {P : Program} {md : Nat → Md} {X : Ext} {β : Type} {eb : β → T} {f : Nat} {r : β}
variable {ops : Array Oper} {m : Mo} {l : List Oper} {K : Fr → Prop} {s : Nat → T} {σ : St} {L : List (Nat × T)}
variable {d : Option Nat} {ty : TypeId} {ps : String} {af : Array Edge} {g : Option (Nat × Bool)}
end
end Go.Am
namespace Go.Am
theorem iL_.of_ok {P : Program} {f : Nat} {c : Code} {n : Nat} {rs : List ResultVar} (h : Ok P f c n rs) : iL_ P f := by
 obtain ⟨fn, h1, h2, h3, _⟩ := h
 exact ⟨fn, _, h1, h2, h3⟩
end Go.Am
namespace Go.Am
section
variable {P : Program} {O : al_} {Q : ah_ → Fr → Prop} {s : Nat → T} {σ : St} {L : List (Nat × T)}
theorem c_cT {c : Operand} {a b : Code} {t : Bool} (h : t = true) (hS : Sub L s) (hc : gE (get L) c = some (.bool t)) (k : codeQ P O a Q ⟨s, σ⟩) : codeQ P O (.cond c a b) Q ⟨s, σ⟩ := kg_ hS hc (fun _ => k) (fun hf => j6_ h hf)
theorem c_cF {c : Operand} {a b : Code} {t : Bool} (h : ¬ (t = true)) (hS : Sub L s) (hc : gE (get L) c = some (.bool t)) (k : codeQ P O b Q ⟨s, σ⟩) : codeQ P O (.cond c a b) Q ⟨s, σ⟩ := kg_ hS hc (fun hf => jR_ h hf) (fun _ => k)
end
end Go.Am
namespace Go.Am
section
variable {σ0 σ : St} {es : List Ent}
theorem Heap.up1 {a0 a1 : Ent} (h : Heap σ0 σ (a0 :: a1 :: es)) : Heap σ0 σ (a1 :: a0 :: es) := h.pull 1
theorem Heap.up2 {a0 a1 a2 : Ent} (h : Heap σ0 σ (a0 :: a1 :: a2 :: es)) : Heap σ0 σ (a2 :: a0 :: a1 :: es) := h.pull 2
theorem Heap.up3 {a0 a1 a2 a3 : Ent} (h : Heap σ0 σ (a0 :: a1 :: a2 :: a3 :: es)) : Heap σ0 σ (a3 :: a0 :: a1 :: a2 :: es) := h.pull 3
theorem Heap.up4 {a0 a1 a2 a3 a4 : Ent} (h : Heap σ0 σ (a0 :: a1 :: a2 :: a3 :: a4 :: es)) : Heap σ0 σ (a4 :: a0 :: a1 :: a2 :: a3 :: es) := h.pull 4
theorem Heap.up5 {a0 a1 a2 a3 a4 a5 : Ent} (h : Heap σ0 σ (a0 :: a1 :: a2 :: a3 :: a4 :: a5 :: es)) : Heap σ0 σ (a5 :: a0 :: a1 :: a2 :: a3 :: a4 :: es) := h.pull 5
theorem Heap.up7 {a0 a1 a2 a3 a4 a5 a6 a7 : Ent} (h : Heap σ0 σ (a0 :: a1 :: a2 :: a3 :: a4 :: a5 :: a6 :: a7 :: es)) : Heap σ0 σ (a7 :: a0 :: a1 :: a2 :: a3 :: a4 :: a5 :: a6 :: es) := h.pull 7
end
end Go.Am
end
section
set_option linter.unusedVariables false
set_option linter.unusedSimpArgs false
namespace Go.Am
def Kn (σ0 : St) (L : List (Nat × T)) (es : List Ent) (p : Prop) (G : Fr → Prop) : Prop := p → ∀ s σ, Sub L s → Heap σ0 σ es → G ⟨s, σ⟩
inductive Ct where
 | s (c : Code)
 | b (i : Nat)
inductive Wh where
 | c (c : Code)
 | x (e : ah_)
def nx : Nat → Wh → List Ct → Option (Wh × List Ct)
 | 0, _, _ => none
 | n + 1, .c c, k => match c with
  | .seq a b => nx n (.c a) (.s b :: k)
  | .block i c => nx n (.c c) (.b i :: k)
  | .skip => nx n (.x .normal) k
  | .exit i => nx n (.x (.exit i)) k
  | .ret => nx n (.x .ret) k
  | c => some (.c c, k)
 | n + 1, .x e, k => match k with
  | [] => some (.x e, [])
  | .s c :: k => match e with
   | .normal => nx n (.c c) k
   | .exit j => nx n (.x (.exit j)) k
   | .ret => nx n (.x .ret) k
  | .b i :: k => match e with
   | .exit j => match Nat.beq j i with
    | true => nx n (.x .normal) k
    | false => nx n (.x (.exit j)) k
   | .normal => nx n (.x .normal) k
   | .ret => nx n (.x .ret) k
section
variable (P : Program) (O : al_)
def popQ : List Ct → (ah_ → Fr → Prop) → ah_ → Fr → Prop
 | [], Q => Q
 | .s c :: k, Q => seqQ (codeQ P O c (popQ k Q)) (popQ k Q)
 | .b i :: k, Q => blkQ i (popQ k Q)
def whQ : Wh → List Ct → (ah_ → Fr → Prop) → Fr → Prop
 | .c c, k, Q, fr => codeQ P O c (popQ P O k Q) fr
 | .x e, k, Q, fr => popQ P O k Q e fr
end
section
variable {P : Program} {O : al_} {Q : ah_ → Fr → Prop} {fr : Fr}
theorem nx_ok : ∀ {n : Nat} {w : Wh} {k : List Ct} {w' : Wh} {k' : List Ct}, nx n w k = some (w', k') → whQ P O w' k' Q fr → whQ P O w k Q fr
 | 0, _, _, _, _, h, _ => by cases h
 | n + 1, .c c, k, w', k', h, g => by
  have hd : ∀ c, some (Wh.c c, k) = some (w', k') → whQ P O (.c c) k Q fr := fun c h => by injection h with h; injection h with h1 h2; subst h1; subst h2; exact g
  cases c with
  | seq a b => exact nx_ok (n := n) (w := .c a) (k := .s b :: k) h g
  | block i c => exact nx_ok (n := n) (w := .c c) (k := .b i :: k) h g
  | skip => exact nx_ok (n := n) (w := .x .normal) h g
  | exit i => exact nx_ok (n := n) (w := .x (.exit i)) h g
  | ret => exact nx_ok (n := n) (w := .x .ret) h g
  | _ => exact hd _ h
 | n + 1, .x e, [], w', k', h, g => by injection h with h; injection h with h1 h2; subst h1; subst h2; exact g
 | n + 1, .x e, .s c :: k, w', k', h, g => by
  cases e with
  | normal => exact nx_ok (n := n) (w := .c c) (k := k) h g
  | exit j => exact nx_ok (n := n) (w := .x (.exit j)) (k := k) h g
  | ret => exact nx_ok (n := n) (w := .x .ret) (k := k) h g
 | n + 1, .x e, .b i :: k, w', k', h, g => by
  cases e with
  | normal => exact nx_ok (n := n) (w := .x .normal) (k := k) h g
  | exit j =>
   simp only [nx] at h
   show popQ P O k Q (if j = i then .normal else .exit j) fr
   split at h
   ·rename_i hb; rw [if_pos (Nat.eq_of_beq_eq_true hb)]; exact nx_ok (n := n) (w := .x .normal) (k := k) h g
   ·rename_i hb; rw [if_neg (fun e => by rw [e] at hb; simp at hb)]; exact nx_ok (n := n) (w := .x (.exit j)) (k := k) h g
  | ret => exact nx_ok (n := n) (w := .x .ret) (k := k) h g
end
def foL {α β : Type} : List α → (List α → Option β) → Option β
 | [], k => k []
 | x :: xs, k => foL xs fun ys => k (x :: ys)
theorem bN_ {α β : Type} : ∀ (l : List α) (k : List α → Option β), foL l k = k l
 | [], _ => rfl
 | x :: xs, k => by rw [foL, bN_ xs]
def tkL {β : Type} : Nat → List T → (List T → Option β) → Option β
 | 0, _, k => k []
 | _ + 1, [], _ => none
 | n + 1, x :: xs, k => tkL n xs fun ys => k (x :: ys)
theorem gT_ {β : Type} {b : β} : ∀ {n : Nat} {l : List T} {k : List T → Option β}, tkL n l k = some b → n ≤ l.length ∧ k (l.take n) = some b
 | 0, l, k, h => ⟨Nat.zero_le _, by simpa [tkL] using h⟩
 | n + 1, [], k, h => by cases h
 | n + 1, x :: xs, k, h => by
  obtain ⟨h1, h2⟩ := gT_ (n := n) (l := xs) h
  exact ⟨by simp; omega, by simpa using h2⟩
def drL : Nat → List T → Option (List T)
 | 0, l => some l
 | _ + 1, [] => none
 | n + 1, _ :: xs => drL n xs
theorem drL_some : ∀ {n : Nat} {l r : List T}, drL n l = some r → n ≤ l.length ∧ r = l.drop n
 | 0, l, r, h => ⟨Nat.zero_le _, by injection h with h; simp [h]⟩
 | n + 1, [], r, h => by cases h
 | n + 1, x :: xs, r, h => by
  obtain ⟨h1, h2⟩ := drL_some (n := n) (l := xs) h
  exact ⟨by simp; omega, by simpa using h2⟩
def i4_ (P : Program) (t : TypeId) (cs : List T) (off : Nat) : Option T :=
 match drL off cs with
 | some cs => match fY_ P t with
  | some true => match szOf P t with
   | some n => tkL n cs fun l => some (.agg l)
   | none => none
  | some false => match cs with
   | x :: _ => some x
   | [] => none
  | none => none
 | none => none
theorem iv_ {P : Program} {t : TypeId} {cs : List T} {off : Nat} {v : T} (h : i4_ P t cs off = some v) : part P t cs off = some v := by
 unfold i4_ at h
 split at h
 ·rename_i r hr
  obtain ⟨h1, rfl⟩ := drL_some hr
  unfold part
  split at h
  ·rename_i ha
   split at h
   ·rename_i n hn
    obtain ⟨h2, h3⟩ := gT_ h
    simp only [List.length_drop] at h2
    rw [ha, Option.bind_some, hn]
    simp only [if_true, Option.bind_some]
    rw [if_pos (by omega)]; exact h3
   ·cases h
  ·rename_i ha
   rw [ha, Option.bind_some]
   simp only [Bool.false_eq_true, if_false]
   split at h
   ·rename_i x xs hx
    injection h with h; subst h
    have := congrArg (·[0]?) hx
    simpa using this
   ·cases h
  ·cases h
 ·cases h
def k0_ (place : Nat → Option (Nat × Nat)) (cells : List T) : List (Nat × T) → Option (List T)
 | [] => some cells
 | (i, v) :: rest => match place i with
  | some (off, size) => match Nat.beq v.cells.length size && Nat.ble (off + size) cells.length && v.cells.all T.one with
   | true => foL (splice cells off v.cells) fun cells => k0_ place cells rest
   | false => none
  | none => none
theorem ip_ {place : Nat → Option (Nat × Nat)} : ∀ {ps : List (Nat × T)} {cells r : List T}, k0_ place cells ps = some r → cp_ place cells ps = some r
 | [], _, _, h => h
 | (i, v) :: rest, cells, r, h => by
  simp only [k0_] at h
  split at h
  ·rename_i off size hp
   split at h
   ·rename_i hc
    simp only [Bool.and_eq_true] at hc
    rw [bN_] at h
    simp only [cp_, hp, Option.bind_some]
    rw [if_pos ⟨Nat.eq_of_beq_eq_true hc.1.1, Nat.le_of_ble_eq_true hc.1.2, hc.2⟩]
    exact ip_ h
   ·cases h
  ·cases h
def pF (P : Program) (g : Nat → Option T) (op : Op) : Option T :=
 match op with
 | .build t parts => match aB_ P t with
  | some z => match gPs g parts.toList with
   | some ps => match okP P t with
    | true => match k0_ (fun i => match aN_ P t i with | some (o, _, n) => some (o, n) | none => none) z ps with
     | some cs => foL cs fun cs => some (.agg cs)
     | none => none
    | false => none
   | none => none
  | none => none
 | .load t a => match gE g a with
  | some (.vw cs) => i4_ P t cs 0
  | _ => none
 | .field t x f => match gE g x with
  | some (.agg cs) => match aN_ P t f with
   | some (off, ft, _) => i4_ P ft cs off
   | none => none
  | _ => none
 | .fieldAddr t x f => match gE g x with
  | some x => match aN_ P t f with
   | some (off, _, n) => match x with
    | .ptr b e o m => match !Nat.beq n 0 && Nat.ble (off + n) m with
     | true => some (.ptr b e (o + off) n)
     | false => none
    | .vw cs => match n with
     | 0 => none
     | _ + 1 => match drL off cs with
      | some cs' => match tkL n cs' (fun _ => some ()) with
       | some _ => some (.vw cs')
       | none => none
      | none => none
    | _ => none
   | none => none
  | none => none
 | op => pOp P g op
theorem n8_ {P : Program} {g : Nat → Option T} {op : Op} {v : T} (h : pF P g op = some v) : pOp P g op = some v := by
 cases op with
 | build t parts =>
  simp only [pF] at h
  split at h
  ·rename_i z hz
   split at h
   ·rename_i ps hp
    split at h
    ·rename_i hk
     split at h
     ·rename_i cs hc
      rw [bN_] at h
      have e : (fun i => (aN_ P t i).map fun (o, _, n) => (o, n)) = fun i => match aN_ P t i with | some (o, _, n) => some (o, n) | none => none := by
       funext i; cases aN_ P t i <;> rfl
      simp only [pOp, hz, hp, hk, e, ip_ hc]; exact h
     ·cases h
    ·cases h
   ·cases h
  ·cases h
 | load t a =>
  simp only [pF] at h
  split at h
  ·rename_i hc; simp only [pOp, hc]; exact iv_ h
  ·cases h
 | field t x f =>
  simp only [pF] at h
  split at h
  ·rename_i hc
   split at h
   ·rename_i hf; simp only [pOp, hc, hf]; exact iv_ h
   ·cases h
  ·cases h
 | fieldAddr t x f =>
  simp only [pF] at h
  split at h
  ·rename_i hx
   split at h
   ·rename_i hf
    simp only [pOp, hx, hf]
    split at h
    ·split at h
     ·rename_i hc
      simp only [Bool.and_eq_true, Bool.not_eq_true'] at hc
      show (if _ = 0 then none else if _ then _ else none) = _; rw [if_neg (fun (e : _ = 0) => by rw [e] at hc; simp at hc), if_pos (Nat.le_of_ble_eq_true hc.2)]; exact h
     ·cases h
    ·split at h
     ·cases h
     ·split at h
      ·rename_i cs' hd
       obtain ⟨h1, rfl⟩ := drL_some hd
       split at h
       ·rename_i u hu
        obtain ⟨h2, _⟩ := gT_ hu
        simp only [List.length_drop] at h2
        show (if _ = 0 then none else if _ then _ else none) = _; rw [if_neg (by omega), if_pos (by omega)]; exact h
       ·cases h
      ·cases h
    ·cases h
   ·cases h
  ·cases h
 | _ => exact h
def sg (P : Program) (ops : Array Oper) : Nat → List Oper → List (Nat × T) → Option (List (Nat × T) × List Oper)
 | 0, l, L => some (L, l)
 | _ + 1, [], _ => none
 | n + 1, o :: l, L => match want ops L o.guard with
  | some true => match pF P (get L) o.op with
   | some v => match o.dst with
    | some d => sg P ops n l ((d, v) :: L)
    | none => sg P ops n l L
   | none => none
  | some false => match o.dst with
   | some d => sg P ops n l ((d, .tup []) :: L)
   | none => sg P ops n l L
  | none => none
theorem f1_ {P : Program} {ops : Array Oper} : ∀ {n : Nat} {l : List Oper} {L : List (Nat × T)} {M : List (Nat × T)} {l' : List Oper}, sg P ops n l L = some (M, l') → seg P ops n l L = some M ∧ l' = l.drop n
 | 0, l, L, M, l', h => by injection h with h; injection h with h1 h2; subst h1; subst h2; exact ⟨rfl, rfl⟩
 | n + 1, [], L, M, l', h => by cases h
 | n + 1, o :: l, L, M, l', h => by
  simp only [sg] at h
  simp only [seg, List.drop_succ_cons]
  split at h
  ·rename_i hw
   split at h
   ·rename_i v hv
    simp only [hw, n8_ hv]
    split at h
    ·rename_i d hd; rw [hd]; exact f1_ h
    ·rename_i hd; rw [hd]; exact f1_ h
   ·cases h
  ·rename_i hw
   simp only [hw]
   split at h
   ·rename_i d hd; rw [hd]; exact f1_ h
   ·rename_i hd; rw [hd]; exact f1_ h
  ·cases h
def sgA (P : Program) (ops : Array Oper) : List Oper → List (Nat × T) → Option (List (Nat × T))
 | [], L => some L
 | o :: l, L => match want ops L o.guard with
  | some true => match pF P (get L) o.op with
   | some v => match o.dst with
    | some d => sgA P ops l ((d, v) :: L)
    | none => sgA P ops l L
   | none => none
  | some false => match o.dst with
   | some d => sgA P ops l ((d, .tup []) :: L)
   | none => sgA P ops l L
  | none => none
theorem fA_ {P : Program} {ops : Array Oper} : ∀ {l : List Oper} {L : List (Nat × T)} {M : List (Nat × T)}, sgA P ops l L = some M → seg P ops l.length l L = some M
 | [], L, M, h => by injection h with h; subst h; rfl
 | o :: l, L, M, h => by
  simp only [sgA] at h
  simp only [seg, List.length_cons]
  split at h
  ·rename_i hw
   split at h
   ·rename_i v hv
    simp only [hw, n8_ hv]
    split at h
    ·rename_i d hd; rw [hd]; exact fA_ h
    ·rename_i hd; rw [hd]; exact fA_ h
   ·cases h
  ·rename_i hw
   simp only [hw]
   split at h
   ·rename_i d hd; rw [hd]; exact fA_ h
   ·rename_i hd; rw [hd]; exact fA_ h
  ·cases h
section
variable {P : Program} {O : al_} {ops : Array Oper} {m : Mo} {l l' : List Oper} {K : Fr → Prop} {σ0 : St} {L L' : List (Nat × T)} {es es' : List Ent} {p q : Prop} {G : Fr → Prop}
variable {Q : ah_ → Fr → Prop} {k k' : List Ct} {w w' : Wh} {s : Nat → T} {σ : St}
theorem t_bk (h : p) (hS : Sub L s) (hH : Heap σ0 σ es) (kk : Kn σ0 L es p G) : G ⟨s, σ⟩ := kk h s σ hS hH
theorem t_h (f : ∀ {σ}, Heap σ0 σ es → Heap σ0 σ es') (kk : Kn σ0 L es' p G) : Kn σ0 L es p G := fun h s σ hS hH => kk h s σ hS (f hH)
theorem t_U (n : Nat) (kk : Kn σ0 L' es p (opsX P O ops (nxN n m) l' K)) (h : sg P ops n l L = some (L', l') := by rfl) : Kn σ0 L es p (opsX P O ops m l K) := fun hp s σ hS hH => by
 obtain ⟨h1, rfl⟩ := f1_ h
 exact seg_sound h1 hS fun s' hM => kk hp s' σ hM hH
theorem t_N (kk : Kn σ0 L' es p (whQ P O w' k' Q)) (h : sgA P ops l L = some L' := by rfl) (h2 : nx 99 (.x .normal) k = some (w', k') := by rfl) : Kn σ0 L es p (opsX P O ops m l (popQ P O k Q .normal)) := fun hp s σ hS hH =>
 seg_sound (fA_ h) hS fun s' hM => by
  rw [List.drop_length]
  exact oq_ (nx_ok (w := .x .normal) h2 (kk hp s' σ hM hH))
theorem t_R {id : Nat} (kk : Kn σ0 L es p (opsX P O ops .q ops.toList (popQ P O k Q .normal))) : Kn σ0 L es p (whQ P O (.c (.region id ops false)) k Q) := kk
theorem t_RU {id : Nat} (n : Nat) (kk : Kn σ0 L' es p (opsX P O ops .q l' (popQ P O k Q .normal))) (h : sg P ops n ops.toList L = some (L', l') := by rfl) : Kn σ0 L es p (whQ P O (.c (.region id ops false)) k Q) := fun hp s σ hS hH => by
 obtain ⟨h1, rfl⟩ := f1_ h
 have e : ∀ n, nxN n Mo.q = .q := fun n => by induction n with
  | zero => rfl
  | succ n ih => exact ih
 exact seg_sound (m := .q) h1 hS fun s' hM => by rw [e]; exact kk hp s' σ hM hH
theorem t_RN {id : Nat} (kk : Kn σ0 L' es p (whQ P O w' k' Q)) (h : sgA P ops ops.toList L = some L' := by rfl) (h2 : nx 99 (.x .normal) k = some (w', k') := by rfl) : Kn σ0 L es p (whQ P O (.c (.region id ops false)) k Q) := t_R (t_N kk h h2)
theorem t_go {c : Code} (h : p) (hS : Sub L s) (hH : Heap σ0 σ es) (kk : Kn σ0 L es p (whQ P O w' k' Q)) (hn : nx 99 (.c c) [] = some (w', k') := by rfl) : codeQ P O c Q ⟨s, σ⟩ := nx_ok (w := .c c) (k := []) hn (kk h s σ hS hH)
theorem ff_ne : ¬ (false = true) := by simp
end
section
variable {P : Program} {O : al_} {ops : Array Oper} {m : Mo} {l : List Oper} {K : Fr → Prop} {σ0 : St} {L L' : List (Nat × T)} {es es' : List Ent} {p q : Prop} {G : Fr → Prop} {γ : Type} {r : γ} {x y : Option γ}
variable {Q : ah_ → Fr → Prop} {k k1 k2 : List Ct} {w1 w2 : Wh} {c : Operand} {a b : Code} {t : Bool}
theorem t_if (h1 : t = true → Kn σ0 L es (x = some r) (whQ P O w1 k1 Q)) (h2 : ¬ (t = true) → Kn σ0 L es (y = some r) (whQ P O w2 k2 Q)) (hc : gE (get L) c = some (.bool t) := by rfl) (e1 : nx 99 (.c a) k = some (w1, k1) := by rfl) (e2 : nx 99 (.c b) k = some (w2, k2) := by rfl) : Kn σ0 L es ((if t = true then x else y) = some r) (whQ P O (.c (.cond c a b)) k Q) := fun hp s σ hS hH =>
 kg_ hS hc (fun h => nx_ok (w := .c a) e1 (h1 h (lH_ h hp) s σ hS hH)) (fun h => have h : ¬ (t = true) := by simp [h]
  nx_ok (w := .c b) e2 (h2 h (lM_ h hp) s σ hS hH))
theorem t_cT (h : t = true) (kk : Kn σ0 L es p (whQ P O w1 k1 Q)) (hc : gE (get L) c = some (.bool t) := by rfl) (e1 : nx 99 (.c a) k = some (w1, k1) := by rfl) : Kn σ0 L es p (whQ P O (.c (.cond c a b)) k Q) := fun hp s σ hS hH =>
 c_cT h hS hc (nx_ok (w := .c a) e1 (kk hp s σ hS hH))
theorem t_cF (h : ¬ (t = true)) (kk : Kn σ0 L es p (whQ P O w1 k1 Q)) (hc : gE (get L) c = some (.bool t) := by rfl) (e1 : nx 99 (.c b) k = some (w1, k1) := by rfl) : Kn σ0 L es p (whQ P O (.c (.cond c a b)) k Q) := fun hp s σ hS hH =>
 c_cF h hS hc (nx_ok (w := .c b) e1 (kk hp s σ hS hH))
theorem aR_ (d : Nat) (h1 : t = true → Kn σ0 ((d, .bool true) :: L) es (x = some r) G) (h2 : ¬ (t = true) → Kn σ0 ((d, .bool false) :: L) es (y = some r) G) (hc : get L d = some (.bool t) := by rfl) : Kn σ0 L es ((if t = true then x else y) = some r) G := fun hp s σ hS hH => by
 have e := hS d _ hc
 by_cases h : t = true
 ·exact h1 h (lH_ h hp) s σ (io_ hS (by rw [e, h])) hH
 ·exact h2 h (lM_ h hp) s σ (io_ hS (by rw [e]; simp at h; rw [h])) hH
end
end Go.Am
end
