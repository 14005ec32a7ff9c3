/- The abstract machine. -/
import Derived.Test.YtohkcdkmpencnaaDoorAm3
import Derived.Laws.Externs
import Derived.Test.YtohkcdkmpencnaaDoorAm2
section
set_option linter.unusedVariables false
set_option linter.unusedSimpArgs false
namespace Go.Am
open Classical
def Lent (σ : St) (b : Nat) (cells : List T) : Prop := b < σ.next ∧ ∃ B, σ.blk b = some B ∧ B.cells = cells ∧ B.ep = 0 ∧ B.low = 0
def LentL (σ : St) : List Nat → List (List T) → Prop
  | [], [] => True
  | b :: bs, c :: cs => Lent σ b c ∧ LentL σ bs cs
  | _, _ => False
theorem Lent.grow {σ σ' : St} {b : Nat} {cells : List T} (h : Lent σ b cells) (g : Grow σ σ') : Lent σ' b cells := by
  obtain ⟨h1, B, h2, h3⟩ := h
  exact ⟨Nat.lt_of_lt_of_le h1 g.nx, B, by rw [g.old b h1, h2], h3⟩
theorem lent_ex : ∀ (cs : List (List T)), ∃ σ bs, LentL σ bs cs := by
  intro cs
  have key : ∀ (cs : List (List T)) (k : Nat) (σ : St), (∀ i c, cs[i]? = some c → Lent σ (k + i) c) → LentL σ (List.range' k cs.length) cs := by
    intro cs
    induction cs with
    | nil => intro k σ _; trivial
    | cons c cs ih =>
      intro k σ h
      exact ⟨h 0 c (by simp), ih (k + 1) σ fun i c hi => by have := h (i + 1) c (by simpa using hi); rwa [show k + (i + 1) = k + 1 + i by omega] at this⟩
  refine ⟨⟨cs.length, fun i => (cs[i]?).map fun c => mkBlk c 1⟩, _, key cs 0 _ fun i c hi => ?_⟩
  exact ⟨by have := (List.getElem?_eq_some_iff.1 hi).1; simpa using this, mkBlk c 1, by simp [hi], rfl, rfl, rfl⟩
section
variable {P : Program} {md : Nat → Md} {X : Ext} {β : Type} {eb : β → T} {f : Nat} {r : β}
variable {O : Oracle} {ops : Array Oper} {m : Mo} {l : List Oper} {K : Fr → Prop} {s : Nat → T} {σ σ0 : St} {L : List (Nat × T)} {es ents : List Ent}
variable {d : Option Nat} {ty : TypeId} {ps : String} {af : Array Edge} {g : Option (Nat × Bool)}
def OwnLR (P : Program) (md : Nat → Md) (X : Ext) (Sh : Shape β) (f : Nat) (mk : List Nat → List T) (cs : List (List T)) (r : β) : Prop :=
  ∀ σ bs, LentL σ bs cs → ∃ hs σ', hs.length = Sh.n ∧ run P md X f (mk bs) σ = some (Sh.tree hs r, σ') ∧ Heap σ σ' (Sh.en hs r) ∧ ∀ b, b < σ.next → σ'.blk b = σ.blk b
theorem OwnLR.uniq {Sh : Shape β} {mk : List Nat → List T} {cs : List (List T)} {r r' : β} (h : OwnLR P md X Sh f mk cs r) (h' : OwnLR P md X Sh f mk cs r') : r = r' := by
  obtain ⟨σ, bs, hl⟩ := lent_ex cs
  obtain ⟨hs, σ', h1, h2, h3, _⟩ := h σ bs hl
  obtain ⟨hs', σ2, h4, h5, h6, _⟩ := h' σ bs hl
  rw [h2] at h5; injection h5 with h5; injection h5 with h5 h7
  subst h7
  obtain ⟨D, S, k1, _⟩ := (Sh.ok hs r h1).frz (es := []) (by simpa using h3)
  obtain ⟨D', S', k2, _⟩ := (Sh.ok hs' r' h4).frz (es := []) (by simpa using h6)
  rw [← h5] at k2
  have := frzL_uniq k1 k2
  injection this with e _
  injection e with e _
  exact Sh.inj _ _ e
end
section
variable {P : Program} {O : Oracle} {ops : Array Oper} {m : Mo} {l : List Oper} {K : Fr → Prop} {s : Nat → T} {σ : St} {L : List (Nat × T)}
variable {d : Option Nat} {ty : TypeId} {ps : String} {af : Array Edge} {g : Option (Nat × Bool)}
end
def isFlt (o : Oper) : Bool := (match o.op with
  | .alloc _ => true
  | .box _ _ => true
  | .buildSlice _ _ _ => true
  | .makeSlice _ _ _ => true
  | _ => false) && o.guard.isNone
def fltAt (ops : Array Oper) (i : Nat) : Bool := match ops[i]? with
  | some o => isFlt o
  | none => false
def wk1 (md : Nat → Md) (ops : Array Oper) (i : Nat) : Bool := match ops[i]? with
  | some o => match o.op with
    | .store .. => true
    | .call d => match d.callee with
      | .builtin .append => true
      | .value (.func f) => decide (md f = .raw)
      | .value (.tmp _) => true
      | _ => false
    | _ => false
  | none => false
def vwB (vs : List Nat) (md : Nat → Md) (ops : Array Oper) (i : Nat) : Bool := vs.elem i && !fltAt ops i && !wk1 md ops i
def chgsOf (vs : List Nat) (md : Nat → Md) (ops : Array Oper) : List Nat := (List.range ops.size).filter fun i => match ops[i]? with
  | some o => isChg o.op && !vwB vs md ops i
  | none => false
def cmpB (vs : List Nat) (md : Nat → Md) (ops : Array Oper) (i : Nat) : Bool := (chgsOf vs md ops).all fun k => bif Nat.blt k i then bitOf ((ancM ops).getD i 0) k else (Nat.beq k i || fltAt ops k || bitOf ((ancM ops).getD k 0) i)
def wkB (md : Nat → Md) (ops : Array Oper) (c i : Nat) : Bool := Nat.beq c i && wk1 md ops i
def cmp1 (ops : Array Oper) (k i : Nat) : Bool := bif Nat.blt k i then bitOf ((ancM ops).getD i 0) k else (Nat.beq k i || fltAt ops k || bitOf ((ancM ops).getD k 0) i)
def ckB (md : Nat → Md) (ops : Array Oper) (c i : Nat) : Bool := !wk1 md ops c || cmp1 ops c i
def cmpOf (vs : List Nat) (md : Nat → Md) (ops : Array Oper) : Cmp := ⟨vwB vs md ops, cmpB vs md ops, ckB md ops, wkB md ops⟩
def chainB (vs : List Nat) (md : Nat → Md) (ops : Array Oper) : Bool := (chgsOf vs md ops).all fun i => (chgsOf vs md ops).all fun j => !Nat.blt i j || fltAt ops j || bitOf ((ancM ops).getD j 0) i
def lastC (ch : List Nat) (c : Nat → Bool) : Nat := ch.foldr (fun k a => if c k then max (k + 1) a else a) 0
theorem lastC_le {ch : List Nat} {c : Nat → Bool} {n : Nat} : lastC ch c ≤ n ↔ ∀ k ∈ ch, c k = true → k + 1 ≤ n := by
  induction ch with
  | nil => simp [lastC]
  | cons a ch ih =>
    have e : lastC (a :: ch) c = if c a then max (a + 1) (lastC ch c) else lastC ch c := rfl
    rw [e]
    by_cases h : c a = true
    · rw [if_pos h]
      constructor
      · intro hle k hk hc
        rcases List.mem_cons.1 hk with rfl | hk
        · omega
        · exact ih.1 (by omega) k hk hc
      · intro hall
        have := hall a (by simp) h
        have := ih.2 fun k hk hc => hall k (by simp [hk]) hc
        omega
    · rw [if_neg h]
      exact ⟨fun hle k hk hc => by rcases List.mem_cons.1 hk with rfl | hk; exact absurd hc h; exact ih.1 hle k hk hc, fun hall => ih.2 fun k hk hc => hall k (by simp [hk]) hc⟩
theorem lastC_congr {ch : List Nat} {c c' : Nat → Bool} (h : ∀ k ∈ ch, c k = c' k) : lastC ch c = lastC ch c' := by
  apply Nat.le_antisymm
  · exact lastC_le.2 fun k hk hc => lastC_le.1 (Nat.le_refl _) k hk (by rw [← h k hk]; exact hc)
  · exact lastC_le.2 fun k hk hc => lastC_le.1 (Nat.le_refl _) k hk (by rw [h k hk]; exact hc)
theorem lastC_eq {ch : List Nat} {c : Nat → Bool} {i : Nat} (hi : i ∈ ch) (hc : c i = true) (h : ∀ k ∈ ch, c k = true → k ≤ i) : lastC ch c = i + 1 :=
  Nat.le_antisymm (lastC_le.2 fun k hk hck => by have := h k hk hck; omega) (lastC_le.1 (Nat.le_refl _) i hi hc)
theorem lastC_mem {ch : List Nat} {c : Nat → Bool} (h : lastC ch c ≠ 0) : ∃ k ∈ ch, c k = true ∧ lastC ch c = k + 1 := by
  induction ch with
  | nil => simp [lastC] at h
  | cons a ch ih =>
    have e : lastC (a :: ch) c = if c a then max (a + 1) (lastC ch c) else lastC ch c := rfl
    rw [e] at h ⊢
    by_cases hc : c a = true
    · rw [if_pos hc] at h ⊢
      by_cases hm : lastC ch c ≤ a + 1
      · exact ⟨a, by simp, hc, by omega⟩
      · obtain ⟨k, k1, k2, k3⟩ := ih (by omega)
        exact ⟨k, by simp [k1], k2, by omega⟩
    · rw [if_neg hc] at h ⊢
      obtain ⟨k, k1, k2, k3⟩ := ih h
      exact ⟨k, by simp [k1], k2, k3⟩
def St.over (σ : St) (p : Nat → Bool) (Bk : Nat → Blk) : St := ⟨σ.next, fun i => if p i = true then some (Bk i) else σ.blk i⟩
theorem over_none {σ : St} {p : Nat → Bool} {Bk : Nat → Blk} (h : ∀ i, p i = false) : σ.over p Bk = σ := St.ext' rfl fun i => by simp [St.over, h i]
theorem over_over {σ : St} {p q r : Nat → Bool} {Bk : Nat → Blk} (h : ∀ i, r i = (p i || q i)) : (σ.over p Bk).over q Bk = σ.over r Bk := St.ext' rfl fun i => by
  simp only [St.over, h i]
  cases hq : q i <;> cases hp : p i <;> simp
theorem over_set {σ : St} {p : Nat → Bool} {Bk : Nat → Blk} {x : Nat} : (σ.over p Bk).set x (Bk x) = σ.over (fun i => p i || decide (i = x)) Bk := St.ext' rfl fun i => by
  simp only [St.over, St.set]
  by_cases h : i = x
  · subst h; simp
  · simp [h]
section
variable {P : Program} {md : Nat → Md} {X : Ext} {O : Oracle} {ops : Array Oper} {K : Fr → Prop} {s : Nat → T} {b : Nat} {W : Nat → Nat → Prop} {σs : St} {cm : Cmp}
theorem stepV_eq {i : Nat} {o : Oper} (ho : ops[i]? = some o) (s : Nat → T) (σ : St) : stepV P O ops b i s σ = stepO P O ops (b + i) o s σ := by
  unfold stepV stepO; rw [ho]; rfl
theorem step_fm (hX : XOk X) {k : Nat} {o : Oper} {s : Nat → T} {σ σ' : St} {v : T} {x : Nat} {B : Blk} (h : stepO P (run P md X) ops k o s σ = some (v, σ')) (hk : k ≠ x) (hx : σ.blk x = none) (hl : x < σ.next) :
    stepO P (run P md X) ops k o s (σ.set x B) = some (v, σ'.set x B) ∧ σ'.blk x = none ∧ x < σ'.next := by
  unfold stepO at h ⊢
  have hk' : some k ≠ some x := fun e => hk (by injection e)
  split at h
  · rename_i hw
    rw [if_pos hw]
    obtain ⟨r, h1, h2⟩ := Option.bind_eq_some_iff.1 h
    cases r with
    | val v' σ1 =>
      injection h2 with h2; injection h2 with e1 e2; subst e1; subst e2
      obtain ⟨a1, a2⟩ := aOp_val (fr := ⟨s, σ⟩) (B := B) hk' hx hl h1
      have a1 : aOp P (some k) ⟨s, σ.set x B⟩ o = _ := a1
      rw [a1]; exact ⟨rfl, a2⟩
    | skip σ1 =>
      injection h2 with h2; injection h2 with e1 e2; subst e1; subst e2
      obtain ⟨a1, a2⟩ := aOp_skip (fr := ⟨s, σ⟩) (B := B) hk' hx hl h1
      have a1 : aOp P (some k) ⟨s, σ.set x B⟩ o = _ := a1
      rw [a1]; exact ⟨rfl, a2⟩
    | call f args =>
      have a1 := aOp_call (fr := ⟨s, σ⟩) (B := B) hk' hx hl h1
      have a1 : aOp P (some k) ⟨s, σ.set x B⟩ o = _ := a1
      rw [a1]; exact run_fm hX h2 hx hl
  · rename_i hw
    rw [if_neg hw]
    injection h with h; injection h with e1 e2; subst e1; subst e2
    exact ⟨rfl, hx, hl⟩
theorem step_over (hX : XOk X) {k : Nat} {o : Oper} {s : Nat → T} {σ σ' : St} {v : T} {Bk : Nat → Blk} (h : stepO P (run P md X) ops k o s σ = some (v, σ')) : ∀ (l : List Nat), (∀ x ∈ l, k ≠ x ∧ σ.blk x = none ∧ x < σ.next) → l.Nodup →
    stepO P (run P md X) ops k o s (σ.over (fun i => l.contains i) Bk) = some (v, σ'.over (fun i => l.contains i) Bk) ∧ ∀ x, x ∉ l → σ.blk x = none → x < σ.next → k ≠ x → (σ'.over (fun i => l.contains i) Bk).blk x = none ∧ x < σ'.next
  | [], _, _ => by
    rw [over_none (fun i => by simp), over_none (fun i => by simp)]
    exact ⟨h, fun x _ h1 h2 h3 => by obtain ⟨_, a, b⟩ := step_fm (B := mkBlk [] 0) hX h h3 h1 h2; exact ⟨a, b⟩⟩
  | y :: l, hl, hn => by
    obtain ⟨n1, n2⟩ := List.nodup_cons.1 hn
    obtain ⟨y1, y2, y3⟩ := hl y (by simp)
    obtain ⟨k1, k2⟩ := step_over hX (Bk := Bk) h l (fun x hx => hl x (by simp [hx])) n2
    have e : ∀ σ : St, (σ.over (fun i => l.contains i) Bk).set y (Bk y) = σ.over (fun i => (y :: l).contains i) Bk := fun σ => by
      rw [over_set]; congr 1; funext i
      rw [Bool.eq_iff_iff]; simp [or_comm]
    have hfree : (σ.over (fun i => l.contains i) Bk).blk y = none := by simp [St.over, n1, y2]
    obtain ⟨a1, a2, a3⟩ := step_fm (B := Bk y) hX k1 y1 hfree y3
    rw [e, e] at a1
    refine ⟨a1, fun x hx h1 h2 h3 => ?_⟩
    obtain ⟨c1, c2⟩ := k2 x (fun h => hx (by simp [h])) h1 h2 h3
    rw [← e]
    have hxy : x ≠ y := fun e => hx (by simp [e])
    refine ⟨?_, c2⟩
    rw [set_blk, if_neg hxy]; exact c1
theorem flt_step {k : Nat} {o : Oper} {s : Nat → T} {σ σ' : St} {v : T} (hf : isFlt o = true) (h : stepO P O ops k o s σ = some (v, σ')) : ∃ C, σ' = σ.set k C ∧ ∀ σ2 : St, σ2.blk k = none → k < σ2.next → stepO P O ops k o s σ2 = some (v, σ2.set k C) := by
  obtain ⟨d, op, ty, ps, af, g⟩ := o
  simp only [isFlt, Bool.and_eq_true, Option.isNone_iff_eq_none] at hf
  obtain ⟨hf, rfl⟩ := hf
  have hw : wantedA ops (⟨d, op, ty, ps, af, none⟩ : Oper) s = true := rfl
  have hok : ∀ σ2 : St, σ2.blk k = none → k < σ2.next → σ2.okK (some k) = true := fun σ2 h1 h2 => by simp [St.okK, h1, h2]
  unfold stepO at h ⊢
  rw [if_pos hw] at h
  cases op with
  | alloc t =>
    have e : ∀ σ2 : St, aOp P (some k) ⟨s, σ2⟩ ⟨d, .alloc t, ty, ps, af, none⟩ = (zeroOf P t).bind fun z => if σ2.okK (some k) = true then some (ARes.val (T.ptr k 0 0 z.length) (σ2.set k (mkBlk z z.length))) else none := fun _ => rfl
    rw [e] at h
    cases hz : zeroOf P t with
    | none => rw [hz] at h; cases h
    | some z =>
      rw [hz, Option.bind_some] at h
      split at h
      · injection h with h; injection h with h1 h2
        subst h1; subst h2
        refine ⟨mkBlk z z.length, rfl, fun σ2 c1 c2 => ?_⟩
        rw [if_pos hw, e, hz, Option.bind_some, if_pos (hok σ2 c1 c2)]; rfl
      · cases h
  | box t x =>
    have e : ∀ σ2 : St, aOp P (some k) ⟨s, σ2⟩ ⟨d, .box t x, ty, ps, af, none⟩ = (evalO s x).bind fun x => if x.cells.all T.one = true ∧ σ2.okK (some k) = true then some (ARes.val (T.ptr k 0 0 x.cells.length) (σ2.set k (mkBlk x.cells x.cells.length))) else none := fun _ => rfl
    rw [e] at h
    cases hz : evalO s x with
    | none => rw [hz] at h; cases h
    | some z =>
      rw [hz, Option.bind_some] at h
      split at h
      · rename_i hc
        injection h with h; injection h with h1 h2
        subst h1; subst h2
        refine ⟨mkBlk z.cells z.cells.length, rfl, fun σ2 c1 c2 => ?_⟩
        rw [if_pos hw, e, hz, Option.bind_some, if_pos ⟨hc.1, hok σ2 c1 c2⟩]; rfl
      · cases h
  | buildSlice t len parts =>
    have e : ∀ σ2 : St, aOp P (some k) ⟨s, σ2⟩ ⟨d, .buildSlice t len parts, ty, ps, af, none⟩ = (elemOfSl P t).bind fun e => (szOf P e).bind fun sz => (zeroOf P e).bind fun z => (evalPs s parts.toList).bind fun ps =>
      if z.length = sz ∧ len * sz ≤ 2 ^ 24 ∧ sz ≠ 0 ∧ σ2.okK (some k) = true then (fillA (fun i => some (i * sz, sz)) ((List.replicate len z).flatten) ps).map fun cs => ARes.val (if len = 0 then .emp else .ref k 0 0 len) (σ2.set k (mkBlk cs sz)) else none := fun _ => rfl
    rw [e] at h
    obtain ⟨r, h, hr⟩ := Option.bind_eq_some_iff.1 h
    obtain ⟨x1, h1, h⟩ := Option.bind_eq_some_iff.1 h
    obtain ⟨x2, h2, h⟩ := Option.bind_eq_some_iff.1 h
    obtain ⟨x3, h3, h⟩ := Option.bind_eq_some_iff.1 h
    obtain ⟨x4, h4, h⟩ := Option.bind_eq_some_iff.1 h
    split at h
    · rename_i hc
      obtain ⟨cs, h5, h6⟩ := Option.map_eq_some_iff.1 h
      subst h6
      injection hr with hr; injection hr with hr1 hr2
      subst hr1; subst hr2
      refine ⟨mkBlk cs x2, rfl, fun σ2 c1 c2 => ?_⟩
      rw [if_pos hw, e, h1, Option.bind_some, h2, Option.bind_some, h3, Option.bind_some, h4, Option.bind_some, if_pos ⟨hc.1, hc.2.1, hc.2.2.1, hok σ2 c1 c2⟩, h5]; rfl
    · cases h
  | makeSlice t x y =>
    have e : ∀ σ2 : St, aOp P (some k) ⟨s, σ2⟩ ⟨d, .makeSlice t x y, ty, ps, af, none⟩ = (evalO s x).bind fun l => (evalO s y).bind fun c =>
      match l, c with
      | .int _ l, .int _ c => (elemOfSl P t).bind fun e => (szOf P e).bind fun sz => (bytesOf P e).bind fun by_ => (zeroOf P e).bind fun z =>
          if 0 ≤ l ∧ l ≤ c ∧ c * by_ ≤ 2 ^ 40 ∧ c ≤ 2 ^ 40 ∧ z.length = sz ∧ sz ≠ 0 ∧ σ2.okK (some k) = true then
            some (.val (if l = 0 ∧ c = 0 then .emp else .ref k 0 0 l.toNat) (σ2.set k (mkBlk ((List.replicate l.toNat z).flatten) sz))) else none
      | _, _ => none := fun _ => rfl
    rw [e] at h
    obtain ⟨r, h, hr⟩ := Option.bind_eq_some_iff.1 h
    obtain ⟨x1, h1, h⟩ := Option.bind_eq_some_iff.1 h
    obtain ⟨x2, h2, h⟩ := Option.bind_eq_some_iff.1 h
    split at h
    · obtain ⟨x3, h3, h⟩ := Option.bind_eq_some_iff.1 h
      obtain ⟨x4, h4, h⟩ := Option.bind_eq_some_iff.1 h
      obtain ⟨x5, h5, h⟩ := Option.bind_eq_some_iff.1 h
      obtain ⟨x6, h6, h⟩ := Option.bind_eq_some_iff.1 h
      split at h
      · rename_i hc
        injection h with h; subst h
        injection hr with hr; injection hr with hr1 hr2
        subst hr1; subst hr2
        refine ⟨_, rfl, fun σ2 c1 c2 => ?_⟩
        rw [if_pos hw, e, h1, Option.bind_some, h2, Option.bind_some]
        simp only
        rw [h3, Option.bind_some, h4, Option.bind_some, h5, Option.bind_some, h6, Option.bind_some, if_pos ⟨hc.1, hc.2.1, hc.2.2.1, hc.2.2.2.1, hc.2.2.2.2.1, hc.2.2.2.2.2.1, hok σ2 c1 c2⟩]; rfl
      · cases h
    · cases h
  | _ => cases hf
theorem opsC_vals (vs : List Nat) (hcv : ∀ i, cm.vw i = vwB vs md ops i) (hf : DrawFacts ops) : ∀ n k (vals : Nat → T) (S : Nat → St), k + n = ops.size →
    (∀ i, i < k → stepV P O ops b i (sl ops vals s (fun j => decide (j < i))) (S i) = some (vals i, S (i + 1)) ∧ (∀ x, x < b → (∀ c, cm.wk c i = true → ¬ W c x) → (S (i + 1)).blk x = (S i).blk x) ∧ OldEq b W σs (S (i + 1)) ∧ Room b (i + 1) (ops.size - (i + 1)) (S (i + 1)) ∧ (i ∉ chgsOf vs md ops → S (i + 1) = S i ∧ ∀ σ', (cm.cm i = true → σ' = S i) → (∀ x, x < b → (∀ c, cm.ck c i = false → ¬ W c x) → σ'.blk x = (S i).blk x) → OldEq b W σs σ' → stepV P O ops b i (sl ops vals s (fun j => decide (j < i))) σ' = some (vals i, σ'))) →
    OldEq b W σs (S k) → Room b k (ops.size - k) (S k) → opsC P O ops b W σs cm k (ops.toList.drop k) K ⟨sl ops vals s (fun j => decide (j < k)), S k⟩ →
    ∃ (vals' : Nat → T) (S' : Nat → St), S' 0 = S 0 ∧ (∀ i, i < ops.size → stepV P O ops b i (sl ops vals' s (fun j => decide (j < i))) (S' i) = some (vals' i, S' (i + 1)) ∧ (∀ x, x < b → (∀ c, cm.wk c i = true → ¬ W c x) → (S' (i + 1)).blk x = (S' i).blk x) ∧ OldEq b W σs (S' (i + 1)) ∧ Room b (i + 1) (ops.size - (i + 1)) (S' (i + 1)) ∧ (i ∉ chgsOf vs md ops → S' (i + 1) = S' i ∧ ∀ σ', (cm.cm i = true → σ' = S' i) → (∀ x, x < b → (∀ c, cm.ck c i = false → ¬ W c x) → σ'.blk x = (S' i).blk x) → OldEq b W σs σ' → stepV P O ops b i (sl ops vals' s (fun j => decide (j < i))) σ' = some (vals' i, σ'))) ∧
      K ⟨sl ops vals' s (fun j => decide (j < ops.size)), S' ops.size⟩ := by
  intro n
  induction n with
  | zero =>
    intro k vals S hk h1 hA hR h2
    have : k = ops.size := by omega
    subst this
    rw [List.drop_of_length_le (by simp)] at h2
    exact ⟨vals, S, rfl, h1, h2⟩
  | succ n ih =>
    intro k vals S hk h1 hA hR h2
    have hlt : k < ops.size := by omega
    have ho : ops[k]? = some ops[k] := by simp [hlt]
    have hd : ops.toList.drop k = ops[k] :: ops.toList.drop (k + 1) := by
      rw [List.drop_eq_getElem_cons (by simpa using hlt)]; simp
    have hlen : (ops.toList.drop (k + 1)).length = ops.size - (k + 1) := by simp
    rw [hd] at h2
    have hmem : k ∈ chgsOf vs md ops ↔ (isChg ops[k].op && !cm.vw k) = true := by
      rw [hcv]; simp [chgsOf, hlt, ho]
    have hR1 : Room b (k + 1) (ops.size - (k + 1)) (S k) := Room.nxt (by rw [show ops.size - (k + 1) + 1 = ops.size - k by omega]; exact hR)
    -- the value and the state behind the operation
    have key : ∃ v σ', stepO P O ops (b + k) ops[k] (sl ops vals s (fun j => decide (j < k))) (S k) = some (v, σ') ∧ (∀ x, x < b → (∀ c, cm.wk c k = true → ¬ W c x) → σ'.blk x = (S k).blk x) ∧ OldEq b W σs σ' ∧ Room b (k + 1) (ops.size - (k + 1)) σ' ∧ (k ∉ chgsOf vs md ops → σ' = S k ∧ ∀ σ2, (cm.cm k = true → σ2 = S k) → (∀ x, x < b → (∀ c, cm.ck c k = false → ¬ W c x) → σ2.blk x = (S k).blk x) → OldEq b W σs σ2 → stepO P O ops (b + k) ops[k] (sl ops vals s (fun j => decide (j < k))) σ2 = some (v, σ2)) ∧
        opsC P O ops b W σs cm (k + 1) (ops.toList.drop (k + 1)) K (Fr.put ⟨sl ops vals s (fun j => decide (j < k)), S k⟩ ops[k].dst v σ') := by
      unfold opsC at h2
      cases hc : (isChg ops[k].op && !cm.vw k) && wantedA ops ops[k] (sl ops vals s (fun j => decide (j < k))) with
      | true =>
        simp only [hc] at h2
        obtain ⟨v, σ', q1, q0, q2, q2', q3⟩ := h2
        have hc := (Bool.and_eq_true _ _ ▸ hc : (isChg ops[k].op && !cm.vw k) = true ∧ _).1
        rw [hlen] at q2'
        exact ⟨v, σ', q1, q0, q2, q2', fun hn => absurd (hmem.2 hc) hn, q3⟩
      | false =>
        simp only [hc] at h2
        obtain ⟨v, q1, q3⟩ := h2
        exact ⟨v, S k, q1 _ (fun _ => rfl) (fun _ _ _ => rfl) hA, fun _ _ _ => rfl, hA, hR1, fun _ => ⟨rfl, q1⟩, q3⟩
    obtain ⟨v, σ', q1, q0, q2, q2', q3, q4⟩ := key
    let vals' : Nat → T := fun j => if j = k then v else vals j
    let S' : Nat → St := fun j => if j = k + 1 then σ' else S j
    have e1 : ∀ i, i ≤ k → sl ops vals' s (fun j => decide (j < i)) = sl ops vals s (fun j => decide (j < i)) := fun i hi => sl_vals fun j hj => by
      simp at hj
      simp only [vals']; rw [if_neg (by omega)]
    have e2 : (fun j => decide (j < k) || decide (j = k)) = (fun j => decide (j < k + 1)) := by
      funext j
      rw [Bool.eq_iff_iff]; simp; omega
    have e3 : ∀ i, i ≤ k → S' i = S i := fun i hi => by simp only [S']; rw [if_neg (by omega)]
    have e4 : S' (k + 1) = σ' := by simp [S']
    have e5 : vals' k = v := by simp [vals']
    obtain ⟨vals2, S2, r1, r2, r3⟩ := ih (k + 1) vals' S' (by omega) (fun i hi => by
      by_cases hik : i = k
      · subst hik
        rw [e1 i (Nat.le_refl _), e3 i (Nat.le_refl _), e4, e5, stepV_eq ho]
        refine ⟨q1, q0, q2, q2', fun hn => ⟨(q3 hn).1, fun σ2 h2' h3' h2 => ?_⟩⟩
        rw [stepV_eq ho]; exact (q3 hn).2 σ2 h2' h3' h2
      · rw [e1 i (by omega), e3 i (by omega), e3 (i + 1) (by omega), show vals' i = vals i from if_neg hik]
        exact h1 i (by omega)) (by rw [e4]; exact q2) (by rw [e4]; exact q2') (by
      have hp := sl_put (vals := vals') (s := s) hf ho (L := fun j => decide (j < k)) (by simp) (S k) σ'
      rw [e1 k (Nat.le_refl _), e2, e5] at hp
      rw [e4, ← hp]; exact q4)
    exact ⟨vals2, S2, by rw [r1, e3 0 (by omega)], r2, r3⟩
theorem drawQ_chain (vs : List Nat) (hX : XOk X) (hst : drawOk ops = true) (hch : chainB vs md ops = true) {fr : Fr} (h : opsC P (run P md X) ops fr.σ.next W (fr.σ.bump ops.size) (cmpOf vs md ops) 0 ops.toList K ⟨fr.s, fr.σ.bump ops.size⟩) : drawQ P (run P md X) ops K fr := by
  have hf := drawOk_facts hst
  obtain ⟨b, hb⟩ : ∃ b, b = fr.σ.next := ⟨_, rfl⟩
  obtain ⟨σs, hσs⟩ : ∃ σs, σs = fr.σ.bump ops.size := ⟨_, rfl⟩
  rw [← hb, ← hσs] at h
  have h0 : sl ops (fun _ => .tup []) fr.s (fun j => decide (j < 0)) = fr.s := by funext t; exact sl_none fun _ _ _ _ => by simp
  have hA0 : OldEq b W σs σs := ⟨by rw [hσs, bump_next]; omega, fun _ _ _ => rfl⟩
  have hR0 : Room b 0 ops.size σs := ⟨by rw [hσs, bump_next]; omega, fun j hj => by rw [hσs, bump_blk, if_neg (by omega)]⟩
  obtain ⟨vals, S, s0, h1, h2⟩ := opsC_vals (P := P) (O := run P md X) (K := K) (s := fr.s) (b := b) (W := W) (σs := σs) (cm := cmpOf vs md ops) vs (fun _ => rfl) hf ops.size 0 (fun _ => .tup []) (fun _ => σs) (by omega) (fun i hi => absurd hi (by omega)) hA0 (by simpa using hR0) (by rw [h0]; simpa using h)
  -- the chain and the new boxes
  obtain ⟨ch, hchd⟩ : ∃ ch, ch = (chgsOf vs md ops).filter fun i => !fltAt ops i := ⟨_, rfl⟩
  have hmem : ∀ i, i ∈ chgsOf vs md ops → i < ops.size := fun i hi => by
    simp only [chgsOf, List.mem_filter, List.mem_range] at hi; exact hi.1
  have hchm : ∀ i, i ∈ ch ↔ i ∈ chgsOf vs md ops ∧ fltAt ops i = false := fun i => by rw [hchd]; simp
  have hanc : ∀ i ∈ chgsOf vs md ops, ∀ j ∈ ch, i < j → i ∈ (ancs ops).getD j [] := fun i hi j hj hij => by
    have hj := (hchm j).1 hj
    have := List.all_eq_true.1 (List.all_eq_true.1 hch i hi) j hj.1
    simp only [Bool.or_eq_true, Bool.not_eq_true', hj.2] at this
    rcases this with (h | h) | h
    · have : Nat.blt i j = true := by simp [Nat.blt]; omega
      rw [this] at h; cases h
    · cases h
    · exact mem_ancs.2 ⟨hmem i hi, h⟩
  have hflt : ∀ i, fltAt ops i = true → i ∈ chgsOf vs md ops := fun i hi => by
    have hvw : vwB vs md ops i = false := by unfold vwB; rw [hi]; simp
    unfold fltAt at hi
    split at hi
    · rename_i o ho
      have hlt : i < ops.size := (Array.getElem?_eq_some_iff.1 ho).1
      simp only [chgsOf, List.mem_filter, List.mem_range, ho, hvw, Bool.not_false, Bool.and_true]
      refine ⟨hlt, ?_⟩
      simp only [isFlt, Bool.and_eq_true] at hi
      revert hi
      cases o.op <;> simp [isChg]
    · cases hi
  obtain ⟨Bk, hBk⟩ : ∃ Bk : Nat → Blk, Bk = fun x => ((S (x - b + 1)).blk x).getD (mkBlk [] 0) := ⟨_, rfl⟩
  -- which new boxes are there beside the chain
  let pX : (Nat → Bool) → Nat → Nat → Bool := fun c L x => decide (b ≤ x) && fltAt ops (x - b) && c (x - b) && decide (L ≤ x - b)
  let Sg : (Nat → Bool) → St := fun c => (S (lastC ch c)).over (pX c (lastC ch c)) Bk
  have hroom : ∀ j, j ≤ ops.size → Room b j (ops.size - j) (S j) ∧ OldEq b W σs (S j) := fun j hj => by
    cases j with
    | zero => rw [s0]; exact ⟨hR0, hA0⟩
    | succ j => exact ⟨(h1 j (by omega)).2.2.2.1, (h1 j (by omega)).2.2.1⟩
  have hle : ∀ c : Nat → Bool, lastC ch c ≤ ops.size := fun c => lastC_le.2 fun k hk _ => hmem k ((hchm k).1 hk).1
  have hfl : ∀ i, i < ops.size → fltAt ops i = true → S (i + 1) = (S i).set (b + i) (Bk (b + i)) ∧ ∀ σ2 : St, σ2.blk (b + i) = none → b + i < σ2.next → stepV P (run P md X) ops b i (sl ops vals fr.s (fun j => decide (j < i))) σ2 = some (vals i, σ2.set (b + i) (Bk (b + i))) := fun i hi hfi => by
    unfold fltAt at hfi
    split at hfi
    · rename_i o ho
      have := (h1 i hi).1
      rw [stepV_eq ho] at this
      obtain ⟨C, c1, c2⟩ := flt_step hfi this
      have hC : Bk (b + i) = C := by
        rw [hBk]; simp only [Nat.add_sub_cancel_left, c1, set_blk, if_true, Option.getD_some]
      rw [hC]
      exact ⟨c1, fun σ2 h3 h4 => by rw [stepV_eq ho]; exact c2 σ2 h3 h4⟩
    · cases hfi
  -- the states of the first order
  have hS : ∀ j, j ≤ ops.size → S j = Sg (fun k => decide (k < j)) := by
    intro j
    induction j with
    | zero =>
      intro _
      have e : lastC ch (fun k => decide (k < 0)) = 0 := Nat.le_zero.1 (lastC_le.2 fun k _ hk => by simp at hk)
      simp only [Sg, e]
      rw [over_none fun i => by simp [pX]]
    | succ j ih =>
      intro hj
      have ih := ih (by omega)
      by_cases hc : j ∈ ch
      · have e : lastC ch (fun k => decide (k < j + 1)) = j + 1 := lastC_eq hc (by simp) fun k _ hk => by simp at hk; omega
        simp only [Sg, e]
        rw [over_none fun i => by simp only [pX, Bool.and_eq_false_iff, decide_eq_false_iff_not]; omega]
      · have e : lastC ch (fun k => decide (k < j + 1)) = lastC ch (fun k => decide (k < j)) := lastC_congr fun k hk => by
          have : k ≠ j := fun e => hc (e ▸ hk)
          rw [Bool.eq_iff_iff]; simp; omega
        have hL : lastC ch (fun k => decide (k < j)) ≤ j := lastC_le.2 fun k _ hk => by simp at hk; omega
        by_cases hfj : fltAt ops j = true
        · rw [(hfl j (by omega) hfj).1, ih]
          simp only [Sg, e]
          rw [over_set]
          congr 1
          funext x
          simp only [pX]
          rw [Bool.eq_iff_iff]
          simp only [Bool.or_eq_true, Bool.and_eq_true, decide_eq_true_eq]
          constructor
          · rintro (h | rfl)
            · exact ⟨⟨h.1.1, by omega⟩, h.2⟩
            · rw [Nat.add_sub_cancel_left]; exact ⟨⟨⟨by omega, hfj⟩, by omega⟩, hL⟩
          · rintro ⟨⟨⟨q1, q2⟩, q3⟩, q4⟩
            by_cases hx : x = b + j
            · exact .inr hx
            · exact .inl ⟨⟨⟨q1, q2⟩, by omega⟩, q4⟩
        · have hn : j ∉ chgsOf vs md ops := fun hm => hc ((hchm j).2 ⟨hm, by simpa using hfj⟩)
          rw [((h1 j (by omega)).2.2.2.2 hn).1, ih]
          simp only [Sg, e]
          congr 1
          funext x
          simp only [pX]
          rw [Bool.eq_iff_iff]
          simp only [Bool.and_eq_true, decide_eq_true_eq]
          constructor
          · rintro ⟨⟨⟨q1, q2⟩, q3⟩, q4⟩; exact ⟨⟨⟨q1, q2⟩, by omega⟩, q4⟩
          · rintro ⟨⟨⟨q1, q2⟩, q3⟩, q4⟩
            have : x - b ≠ j := fun e => by rw [e] at q2; exact hfj q2
            exact ⟨⟨⟨q1, q2⟩, by omega⟩, q4⟩
  have hOld : ∀ c, OldEq b W σs (Sg c) := fun c => by
    obtain ⟨q1, q2⟩ := (hroom _ (hle c)).2
    refine ⟨q1, fun x hx hx' => ?_⟩
    simp only [Sg, St.over]
    rw [if_neg (by simp only [pX, Bool.and_eq_true, decide_eq_true_eq]; omega)]
    exact q2 x hx hx'
  have hcg : ∀ c c', (∀ j ∈ chgsOf vs md ops, c j = c' j) → Sg c = Sg c' := fun c c' hcc => by
    have e : lastC ch c = lastC ch c' := lastC_congr fun k hk => hcc k ((hchm k).1 hk).1
    simp only [Sg, e]
    congr 1
    funext x
    simp only [pX]
    by_cases hfx : fltAt ops (x - b) = true
    · rw [hcc _ (hflt _ hfx)]
    · simp [hfx]
  -- between what may write, the old blocks are as they were
  have hspan : ∀ x, x < b → ∀ d j, j + d ≤ ops.size → (∀ k, j ≤ k → k < j + d → ∀ c, wkB md ops c k = true → ¬ W c x) → (S (j + d)).blk x = (S j).blk x := by
    intro x hx d
    induction d with
    | zero => intro j _ _; rfl
    | succ d ih =>
      intro j hj hk
      rw [show j + (d + 1) = (j + d) + 1 by omega, (h1 (j + d) (by omega)).2.1 x hx (hk (j + d) (by omega) (by omega))]
      exact ih j (by omega) (fun k h1 h2 => hk k h1 (by omega))
  have hwch : ∀ c k, wkB md ops c k = true → k ∈ ch := fun c k hk => by
    simp only [wkB, Bool.and_eq_true] at hk
    have hk := hk.2
    have hvw : vwB vs md ops k = false := by unfold vwB; rw [hk]; simp
    unfold wk1 at hk
    split at hk
    · rename_i o ho
      have hlt : k < ops.size := (Array.getElem?_eq_some_iff.1 ho).1
      have key : isChg o.op = true ∧ isFlt o = false := by
        obtain ⟨d, op, ty, ps, af, g⟩ := o
        cases op with
        | store t a x => exact ⟨rfl, rfl⟩
        | call d =>
          refine ⟨?_, rfl⟩
          obtain ⟨cal, as, ts⟩ := d
          cases cal with
          | builtin bi => cases bi <;> first | rfl | cases hk
          | _ => rfl
        | _ => cases hk
      refine (hchm k).2 ⟨?_, ?_⟩
      · simp only [chgsOf, List.mem_filter, List.mem_range, ho, hvw, Bool.not_false, Bool.and_true]
        exact ⟨hlt, key.1⟩
      · unfold fltAt; rw [ho]; exact key.2
    · cases hk
  have hcmp : ∀ i, i < ops.size → i ∉ chgsOf vs md ops → ∀ c, (∀ k ∈ chgsOf vs md ops, k ∈ (ancs ops).getD i [] → c k = true) → (∀ k ∈ chgsOf vs md ops, i ∈ (ancs ops).getD k [] → c k = false) → (∀ k, k ∈ chgsOf vs md ops → ∀ j, j ∈ chgsOf vs md ops → j ∈ (ancs ops).getD k [] → c k = true → c j = true) → ∀ k, k ∈ ch → cmp1 ops k i = true → (k < i → k < lastC ch c) ∧ (i ≤ k → lastC ch c ≤ k) := by
    intro i hi hn c f1 f2 f4 k hkc hall
    have hkc' := (hchm k).1 hkc
    unfold cmp1 at hall
    rw [hkc'.2] at hall
    constructor
    · intro hki
      have e : Nat.blt k i = true := by simp [Nat.blt]; omega
      rw [e] at hall
      have := f1 k hkc'.1 (mem_ancs.2 ⟨hmem k hkc'.1, hall⟩)
      have := lastC_le.1 (Nat.le_refl (lastC ch c)) k hkc this
      omega
    · intro hik
      have hne : k ≠ i := fun e => hn (e ▸ hkc'.1)
      have e : Nat.blt k i = false := by cases hb3 : Nat.blt k i with
        | false => rfl
        | true => have := Nat.le_of_ble_eq_true hb3; omega
      have e2 : Nat.beq k i = false := by cases hb2 : Nat.beq k i with
        | false => rfl
        | true => have := Nat.eq_of_beq_eq_true hb2; omega
      rw [e, e2] at hall
      have hck := f2 k hkc'.1 (mem_ancs.2 ⟨hi, by simpa using hall⟩)
      by_cases hz : lastC ch c = 0
      · omega
      · obtain ⟨k', k1, k2, k3⟩ := lastC_mem hz
        rw [k3]
        have : ¬ k < k' := fun hkk => by
          have := f4 k' ((hchm k').1 k1).1 k hkc'.1 (hanc k hkc'.1 k' k1 hkk) k2
          rw [this] at hck; cases hck
        have : k ≠ k' := fun e => by rw [e, k2] at hck; cases hck
        omega
  have hold2 : ∀ i, i < ops.size → i ∉ chgsOf vs md ops → ∀ c, (∀ k ∈ chgsOf vs md ops, k ∈ (ancs ops).getD i [] → c k = true) → (∀ k ∈ chgsOf vs md ops, i ∈ (ancs ops).getD k [] → c k = false) → (∀ k, k ∈ chgsOf vs md ops → ∀ j, j ∈ chgsOf vs md ops → j ∈ (ancs ops).getD k [] → c k = true → c j = true) → ∀ x, x < b → (∀ k d, wkB md ops d k = true → W d x → cmp1 ops k i = true) → (Sg c).blk x = (S i).blk x := by
    intro i hi hn c f1 f2 f4 x hx hcw
    have hsg : (Sg c).blk x = (S (lastC ch c)).blk x := by
      simp only [Sg, St.over]
      rw [if_neg (by simp only [pX, Bool.and_eq_true, decide_eq_true_eq]; omega)]
    rw [hsg]
    have hL := hle c
    rcases Nat.le_total (lastC ch c) i with h | h
    · have := hspan x hx (i - lastC ch c) (lastC ch c) (by omega) (fun k a1 a2 d hd hW => by
        have := (hcmp i hi hn c f1 f2 f4 k (hwch d k hd) (hcw k d hd hW)).1 (by omega); omega)
      rw [show lastC ch c + (i - lastC ch c) = i by omega] at this
      exact this.symm
    · have := hspan x hx (lastC ch c - i) i (by omega) (fun k a1 a2 d hd hW => by
        have := (hcmp i hi hn c f1 f2 f4 k (hwch d k hd) (hcw k d hd hW)).2 (by omega); omega)
      rw [show i + (lastC ch c - i) = lastC ch c by omega] at this
      exact this
  refine ⟨⟨sl ops vals fr.s (fun j => decide (j < ops.size)), Sg (fun j => decide (j < ops.size))⟩, ?_, by rw [← hS ops.size (Nat.le_refl _)]; exact h2⟩
  refine draw_drawL (P := P) (O := run P md X) (vals := vals) (s := fr.s) (Sg := Sg) (ch := chgsOf vs md ops) hst rfl ?_ ?_ hcg hmem
  · have e := hS 0 (Nat.zero_le _)
    rw [s0, hσs] at e
    rw [e]; exact hcg _ _ fun j _ => by simp
  · intro i hi c hc
    rw [← hb]
    obtain ⟨f1, f2, f3, f4⟩ := hc
    -- what is done, up to where
    have hlast : ∀ i, fltAt ops i = true → c i = false → lastC ch c ≤ i := fun i hfi hci => by
      by_cases hz : lastC ch c = 0
      · omega
      · obtain ⟨k, k1, k2, k3⟩ := lastC_mem hz
        rw [k3]
        have k4 := (hchm k).1 k1
        have : ¬ i < k := fun hik => by
          have := f4 k k4.1 i (hflt i hfi) (hanc i (hflt i hfi) k k1 hik) k2
          rw [this] at hci; cases hci
        have : k ≠ i := fun e => by rw [e] at k4; rw [k4.2] at hfi; cases hfi
        omega
    by_cases hcmp : i ∈ ch ∨ (i ∉ chgsOf vs md ops ∧ cmpB vs md ops i = true)
    · have hlo : ∀ k ∈ chgsOf vs md ops, k < i → c k = true := fun k hk hki => f1 k hk (by
        rcases hcmp with hic | ⟨_, hcm⟩
        · exact hanc k hk i hic hki
        · have := List.all_eq_true.1 hcm k hk
          have e : Nat.blt k i = true := by simp [Nat.blt]; omega
          rw [e] at this
          exact mem_ancs.2 ⟨hmem k hk, this⟩)
      have hhi : ∀ k ∈ ch, i < k → c k = false := fun k hk hik => f2 k ((hchm k).1 hk).1 (by
        rcases hcmp with hic | ⟨_, hcm⟩
        · exact hanc i ((hchm i).1 hic).1 k hk hik
        · have := List.all_eq_true.1 hcm k ((hchm k).1 hk).1
          have e : Nat.blt k i = false := by cases hb3 : Nat.blt k i with
            | false => rfl
            | true => have := Nat.le_of_ble_eq_true hb3; omega
          have e2 : Nat.beq k i = false := by cases hb2 : Nat.beq k i with
            | false => rfl
            | true => have := Nat.eq_of_beq_eq_true hb2; omega
          rw [e, e2, ((hchm k).1 hk).2] at this
          exact mem_ancs.2 ⟨hi, by simpa using this⟩)
      have e1 : lastC ch c = lastC ch (fun k => decide (k < i)) := lastC_congr fun k hk => by
        rcases Nat.lt_trichotomy k i with h | h | h
        · rw [hlo k ((hchm k).1 hk).1 h]; simp [h]
        · subst h; rw [f3]; simp
        · rw [hhi k hk h]; simp; omega
      -- the boxes that have come early
      let l : List Nat := (((List.range ops.size).filter fun f => fltAt ops f && c f && decide (i < f)).map fun f => b + f)
      have hl : ∀ x, l.contains x = (decide (b ≤ x) && fltAt ops (x - b) && c (x - b) && decide (i < x - b)) := fun x => by
        rw [Bool.eq_iff_iff]
        simp only [l, List.contains_iff_mem, List.mem_map, List.mem_filter, List.mem_range, Bool.and_eq_true, decide_eq_true_eq]
        constructor
        · rintro ⟨f, ⟨a1, ⟨a2, a3⟩, a4⟩, rfl⟩; rw [Nat.add_sub_cancel_left]; exact ⟨⟨⟨by omega, a2⟩, a3⟩, a4⟩
        · rintro ⟨⟨⟨a1, a2⟩, a3⟩, a4⟩; exact ⟨x - b, ⟨hmem _ (hflt _ a2), ⟨a2, a3⟩, a4⟩, by omega⟩
      have hnd : l.Nodup := List.pairwise_map.2 (List.Pairwise.imp (fun h => by omega) (List.Pairwise.filter _ List.nodup_range))
      have hroom_i := (hroom i (by omega)).1
      have hlx : ∀ x ∈ l, b + i ≠ x ∧ (S i).blk x = none ∧ x < (S i).next := fun x hx => by
        have hx : l.contains x = true := by simpa using hx
        rw [hl] at hx
        simp only [Bool.and_eq_true, decide_eq_true_eq] at hx
        obtain ⟨⟨⟨a1, a2⟩, a3⟩, a4⟩ := hx
        have a5 := hmem _ (hflt _ a2)
        refine ⟨by omega, ?_, by have := hroom_i.1; omega⟩
        have := hroom_i.2 (x - b - i) (by omega)
        rwa [show b + i + (x - b - i) = x by omega] at this
      have ho : ops[i]? = some ops[i] := by simp [hi]
      have hstep := (h1 i hi).1
      rw [stepV_eq ho] at hstep ⊢
      have hrun := (step_over hX (Bk := Bk) hstep l hlx hnd).1
      have g1 : Sg c = (S i).over (fun x => l.contains x) Bk := by
        rw [hS i (by omega)]
        simp only [Sg, e1]
        rw [over_over (r := pX c (lastC ch (fun k => decide (k < i))))]
        intro x
        rw [hl]
        simp only [pX]
        rw [Bool.eq_iff_iff]
        simp only [Bool.or_eq_true, Bool.and_eq_true, decide_eq_true_eq]
        constructor
        · rintro ⟨⟨⟨a1, a2⟩, a3⟩, a4⟩
          by_cases hxi : x - b < i
          · exact .inl ⟨⟨⟨a1, a2⟩, hxi⟩, a4⟩
          · have : x - b ≠ i := fun e => by rw [e] at a3; rw [a3] at f3; cases f3
            exact .inr ⟨⟨⟨a1, a2⟩, a3⟩, by omega⟩
        · rintro (⟨⟨⟨a1, a2⟩, a3⟩, a4⟩ | ⟨⟨⟨a1, a2⟩, a3⟩, a4⟩)
          · exact ⟨⟨⟨a1, a2⟩, hlo _ (hflt _ a2) a3⟩, a4⟩
          · have : lastC ch (fun k => decide (k < i)) ≤ i := lastC_le.2 fun k _ hk => by simp at hk; omega
            exact ⟨⟨⟨a1, a2⟩, a3⟩, by omega⟩
      have g2 : Sg (fun j => c j || decide (j = i)) = (S (i + 1)).over (fun x => l.contains x) Bk := by
        rcases hcmp with hic | ⟨hn, _⟩
        · have e2 : lastC ch (fun j => c j || decide (j = i)) = i + 1 := lastC_eq hic (by simp) fun k hk hkc => by
            rcases Nat.lt_trichotomy k i with h | h | h
            · omega
            · omega
            · simp [hhi k hk h] at hkc; omega
          simp only [Sg, e2]
          congr 1
          funext x
          rw [hl]
          simp only [pX]
          rw [Bool.eq_iff_iff]
          simp only [Bool.or_eq_true, Bool.and_eq_true, decide_eq_true_eq]
          constructor
          · rintro ⟨⟨⟨a1, a2⟩, a3 | a3⟩, a4⟩
            · exact ⟨⟨⟨a1, a2⟩, a3⟩, by omega⟩
            · omega
          · rintro ⟨⟨⟨a1, a2⟩, a3⟩, a4⟩; exact ⟨⟨⟨a1, a2⟩, .inl a3⟩, by omega⟩
        · rw [((h1 i hi).2.2.2.2 hn).1, ← g1]
          exact hcg _ _ fun j hj => by
            have : j ≠ i := fun e => hn (e ▸ hj)
            simp [this]
      rw [g1, g2]; exact hrun
    · by_cases hfi : fltAt ops i = true
      · have hLi := hlast i hfi f3
        obtain ⟨_, h4⟩ := hfl i hi hfi
        have hr := (hroom _ (hle c)).1
        have hfree : (Sg c).blk (b + i) = none := by
          simp only [Sg, St.over]
          rw [if_neg (by simp only [pX, Nat.add_sub_cancel_left, f3]; simp)]
          have := hr.2 (i - lastC ch c) (by omega)
          rwa [show b + lastC ch c + (i - lastC ch c) = b + i by omega] at this
        rw [h4 (Sg c) hfree (by show b + i < (S (lastC ch c)).next; have := hr.1; omega)]
        congr 2
        have e : lastC ch (fun j => c j || decide (j = i)) = lastC ch c := lastC_congr fun k hk => by
          have : k ≠ i := fun e => hcmp (.inl (e ▸ hk))
          simp [this]
        simp only [Sg, e]
        rw [over_set]
        congr 1
        funext x
        simp only [pX]
        rw [Bool.eq_iff_iff]
        simp only [Bool.or_eq_true, Bool.and_eq_true, decide_eq_true_eq]
        constructor
        · rintro (h | rfl)
          · exact ⟨⟨h.1.1, .inl h.1.2⟩, h.2⟩
          · rw [Nat.add_sub_cancel_left]; exact ⟨⟨⟨by omega, hfi⟩, .inr rfl⟩, hLi⟩
        · rintro ⟨⟨⟨a1, a2⟩, a3 | a3⟩, a4⟩
          · exact .inl ⟨⟨⟨a1, a2⟩, a3⟩, a4⟩
          · exact .inr (by omega)
      · have hn : i ∉ chgsOf vs md ops := fun hm => hcmp (.inl ((hchm i).2 ⟨hm, by simpa using hfi⟩))
        have e2 : Sg (fun j => c j || decide (j = i)) = Sg c := hcg _ _ fun j hj => by
          have : j ≠ i := fun e => hn (e ▸ hj)
          simp [this]
        rw [e2]
        exact ((h1 i hi).2.2.2.2 hn).2 _ (fun w => absurd (.inr ⟨hn, w⟩) hcmp) (fun x hx hW => hold2 i hi hn c f1 f2 f4 x hx fun k d hd hWd => by
          have hd' := hd
          simp only [wkB, Bool.and_eq_true] at hd'
          have e := Nat.eq_of_beq_eq_true hd'.1
          subst e
          cases hc1 : cmp1 ops d i with
          | true => rfl
          | false => exact absurd hWd (hW d (by show (!wk1 md ops d || cmp1 ops d i) = false; rw [hd'.2, hc1]; rfl))) (hOld c)
theorem hold_ref_mem {z : Bool} {σ : St} {k b e o n : Nat} {v : T} {S : List Nat} (h : hold z σ k (.ref b e o n) = some (v, S)) : b ∈ S := by
  cases k with
  | zero => cases h
  | succ k =>
    simp only [hold] at h
    obtain ⟨B, hB, h⟩ := Option.bind_eq_some_iff.1 h
    split at h
    · obtain ⟨q, _, h⟩ := Option.map_eq_some_iff.1 h
      injection h with _ h; subst h; simp
    · cases h
theorem c_chain (vs : List Nat) (W : Nat → Nat → Prop) {Q : AExit → Fr → Prop} {σ σ0 : St} {es : List Ent} {id : Nat} (hX : XOk X) (hst : drawOk ops = true) (hch : chainB vs md ops = true) (hH : Heap σ0 σ es)
    (h : ∀ B σs σ', σ0.next ≤ B → (∀ x cells, Ent.box x cells ∈ es → x < B) → (∀ z w t v, Ent.own z w t v ∈ es → ∀ b e o n, t = .ref b e o n → b < B) → Heap σ0 σ' es → opsX P (run P md X) ops (.c B 0 W σs (cmpOf vs md ops)) ops.toList (Q .normal) ⟨s, σ'⟩) : codeQ P (run P md X) (.region id ops true) Q ⟨s, σ⟩ := by
  refine drawQ_chain vs hX hst hch (W := W) ?_
  refine h σ.next (σ.bump ops.size) (σ.bump ops.size) hH.grow.nx (fun x cells hx => ?_) (fun z w t v hx b e o n ht => ?_) hH.bump ⟨by simp, fun _ _ _ => rfl⟩ ⟨by simp, fun j hj => by rw [bump_blk, if_neg (by omega)]⟩
  · obtain ⟨n, hn, e⟩ := List.getElem_of_mem hx
    obtain ⟨F, h1, h2, h3⟩ := hH.ex
    obtain ⟨l1, l2, rfl⟩ := List.append_of_mem hx
    obtain ⟨F1, F2, rfl, h4, h5⟩ := h1.split
    obtain ⟨S, F', rfl, ⟨rfl, _⟩, _⟩ := h5
    exact (h3 x (by simp)).2
  · obtain ⟨F, h1, h2, h3⟩ := hH.ex
    obtain ⟨l1, l2, rfl⟩ := List.append_of_mem hx
    obtain ⟨F1, F2, rfl, h4, h5⟩ := h1.split
    obtain ⟨S, F', rfl, ⟨_, _, k, h6⟩, _⟩ := h5
    subst ht
    exact (h3 b (by simp [hold_ref_mem h6])).2
end
end Go.Am
end
section
set_option linter.unusedVariables false
set_option linter.unusedSimpArgs false
namespace Go.Am
open Classical
theorem Heap.wrap {σ0 σ : St} {ents E : List Ent} (h : Heap σ0 σ (ents ++ E)) : ∃ F, Heap σ0 σ (ents ++ [.keep F σ]) ∧ ∀ σ' ents', Heap σ0 σ' (ents' ++ [.keep F σ]) → Heap σ0 σ' (ents' ++ E) := by
  obtain ⟨F, h1, h2, h3⟩ := h.ex
  obtain ⟨F1, F2, rfl, h4, h5⟩ := h1.split
  refine ⟨F2, ⟨h.grow, F1 ++ F2, h4.join ⟨F2, [], by simp, ⟨rfl, fun b hb => ⟨rfl, h5.some b hb⟩⟩, rfl⟩, h2, h3⟩, fun σ' ents' k => ?_⟩
  obtain ⟨G, k1, k2, k3⟩ := k.ex
  obtain ⟨G1, G2, rfl, k4, k5⟩ := k1.split
  obtain ⟨S, F', rfl, ⟨rfl, k6⟩, k7⟩ := k5
  cases k7
  simp only [List.append_nil] at k2 k3
  exact ⟨k.grow, G1 ++ S, k4.join (h5.same fun b hb => (k6 b hb).1), k2, k3⟩
section
variable {P : Program} {md : Nat → Md} {X : Ext} {f : Nat}
variable {ops : Array Oper} {m : Mo} {l : List Oper} {K : Fr → Prop} {s : Nat → T} {σ σ0 : St} {L : List (Nat × T)} {es ents : List Ent}
variable {d : Option Nat} {ty : TypeId} {ps : String} {af : Array Edge} {g : Option (Nat × Bool)}
def RawS (P : Program) (md : Nat → Md) (X : Ext) (f : Nat) (args : List T) (n : Nat) (tree : List T → T) (ents : List Ent) (ents' : List T → List Ent) : Prop :=
  ∀ σ0 σ E, Heap σ0 σ (ents ++ E) → ∃ hs σ', hs.length = n ∧ run P md X f args σ = some (tree hs, σ') ∧ Heap σ0 σ' (ents' hs ++ E)
end
def ofIv : List (Iv .u8) → Option (List UInt8)
  | [] => some []
  | x :: l => if 0 ≤ x.v ∧ x.v < 256 then (ofIv l).map (UInt8.ofNat x.v.toNat :: ·) else none
def strS (a : Sl (Iv .u8)) : Option ByteArray := (ofIv a.l).map fun l => ⟨l.toArray⟩
theorem ofIv_cells : ∀ l : List (Iv .u8), ofBytes (cellsL l) = ofIv l
  | [] => rfl
  | x :: l => by
    show ofBytes (.int .u8 x.v :: cellsL l) = _
    simp only [ofBytes, ofIv, ofIv_cells l]
section
variable {P : Program} {O : Oracle}
variable {ops : Array Oper} {m : Mo} {l : List Oper} {K : Fr → Prop} {s : Nat → T} {σ σ0 : St} {L : List (Nat × T)} {es ents : List Ent}
variable {d : Option Nat} {ty : TypeId} {ps : String} {af : Array Edge} {g : Option (Nat × Bool)}
end
section
variable {P : Program} {O : Oracle}
variable {ops : Array Oper} {m : Mo} {l : List Oper} {K : Fr → Prop} {s : Nat → T} {σ σ0 : St} {L : List (Nat × T)} {es ents : List Ent}
variable {d : Option Nat} {ty : TypeId} {ps : String} {af : Array Edge} {g : Option (Nat × Bool)}
end
section
variable {P : Program} {O : Oracle}
variable {ops : Array Oper} {m : Mo} {l : List Oper} {K : Fr → Prop} {s : Nat → T} {σ σ0 : St} {L : List (Nat × T)}
variable {d : Option Nat} {ty : TypeId} {ps : String} {af : Array Edge} {g : Option (Nat × Bool)}
end
section
variable {P : Program} {O : Oracle}
variable {ops : Array Oper} {m : Mo} {l : List Oper} {K : Fr → Prop} {s : Nat → T} {σ : St} {L : List (Nat × T)}
variable {d : Option Nat} {ty : TypeId} {ps : String} {af : Array Edge} {g : Option (Nat × Bool)}
end
end Go.Am
end
section
set_option linter.unusedVariables false
set_option linter.unusedSimpArgs false
namespace Go.Am
section
variable {P : Program} {O : Oracle} {ops : Array Oper} {l : List Oper} {K : Fr → Prop} {s : Nat → T} {σ σ0 : St} {L : List (Nat × T)} {es ents : List Ent}
variable {d : Option Nat} {ty : TypeId} {ps : String} {af : Array Edge} {g : Option (Nat × Bool)}
end
section
variable {P : Program} {md : Nat → Md} {X : Ext} {ops : Array Oper} {m : Mo} {l : List Oper} {K : Fr → Prop} {s : Nat → T} {σ σ0 : St} {L : List (Nat × T)} {es ents : List Ent} {f : Nat}
variable {d : Option Nat} {ty : TypeId} {ps : String} {af : Array Edge} {g : Option (Nat × Bool)}
def EB : Ent → Nat → Prop
  | .box b _, x => x = b
  | .own _ _ t _, x => BT t x
  | .flt _ t _, x => BT t x
  | .keep F _, x => x ∈ F
  | .frt .., _ => False
def Stay (R : Nat → Prop) (es : List Ent) : Prop := ∀ x, R x → ∃ e ∈ es, EB e x
theorem Stay.nil {es : List Ent} : Stay RN es := fun x h => h.elim
theorem Stay.box {R : Nat → Prop} {es : List Ent} {b : Nat} {c : List T} (h : Ent.box b c ∈ es) (k : Stay R es) : Stay (RB b R) es := fun y hy => by
  rcases hy with rfl | hy
  · exact ⟨_, h, rfl⟩
  · exact k y hy
theorem Stay.own {R : Nat → Prop} {es : List Ent} {z : Bool} {w : Nat} {t v : T} (h : Ent.own z w t v ∈ es) (k : Stay R es) : Stay (RT t R) es := fun y hy => by
  rcases hy with hy | hy
  · exact ⟨_, h, hy⟩
  · exact k y hy
theorem LentL.mark {S : List Nat} : ∀ {bs : List Nat} {cs : List (List T)}, LentL σ bs cs → LentL (σ.mark S) bs cs
  | [], [], _ => trivial
  | b :: bs, c :: cs, ⟨⟨h1, B, h2, h3⟩, h4⟩ => ⟨⟨h1, by
      have e : (σ.mark S).blk b = some (if b ∈ S then { B with st := false } else B) := by simp [St.mark, h2]
      refine ⟨_, e, ?_⟩
      split <;> exact h3⟩, h4.mark⟩
  | [], _ :: _, h => h.elim
  | _ :: _, [], h => h.elim
end
section
variable {z : Bool} {ts vs : List T} {es : List Ent}
theorem HLi {k : IntKind} {n : Int} (r : HL z ts vs es) : HL z (.int k n :: ts) (.int k n :: vs) es := HL.leaf (fun σ d => hold_int _ σ d _ _) r
theorem HLb {n : Bool} (r : HL z ts vs es) : HL z (.bool n :: ts) (.bool n :: vs) es := HL.leaf (fun σ d => hold_bool _ σ d _) r
theorem HLs {n : ByteArray} (r : HL z ts vs es) : HL z (.str n :: ts) (.str n :: vs) es := HL.leaf (fun σ d => hold_str _ σ d _) r
theorem HLn {α : Type} [Enc α] (r : HL z ts vs es) : HL z (Sl.t (⟨true, []⟩ : Sl α) :: ts) (Sl.t (⟨true, []⟩ : Sl α) :: vs) es := HL.leaf (fun σ d => hold_nilS _ σ d) r
theorem HLp {α : Type} [Enc α] {a : Sl α} (r : HL false ts vs es) : HL false (a.t :: ts) (a.t :: vs) es := HL.leaf (fun σ d => hold_pure σ d _) r
end
abbrev i4 (n : Int) : T := .int .i64 n
section
variable {P : Program} {O : Oracle} {ops : Array Oper} {m : Mo} {l : List Oper} {K : Fr → Prop} {s : Nat → T} {σ σ0 : St} {L : List (Nat × T)} {es : List Ent}
variable {d : Option Nat} {ty : TypeId} {ps : String} {af : Array Edge} {g : Option (Nat × Bool)}
end
end Go.Am
end
section
set_option linter.unusedVariables false
set_option linter.unusedSimpArgs false
namespace Go.Am
section
variable {P : Program} {O : Oracle} {ops : Array Oper} {m : Mo} {l : List Oper} {K : Fr → Prop} {s : Nat → T} {σ σ0 : St} {L : List (Nat × T)} {es ents : List Ent}
variable {d : Option Nat} {ty : TypeId} {ps : String} {af : Array Edge} {g : Option (Nat × Bool)}
theorem Heap.fltOne {w : Nat} {t v : T} (h : Heap σ0 σ (.flt w t v :: es)) : IsOne t := by
  obtain ⟨S, h1, _⟩ := h.head
  rcases h1 with ⟨rfl, _⟩ | ⟨rfl, _⟩ | ⟨b, B, n, rfl, _⟩ <;> exact ⟨rfl, rfl⟩
end
end Go.Am
end
section
set_option linter.unusedVariables false
set_option linter.unusedSimpArgs false
namespace Go.Am
open Classical
def Kb (F : List Nat) (σk : St) (x : Nat) (c : List T) : Prop := x ∈ F ∧ ∃ B, σk.blk x = some B ∧ B.cells = c ∧ B.ep = 0 ∧ B.low = 0
def KLe (F : List Nat) (σ : St) (F2 : List Nat) (σ2 : St) : Prop := F.Nodup ∧ ∀ b ∈ F, b ∈ F2 ∧ σ2.blk b = σ.blk b
theorem Kb.mono {F F2 : List Nat} {σ σ2 : St} {x : Nat} {c : List T} (h : Kb F σ x c) (k : KLe F σ F2 σ2) : Kb F2 σ2 x c := by
  obtain ⟨h1, B, h2, h3⟩ := h
  obtain ⟨k1, k2⟩ := k.2 x h1
  exact ⟨k1, B, by rw [k2, h2], h3⟩
theorem Heap.part {σ0 σ σk σ2 : St} {Fk F2 : List Nat} {es : List Ent} (h : Heap σ0 σ (.keep F2 σ2 :: es)) (k : KLe Fk σk F2 σ2) : ∃ F3, Heap σ0 σ (.keep Fk σk :: .keep F3 σ2 :: es) ∧ ∀ σ' es', Heap σ0 σ' (.keep Fk σk :: .keep F3 σ2 :: es') → Heap σ0 σ' (.keep F2 σ2 :: es') := by
  obtain ⟨S0, ⟨rfl, _⟩, hn2, _⟩ := h.head
  refine ⟨S0.filter fun b => decide (b ∉ Fk), ?_, fun σ' es' h' => ?_⟩
  · refine Heap.step (es1 := [.keep S0 σ2]) (es2 := [.keep Fk σk, .keep (S0.filter fun b => decide (b ∉ Fk)) σ2]) (es := es) h (Nat.le_refl _) fun S hS hnd hbd => ?_
    obtain ⟨S1, F1, rfl, ⟨rfl, h1⟩, hnil⟩ := hS
    cases hnil
    refine ⟨Fk ++ S1.filter fun b => decide (b ∉ Fk), ⟨Fk, S1.filter fun b => decide (b ∉ Fk), rfl, ⟨rfl, fun b hb => ?_⟩, _, [], by simp, ⟨rfl, fun b hb => h1 b (List.mem_filter.1 hb).1⟩, rfl⟩, ?_, fun b hb => .inl ?_, fun _ _ _ => rfl⟩
    · obtain ⟨k1, k2⟩ := k.2 b hb
      exact ⟨by rw [(h1 b k1).1, k2], (h1 b k1).2⟩
    · exact List.nodup_append.2 ⟨k.1, hn2.filter _, fun a ha b hb => by
        rintro rfl
        have := (List.mem_filter.1 hb).2
        simp at this; exact this ha⟩
    · rw [List.append_nil]
      rcases List.mem_append.1 hb with hb | hb
      · exact (k.2 b hb).1
      · exact (List.mem_filter.1 hb).1
  · refine Heap.step (es1 := [.keep Fk σk, .keep (S0.filter fun b => decide (b ∉ Fk)) σ2]) (es2 := [.keep S0 σ2]) (es := es') h' (Nat.le_refl _) fun S hS hnd hbd => ?_
    obtain ⟨S1, F1, rfl, ⟨rfl, h1⟩, S3, F3, rfl, ⟨rfl, h3⟩, hnil⟩ := hS
    cases hnil
    refine ⟨S0, ⟨S0, [], by simp, ⟨rfl, fun b hb => ?_⟩, rfl⟩, hn2, fun b hb => .inl ?_, fun _ _ _ => rfl⟩
    · by_cases hm : b ∈ S1
      · exact ⟨by rw [(h1 b hm).1, (k.2 b hm).2], (h1 b hm).2⟩
      · exact h3 b (List.mem_filter.2 ⟨hb, by simpa using hm⟩)
    · rw [List.append_nil]
      by_cases hm : b ∈ S1
      · exact List.mem_append_left _ hm
      · exact List.mem_append_right _ (List.mem_filter.2 ⟨hb, by simpa using hm⟩)
section
variable (P : Program) (md : Nat → Md) (X : Ext) {α : Type}
def ThenOk (en : α → List T → List Ent) (n : Nat) (th : T) (Φ : Int → α → Option (Bool × α)) (F : List Nat) (σk : St) : Prop :=
  ∀ e S y hs, hs.length = n → Φ e S = some y → ∃ f a b, th = .fn f a b ∧ RawS P md X f (a ++ [.int .i64 e] ++ b) n (fun _ => .bool y.1) (en S hs ++ [.keep F σk]) (fun hs' => en y.2 hs' ++ [.keep F σk])
end
section
variable {P : Program} {md : Nat → Md} {X : Ext} {α : Type} {en : α → List T → List Ent} {n : Nat} {th : T} {Φ : Int → α → Option (Bool × α)} {F F2 : List Nat} {σk σ2 : St}
theorem ThenOk.mono (h : ThenOk P md X en n th Φ F σk) (k : KLe F σk F2 σ2) : ThenOk P md X en n th Φ F2 σ2 := fun e S y hs hl hy => by
  obtain ⟨f, a, b, e1, h1⟩ := h e S y hs hl hy
  refine ⟨f, a, b, e1, fun σ0 σ E hH => ?_⟩
  rw [List.append_assoc] at hH
  have hH := hH.perm List.perm_append_comm
  obtain ⟨F3, h2, h3⟩ := Heap.part (es := E ++ en S hs) hH k
  have h2 : Heap σ0 σ ((en S hs ++ [.keep F σk]) ++ (.keep F3 σ2 :: E)) := h2.perm (by
    rw [List.append_assoc]
    refine List.Perm.trans ?_ List.perm_append_comm
    simp only [List.cons_append, List.nil_append]; exact .refl _)
  obtain ⟨hs', σ', q1, q2, q3⟩ := h1 σ0 σ _ h2
  refine ⟨hs', σ', q1, q2, ?_⟩
  have q3 : Heap σ0 σ' (.keep F σk :: .keep F3 σ2 :: (E ++ en y.2 hs')) := q3.perm (by
    rw [List.append_assoc]
    refine List.Perm.trans List.perm_append_comm ?_
    simp only [List.cons_append, List.nil_append]; exact .refl _)
  have q4 := h3 _ _ q3
  rw [List.append_assoc]
  exact q4.perm (by
    refine List.Perm.trans ?_ List.perm_append_comm
    simp only [List.cons_append, List.nil_append]; exact .refl _)
variable {ops : Array Oper} {m : Mo} {l : List Oper} {K : Fr → Prop} {s : Nat → T} {σ σ0 : St} {L : List (Nat × T)} {es ents : List Ent}
variable {d : Option Nat} {ty : TypeId} {ps : String} {af : Array Edge} {g : Option (Nat × Bool)}
theorem RawS.keep {f n : Nat} {args : List T} {tree : List T → T} {ents : List Ent} {ents' : List T → List Ent} (h : RawS P md X f args n tree ents ents') (ks : List Ent) : RawS P md X f args n tree (ents ++ ks) (fun hs => ents' hs ++ ks) := fun σ0 σ E hH => by
  rw [List.append_assoc] at hH
  obtain ⟨hs, σ', h1, h2, h3⟩ := h σ0 σ (ks ++ E) hH
  exact ⟨hs, σ', h1, h2, by rw [List.append_assoc]; exact h3⟩
def Pt (F : List Nat) (σk : St) (pp : T) (c : List T) : Prop := (∃ rest, pp = .vw (c ++ rest)) ∨ ∃ b, pp = .ptr b 0 0 c.length ∧ Kb F σk b c
theorem Pt.mono {pp : T} {c : List T} (h : Pt F σk pp c) (k : KLe F σk F2 σ2) : Pt F2 σ2 pp c := h.imp id fun ⟨b, h1, h2⟩ => ⟨b, h1, h2.mono k⟩
theorem Pt.vw {c rest : List T} : Pt F σk (.vw (c ++ rest)) c := .inl ⟨rest, rfl⟩
theorem Pt.box {b : Nat} {c : List T} {n : Nat} (hn : n = c.length) (h : Kb F σk b c) : Pt F σk (.ptr b 0 0 n) c := .inr ⟨b, by rw [hn], h⟩
theorem Pt.one {pp : T} {c : List T} (h : Pt F σk pp c) : IsOne pp := by
  rcases h with ⟨rest, rfl⟩ | ⟨b, rfl, _⟩ <;> exact ⟨rfl, rfl⟩
end
end Go.Am
end
section
set_option linter.unusedVariables false
set_option linter.unusedSimpArgs false
namespace Go.Am
section
variable {P : Program} {md : Nat → Md} {X : Ext} {β : Type} {eb : β → T} {f : Nat} {r : β}
variable {ops : Array Oper} {m : Mo} {l : List Oper} {K : Fr → Prop} {s : Nat → T} {σ : St} {L : List (Nat × T)}
variable {d : Option Nat} {ty : TypeId} {ps : String} {af : Array Edge} {g : Option (Nat × Bool)}
end
end Go.Am
namespace Go.Am
theorem Enter.of_ok {P : Program} {f : Nat} {c : Code} {n : Nat} {rs : List ResultVar} (h : Ok P f c n rs) : Enter P f := by
  obtain ⟨fn, h1, h2, h3, _⟩ := h
  exact ⟨fn, _, h1, h2, h3⟩
end Go.Am
namespace Go.Am
section
variable {P : Program} {O : Oracle} {Q : AExit → Fr → Prop} {s : Nat → T} {σ : St} {L : List (Nat × T)}
end
end Go.Am
namespace Go.Am
section
variable {σ0 σ : St} {es : List Ent}
theorem Heap.up1 {a0 a1 : Ent} (h : Heap σ0 σ (a0 :: a1 :: es)) : Heap σ0 σ (a1 :: a0 :: es) := h.pull 1
theorem Heap.up2 {a0 a1 a2 : Ent} (h : Heap σ0 σ (a0 :: a1 :: a2 :: es)) : Heap σ0 σ (a2 :: a0 :: a1 :: es) := h.pull 2
theorem Heap.up3 {a0 a1 a2 a3 : Ent} (h : Heap σ0 σ (a0 :: a1 :: a2 :: a3 :: es)) : Heap σ0 σ (a3 :: a0 :: a1 :: a2 :: es) := h.pull 3
theorem Heap.up4 {a0 a1 a2 a3 a4 : Ent} (h : Heap σ0 σ (a0 :: a1 :: a2 :: a3 :: a4 :: es)) : Heap σ0 σ (a4 :: a0 :: a1 :: a2 :: a3 :: es) := h.pull 4
theorem Heap.up5 {a0 a1 a2 a3 a4 a5 : Ent} (h : Heap σ0 σ (a0 :: a1 :: a2 :: a3 :: a4 :: a5 :: es)) : Heap σ0 σ (a5 :: a0 :: a1 :: a2 :: a3 :: a4 :: es) := h.pull 5
theorem Heap.up8 {a0 a1 a2 a3 a4 a5 a6 a7 a8 : Ent} (h : Heap σ0 σ (a0 :: a1 :: a2 :: a3 :: a4 :: a5 :: a6 :: a7 :: a8 :: es)) : Heap σ0 σ (a8 :: a0 :: a1 :: a2 :: a3 :: a4 :: a5 :: a6 :: a7 :: es) := h.pull 8
theorem Heap.up9 {a0 a1 a2 a3 a4 a5 a6 a7 a8 a9 : Ent} (h : Heap σ0 σ (a0 :: a1 :: a2 :: a3 :: a4 :: a5 :: a6 :: a7 :: a8 :: a9 :: es)) : Heap σ0 σ (a9 :: a0 :: a1 :: a2 :: a3 :: a4 :: a5 :: a6 :: a7 :: a8 :: es) := h.pull 9
theorem Heap.up15 {a0 a1 a2 a3 a4 a5 a6 a7 a8 a9 a10 a11 a12 a13 a14 a15 : Ent} (h : Heap σ0 σ (a0 :: a1 :: a2 :: a3 :: a4 :: a5 :: a6 :: a7 :: a8 :: a9 :: a10 :: a11 :: a12 :: a13 :: a14 :: a15 :: es)) : Heap σ0 σ (a15 :: a0 :: a1 :: a2 :: a3 :: a4 :: a5 :: a6 :: a7 :: a8 :: a9 :: a10 :: a11 :: a12 :: a13 :: a14 :: es) := h.pull 15
end
end Go.Am
end
section
set_option linter.unusedVariables false
set_option linter.unusedSimpArgs false
namespace Go.Am
def Kn (σ0 : St) (L : List (Nat × T)) (es : List Ent) (p : Prop) (G : Fr → Prop) : Prop := p → ∀ s σ, Sub L s → Heap σ0 σ es → G ⟨s, σ⟩
inductive Ct where
  | s (c : Code)
  | b (i : Nat)
inductive Wh where
  | c (c : Code)
  | x (e : AExit)
def nx : Nat → Wh → List Ct → Option (Wh × List Ct)
  | 0, _, _ => none
  | n + 1, .c c, k => match c with
    | .seq a b => nx n (.c a) (.s b :: k)
    | .block i c => nx n (.c c) (.b i :: k)
    | .skip => nx n (.x .normal) k
    | .exit i => nx n (.x (.exit i)) k
    | .ret => nx n (.x .ret) k
    | c => some (.c c, k)
  | n + 1, .x e, k => match k with
    | [] => some (.x e, [])
    | .s c :: k => match e with
      | .normal => nx n (.c c) k
      | .exit j => nx n (.x (.exit j)) k
      | .ret => nx n (.x .ret) k
    | .b i :: k => match e with
      | .exit j => match Nat.beq j i with
        | true => nx n (.x .normal) k
        | false => nx n (.x (.exit j)) k
      | .normal => nx n (.x .normal) k
      | .ret => nx n (.x .ret) k
section
variable (P : Program) (O : Oracle)
def popQ : List Ct → (AExit → Fr → Prop) → AExit → Fr → Prop
  | [], Q => Q
  | .s c :: k, Q => seqQ (codeQ P O c (popQ k Q)) (popQ k Q)
  | .b i :: k, Q => blkQ i (popQ k Q)
def whQ : Wh → List Ct → (AExit → Fr → Prop) → Fr → Prop
  | .c c, k, Q, fr => codeQ P O c (popQ P O k Q) fr
  | .x e, k, Q, fr => popQ P O k Q e fr
end
section
variable {P : Program} {O : Oracle} {Q : AExit → Fr → Prop} {fr : Fr}
theorem nx_ok : ∀ {n : Nat} {w : Wh} {k : List Ct} {w' : Wh} {k' : List Ct}, nx n w k = some (w', k') → whQ P O w' k' Q fr → whQ P O w k Q fr
  | 0, _, _, _, _, h, _ => by cases h
  | n + 1, .c c, k, w', k', h, g => by
    have hd : ∀ c, some (Wh.c c, k) = some (w', k') → whQ P O (.c c) k Q fr := fun c h => by injection h with h; injection h with h1 h2; subst h1; subst h2; exact g
    cases c with
    | seq a b => exact nx_ok (n := n) (w := .c a) (k := .s b :: k) h g
    | block i c => exact nx_ok (n := n) (w := .c c) (k := .b i :: k) h g
    | skip => exact nx_ok (n := n) (w := .x .normal) h g
    | exit i => exact nx_ok (n := n) (w := .x (.exit i)) h g
    | ret => exact nx_ok (n := n) (w := .x .ret) h g
    | _ => exact hd _ h
  | n + 1, .x e, [], w', k', h, g => by injection h with h; injection h with h1 h2; subst h1; subst h2; exact g
  | n + 1, .x e, .s c :: k, w', k', h, g => by
    cases e with
    | normal => exact nx_ok (n := n) (w := .c c) (k := k) h g
    | exit j => exact nx_ok (n := n) (w := .x (.exit j)) (k := k) h g
    | ret => exact nx_ok (n := n) (w := .x .ret) (k := k) h g
  | n + 1, .x e, .b i :: k, w', k', h, g => by
    cases e with
    | normal => exact nx_ok (n := n) (w := .x .normal) (k := k) h g
    | exit j =>
      simp only [nx] at h
      show popQ P O k Q (if j = i then .normal else .exit j) fr
      split at h
      · rename_i hb; rw [if_pos (Nat.eq_of_beq_eq_true hb)]; exact nx_ok (n := n) (w := .x .normal) (k := k) h g
      · rename_i hb; rw [if_neg (fun e => by rw [e] at hb; simp at hb)]; exact nx_ok (n := n) (w := .x (.exit j)) (k := k) h g
    | ret => exact nx_ok (n := n) (w := .x .ret) (k := k) h g
end
def foL {α β : Type} : List α → (List α → Option β) → Option β
  | [], k => k []
  | x :: xs, k => foL xs fun ys => k (x :: ys)
theorem foL_eq {α β : Type} : ∀ (l : List α) (k : List α → Option β), foL l k = k l
  | [], _ => rfl
  | x :: xs, k => by rw [foL, foL_eq xs]
def tkL {β : Type} : Nat → List T → (List T → Option β) → Option β
  | 0, _, k => k []
  | _ + 1, [], _ => none
  | n + 1, x :: xs, k => tkL n xs fun ys => k (x :: ys)
theorem tkL_some {β : Type} {b : β} : ∀ {n : Nat} {l : List T} {k : List T → Option β}, tkL n l k = some b → n ≤ l.length ∧ k (l.take n) = some b
  | 0, l, k, h => ⟨Nat.zero_le _, by simpa [tkL] using h⟩
  | n + 1, [], k, h => by cases h
  | n + 1, x :: xs, k, h => by
    obtain ⟨h1, h2⟩ := tkL_some (n := n) (l := xs) h
    exact ⟨by simp; omega, by simpa using h2⟩
def drL : Nat → List T → Option (List T)
  | 0, l => some l
  | _ + 1, [] => none
  | n + 1, _ :: xs => drL n xs
theorem drL_some : ∀ {n : Nat} {l r : List T}, drL n l = some r → n ≤ l.length ∧ r = l.drop n
  | 0, l, r, h => ⟨Nat.zero_le _, by injection h with h; simp [h]⟩
  | n + 1, [], r, h => by cases h
  | n + 1, x :: xs, r, h => by
    obtain ⟨h1, h2⟩ := drL_some (n := n) (l := xs) h
    exact ⟨by simp; omega, by simpa using h2⟩
def partF (P : Program) (t : TypeId) (cs : List T) (off : Nat) : Option T :=
  match drL off cs with
  | some cs => match aggOf P t with
    | some true => match szOf P t with
      | some n => tkL n cs fun l => some (.agg l)
      | none => none
    | some false => match cs with
      | x :: _ => some x
      | [] => none
    | none => none
  | none => none
theorem partF_ok {P : Program} {t : TypeId} {cs : List T} {off : Nat} {v : T} (h : partF P t cs off = some v) : part P t cs off = some v := by
  unfold partF at h
  split at h
  · rename_i r hr
    obtain ⟨h1, rfl⟩ := drL_some hr
    unfold part
    split at h
    · rename_i ha
      split at h
      · rename_i n hn
        obtain ⟨h2, h3⟩ := tkL_some h
        simp only [List.length_drop] at h2
        rw [ha, Option.bind_some, hn]
        simp only [if_true, Option.bind_some]
        rw [if_pos (by omega)]; exact h3
      · cases h
    · rename_i ha
      rw [ha, Option.bind_some]
      simp only [Bool.false_eq_true, if_false]
      split at h
      · rename_i x xs hx
        injection h with h; subst h
        have := congrArg (·[0]?) hx
        simpa using this
      · cases h
    · cases h
  · cases h
def fillF (place : Nat → Option (Nat × Nat)) (cells : List T) : List (Nat × T) → Option (List T)
  | [] => some cells
  | (i, v) :: rest => match place i with
    | some (off, size) => match Nat.beq v.cells.length size && Nat.ble (off + size) cells.length && v.cells.all T.one with
      | true => foL (splice cells off v.cells) fun cells => fillF place cells rest
      | false => none
    | none => none
theorem fillF_ok {place : Nat → Option (Nat × Nat)} : ∀ {ps : List (Nat × T)} {cells r : List T}, fillF place cells ps = some r → fillA place cells ps = some r
  | [], _, _, h => h
  | (i, v) :: rest, cells, r, h => by
    simp only [fillF] at h
    split at h
    · rename_i off size hp
      split at h
      · rename_i hc
        simp only [Bool.and_eq_true] at hc
        rw [foL_eq] at h
        simp only [fillA, hp, Option.bind_some]
        rw [if_pos ⟨Nat.eq_of_beq_eq_true hc.1.1, Nat.le_of_ble_eq_true hc.1.2, hc.2⟩]
        exact fillF_ok h
      · cases h
    · cases h
def pF (P : Program) (g : Nat → Option T) (op : Op) : Option T :=
  match op with
  | .build t parts => match zeroOf P t with
    | some z => match gPs g parts.toList with
      | some ps => match okP P t with
        | true => match fillF (fun i => match fieldOf P t i with | some (o, _, n) => some (o, n) | none => none) z ps with
          | some cs => foL cs fun cs => some (.agg cs)
          | none => none
        | false => none
      | none => none
    | none => none
  | .load t a => match gE g a with
    | some (.vw cs) => partF P t cs 0
    | _ => none
  | .field t x f => match gE g x with
    | some (.agg cs) => match fieldOf P t f with
      | some (off, ft, _) => partF P ft cs off
      | none => none
    | _ => none
  | .fieldAddr t x f => match gE g x with
    | some x => match fieldOf P t f with
      | some (off, _, n) => match x with
        | .ptr b e o m => match !Nat.beq n 0 && Nat.ble (off + n) m with
          | true => some (.ptr b e (o + off) n)
          | false => none
        | .vw cs => match n with
          | 0 => none
          | _ + 1 => match drL off cs with
            | some cs' => match tkL n cs' (fun _ => some ()) with
              | some _ => some (.vw cs')
              | none => none
            | none => none
        | _ => none
      | none => none
    | none => none
  | op => pOp P g op
theorem pF_ok {P : Program} {g : Nat → Option T} {op : Op} {v : T} (h : pF P g op = some v) : pOp P g op = some v := by
  cases op with
  | build t parts =>
    simp only [pF] at h
    split at h
    · rename_i z hz
      split at h
      · rename_i ps hp
        split at h
        · rename_i hk
          split at h
          · rename_i cs hc
            rw [foL_eq] at h
            have e : (fun i => (fieldOf P t i).map fun (o, _, n) => (o, n)) = fun i => match fieldOf P t i with | some (o, _, n) => some (o, n) | none => none := by
              funext i; cases fieldOf P t i <;> rfl
            simp only [pOp, hz, hp, hk, e, fillF_ok hc]; exact h
          · cases h
        · cases h
      · cases h
    · cases h
  | load t a =>
    simp only [pF] at h
    split at h
    · rename_i hc; simp only [pOp, hc]; exact partF_ok h
    · cases h
  | field t x f =>
    simp only [pF] at h
    split at h
    · rename_i hc
      split at h
      · rename_i hf; simp only [pOp, hc, hf]; exact partF_ok h
      · cases h
    · cases h
  | fieldAddr t x f =>
    simp only [pF] at h
    split at h
    · rename_i hx
      split at h
      · rename_i hf
        simp only [pOp, hx, hf]
        split at h
        · split at h
          · rename_i hc
            simp only [Bool.and_eq_true, Bool.not_eq_true'] at hc
            show (if _ = 0 then none else if _ then _ else none) = _; rw [if_neg (fun (e : _ = 0) => by rw [e] at hc; simp at hc), if_pos (Nat.le_of_ble_eq_true hc.2)]; exact h
          · cases h
        · split at h
          · cases h
          · split at h
            · rename_i cs' hd
              obtain ⟨h1, rfl⟩ := drL_some hd
              split at h
              · rename_i u hu
                obtain ⟨h2, _⟩ := tkL_some hu
                simp only [List.length_drop] at h2
                show (if _ = 0 then none else if _ then _ else none) = _; rw [if_neg (by omega), if_pos (by omega)]; exact h
              · cases h
            · cases h
        · cases h
      · cases h
    · cases h
  | _ => exact h
def sg (P : Program) (ops : Array Oper) : Nat → List Oper → List (Nat × T) → Option (List (Nat × T) × List Oper)
  | 0, l, L => some (L, l)
  | _ + 1, [], _ => none
  | n + 1, o :: l, L => match want ops L o.guard with
    | some true => match pF P (get L) o.op with
      | some v => match o.dst with
        | some d => sg P ops n l ((d, v) :: L)
        | none => sg P ops n l L
      | none => none
    | some false => match o.dst with
      | some d => sg P ops n l ((d, .tup []) :: L)
      | none => sg P ops n l L
    | none => none
theorem sg_seg {P : Program} {ops : Array Oper} : ∀ {n : Nat} {l : List Oper} {L : List (Nat × T)} {M : List (Nat × T)} {l' : List Oper}, sg P ops n l L = some (M, l') → seg P ops n l L = some M ∧ l' = l.drop n
  | 0, l, L, M, l', h => by injection h with h; injection h with h1 h2; subst h1; subst h2; exact ⟨rfl, rfl⟩
  | n + 1, [], L, M, l', h => by cases h
  | n + 1, o :: l, L, M, l', h => by
    simp only [sg] at h
    simp only [seg, List.drop_succ_cons]
    split at h
    · rename_i hw
      split at h
      · rename_i v hv
        simp only [hw, pF_ok hv]
        split at h
        · rename_i d hd; rw [hd]; exact sg_seg h
        · rename_i hd; rw [hd]; exact sg_seg h
      · cases h
    · rename_i hw
      simp only [hw]
      split at h
      · rename_i d hd; rw [hd]; exact sg_seg h
      · rename_i hd; rw [hd]; exact sg_seg h
    · cases h
def sgA (P : Program) (ops : Array Oper) : List Oper → List (Nat × T) → Option (List (Nat × T))
  | [], L => some L
  | o :: l, L => match want ops L o.guard with
    | some true => match pF P (get L) o.op with
      | some v => match o.dst with
        | some d => sgA P ops l ((d, v) :: L)
        | none => sgA P ops l L
      | none => none
    | some false => match o.dst with
      | some d => sgA P ops l ((d, .tup []) :: L)
      | none => sgA P ops l L
    | none => none
theorem sgA_seg {P : Program} {ops : Array Oper} : ∀ {l : List Oper} {L : List (Nat × T)} {M : List (Nat × T)}, sgA P ops l L = some M → seg P ops l.length l L = some M
  | [], L, M, h => by injection h with h; subst h; rfl
  | o :: l, L, M, h => by
    simp only [sgA] at h
    simp only [seg, List.length_cons]
    split at h
    · rename_i hw
      split at h
      · rename_i v hv
        simp only [hw, pF_ok hv]
        split at h
        · rename_i d hd; rw [hd]; exact sgA_seg h
        · rename_i hd; rw [hd]; exact sgA_seg h
      · cases h
    · rename_i hw
      simp only [hw]
      split at h
      · rename_i d hd; rw [hd]; exact sgA_seg h
      · rename_i hd; rw [hd]; exact sgA_seg h
    · cases h
section
variable {P : Program} {O : Oracle} {ops : Array Oper} {m : Mo} {l l' : List Oper} {K : Fr → Prop} {σ0 : St} {L L' : List (Nat × T)} {es es' : List Ent} {p q : Prop} {G : Fr → Prop}
variable {Q : AExit → Fr → Prop} {k k' : List Ct} {w w' : Wh} {s : Nat → T} {σ : St}
theorem t_bk (h : p) (hS : Sub L s) (hH : Heap σ0 σ es) (kk : Kn σ0 L es p G) : G ⟨s, σ⟩ := kk h s σ hS hH
theorem t_h (f : ∀ {σ}, Heap σ0 σ es → Heap σ0 σ es') (kk : Kn σ0 L es' p G) : Kn σ0 L es p G := fun h s σ hS hH => kk h s σ hS (f hH)
theorem t_U (n : Nat) (kk : Kn σ0 L' es p (opsX P O ops (nxN n m) l' K)) (h : sg P ops n l L = some (L', l') := by rfl) : Kn σ0 L es p (opsX P O ops m l K) := fun hp s σ hS hH => by
  obtain ⟨h1, rfl⟩ := sg_seg h
  exact seg_sound h1 hS fun s' hM => kk hp s' σ hM hH
theorem t_N (kk : Kn σ0 L' es p (whQ P O w' k' Q)) (h : sgA P ops l L = some L' := by rfl) (h2 : nx 99 (.x .normal) k = some (w', k') := by rfl) : Kn σ0 L es p (opsX P O ops m l (popQ P O k Q .normal)) := fun hp s σ hS hH =>
  seg_sound (sgA_seg h) hS fun s' hM => by
    rw [List.drop_length]
    exact x_nil (nx_ok (w := .x .normal) h2 (kk hp s' σ hM hH))
theorem t_R {id : Nat} (kk : Kn σ0 L es p (opsX P O ops .q ops.toList (popQ P O k Q .normal))) : Kn σ0 L es p (whQ P O (.c (.region id ops false)) k Q) := kk
theorem t_RU {id : Nat} (n : Nat) (kk : Kn σ0 L' es p (opsX P O ops .q l' (popQ P O k Q .normal))) (h : sg P ops n ops.toList L = some (L', l') := by rfl) : Kn σ0 L es p (whQ P O (.c (.region id ops false)) k Q) := fun hp s σ hS hH => by
  obtain ⟨h1, rfl⟩ := sg_seg h
  have e : ∀ n, nxN n Mo.q = .q := fun n => by induction n with
    | zero => rfl
    | succ n ih => exact ih
  exact seg_sound (m := .q) h1 hS fun s' hM => by rw [e]; exact kk hp s' σ hM hH
theorem t_RN {id : Nat} (kk : Kn σ0 L' es p (whQ P O w' k' Q)) (h : sgA P ops ops.toList L = some L' := by rfl) (h2 : nx 99 (.x .normal) k = some (w', k') := by rfl) : Kn σ0 L es p (whQ P O (.c (.region id ops false)) k Q) := t_R (t_N kk h h2)
end
section
variable {P : Program} {O : Oracle} {ops : Array Oper} {m : Mo} {l : List Oper} {K : Fr → Prop} {σ0 : St} {L L' : List (Nat × T)} {es es' : List Ent} {p q : Prop} {G : Fr → Prop} {γ : Type} {r : γ} {x y : Option γ}
variable {Q : AExit → Fr → Prop} {k k1 k2 : List Ct} {w1 w2 : Wh} {c : Operand} {a b : Code} {t : Bool}
theorem t_if (h1 : t = true → Kn σ0 L es (x = some r) (whQ P O w1 k1 Q)) (h2 : ¬ (t = true) → Kn σ0 L es (y = some r) (whQ P O w2 k2 Q)) (hc : gE (get L) c = some (.bool t) := by rfl) (e1 : nx 99 (.c a) k = some (w1, k1) := by rfl) (e2 : nx 99 (.c b) k = some (w2, k2) := by rfl) : Kn σ0 L es ((if t = true then x else y) = some r) (whQ P O (.c (.cond c a b)) k Q) := fun hp s σ hS hH =>
  c_cond hS hc (fun h => nx_ok (w := .c a) e1 (h1 h (it_pos h hp) s σ hS hH)) (fun h => have h : ¬ (t = true) := by simp [h]
    nx_ok (w := .c b) e2 (h2 h (it_neg h hp) s σ hS hH))
theorem t_gif (d : Nat) (h1 : t = true → Kn σ0 ((d, .bool true) :: L) es (x = some r) G) (h2 : ¬ (t = true) → Kn σ0 ((d, .bool false) :: L) es (y = some r) G) (hc : get L d = some (.bool t) := by rfl) : Kn σ0 L es ((if t = true then x else y) = some r) G := fun hp s σ hS hH => by
  have e := hS d _ hc
  by_cases h : t = true
  · exact h1 h (it_pos h hp) s σ (sub_cons hS (by rw [e, h])) hH
  · exact h2 h (it_neg h hp) s σ (sub_cons hS (by rw [e]; simp at h; rw [h])) hH
end
end Go.Am
end
section
set_option linter.unusedVariables false
set_option linter.unusedSimpArgs false
namespace Go.Am
def pickE : Nat → List Ent → Option (Ent × List Ent)
  | 0, e :: es => some (e, es)
  | n + 1, e :: es => match pickE n es with
    | some (x, r) => some (x, e :: r)
    | none => none
  | _, [] => none
theorem pickE_perm : ∀ {n : Nat} {es : List Ent} {x : Ent} {r : List Ent}, pickE n es = some (x, r) → es.Perm (x :: r)
  | 0, e :: es, x, r, h => by injection h with h; injection h with h1 h2; subst h1; subst h2; exact .refl _
  | n + 1, e :: es, x, r, h => by
    simp only [pickE] at h
    split at h
    · rename_i x' r' hr
      injection h with h; injection h with h1 h2; subst h1; subst h2
      exact ((pickE_perm hr).cons e).trans (.swap _ _ _)
    · cases h
  | 0, [], _, _, h => by cases h
  | _ + 1, [], _, _, h => by cases h
theorem Heap.pick {σ0 σ : St} {n : Nat} {es : List Ent} {x : Ent} {r : List Ent} (hH : Heap σ0 σ es) (h : pickE n es = some (x, r)) : Heap σ0 σ (x :: r) := hH.perm (pickE_perm h)
def zeroF (P : Program) (t : TypeId) : Option (List T) := match zeroOf P t with
  | some z => foL z some
  | none => none
theorem zeroF_ok {P : Program} {t : TypeId} {z : List T} (h : zeroF P t = some z) : zeroOf P t = some z := by
  unfold zeroF at h
  split at h
  · rename_i z' hz; rw [foL_eq] at h; rw [hz]; exact h
  · cases h
def cellsF : T → Option (List T)
  | .agg cs => foL cs some
  | .int k n => some [.int k n]
  | .bool b => some [.bool b]
  | .str s => some [.str s]
  | .nilp => some [.nilp]
  | .nilf => some [.nilf]
  | .nili => some [.nili]
  | .nilm => some [.nilm]
  | .ptr b e o m => some [.ptr b e o m]
  | .vw cs => some [.vw cs]
  | .row z n cs => some [.row z n cs]
  | .emp => some [.emp]
  | .ref b e o n => some [.ref b e o n]
  | .fn f a b => some [.fn f a b]
  | .tup cs => some [.tup cs]
theorem cellsF_ok {v : T} {cs : List T} (h : cellsF v = some cs) : v.cells = cs := by
  cases v with
  | agg l => rw [cellsF, foL_eq] at h; injection h
  | _ => injection h
def storeF (P : Program) (t : TypeId) (cells : List T) (off n : Nat) (cs : List T) : Option (List T) :=
  match szOf P t with
  | some sz => match Nat.beq cs.length sz && Nat.ble sz n && Nat.ble (off + sz) cells.length with
    | true => foL (splice cells off cs) some
    | false => none
  | none => none
theorem storeF_ok {P : Program} {t : TypeId} {cells cs r : List T} {off n : Nat} (h : storeF P t cells off n cs = some r) : storeC P t cells off n cs = some r := by
  unfold storeF at h; unfold storeC
  split at h
  · rename_i sz hz
    split at h
    · rename_i hc
      simp only [Bool.and_eq_true] at hc
      rw [foL_eq] at h
      rw [hz]
      show (if _ then _ else none) = _
      rw [if_pos ⟨Nat.eq_of_beq_eq_true hc.1.1, Nat.le_of_ble_eq_true hc.1.2, Nat.le_of_ble_eq_true hc.2⟩]; exact h
    · cases h
  · cases h
def pu (L : List (Nat × T)) (d : Option Nat) (v : T) : Option (List (Nat × T)) := match d with
  | some d => some ((d, v) :: L)
  | none => some L
theorem pu_ok {L L' : List (Nat × T)} {d : Option Nat} {v : T} (h : pu L d v = some L') : putL L d v = L' := by
  cases d with
  | some d => injection h
  | none => injection h
class Lit (α : Type) [Enc α] where
  c : α → List T
  h : ∀ a, Enc.cells a = c a
instance : Lit ByteArray := ⟨fun s => [.str s], fun _ => rfl⟩
instance : Lit Bool := ⟨fun s => [.bool s], fun _ => rfl⟩
instance (k : IntKind) : Lit (Iv k) := ⟨fun s => [.int k s.v], fun _ => rfl⟩
instance {α : Type} [Enc α] : Lit (Sl α) := ⟨fun s => [s.t], fun _ => rfl⟩
section
variable {P : Program} {O : Oracle} {ops : Array Oper} {m : Mo} {l : List Oper} {K : Fr → Prop} {σ0 : St} {L L' : List (Nat × T)} {es es' : List Ent} {p : Prop} {β γ : Type} {r : γ}
variable {d : Nat} {dO : Option Nat} {ty : TypeId} {ps : String} {af : Array Edge} {g : Option (Nat × Bool)}
theorem k_alloc {t : TypeId} {z : List T} (kk : ∀ b, Kn σ0 ((d, .ptr b 0 0 z.length) :: L) (.box b z :: es) p (opsX P O ops .q l K)) (hz : zeroF P t = some z := by rfl) (hw : want ops L g = some true := by rfl) : Kn σ0 L es p (opsX P O ops .q (⟨some d, .alloc t, ty, ps, af, g⟩ :: l) K) := fun hp s σ hS hH =>
  q_alloc hw hS hH (zeroF_ok hz) fun b σ' s' hH' hS' => kk b hp s' σ' hS' hH'
theorem k_box {x : Operand} {t : TypeId} {v : T} {cs : List T} (kk : ∀ b, Kn σ0 ((d, .ptr b 0 0 cs.length) :: L) (.box b cs :: es) p (opsX P O ops .q l K)) (hx : gE (get L) x = some v := by rfl) (hcs : cellsF v = some cs := by rfl) (h1 : cs.all T.one = true := by kernel_rfl) (hw : want ops L g = some true := by rfl) : Kn σ0 L es p (opsX P O ops .q (⟨some d, .box t x, ty, ps, af, g⟩ :: l) K) := fun hp s σ hS hH =>
  q_box hw hS hH hx (cellsF_ok hcs) h1 fun b σ' s' hH' hS' => kk b hp s' σ' hS' hH'
theorem k_storeV {a x : Operand} {t : TypeId} {b off n : Nat} {cells cells' cs : List T} {v : T} (i : Nat) (hcs : v.cells = cs) (h1 : cs.all T.one = true) (kk : Kn σ0 L' (.box b cells' :: es') p (opsX P O ops (nxM m) l K)) (ha : gE (get L) a = some (.ptr b 0 off n) := by rfl) (he : pickE i es = some (.box b cells, es') := by rfl) (hx : gE (get L) x = some v := by rfl) (hc : storeF P t cells off n cs = some cells' := by rfl) (hL : pu L dO (.tup []) = some L' := by rfl) (hw : want ops L g = some true := by rfl) (hwr : ∀ {σ}, Heap σ0 σ es → m.wr b := by exact fun _ => trivial) (hm : m.chg = true := by rfl) : Kn σ0 L es p (opsX P O ops m (⟨dO, .store t a x, ty, ps, af, g⟩ :: l) K) := fun hp s σ hS hH =>
  q_storeC hm (hwr hH) hw hS (hH.pick he) ha hx hcs h1 (storeF_ok hc) fun σ' s' hH' hS' => kk hp s' σ' (pu_ok hL ▸ hS') hH'
theorem k_store {a x : Operand} {t : TypeId} {b off n : Nat} {cells cells' cs : List T} {v : T} (i : Nat) (kk : Kn σ0 L' (.box b cells' :: es') p (opsX P O ops (nxM m) l K)) (ha : gE (get L) a = some (.ptr b 0 off n) := by rfl) (he : pickE i es = some (.box b cells, es') := by rfl) (hx : gE (get L) x = some v := by rfl) (hcs : cellsF v = some cs := by rfl) (h1 : cs.all T.one = true := by kernel_rfl) (hc : storeF P t cells off n cs = some cells' := by rfl) (hL : pu L dO (.tup []) = some L' := by rfl) (hw : want ops L g = some true := by rfl) (hwr : ∀ {σ}, Heap σ0 σ es → m.wr b := by exact fun _ => trivial) (hm : m.chg = true := by rfl) : Kn σ0 L es p (opsX P O ops m (⟨dO, .store t a x, ty, ps, af, g⟩ :: l) K) :=
  k_storeV i (cellsF_ok hcs) h1 kk ha he hx hc hL hw hwr hm
theorem k_storeT {a x : Operand} {t : TypeId} {b off n : Nat} {cells cells' : List T} {v : T} (i : Nat) (h1 : IsOne v) (kk : Kn σ0 L' (.box b cells' :: es') p (opsX P O ops (nxM m) l K)) (ha : gE (get L) a = some (.ptr b 0 off n) := by rfl) (he : pickE i es = some (.box b cells, es') := by rfl) (hx : gE (get L) x = some v := by rfl) (hc : storeF P t cells off n [v] = some cells' := by rfl) (hL : pu L dO (.tup []) = some L' := by rfl) (hw : want ops L g = some true := by rfl) (hwr : ∀ {σ}, Heap σ0 σ es → m.wr b := by exact fun _ => trivial) (hm : m.chg = true := by rfl) : Kn σ0 L es p (opsX P O ops m (⟨dO, .store t a x, ty, ps, af, g⟩ :: l) K) :=
  k_storeV i h1.1 (by simp [h1.2]) kk ha he hx hc hL hw hwr hm
theorem k_storeA {a x : Operand} {t : TypeId} {b n : Nat} {cells cs : List T} {v : T} (i : Nat) (kk : Kn σ0 L' (.box b cs :: es') p (opsX P O ops (nxM m) l K)) (ha : gE (get L) a = some (.ptr b 0 0 n) := by rfl) (he : pickE i es = some (.box b cells, es') := by rfl) (hx : gE (get L) x = some v := by rfl) (hcs : cellsF v = some cs := by rfl) (h1 : cs.all T.one = true := by kernel_rfl) (hc : storeC P t cells 0 n cs = some cs := by kernel_rfl) (hL : pu L dO (.tup []) = some L' := by rfl) (hw : want ops L g = some true := by rfl) (hwr : ∀ {σ}, Heap σ0 σ es → m.wr b := by exact fun _ => trivial) (hm : m.chg = true := by rfl) : Kn σ0 L es p (opsX P O ops m (⟨dO, .store t a x, ty, ps, af, g⟩ :: l) K) := fun hp s σ hS hH =>
  q_storeC hm (hwr hH) hw hS (hH.pick he) ha hx (cellsF_ok hcs) h1 hc fun σ' s' hH' hS' => kk hp s' σ' (pu_ok hL ▸ hS') hH'
theorem k_load {a : Operand} {t : TypeId} {b e off n : Nat} {cells cs : List T} {v : T} (i : Nat) (kk : Kn σ0 ((d, v) :: L) es p (opsX P O ops (nxM m) l K)) (ha : gE (get L) a = some (.ptr b e off n) := by rfl) (he : es[i]? = some (.box b cells) := by rfl) (hc : drL off cells = some cs := by rfl) (hv : partF P t cs 0 = some v := by rfl) (hn : part P t (cs.take n) 0 = some v := by kernel_rfl) (hlt : m.lt b := by exact trivial) (hw : want ops L g = some true := by rfl) : Kn σ0 L es p (opsX P O ops m (⟨some d, .load t a, ty, ps, af, g⟩ :: l) K) := fun hp s σ hS hH =>
  q_load (e := e) i hlt hw hS hH he ha (by rw [← (drL_some hc).2]; exact hn) fun s' hS' => kk hp s' σ hS' hH
theorem k_elt {α : Type} [Enc α] [Lit α] {x i : Operand} {t e : TypeId} {sl : Sl α} {kk : IntKind} {j : Int} {f : α → Option γ} {c : α → List T} (k : ∀ y rest, elt sl j = some y → Kn σ0 ((d, .vw (c y ++ rest)) :: L) es (f y = some r) (opsX P O ops (nxM m) l K)) (hx : gE (get L) x = some sl.t := by rfl) (hi : gE (get L) i = some (.int kk j) := by rfl)
    (he : elemOfSl P t = some e := by rfl) (hz : szOf P e = some (Enc.w α) := by kernel_rfl) (hc : ∀ y, foL (Lit.c y) some = some (c y) := by intro; rfl) (hw : want ops L g = some true := by rfl) : Kn σ0 L es ((elt sl j).bind f = some r) (opsX P O ops m (⟨some d, .indexAddr t x i, ty, ps, af, g⟩ :: l) K) := fun hp s σ hS hH => by
  obtain ⟨y, hy, hp⟩ := bind_some hp
  exact q_elt (c y) hw hS hx hi he hz hy (by rw [Lit.h]; have := hc y; rw [foL_eq] at this; injection this) fun rest s' hS' => k y rest hy hp s' σ hS' hH
theorem k_cat {x y : Operand} {t u : TypeId} {a b : ByteArray} {f : ByteArray → Option γ} (k : ∀ c, catB a b = some c → Kn σ0 ((d, .str c) :: L) es (f c = some r) (opsX P O ops (nxM m) l K)) (hx : gE (get L) x = some (.str a) := by rfl) (hy : gE (get L) y = some (.str b) := by rfl) (hw : want ops L g = some true := by rfl) : Kn σ0 L es ((catB a b).bind f = some r) (opsX P O ops m (⟨some d, .binOp .add t x y u, ty, ps, af, g⟩ :: l) K) := fun hp s σ hS hH => by
  obtain ⟨c, hc, hp⟩ := bind_some hp
  exact q_catO hw hS hx hy hc fun s' hS' => k c hc hp s' σ hS' hH
end
def hlOk : T → Bool
  | .int .. | .bool _ | .str _ | .row .. | .nilp | .nilf | .nili | .nilm | .fn .. | .vw .. | .ptr .. => true
  | .agg cs => hlOks cs
  | .tup cs => hlOks cs
  | .ref .. | .emp => false
where hlOks : List T → Bool
  | [] => true
  | t :: ts => hlOk t && hlOks ts
mutual
theorem hl1 {ts vs : List T} {es : List Ent} : ∀ {t : T}, hlOk t = true → HL false ts vs es → HL false (t :: ts) (t :: vs) es
  | .int k n, _, h => HL.leaf (fun σ d => hold_int _ σ d _ _) h
  | .bool b, _, h => HL.leaf (fun σ d => by cases d <;> rfl) h
  | .str b, _, h => HL.leaf (fun σ d => by cases d <;> rfl) h
  | .row z n cs, _, h => HL.leaf (fun σ d => by cases d <;> cases z <;> cases n <;> cases cs <;> rfl) h
  | .emp, k, h => by cases k
  | .nilp, _, h => HL.leaf (fun σ d => by cases d <;> rfl) h
  | .nilf, _, h => HL.leaf (fun σ d => by cases d <;> rfl) h
  | .nili, _, h => HL.leaf (fun σ d => by cases d <;> rfl) h
  | .nilm, _, h => HL.leaf (fun σ d => by cases d <;> rfl) h
  | .fn f a b, _, h => HL.leaf (fun σ d => by cases d <;> rfl) h
  | .vw cs, _, h => HL.leaf (fun σ d => by cases d <;> rfl) h
  | .ptr b e o m, _, h => HL.leaf (fun σ d => by cases d <;> rfl) h
  | .agg cs, k, h => HL.agg (es1 := []) (hl2 (ts := cs) k) h
  | .tup cs, k, h => HL.tup (es1 := []) (hl2 (ts := cs) k) h
  | .ref .., k, h => by cases k
theorem hl2 : ∀ {ts : List T}, hlOk.hlOks ts = true → HL false ts ts []
  | [], _ => .nil
  | t :: ts, h => by
    simp only [hlOk.hlOks, Bool.and_eq_true] at h
    exact hl1 h.1 (hl2 h.2)
end
def HC (z : Bool) (ts vs : List T) (es es1 : List Ent) : Prop := ∃ ents, HL z ts vs ents ∧ es = ents ++ es1
section
variable {z : Bool} {ts vs cs us : List T} {es es1 es2 : List Ent}
theorem HC.nil : HC z [] [] es es := ⟨[], .nil, rfl⟩
theorem HC.i {k : IntKind} {n : Int} (h : HC z ts vs es es1) : HC z (.int k n :: ts) (.int k n :: vs) es es1 := let ⟨a, b, c⟩ := h; ⟨a, HLi b, c⟩
theorem HC.s {x : ByteArray} (h : HC z ts vs es es1) : HC z (.str x :: ts) (.str x :: vs) es es1 := let ⟨a, b, c⟩ := h; ⟨a, HLs b, c⟩
theorem HC.b {x : Bool} (h : HC z ts vs es es1) : HC z (.bool x :: ts) (.bool x :: vs) es es1 := let ⟨a, b, c⟩ := h; ⟨a, HLb b, c⟩
theorem HC.n {α : Type} [Enc α] (h : HC z ts vs es es1) : HC z (Sl.t (⟨true, []⟩ : Sl α) :: ts) (Sl.t (⟨true, []⟩ : Sl α) :: vs) es es1 := let ⟨a, b, c⟩ := h; ⟨a, HLn b, c⟩
theorem HC.p {α : Type} [Enc α] {x : Sl α} (h : HC false ts vs es es1) : HC false (x.t :: ts) (x.t :: vs) es es1 := let ⟨a, b, c⟩ := h; ⟨a, HLp b, c⟩
theorem HC.own {z' : Bool} {w : Nat} {t v : T} (hz : (!z || z') = true) (h : HC z ts vs es es1) : HC z (t :: ts) (v :: vs) (.own z' w t v :: es) es1 := let ⟨a, b, c⟩ := h; ⟨_, HL.own hz b, by rw [c]; rfl⟩
theorem HC.agg (h : HC z cs us es es2) (k : HC z ts vs es2 es1) : HC z (.agg cs :: ts) (.agg us :: vs) es es1 := let ⟨a, b, c⟩ := h; let ⟨a', b', c'⟩ := k; ⟨a ++ a', HL.agg b b', by rw [c, c', List.append_assoc]⟩
theorem HC.of {ents : List Ent} (h : HL z ts vs ents) : HC z ts vs (ents ++ es1) es1 := ⟨_, h, rfl⟩
end
section
variable {P : Program} {md : Nat → Md} {X : Ext} {ops : Array Oper} {m : Mo} {l : List Oper} {K : Fr → Prop} {σ0 : St} {L L' : List (Nat × T)} {es es1 ents : List Ent} {β γ : Type} {eb : β → T} {r : γ} {fn : Nat} {h : β → Option γ}
variable {d : Nat} {ty : TypeId} {ps : String} {af : Array Edge} {g : Option (Nat × Bool)} {fo : Operand} {as : Array Operand} {tys : Array TypeId}
theorem k_call {xs : List T} (k : ∀ y, semV P md X eb fn xs = some y → Kn σ0 ((d, eb y) :: L) es (h y = some r) (opsX P (run P md X) ops (nxM m) l K)) (hf : gE (get L) fo = some (.fn fn [] []) := by rfl) (ha : gEs (get L) as.toList = some xs := by rfl) (hw : want ops L g = some true := by rfl) : Kn σ0 L es ((semV P md X eb fn xs).bind h = some r) (opsX P (run P md X) ops m (⟨some d, .call ⟨.value fo, as, tys⟩, ty, ps, af, g⟩ :: l) K) := fun hp s σ hS hH => by
  obtain ⟨y, hy, hp⟩ := bind_some hp
  exact q_callF (a := []) (b := []) (xs := xs) hw hS hf ha (by simpa using hy) fun s' hS' => k y hy hp s' σ hS' hH
theorem one_of {σ : St} {es : List Ent} {z : Bool} {w : Nat} {t v : T} {i : Nat} (hH : Heap σ0 σ es) (h : es[i]? = some (.own z w t v)) : IsOne t := Heap.one (hH.at i h)
theorem k_callO1 {Sh : Shape β} {ts vs : List T} {es1 : List Ent} {es' : β → T → List Ent} (k : ∀ y t, semO P md X Sh fn vs = some y → IsOne t → Kn σ0 ((d, Sh.tree [t] y) :: L) (es' y t) (h y = some r) (opsX P (run P md X) ops (nxM m) l K)) (hn : Sh.n = 1 := by rfl) (hf : gE (get L) fo = some (.fn fn [] []) := by rfl) (ha : gEs (get L) as.toList = some ts := by rfl) (hh : HC false ts vs es es1 := by repeat (first | exact HC.nil | apply HC.i | apply HC.s | apply HC.b | apply HC.n | apply HC.p | apply HC.agg | apply HC.own rfl))
    (he : ∀ y t, foL (Sh.en [t] y ++ es) some = some (es' y t) := by intros; rfl) {z : β → T → Bool} {w : β → T → Nat} {v : β → T → T} (ho : ∀ y t, (es' y t)[0]? = some (.own (z y t) (w y t) t (v y t)) := by intros; rfl) (hv : md fn = .own := by rfl) (hm : m.chg = true := by rfl) (hw : want ops L g = some true := by rfl) : Kn σ0 L es ((semO P md X Sh fn vs).bind h = some r) (opsX P (run P md X) ops m (⟨some d, .call ⟨.value fo, as, tys⟩, ty, ps, af, g⟩ :: l) K) := fun hp s σ hS hH => by
  obtain ⟨y, hy, hp⟩ := bind_some hp
  obtain ⟨ents, hh, hE⟩ := hh
  refine q_callO hm hw hS hf ha hv (hE ▸ hH) hh hy fun hs σ' s' hl hH' hS' => ?_
  rw [hn] at hl
  rw [← hE] at hH'
  match hs, hl with
  | [t], _ =>
    have := he y t; rw [foL_eq] at this; injection this with this
    rw [this] at hH'
    exact k y t hy (one_of hH' (ho y t)) hp s' σ' hS' hH'
theorem k_callO {Sh : Shape β} {ts vs : List T} {es1 : List Ent} (k : ∀ y hs, semO P md X Sh fn vs = some y → hs.length = Sh.n → Kn σ0 ((d, Sh.tree hs y) :: L) (Sh.en hs y ++ es) (h y = some r) (opsX P (run P md X) ops (nxM m) l K)) (hf : gE (get L) fo = some (.fn fn [] []) := by rfl) (ha : gEs (get L) as.toList = some ts := by rfl) (hh : HC false ts vs es es1 := by repeat (first | exact HC.nil | apply HC.i | apply HC.s | apply HC.b | apply HC.n | apply HC.p | apply HC.agg | apply HC.own rfl)) (hv : md fn = .own := by rfl) (hm : m.chg = true := by rfl) (hw : want ops L g = some true := by rfl) : Kn σ0 L es ((semO P md X Sh fn vs).bind h = some r) (opsX P (run P md X) ops m (⟨some d, .call ⟨.value fo, as, tys⟩, ty, ps, af, g⟩ :: l) K) := fun hp s σ hS hH => by
  obtain ⟨y, hy, hp⟩ := bind_some hp
  obtain ⟨ents, hh, hE⟩ := hh
  refine q_callO hm hw hS hf ha hv (hE ▸ hH) hh hy fun hs σ' s' hl hH' hS' => ?_
  rw [← hE] at hH'
  exact k y hs hy hl hp s' σ' hS' hH'
end
def KR (P : Program) (σ0 : St) (L : List (Nat × T)) (es : List Ent) (rs : List ResultVar) (l : List T) : Prop := ∀ s σ, Sub L s → Heap σ0 σ es → resL P ⟨s, σ⟩ rs = some l
def okX : AExit → Bool
  | .exit _ => false
  | _ => true
section
variable {P : Program} {md : Nat → Md} {X : Ext} {O : Oracle} {σ0 : St} {L L0 : List (Nat × T)} {es es1 ents : List Ent} {β : Type} {eb : β → T} {r v : β} {f n : Nat} {p : Prop} {c : Code} {rs : List ResultVar} {args l : List T} {w : Wh} {k : List Ct} {e : AExit} {Sh : Shape β}
theorem rN : KR P σ0 L es [] [] := fun _ _ _ _ => rfl
theorem rT {t : Nat} {v : T} (kk : KR P σ0 L es rs l) (h : get L t = some v := by rfl) : KR P σ0 L es (.tmp t :: rs) (v :: l) := fun s σ hS hH => r_tmp hS h (kk s σ hS hH)
theorem rC {a : Nat} {ty : TypeId} {b e off n : Nat} {cells cs : List T} {v : T} (i : Nat) (kk : KR P σ0 L es rs l) (h : get L a = some (.ptr b e off n) := by rfl) (he : es[i]? = some (.box b cells) := by rfl) (hc : drL off cells = some cs := by rfl) (hv : partF P ty cs 0 = some v := by rfl) (hn : part P ty (cs.take n) 0 = some v := by kernel_rfl) : KR P σ0 L es (.cell a ty :: rs) (v :: l) := fun s σ hS hH =>
  r_cell (e := e) hS (hH.at i he) h (by rw [← (drL_some hc).2]; exact hn) (kk s σ hS hH)
theorem k_W (hok : Ok P f c n rs) (hi : ∀ a b, eb a = eb b → a = b) (hp : p) (kk : ∀ σ0, Kn σ0 L0 [] p (whQ P (run P md X) w k (endW P rs σ0 (eb r)))) (hf : args.all flat3 = true := by kernel_rfl) (hv : md f = .view := by rfl) (hX : X f = none := by rfl) (hlen : Nat.ble args.length n = true := by kernel_rfl) (hL : foL (nums 0 args) some = some L0 := by rfl) (hc : nx 99 (.c c) [] = some (w, k) := by rfl) : semV P md X eb f args = some r :=
  semW_of hi hv hX hok hlen hf fun σ s hS hH => nx_ok (w := .c c) hc (kk σ hp s σ (by rw [foL_eq] at hL; injection hL with hL; rw [← hL]; exact hS) hH)
theorem k_O (hok : Ok P f c n rs) (hp : p) (kk : ∀ σ0, Kn σ0 L0 [] p (whQ P (run P md X) w k (endOw P rs σ0 Sh r))) (hf : args.all flat3 = true := by kernel_rfl) (hv : md f = .own := by rfl) (hX : X f = none := by rfl) (hlen : Nat.ble args.length n = true := by kernel_rfl) (hL : foL (nums 0 args) some = some L0 := by rfl) (hc : nx 99 (.c c) [] = some (w, k) := by rfl) : semO P md X Sh f args = some r :=
  semO_of hv hX hok hlen hf fun σ s hS hH => nx_ok (w := .c c) hc (kk σ hp s σ (by rw [foL_eq] at hL; injection hL with hL; rw [← hL]; exact hS) hH)
theorem k_eW (hr : KR P σ0 L es rs l) (hp : ∀ v, pureT (eb v) = true) (ht : tupOf l = eb v := by rfl) (hf : flat3 (eb v) = true := by kernel_rfl) (he : okX e = true := by rfl) : Kn σ0 L es (some v = some r) (whQ P O (.x e) [] (endW P rs σ0 (eb r))) := fun h s σ hS hH => by
  injection h with h; subst h
  have := end_W hH (hr s σ hS hH) ht hf (hp v)
  cases e with
  | exit i => cases he
  | _ => exact this
theorem eW {s : Nat → T} {σ : St} (hS : Sub L s) (hH : Heap σ0 σ es) (hr : KR P σ0 L es rs l) (hp : ∀ v, pureT (eb v) = true) (ht : tupOf l = eb v := by rfl) (hf : flat3 (eb v) = true := by kernel_rfl) : endW P rs σ0 (eb v) .ret ⟨s, σ⟩ := end_W hH (hr s σ hS hH) ht hf (hp v)
theorem k_eO (hs : List T) (hr : KR P σ0 L es rs l) (ht : tupOf l = Sh.tree hs v := by rfl) (hn : hs.length = Sh.n := by rfl) (he : es = Sh.en hs v ++ es1 := by rfl) (hx : okX e = true := by rfl) : Kn σ0 L es (some v = some r) (whQ P O (.x e) [] (endOw P rs σ0 Sh r)) := fun h s σ hS hH => by
  injection h with h; subst h
  have := end_Ow (P := P) hs es1 (hr s σ hS hH) ht hn hH he
  cases e with
  | exit i => cases hx
  | _ => exact this
end
section
variable {P : Program} {O : Oracle} {ops : Array Oper} {σ0 : St} {L L1 : List (Nat × T)} {es es' : List Ent} {β γ S : Type} {r : γ} {p : Prop} {G : Fr → Prop}
variable {Q : AExit → Fr → Prop} {k ka kb k1 : List Ct} {w w1 : Wh} {s : Nat → T} {σ : St} {e : AExit} {c : Code}
theorem t_bx (h : p) (hS : Sub L s) (hH : Heap σ0 σ es) (kk : Kn σ0 L es p (whQ P O w1 k1 Q)) (hn : nx 99 (.x e) k = some (w1, k1) := by rfl) : popQ P O k Q e ⟨s, σ⟩ := nx_ok (w := .x e) hn (kk h s σ hS hH)
theorem t_e {v y : γ} (kk : ∀ {s σ}, y = v → Sub L s → Heap σ0 σ es → Q e ⟨s, σ⟩) : Kn σ0 L es (some v = some y) (whQ P O (.x e) [] Q) := fun h s σ hS hH => kk (by injection h with h; exact h.symm) hS hH
theorem t_loop {body : S → Option (S ⊕ β)} {s0 : S} {h : β → Option γ} (Inv : S → Fr → Prop) (F : β → AExit → Fr → Prop) (hi : ∀ {s σ}, Sub L s → Heap σ0 σ es → Inv s0 ⟨s, σ⟩) (hr : ∀ st x fr, body st = some x → Inv st fr → whQ P O w1 k1 (roundQ Inv F x) fr) (hk : ∀ y e fr, h y = some r → F y e fr → popQ P O k Q e fr) (hn : nx 99 (.c c) [] = some (w1, k1) := by rfl) : Kn σ0 L es ((loopO body s0).bind h = some r) (whQ P O (.c (.loop c)) k Q) := fun hp s σ hS hH => by
  obtain ⟨y, hy, hp⟩ := bind_some hp
  exact c_loop Inv F hy (hi hS hH) (fun st x fr hb hI => nx_ok (w := .c c) (k := []) hn (hr st x fr hb hI)) (fun e fr => hk y e fr hp)
theorem t_D {id : Nat} (kk : ∀ mb, Kn σ0 L es p (opsX P O ops (.d mb 0) ops.toList (popQ P O k Q .normal))) (hd : drawOk ops = true := by kernel_rfl) : Kn σ0 L es p (whQ P O (.c (.region id ops true)) k Q) := fun hp s σ hS hH =>
  c_draw (id := id) hd hH fun mb σ' hH' => kk mb hp s σ' hS hH'
end
section
variable {P : Program} {md : Nat → Md} {X : Ext} {ops : Array Oper} {σ0 : St} {L : List (Nat × T)} {es : List Ent} {p : Prop} {Q : AExit → Fr → Prop} {k : List Ct}
theorem t_chain {id : Nat} (W : List (Nat × (Nat → Prop))) (hX : XOk X) (kk : ∀ B σs, σ0.next ≤ B → (∀ x cells, Ent.box x cells ∈ es → x < B) → (∀ z w t v, Ent.own z w t v ∈ es → ∀ b e o n, t = .ref b e o n → b < B) → Kn σ0 L es p (opsX P (run P md X) ops (.c B 0 (Wc W) σs (cmpOf [] md ops)) ops.toList (popQ P (run P md X) k Q .normal))) (hst : drawOk ops = true := by kernel_rfl) (hch : chainB [] md ops = true := by kernel_rfl) : Kn σ0 L es p (whQ P (run P md X) (.c (.region id ops true)) k Q) := fun hp s σ hS hH =>
  c_chain (id := id) [] (Wc W) hX hst hch hH fun B σs σ' h1 h2 h3 hH' => kk B σs h1 h2 h3 hp s σ' hS hH'
theorem t_chainV {id : Nat} (vs : List Nat) (W : List (Nat × (Nat → Prop))) (hX : XOk X) (kk : ∀ B σs, σ0.next ≤ B → (∀ x cells, Ent.box x cells ∈ es → x < B) → (∀ z w t v, Ent.own z w t v ∈ es → ∀ b e o n, t = .ref b e o n → b < B) → Kn σ0 L es p (opsX P (run P md X) ops (.c B 0 (Wc W) σs (cmpOf vs md ops)) ops.toList (popQ P (run P md X) k Q .normal))) (hst : drawOk ops = true := by kernel_rfl) (hch : chainB vs md ops = true := by kernel_rfl) : Kn σ0 L es p (whQ P (run P md X) (.c (.region id ops true)) k Q) := fun hp s σ hS hH =>
  c_chain (id := id) vs (Wc W) hX hst hch hH fun B σs σ' h1 h2 h3 hH' => kk B σs h1 h2 h3 hp s σ' hS hH'
end
section
variable {σ0 : St} {es : List Ent} {bs : List Nat} {cs : List (List T)} {b : Nat} {c : List T}
end
section
variable {P : Program} {md : Nat → Md} {X : Ext} {ops : Array Oper} {m : Mo} {l : List Oper} {K : Fr → Prop} {σ0 : St} {L L' : List (Nat × T)} {es ents : List Ent} {β γ : Type} {eb : β → T} {r : γ} {fn : Nat} {h : β → Option γ}
variable {d : Nat} {dO : Option Nat} {ty : TypeId} {ps : String} {af : Array Edge} {g : Option (Nat × Bool)} {fo : Operand} {as : Array Operand} {tys : Array TypeId}
theorem k_callH {ts vs : List T} {es1 : List Ent} (k : ∀ y, semV P md X eb fn vs = some y → Kn σ0 ((d, eb y) :: L) es (h y = some r) (opsX P (run P md X) ops (nxM m) l K)) (hlf : ∀ y, leafT (eb y) = true := by intro; kernel_rfl) (hf : gE (get L) fo = some (.fn fn [] []) := by rfl) (ha : gEs (get L) as.toList = some ts := by rfl) (hh : HC false ts vs es es1 := by repeat (first | exact HC.nil | apply HC.i | apply HC.s | apply HC.b | apply HC.n | apply HC.p | apply HC.agg | apply HC.own rfl)) (hv : md fn = .view := by rfl) (hw : want ops L g = some true := by rfl) (hvw : m.vw = false := by rfl) : Kn σ0 L es ((semV P md X eb fn vs).bind h = some r) (opsX P (run P md X) ops m (⟨some d, .call ⟨.value fo, as, tys⟩, ty, ps, af, g⟩ :: l) K) := fun hp s σ hS hH => by
  obtain ⟨y, hy, hp⟩ := bind_some hp
  obtain ⟨ents, hh, hE⟩ := hh
  exact q_callH hw hS hf ha hv (hE ▸ hH) hh hy (hlf y) (fun s' hS' => k y hy hp s' σ hS' hH) hvw
theorem k_lenH {α : Type} [Enc α] {z : Bool} {w : Nat} {t1 : T} {a : Sl α} {t : TypeId} {x : Operand} {p : Prop} {O : Oracle} (i : Nat) (kk : Kn σ0 ((d, .int .i64 a.l.length) :: L) es p (opsX P O ops (nxM m) l K)) (hx : gE (get L) x = some t1 := by rfl) (he : es[i]? = some (.own z w t1 a.t) := by rfl) (hk : kindT P t = 4 := by kernel_rfl) (hw : want ops L g = some true := by rfl) : Kn σ0 L es p (opsX P O ops m (⟨some d, .call ⟨.builtin .len, #[x], #[t]⟩, ty, ps, af, g⟩ :: l) K) := fun hp s σ hS hH =>
  q_lenH (z := z) (w := w) hw hS (hH.at i he) hx hk fun s' hS' => kk hp s' σ hS' hH
end
def entT : List Ent → Nat → Option T
  | .own _ _ t _ :: _, 0 => some t
  | .flt _ t _ :: _, 0 => some t
  | _ :: es, n + 1 => entT es n
  | _, _ => none
theorem entT_one {σ0 σ : St} : ∀ {es : List Ent} {i : Nat} {t : T}, Heap σ0 σ es → entT es i = some t → IsOne t
  | .own z w t v :: es, 0, t', hH, h => by injection h with h; subst h; exact Heap.one hH
  | .flt w t v :: es, 0, t', hH, h => by injection h with h; subst h; exact Heap.fltOne hH
  | .box .. :: es, 0, _, _, h => by cases h
  | .frt .. :: es, 0, _, _, h => by cases h
  | .keep .. :: es, 0, _, _, h => by cases h
  | e :: es, n + 1, t, hH, h => entT_one (es := es) (i := n) hH.drop (by cases e <;> exact h)
  | [], 0, _, _, h => by cases h
  | [], _ + 1, _, _, h => by cases h
section
variable {σ0 : St} {L : List (Nat × T)} {es es' : List Ent} {p : Prop} {G : Fr → Prop} {α β : Type} {r : α}
theorem t_one {t : T} (i : Nat) (kk : IsOne t → Kn σ0 L es p G) (h : entT es i = some t := by rfl) : Kn σ0 L es p G := fun hp s σ hS hH => kk (entT_one hH h) hp s σ hS hH
theorem t_lit (kk : Kn σ0 L es' p G) (h : foL es some = some es' := by rfl) : Kn σ0 L es p G := fun hp s σ hS hH => kk hp s σ hS (by rw [foL_eq] at h; injection h with h; rw [← h]; exact hH)
theorem el_l {γ : Type} {f : α → Option γ} {g : β → Option γ} {a : α} {r : γ} (h : Sum.elim f g (Sum.inl a) = some r) : f a = some r := h
theorem el_r {γ : Type} {f : α → Option γ} {g : β → Option γ} {a : β} {r : γ} (h : Sum.elim f g (Sum.inr a) = some r) : g a = some r := h
end
def gVF (g : Nat → Option T) : Nat → List (Nat × Operand) → Option (List T)
  | _, [] => some []
  | i, (j, x) :: l => match Nat.beq i j with
    | true => match gE g x with
      | some v => match gVF g (i + 1) l with
        | some vs => some (v :: vs)
        | none => none
      | none => none
    | false => none
theorem gVF_ok {g : Nat → Option T} : ∀ {l : List (Nat × Operand)} {i : Nat} {vs : List T}, gVF g i l = some vs → gPs g l = some (enumV i vs)
  | [], i, vs, h => by injection h with h; subst h; rfl
  | (j, x) :: l, i, vs, h => by
    simp only [gVF] at h
    split at h
    · rename_i hb
      split at h
      · rename_i v hv
        split at h
        · rename_i us hu
          injection h with h; subst h
          simp only [gPs, hv, gVF_ok hu, enumV, Nat.eq_of_beq_eq_true hb]
        · cases h
      · cases h
    · cases h
def csF : List T → Option (List T)
  | [] => some []
  | v :: vs => match cellsF v with
    | some c => match csF vs with
      | some r => foL (c ++ r) some
      | none => none
    | none => none
theorem csF_ok : ∀ {vs cs : List T}, csF vs = some cs → vs.flatMap T.cells = cs
  | [], cs, h => by injection h
  | v :: vs, cs, h => by
    simp only [csF] at h
    split at h
    · rename_i c hc
      split at h
      · rename_i r hr
        rw [foL_eq] at h; injection h with h; subst h
        rw [List.flatMap_cons, cellsF_ok hc, csF_ok hr]
      · cases h
    · cases h
theorem allV_of {sz : Nat} : ∀ {vs : List T}, (vs.all fun v => Nat.beq v.cells.length sz) = true → (vs.flatMap T.cells).all T.one = true → allV sz vs
  | [], _, _ => trivial
  | v :: vs, h, k => by
    simp only [List.all_cons, Bool.and_eq_true] at h
    rw [List.flatMap_cons, List.all_append, Bool.and_eq_true] at k
    exact ⟨Nat.eq_of_beq_eq_true h.1, k.1, allV_of h.2 k.2⟩
def litL {α : Type} [Enc α] [Lit α] : List α → List T
  | [] => []
  | x :: l => Lit.c x ++ litL l
theorem litL_eq {α : Type} [Enc α] [Lit α] : ∀ (l : List α), cellsL l = litL l
  | [] => rfl
  | x :: l => by rw [cellsL, litL, Lit.h, litL_eq l]
section
variable {P : Program} {O : Oracle} {ops : Array Oper} {m : Mo} {l : List Oper} {K : Fr → Prop} {σ0 : St} {L L' : List (Nat × T)} {es es1 es' ents : List Ent} {γ : Type} {r : γ} {p : Prop} {α : Type} [Enc α]
variable {d : Nat} {dO : Option Nat} {ty : TypeId} {ps : String} {af : Array Edge} {g : Option (Nat × Bool)} {t t2 e by_ w sz len : Nat} {x y i0 : Operand} {z : Bool} {t1 ty1 : T} {zc : List T} {parts : Array (Nat × Operand)} {kk0 : IntKind} {j : Int}
theorem k_bs [Lit α] {vs cs us : List T} (a : Sl α) (kk : ∀ t', IsOne t' → Kn σ0 ((d, t') :: L) (.own z sz t' a.t :: es1) p (opsX P O ops (nxM m) l K)) (hg : gVF (get L) 0 parts.toList = some vs := by rfl) (hc : csF vs = some cs := by rfl) (hu : foL (litL a.l) some = some us := by rfl) (hh : HC z cs us es es1 := by repeat (first | exact HC.nil | apply HC.i | apply HC.s | apply HC.b | apply HC.n | apply HC.p | apply HC.agg | apply HC.own rfl)) (he : elemOfSl P t = some e := by rfl) (hz : szOf P e = some sz := by rfl) (hzz : zeroOf P e = some zc := by rfl) (hl : (Nat.beq zc.length sz && Nat.beq vs.length len && Nat.ble (len * sz) 16777216 && !Nat.beq sz 0 && !Nat.beq len 0) = true := by kernel_rfl) (hv : (vs.all fun v => Nat.beq v.cells.length sz) = true := by kernel_rfl) (h1 : cs.all T.one = true := by kernel_rfl) (hr : T.row false len (cellsL a.l) = a.t := by rfl) (hb : m.base σ0 := by exact trivial) (hm : m.chg = true := by rfl) (hw : want ops L g = some true := by rfl) : Kn σ0 L es p (opsX P O ops m (⟨some d, .buildSlice t len parts, ty, ps, af, g⟩ :: l) K) := fun hp s σ hS hH => by
  obtain ⟨ents, hh, hE⟩ := hh
  exact q_bsC hm hb hw hS (hE ▸ hH) (gVF_ok hg) he hz hzz hl (allV_of hv (by rw [csF_ok hc]; exact h1)) (csF_ok hc) hh (by rw [foL_eq] at hu; injection hu with hu; rw [← hu, ← litL_eq]; exact hr) fun t' σ' s' h1 h2 h3 => kk t' h1 hp s' σ' h3 h2
theorem k_hidx {a : Sl α} {f : α → Option γ} (i : Nat) (k : ∀ b ep y, elt a j = some y → t1 = .ref b ep 0 a.l.length → Kn σ0 ((d, .ptr b ep (j.toNat * Enc.w α) (Enc.w α)) :: L) es (f y = some r) (opsX P O ops (nxM m) l K)) (hx : gE (get L) x = some t1 := by rfl) (hi : gE (get L) i0 = some (.int kk0 j) := by rfl) (h1 : es[i]? = some (.own z w t1 a.t) := by rfl) (he : elemOfSl P t = some e := by rfl) (hz : szOf P e = some (Enc.w α) := by kernel_rfl) (hlt : ∀ b e o n, t1 = .ref b e o n → m.lt b := by exact fun _ _ _ _ _ => trivial) (hw : want ops L g = some true := by rfl) : Kn σ0 L es ((elt a j).bind f = some r) (opsX P O ops m (⟨some d, .indexAddr t x i0, ty, ps, af, g⟩ :: l) K) := fun hp s σ hS hH => by
  obtain ⟨y, hy, hp⟩ := bind_some hp
  exact q_hidx (z := z) (w := w) hlt hw hS (hH.at i h1) hx hi he hz hy fun b ep s' hr h3 => k b ep y hy hr hp s' σ h3 hH
theorem k_hload [Lit α] {a : Sl α} {b ep n : Nat} {c : List T} {v : T} {y : α} (i off : Nat) (hr : t1 = .ref b ep 0 a.l.length) (hy : elt a j = some y) (kk : Kn σ0 ((d, v) :: L) es p (opsX P O ops (nxM m) l K)) (ha : gE (get L) x = some (.ptr b ep (j.toNat * Enc.w α + off) n) := by rfl) (he : es[i]? = some (.own z w t1 a.t) := by rfl) (hc : foL (Lit.c y) some = some c := by rfl) (hv : c[off]? = some v := by rfl) (hag : aggOf P t = some false := by kernel_rfl) (hn : Nat.ble 1 n = true := by kernel_rfl) (hlf : ∀ σ d t S, hold z σ d t = some (v, S) → t = v := by first | exact leaf_int | exact leaf_str | exact leaf_bool) (hlt : ∀ b e o n, t1 = .ref b e o n → m.lt b := by exact fun _ _ _ _ _ => trivial) (hw : want ops L g = some true := by rfl) : Kn σ0 L es p (opsX P O ops m (⟨some d, .load t x, ty, ps, af, g⟩ :: l) K) := fun hp s σ hS hH =>
  q_hload (z := z) (w := w) (c := c) hlt hw hS (hH.at i he) hr ha hy (by rw [Lit.h]; rw [foL_eq] at hc; injection hc) hag hv hn hlf fun s' h3 => kk hp s' σ h3 hH
end
section
variable {P : Program} {O : Oracle} {ops : Array Oper} {m : Mo} {l : List Oper} {K : Fr → Prop} {σ0 σk : St} {F : List Nat} {L : List (Nat × T)} {es : List Ent} {p : Prop}
variable {d : Nat} {ty : TypeId} {ps : String} {af : Array Edge} {g : Option (Nat × Bool)} {t : TypeId} {x : Operand} {pp : T} {c : List T}
end
end Go.Am
end
section
set_option linter.unusedVariables false
set_option linter.unusedSimpArgs false
namespace Go.Am
section
variable {P : Program} {O : Oracle} {ops : Array Oper} {m : Mo} {l : List Oper} {K : Fr → Prop} {s : Nat → T} {σ σ0 : St} {L : List (Nat × T)} {es es' ents : List Ent} {γ : Type} {r0 : γ} {p : Prop}
variable {d0 : Nat} {d : Option Nat} {ty : TypeId} {ps : String} {af : Array Edge} {g : Option (Nat × Bool)}
theorem convA_toK {σ : St} {k : Option Nat} {src dst e : TypeId} {x : T} {n : Nat} {cs : List T} {l : List UInt8} (hx : isTop x = true) (h1 : kindT P dst = 3) (he : elemOfSl P src = some e) (h3 : kindT P e = 10) (hc : cellsOf σ x = some (n, cs)) (hn : cs.length = n) (hb : ofBytes cs = some l) : convA P k σ src dst x = some (.str ⟨l.toArray⟩, σ) := by
  have key : convA P k σ src dst x = if kindT P dst = 3 then (elemOfSl P src).bind fun e => if kindT P e = 10 then (cellsOf σ x).bind fun (n, cs) => if cs.length = n then (ofBytes cs).map fun l => (.str ⟨l.toArray⟩, σ) else none else none else none := by
    cases x <;> first | rfl | (simp [isTop] at hx; done)
  rw [key, if_pos h1, he, Option.bind_some, if_pos h3, hc, Option.bind_some]
  simp only
  rw [if_pos hn, hb]; rfl
theorem q_b2sC (hq : m.seq = true) {z : Bool} {wd : Nat} {x : Operand} {src dst e : TypeId} {t1 : T} {a : Sl (Iv .u8)} {r : ByteArray} (hw : want ops L g = some true) (hS : Sub L s) (hH : Heap σ0 σ (.own z wd t1 a.t :: es)) (hx : gE (get L) x = some t1) (hk : Nat.beq (kindT P dst) 3 = true) (he : elemOfSl P src = some e) (hke : Nat.beq (kindT P e) 10 = true) (hr : strS a = some r)
    (k : ∀ s', Sub (putL L d (.str r)) s' → opsX P O ops (nxM m) l K ⟨s', σ⟩) : opsX P O ops m (⟨d, .convert src dst x, ty, ps, af, g⟩ :: l) K ⟨s, σ⟩ := by
  obtain ⟨S, ⟨ht, hwd, k', h2⟩, _, _⟩ := hH.head
  have ea : a.t = .row a.z a.l.length (cellsL a.l) := rfl
  rw [ea] at h2
  have hone : Enc.w (Iv .u8) = 1 := rfl
  obtain ⟨l0, h4, h5⟩ := Option.map_eq_some_iff.1 hr
  have h1 := Nat.eq_of_beq_eq_true hk; have h3 := Nat.eq_of_beq_eq_true hke
  have hof : ∀ cs, cs = cellsL a.l → ofBytes cs = some l0 := fun cs h => by rw [h, ofIv_cells, h4]
  have leaf : ∀ {k : Nat} (as : List (Iv .u8)) (ts : List T) (S : List Nat), frzL (hold z σ k) ts = some (cellsL as, S) → ts = cellsL as := by
    intro k as
    induction as with
    | nil => intro ts S h; have := frzL_length h; exact List.length_eq_zero_iff.1 (by simpa [cellsL] using this.symm)
    | cons x as ih =>
      intro ts S h
      have h : frzL (hold z σ k) ts = some (.int .u8 x.v :: cellsL as, S) := h
      cases ts with
      | nil => simp [frzL] at h
      | cons t ts =>
        simp only [frzL] at h
        obtain ⟨⟨p1, p2⟩, q1, q2⟩ := Option.bind_eq_some_iff.1 h
        obtain ⟨⟨r1, r2⟩, q3, q4⟩ := Option.map_eq_some_iff.1 q2
        injection q4 with q4 _
        injection q4 with e1 e2
        subst e1; subst e2
        have := leaf_int (z := z) (k := .u8) (n := x.v) σ k t p2 q1
        rw [this, ih ts r2 q3]; rfl
  have hconv : ∀ kk, convA P kk σ src dst t1 = some (.str r, σ) := by
    intro kk
    subst h5
    rcases hold_top ht h2 with ⟨rfl, hz, hn0, hcs, rfl⟩ | ⟨rfl, hz, hn0, hcs, rfl⟩ | ⟨hzz, x', B, S', k'', rfl, hB, c1, c3, c5, c6, c7, h3', rfl⟩
    · exact convA_toK ht h1 he h3 (n := 0) (cs := []) rfl rfl (hof _ hcs.symm)
    · exact convA_toK ht h1 he h3 (n := 0) (cs := []) rfl rfl (hof _ hcs.symm)
    · have e1 : (B.cells.drop 0).take (a.l.length * B.esz) = B.cells := by rw [List.drop_zero, ← c5, List.take_length]
      have e2 : B.cells = cellsL a.l := leaf _ _ _ h3'
      refine convA_toK ht h1 he h3 (n := a.l.length) (cs := B.cells) ?_ (by rw [e2, cellsL_len, hone, Nat.mul_one]) (hof _ e2)
      simp only [cellsOf, hB, Option.bind_some, if_pos c3, e1]
  refine q_val hw hS (fun kk σ' ha => ?_) k
  rw [Mo.al_seq ha hq, a_convert, gE_sound hS hx, Option.bind_some, hconv]; rfl
theorem k_b2s {z : Bool} {wd : Nat} {x : Operand} {src dst e : TypeId} {t1 : T} {a : Sl (Iv .u8)} {f : ByteArray → Option γ} (i : Nat) (kk : ∀ y, strS a = some y → Kn σ0 ((d0, .str y) :: L) es (f y = some r0) (opsX P O ops (nxM m) l K)) (hx : gE (get L) x = some t1 := by rfl) (h1 : pickE i es = some (.own z wd t1 a.t, es') := by rfl) (hk : Nat.beq (kindT P dst) 3 = true := by kernel_rfl) (he : elemOfSl P src = some e := by rfl) (hke : Nat.beq (kindT P e) 10 = true := by kernel_rfl) (hq : m.seq = true := by rfl) (hw : want ops L g = some true := by rfl) : Kn σ0 L es ((strS a).bind f = some r0) (opsX P O ops m (⟨some d0, .convert src dst x, ty, ps, af, g⟩ :: l) K) := fun hp s σ hS hH => by
  obtain ⟨y, hy, hp⟩ := bind_some hp
  exact q_b2sC hq hw hS (hH.pick h1) hx hk he hke hy fun s' hS' => kk y hy hp s' σ hS' hH
end
end Go.Am
end
section
set_option linter.unusedVariables false
set_option linter.unusedSimpArgs false
namespace Go.Am
noncomputable def tell (p : Prop) : Option Bool := some (@decide p (Classical.propDecidable p))
theorem tell_t {p : Prop} (h : p) : tell p = some true := by simp [tell, h]
theorem tell_f {p : Prop} (h : ¬ p) : tell p = some false := by simp [tell, h]
def A2 {α : Type} (R : α → α → Prop) : List α → List α → Prop
  | [], [] => True
  | x :: xs, y :: ys => R x y ∧ A2 R xs ys
  | _, _ => False
theorem A2.refl {α : Type} {R : α → α → Prop} : ∀ {l : List α}, (∀ x ∈ l, R x x) → A2 R l l
  | [], _ => trivial
  | x :: xs, h => ⟨h x (by simp), A2.refl (fun y hy => h y (by simp [hy]))⟩
theorem A2.len {α : Type} {R : α → α → Prop} : ∀ {l m : List α}, A2 R l m → l.length = m.length
  | [], [], _ => rfl
  | _ :: xs, _ :: ys, h => by simp [A2.len h.2]
  | [], _ :: _, h => h.elim
  | _ :: _, [], h => h.elim
theorem A2.drop {α : Type} {R : α → α → Prop} {l m : List α} {i : Nat} {x y : α} (hx : l[i]? = some x) (hy : m[i]? = some y) : A2 R (l.drop i) (m.drop i) ↔ R x y ∧ A2 R (l.drop (i + 1)) (m.drop (i + 1)) := by
  obtain ⟨h1, rfl⟩ := List.getElem?_eq_some_iff.1 hx
  obtain ⟨h2, rfl⟩ := List.getElem?_eq_some_iff.1 hy
  rw [List.drop_eq_getElem_cons h1, List.drop_eq_getElem_cons h2]
  exact Iff.rfl
theorem wrap_id {n : Int} (h0 : -9223372036854775808 ≤ n) (h1 : n < 9223372036854775808) : IntKind.i64.wrap n = n := by
  simp only [IntKind.wrap, IntKind.signed, IntKind.bits]
  simp
  omega
theorem elt_nat {α : Type} {s : Sl α} {i : Nat} {x : α} (h : s.l[i]? = some x) : elt s (i : Int) = some x := by
  simp [elt, h]
theorem loop_eq {α : Type} {R : α → α → Prop} {a b : Sl α} {body : Int → Option (Int ⊕ (Unit ⊕ Bool))} (hl : a.l.length = b.l.length)
    (h1 : ∀ (i : Nat) x y, a.l[i]? = some x → b.l[i]? = some y → (R x y → body i = some (.inl ((i : Int) + 1))) ∧ (¬ R x y → body i = some (.inr (.inr false))))
    (h2 : body (a.l.length : Int) = some (.inr (.inl ()))) :
    (A2 R a.l b.l → loopO body 0 = some (.inl ())) ∧ (¬ A2 R a.l b.l → loopO body 0 = some (.inr false)) := by
  suffices H : ∀ (k i : Nat), i + k = a.l.length → (A2 R (a.l.drop i) (b.l.drop i) → loopO body (i : Int) = some (.inl ())) ∧ (¬ A2 R (a.l.drop i) (b.l.drop i) → loopO body (i : Int) = some (.inr false)) by
    have := H a.l.length 0 (by simp)
    simpa using this
  intro k
  induction k with
  | zero =>
    intro i hi
    have : i = a.l.length := by omega
    subst this
    refine ⟨fun _ => loopO_stop h2, fun h => ?_⟩
    refine absurd ?_ h
    rw [List.drop_length]
    rw [hl, List.drop_length]
    trivial
  | succ k ih =>
    intro i hi
    have ha : i < a.l.length := by omega
    have hb : i < b.l.length := by omega
    have ea : a.l[i]? = some a.l[i] := List.getElem?_eq_getElem ha
    have eb : b.l[i]? = some b.l[i] := List.getElem?_eq_getElem hb
    have hh := h1 i _ _ ea eb
    have ihh := ih (i + 1) (by omega)
    rw [A2.drop ea eb]
    have hc : ((i + 1 : Nat) : Int) = (i : Int) + 1 := by simp
    rw [hc] at ihh
    by_cases hR : R a.l[i] b.l[i]
    · refine ⟨fun h => loopO_go (hh.1 hR) (ihh.1 h.2), fun h => loopO_go (hh.1 hR) (ihh.2 (fun q => h ⟨hR, q⟩))⟩
    · exact ⟨fun h => absurd h.1 hR, fun _ => loopO_stop (hh.2 hR)⟩
/- sizes -/
def SzOk (o : Option Int) (l : Int) (P : Prop) : Prop := o = some (-1) ∨ ∃ l', o = some l' ∧ 0 ≤ l' ∧ l' ≤ l ∧ P
theorem SzOk.imp {o : Option Int} {l m : Int} {P Q : Prop} (h : SzOk o l P) (hm : l ≤ m) (f : P → Q) : SzOk o m Q := by
  rcases h with h | ⟨l', h1, h2, h3, h4⟩
  · exact .inl h
  · exact .inr ⟨l', h1, h2, by omega, f h4⟩
theorem sz_u {B F : Option Int} {l : Int} {P : Prop} (u : ∀ r, B = some r → F = some r) (h : SzOk B l P) : SzOk F l P := by
  rcases h with h | ⟨l', h1, h2⟩
  · exact .inl (u _ h)
  · exact .inr ⟨l', u _ h1, h2⟩
theorem sz_end {l : Int} {Q : Prop} (h : 0 ≤ l) (q : Q) : SzOk (some l) l Q := .inr ⟨l, rfl, h, by omega, q⟩
theorem sz_if {l l' : Int} {K : Option Int} {Q : Prop} (hl : l' ≤ l) (h : 0 ≤ l' → SzOk K l' Q) : SzOk (if decide (l' < 0) = true then some (-1) else K) l Q := by
  by_cases hn : l' < 0
  · exact .inl (by simp [hn])
  · rw [if_neg (by simpa using hn)]
    exact (h (by omega)).imp hl (fun q => q)
theorem sz_bind {o : Option Int} {l : Int} {P Q : Prop} {k : Int → Option Int} (h : SzOk o l P) (hk : ∀ l', 0 ≤ l' → l' ≤ l → P → SzOk (k l') l' Q) : SzOk (o.bind fun y => if decide (y < 0) = true then some (-1) else k y) l Q := by
  rcases h with h | ⟨l', h1, h2, h3, h4⟩
  · subst h; exact .inl (by simp)
  · subst h1
    show SzOk (if decide (l' < 0) = true then some (-1) else k l') l Q
    rw [if_neg (by simp; omega)]
    exact (hk l' h2 h3 h4).imp h3 (fun q => q)
theorem loop_sz {α : Type} {P : α → Prop} {a : Sl α} {body : Int × Int → Option ((Int × Int) ⊕ (Int ⊕ Int))} {l : Int} (h0 : 0 ≤ l)
    (h1 : ∀ (i : Nat) x l', a.l[i]? = some x → 0 ≤ l' → l' ≤ l → body (l', i) = some (.inr (.inr (-1))) ∨ ∃ l'', body (l', i) = some (.inl (l'', (i : Int) + 1)) ∧ 0 ≤ l'' ∧ l'' ≤ l' ∧ P x)
    (h2 : ∀ l', body (l', (a.l.length : Int)) = some (.inr (.inl l'))) :
    SzOk ((loopO body (l, 0)).bind fun y => Sum.elim (fun y => some y) (fun y => some y) y) l (∀ x ∈ a.l, P x) := by
  suffices H : ∀ (k i : Nat), i + k = a.l.length → ∀ l', 0 ≤ l' → l' ≤ l → (loopO body (l', (i : Int)) = some (.inr (-1))) ∨ ∃ l'', loopO body (l', (i : Int)) = some (.inl l'') ∧ 0 ≤ l'' ∧ l'' ≤ l' ∧ ∀ x ∈ a.l.drop i, P x by
    rcases H a.l.length 0 (by simp) l h0 (by omega) with h | ⟨l', h, h3⟩
    · have h : loopO body (l, 0) = some (.inr (-1)) := h
      rw [h]; exact .inl rfl
    · have h : loopO body (l, 0) = some (.inl l') := h
      rw [h]; exact .inr ⟨l', rfl, by simpa using h3⟩
  intro k
  induction k with
  | zero =>
    intro i hi l' hl0 hl
    have : i = a.l.length := by omega
    subst this
    exact .inr ⟨l', loopO_stop (h2 l'), hl0, by omega, by simp⟩
  | succ k ih =>
    intro i hi l' hl0 hl
    have ha : i < a.l.length := by omega
    have ea : a.l[i]? = some a.l[i] := List.getElem?_eq_getElem ha
    rcases h1 i _ l' ea hl0 hl with h | ⟨l2, h, h3, h4, h5⟩
    · exact .inl (loopO_stop h)
    · have hc : ((i + 1 : Nat) : Int) = (i : Int) + 1 := by simp
      rcases ih (i + 1) (by omega) l2 h3 (by omega) with q | ⟨l3, q, q1, q2, q3⟩
      · rw [hc] at q
        exact .inl (loopO_go h q)
      · rw [hc] at q
        refine .inr ⟨l3, loopO_go h q, q1, by omega, ?_⟩
        rw [List.drop_eq_getElem_cons ha]
        intro x hx
        rcases List.mem_cons.1 hx with rfl | hx
        · exact h5
        · exact q3 x hx
/- copies -/
def ToOk {α : Type} (o : Option α) (P : α → Prop) : Prop := ∃ y, o = some y ∧ P y
theorem to_u {α : Type} {B F : Option α} {P : α → Prop} (u : ∀ r, B = some r → F = some r) (h : ToOk B P) : ToOk F P := by
  obtain ⟨y, h1, h2⟩ := h
  exact ⟨y, u _ h1, h2⟩
theorem to_bind {α β : Type} {o : Option α} {P : α → Prop} {k : α → Option β} {Q : β → Prop} (h : ToOk o P) (hk : ∀ y, P y → ToOk (k y) Q) : ToOk (o.bind k) Q := by
  obtain ⟨y, rfl, h2⟩ := h
  exact hk y h2
theorem to_end {α : Type} {x : α} {P : α → Prop} (h : P x) : ToOk (some x) P := ⟨x, rfl, h⟩
theorem loop_to {α : Type} {P : α → Prop} {n : Nat} {a : Sl α} {by_ : Nat} {z : α} {body : Int × Sl α → Option ((Int × Sl α) ⊕ Sl α)} (hn : a.l.length ≤ n) (hb : n * by_ ≤ 1099511627776) (hb2 : n ≤ 1099511627776)
    (h1 : ∀ (i : Nat) x (s : Sl α) w, a.l[i]? = some x → s.l[i]? = some w → ∃ y, body (i, s) = some (.inl ((i : Int) + 1, setS s i y)) ∧ P y)
    (h2 : ∀ s, body ((a.l.length : Int), s) = some (.inr s)) :
    ToOk ((mkS by_ z (a.l.length : Int) (a.l.length : Int)).bind fun y1 => (loopO body (0, y1)).bind fun y2 => some y2) (fun r => r.l.length ≤ n ∧ ∀ x ∈ r.l, P x) := by
  have hm : mkS by_ z (a.l.length : Int) (a.l.length : Int) = some ⟨false, List.replicate a.l.length z⟩ := by
    have : a.l.length * by_ ≤ n * by_ := Nat.mul_le_mul_right _ hn
    unfold mkS
    rw [if_pos]
    · simp
    · refine ⟨by omega, by omega, ?_, by omega, fun h => h⟩
      have : ((a.l.length * by_ : Nat) : Int) ≤ 1099511627776 := by omega
      simpa using this
  rw [hm]
  suffices H : ∀ (k i : Nat), i + k = a.l.length → ∀ s : Sl α, s.l.length = a.l.length → (∀ j x, j < i → s.l[j]? = some x → P x) → ∃ r, loopO body ((i : Int), s) = some r ∧ r.l.length = a.l.length ∧ ∀ x ∈ r.l, P x by
    obtain ⟨r, q1, q2, q3⟩ := H a.l.length 0 (by simp) ⟨false, List.replicate a.l.length z⟩ (by simp) (by intro j x h; omega)
    have q1 : loopO body (0, ⟨false, List.replicate a.l.length z⟩) = some r := q1
    refine ⟨r, ?_, by omega, q3⟩
    show (loopO body (0, ⟨false, List.replicate a.l.length z⟩)).bind _ = _
    rw [q1]; rfl
  intro k
  induction k with
  | zero =>
    intro i hi s hs hP
    have : i = a.l.length := by omega
    subst this
    refine ⟨s, loopO_stop (h2 s), hs, fun x hx => ?_⟩
    obtain ⟨j, hj, rfl⟩ := List.getElem_of_mem hx
    exact hP j _ (by omega) (List.getElem?_eq_getElem hj)
  | succ k ih =>
    intro i hi s hs hP
    have ha : i < a.l.length := by omega
    have hi' : i < s.l.length := by omega
    obtain ⟨y, q1, q2⟩ := h1 i _ s _ (List.getElem?_eq_getElem ha) (List.getElem?_eq_getElem hi')
    obtain ⟨r, p1, p2, p3⟩ := ih (i + 1) (by omega) (setS s i y) (by simp [setS, hs]) (by
      intro j x hj hx
      simp only [setS, Int.toNat_natCast, List.getElem?_set] at hx
      by_cases hij : i = j
      · subst hij
        simp [hi'] at hx
        exact hx ▸ q2
      · rw [if_neg hij] at hx
        exact hP j x (by omega) hx)
    have hc : ((i + 1 : Nat) : Int) = (i : Int) + 1 := by simp
    rw [hc] at p1
    exact ⟨r, loopO_go q1 p1, p2, p3⟩
def FitS {α : Type} (n : Nat) (F : α → Prop) (s : Sl α) : Prop := s.l.length ≤ n ∧ ∀ x ∈ s.l, F x
theorem slice_sz {α : Type} {P : α → Prop} {a : Sl α} {body : Int × Int → Option ((Int × Int) ⊕ (Int ⊕ Int))} {l : Int} (h0 : 0 ≤ l) (h20 : l ≤ 1048576) (hb : a.l.length ≤ maxLen)
    (h1 : ∀ (i : Nat) x l', x ∈ a.l → i < a.l.length → elt a (i : Int) = some x → 0 ≤ l' → l' ≤ l → body (l', i) = some (.inr (.inr (-1))) ∨ ∃ l'', body (l', i) = some (.inl (l'', (i : Int) + 1)) ∧ 0 ≤ l'' ∧ l'' ≤ l' ∧ P x)
    (h2 : ∀ l', body (l', (a.l.length : Int)) = some (.inr (.inl l'))) :
    SzOk (if decide (IntKind.i64.wrap (l - (a.l.length : Int)) < 0) = true then some (-1) else (loopO body (IntKind.i64.wrap (l - (a.l.length : Int)), 0)).bind fun y => Sum.elim (fun y => some y) (fun y => some y) y) l (FitS 1048576 P a) := by
  have hm : maxLen = 9223372036854775807 := by decide
  rw [hm] at hb
  rw [wrap_id (by omega) (by omega)]
  refine sz_if (by omega) (fun hn => ?_)
  exact (loop_sz hn (fun i x l' hx q1 q2 => h1 i x l' (List.mem_of_getElem? hx) (List.getElem?_eq_some_iff.1 hx).1 (elt_nat hx) q1 (by omega)) h2).imp (Int.le_refl _) (fun q => ⟨by omega, q⟩)
theorem sz_step {α : Type} {p : Prop} {a : Sl α} {x : α} {i : Nat} {n l : Int} {e : Option ((Int × Int) ⊕ (Int ⊕ Int))} {G : α → Option Int} (hi : (i : Int) < n) (hx : elt a (i : Int) = some x) (hG : SzOk (G x) l p) (hn : n < 9223372036854775808) :
    (if decide ((i : Int) < n) = true then (elt a (i : Int)).bind fun y2 => (G y2).bind fun y3 => if decide (y3 < 0) = true then some (.inr (.inr (-1))) else some (.inl (y3, IntKind.i64.wrap ((i : Int) + 1))) else e) = some (.inr (.inr (-1))) ∨
    ∃ l'', (if decide ((i : Int) < n) = true then (elt a (i : Int)).bind fun y2 => (G y2).bind fun y3 => if decide (y3 < 0) = true then some (.inr (.inr (-1))) else some (.inl (y3, IntKind.i64.wrap ((i : Int) + 1))) else e) = some (.inl (l'', (i : Int) + 1)) ∧ 0 ≤ l'' ∧ l'' ≤ l ∧ p := by
  rw [if_pos (by simpa using hi), hx, wrap_id (by omega) (by omega)]
  rcases hG with h | ⟨l', h, h2, h3, h4⟩
  · left; simp [h]
  · right
    refine ⟨l', ?_, h2, h3, h4⟩
    simp only [Option.bind_some, h]
    rw [if_neg (by simp; omega)]
theorem to_step {α : Type} {P : α → Prop} {a s : Sl α} {x w : α} {i : Nat} {n : Int} {e : Option ((Int × Sl α) ⊕ Sl α)} {G : α → Option α} (hi : (i : Int) < n) (hx : elt a (i : Int) = some x) (hw : elt s (i : Int) = some w) (hG : ToOk (G x) P) (hn : n < 9223372036854775808) :
    ∃ y, (if decide ((i : Int) < n) = true then (elt a (i : Int)).bind fun y3 => (G y3).bind fun y4 => (elt s (i : Int)).bind fun y5 => some (.inl (IntKind.i64.wrap ((i : Int) + 1), setS s (i : Int) y4)) else e) = some (.inl ((i : Int) + 1, setS s i y)) ∧ P y := by
  rw [if_pos (by simpa using hi), hx, hw, wrap_id (by omega) (by omega)]
  obtain ⟨y, h, h2⟩ := hG
  exact ⟨y, by simp [h], h2⟩
theorem slice_to {α : Type} {P : α → Prop} {a : Sl α} {by_ : Nat} {z : α} {body : Int × Sl α → Option ((Int × Sl α) ⊕ Sl α)} (hn : a.l.length ≤ 1048576) (hb : 1048576 * by_ ≤ 1099511627776)
    (h1 : ∀ (i : Nat) x (s : Sl α) w, x ∈ a.l → i < a.l.length → elt a (i : Int) = some x → elt s (i : Int) = some w → ∃ y, body (i, s) = some (.inl ((i : Int) + 1, setS s i y)) ∧ P y)
    (h2 : ∀ s, body ((a.l.length : Int), s) = some (.inr s)) :
    ToOk ((mkS by_ z (a.l.length : Int) (a.l.length : Int)).bind fun y1 => (loopO body (0, y1)).bind fun y2 => some y2) (FitS 1048576 P) :=
  loop_to hn hb (by omega) (fun i x s w hx hw => h1 i x s w (List.mem_of_getElem? hx) (List.getElem?_eq_some_iff.1 hx).1 (elt_nat hx) (elt_nat hw)) h2
/- comparisons, put together -/
theorem says_iff {o : Option Bool} {p q : Prop} (h : o = tell p) (hi : p ↔ q) : o = tell q := by rw [h, propext hi]
theorem says_ifn {c q : Prop} [Decidable c] {K : Option Bool} (h : c → K = tell q) : (if (!decide c) = true then some false else K) = tell (c ∧ q) := by
  by_cases hc : c
  · rw [if_neg (by simp [hc]), h hc]; congr 1; simp [hc]
  · rw [if_pos (by simp [hc]), tell_f (fun w => hc w.1)]
theorem says_bindn {p q : Prop} {o K : Option Bool} (ho : o = tell p) (h : p → K = tell q) : (o.bind fun y => if (!y) = true then some false else K) = tell (p ∧ q) := by
  subst ho
  by_cases hc : p
  · rw [tell_t hc, h hc]; show tell q = _; congr 1; simp [hc]
  · rw [tell_f hc, tell_f (fun w => hc w.1)]; rfl
theorem says_true : some true = tell True := by rw [tell_t trivial]
def Steps (o : Option (Int ⊕ (Unit ⊕ Bool))) (i : Nat) (p : Prop) : Prop := (p → o = some (.inl (IntKind.i64.wrap ((i : Int) + 1)))) ∧ (¬ p → o = some (.inr (.inr false)))
theorem st_end {i : Nat} : Steps (some (.inl (IntKind.i64.wrap ((i : Int) + 1)))) i True := ⟨fun _ => rfl, fun h => absurd trivial h⟩
theorem st_ifn {i : Nat} {c q : Prop} [Decidable c] {K : Option (Int ⊕ (Unit ⊕ Bool))} (h : c → Steps K i q) : Steps (if (!decide c) = true then some (.inr (.inr false)) else K) i (c ∧ q) := by
  by_cases hc : c
  · rw [if_neg (by simp [hc])]; exact ⟨fun w => (h hc).1 w.2, fun w => (h hc).2 (fun q => w ⟨hc, q⟩)⟩
  · rw [if_pos (by simp [hc])]; exact ⟨fun w => absurd w.1 hc, fun _ => rfl⟩
theorem st_bindn {i : Nat} {p q : Prop} {o : Option Bool} {K : Option (Int ⊕ (Unit ⊕ Bool))} (ho : o = tell p) (h : p → Steps K i q) : Steps (o.bind fun y => if (!y) = true then some (.inr (.inr false)) else K) i (p ∧ q) := by
  subst ho
  by_cases hc : p
  · rw [tell_t hc]; exact ⟨fun w => (h hc).1 w.2, fun w => (h hc).2 (fun q => w ⟨hc, q⟩)⟩
  · rw [tell_f hc]; exact ⟨fun w => absurd w.1 hc, fun _ => rfl⟩
theorem st_elt {α : Type} {i : Nat} {p : Prop} {a : Sl α} {x : α} {k : α → Option (Int ⊕ (Unit ⊕ Bool))} (hx : elt a (i : Int) = some x) (h : Steps (k x) i p) : Steps ((elt a (i : Int)).bind k) i p := by
  rw [hx]; exact h
theorem says_loop {α : Type} {R : α → α → Prop} {a b : Sl α} {q : Prop} {K : Option Bool} {bd : Int → Option (Int ⊕ (Unit ⊕ Bool))} (hl : (a.l.length : Int) = (b.l.length : Int)) (hn : a.l.length ≤ maxLen)
    (h1 : ∀ (i : Nat) x y, x ∈ a.l → y ∈ b.l → elt a (i : Int) = some x → elt b (i : Int) = some y → ∃ p, (p ↔ R x y) ∧ Steps (bd i) i p) (hK : K = tell q) :
    ((loopO (S := Int) (R := Unit ⊕ Bool) (fun st1 => if decide (st1 < (a.l.length : Int)) = true then bd st1 else some (.inr (.inl ()))) 0).bind fun y => Sum.elim (fun _ => K) (fun y => some y) y) = tell (A2 R a.l b.l ∧ q) := by
  have hm : maxLen = 9223372036854775807 := by decide
  rw [hm] at hn
  have := loop_eq (R := R) (a := a) (b := b) (body := fun st1 => if decide (st1 < (a.l.length : Int)) = true then bd st1 else some (.inr (.inl ()))) (by omega) (fun i x y hx hy => by
    have hi := (List.getElem?_eq_some_iff.1 hx).1
    obtain ⟨p, hp, hs⟩ := h1 i x y (List.mem_of_getElem? hx) (List.mem_of_getElem? hy) (elt_nat hx) (elt_nat hy)
    have hs : (p → bd i = some (.inl (IntKind.i64.wrap ((i : Int) + 1)))) ∧ (¬ p → bd i = some (.inr (.inr false))) := hs
    rw [wrap_id (by omega) (by omega), propext hp] at hs
    show (R x y → (if decide ((i : Int) < (a.l.length : Int)) = true then bd i else some (.inr (.inl ()))) = _) ∧ (¬ R x y → (if decide ((i : Int) < (a.l.length : Int)) = true then bd i else some (.inr (.inl ()))) = _)
    rw [if_pos (by simpa using hi)]
    exact hs) (by simp)
  by_cases hA : A2 R a.l b.l
  · rw [this.1 hA]; show K = _; rw [hK]; congr 1; simp [hA]
  · rw [this.2 hA, tell_f (fun w => hA w.1)]; rfl
theorem says_len {α : Type} {R : α → α → Prop} {a b : Sl α} {o : Option Bool} (h : o = tell ((a.l.length : Int) = (b.l.length : Int) ∧ A2 R a.l b.l ∧ True)) : o = tell (A2 R a.l b.l) :=
  says_iff h ⟨fun w => w.2.1, fun w => ⟨by rw [A2.len w], w, trivial⟩⟩
end Go.Am
end
section
set_option linter.unusedVariables false
set_option linter.unusedSimpArgs false
namespace Go.Am
section
variable {P : Program} {t : TypeId} {d : Nat} {ts : List T}
theorem shp_struct (kt : kindT P t = 7) (h : Shp P d t ts) : ∃ d', ShpF P (Shp P d') ((fieldsT P t).map (·.type)) ts := by
  cases d with
  | zero => exact h.elim
  | succ d =>
    rcases h with h | h | h | h | h
    · rw [kt] at h; exact absurd h.1 (by decide)
    · simp [isIntT, kt] at h
    · rw [kt] at h; exact absurd h.1 (by decide)
    · rw [kt] at h; exact absurd h.1 (by decide)
    · exact ⟨d, h.2⟩
theorem shp_str (kt : kindT P t = 3) (h : Shp P d t ts) : ∃ s : ByteArray, ts = [.str s] ∧ s.size ≤ maxLen := by
  cases d with
  | zero => exact h.elim
  | succ d =>
    rcases h with h | h | h | h | h
    · rw [kt] at h; exact absurd h.1 (by decide)
    · simp [isIntT, kt] at h
    · exact h.2
    · rw [kt] at h; exact absurd h.1 (by decide)
    · rw [kt] at h; exact absurd h.1 (by decide)
theorem shp_int {k : IntKind} (hu : P.underlying t = some (.int k)) (kt : kindT P t = 2) (h : Shp P d t ts) : ∃ n : Int, ts = [.int k n] := by
  cases d with
  | zero => exact h.elim
  | succ d =>
    rcases h with h | h | h | h | h
    · rw [kt] at h; exact absurd h.1 (by decide)
    · obtain ⟨_, k', n, h1, h2, _⟩ := h
      rw [hu] at h1
      injection h1 with h1; injection h1 with h1; subst h1
      exact ⟨n, h2⟩
    · rw [kt] at h; exact absurd h.1 (by decide)
    · rw [kt] at h; exact absurd h.1 (by decide)
    · rw [kt] at h; exact absurd h.1 (by decide)
theorem decAll {α : Type} [Enc α] {B : α → Prop} : ∀ (els : List (List T)), (∀ el ∈ els, ∃ x : α, el = Enc.cells x ∧ B x) → ∃ l : List α, els.flatten = cellsL l ∧ l.length = els.length ∧ ∀ x ∈ l, B x
  | [], _ => ⟨[], rfl, rfl, fun _ h => absurd h (by simp)⟩
  | el :: els, h => by
    obtain ⟨x, rfl, hx⟩ := h el (by simp)
    obtain ⟨l, h1, h2, h3⟩ := decAll els (fun e he => h e (by simp [he]))
    refine ⟨x :: l, by simp [cellsL, h1], by simp [h2], fun y hy => ?_⟩
    rcases List.mem_cons.1 hy with rfl | hy
    · exact hx
    · exact h3 y hy
theorem shp_sl {α : Type} [Enc α] {B : α → Prop} {e : TypeId} (kt : kindT P t = 4) (he : elemOfSl P t = some e) (hd : ∀ d ts, Shp P d e ts → ∃ x : α, ts = Enc.cells x ∧ B x) (h : Shp P d t ts) : ∃ x : Sl α, ts = [Sl.t x] ∧ FitS maxLen B x := by
  cases d with
  | zero => exact h.elim
  | succ d =>
    rcases h with h | h | h | h | h
    · rw [kt] at h; exact absurd h.1 (by decide)
    · simp [isIntT, kt] at h
    · rw [kt] at h; exact absurd h.1 (by decide)
    · obtain ⟨_, e', h1, h2⟩ := h
      rw [he] at h1
      injection h1 with h1; subst h1
      rcases h2 with rfl | ⟨els, rfl, h2, h3⟩
      · exact ⟨⟨true, []⟩, rfl, ⟨by simp, by simp⟩⟩
      · obtain ⟨l, q1, q2, q3⟩ := decAll (B := B) els (fun el hel => hd d el (h3 el hel).2)
        exact ⟨⟨false, l⟩, by simp [Sl.t, q1, q2], ⟨by show l.length ≤ maxLen; omega, q3⟩⟩
    · rw [kt] at h; exact absurd h.1 (by decide)
end
end Go.Am
end
section
set_option linter.unusedVariables false
set_option linter.unusedSimpArgs false
namespace Go.Am
theorem elt_lt {α : Type} {s : Sl α} {i : Nat} (h : i < s.l.length) : elt s (i : Int) = some s.l[i] := elt_nat (List.getElem?_eq_getElem h)
@[simp] theorem set_len {α : Type} {s : Sl α} {i : Int} {x : α} : (setS s i x).l.length = s.l.length := by simp [setS]
theorem wrapB {n : Int} (h0 : 0 ≤ n) (h1 : n ≤ 4611686018427387904) : IntKind.i64.wrap n = n := wrap_id (by omega) (by omega)
noncomputable def says (p : Prop) : Bool := @decide p (Classical.propDecidable p)
theorem says_iff' {p q : Prop} (h : p ↔ q) : says p = says q := by rw [propext h]
theorem says_t {p : Prop} (h : p) : says p = true := by simp [says, h]
theorem says_f {p : Prop} (h : ¬ p) : says p = false := by simp [says, h]
theorem s_and {c p : Prop} [Decidable c] {K : Option Bool} (h : c → K = some (says p)) : (if decide c = true then K else some false) = some (says (c ∧ p)) := by
  by_cases hc : c
  · rw [if_pos (by simp [hc]), h hc]; congr 1; exact says_iff' ⟨fun w => ⟨hc, w⟩, fun w => w.2⟩
  · rw [if_neg (by simp [hc]), says_f fun w => hc w.1]
theorem s_dec {c : Prop} [Decidable c] : some (decide c) = some (says c) := by by_cases h : c <;> simp [says, h]
def MH {α : Type} (B : α → Int → Option (Int × α)) (F : α → Int → Option Int) (N : Nat) (x : α) : Prop :=
  ∀ k : Int, 0 ≤ k → k + N ≤ 4611686018427387904 → ∃ k' x', B x k = some (k', x') ∧ F x' k = some k' ∧ k ≤ k' ∧ k' ≤ k + N
theorem MH.mono {α : Type} {B : α → Int → Option (Int × α)} {F : α → Int → Option Int} {N M : Nat} {x : α} (h : MH B F N x) (hm : N ≤ M) : MH B F M x := fun k h0 h1 => by
  obtain ⟨k', x', q1, q2, q3, q4⟩ := h k h0 (by omega)
  exact ⟨k', x', q1, q2, q3, by omega⟩
end Go.Am
end
