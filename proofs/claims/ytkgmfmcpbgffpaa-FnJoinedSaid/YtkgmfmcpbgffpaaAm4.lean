/- The abstract machine. -/
import Derived.Test.YtkgmfmcpbgffpaaAm3
section
set_option linter.unusedVariables false
set_option linter.unusedSimpArgs false
namespace Go.Am
open Classical
def get : List (Nat × T) → Nat → Option T
 | [], _ => none
 | (i, v) :: l, j => match Nat.beq i j with
  | true => some v
  | false => get l j
def Sub (L : List (Nat × T)) (s : Nat → T) : Prop := ∀ j v, get L j = some v → s j = v
theorem ia_ {L : List (Nat × T)} {s : Nat → T} {j : Nat} {v : T} (h : Sub L s) (k : s j = v) : Sub ((j, v) :: L) s := fun i u hi => by
 simp only [get] at hi
 split at hi
 ·rename_i e; rw [Nat.eq_of_beq_eq_true e] at k; injection hi with hi; rw [k, hi]
 ·exact h i u hi
theorem rI_ {L : List (Nat × T)} {s : Nat → T} (h : Sub L s) (d : Nat) (v : T) : Sub ((d, v) :: L) (fun j => if j = d then v else s j) := fun i u hi => by
 simp only [get] at hi
 split at hi
 ·rename_i e; rw [Nat.eq_of_beq_eq_true e]; injection hi with hi; simp [hi]
 ·rename_i e
  have hne : i ≠ d := fun x => by subst x; rw [Nat.beq_refl] at e; cases e
  simp only [if_neg hne]; exact h i u hi
theorem get_mem : ∀ {L : List (Nat × T)} {j : Nat} {v : T}, get L j = some v → (j, v) ∈ L
 | [], _, _, h => by cases h
 | (i, u) :: L, j, v, h => by
  simp only [get] at h
  split at h
  ·rename_i e; injection h with h; rw [← Nat.eq_of_beq_eq_true e, h]; simp
  ·exact List.mem_cons_of_mem _ (get_mem h)
theorem ad_ {L L' : List (Nat × T)} {s : Nat → T} (h : Sub L s) (k : (L'.map fun p => get L p.1) = L'.map fun p => some p.2) : Sub L' s := fun j v hj => by
 have hm := get_mem hj
 obtain ⟨n, hn, e⟩ := List.getElem_of_mem hm
 have : (L'.map fun p => get L p.1)[n]? = (L'.map fun p => some p.2)[n]? := by rw [k]
 simp [hn, e] at this
 exact h j v this
def gE (g : Nat → Option T) : Operand → Option T
 | .tmp t => g t
 | .const v => T.ofV' v
 | .func f => some (.fn f [] [])
 | .global _ => none
def gEs (g : Nat → Option T) : List Operand → Option (List T)
 | [] => some []
 | x :: xs => match gE g x with
  | some v => match gEs g xs with
   | some vs => some (v :: vs)
   | none => none
  | none => none
def gPs (g : Nat → Option T) : List (Nat × Operand) → Option (List (Nat × T))
 | [] => some []
 | (i, x) :: xs => match gE g x with
  | some v => match gPs g xs with
   | some vs => some ((i, v) :: vs)
   | none => none
  | none => none
theorem ag_ {g : Nat → Option T} {s : Nat → T} (hg : ∀ j v, g j = some v → s j = v) {x : Operand} {v : T} (h : gE g x = some v) : evalO s x = some v := by
 cases x with
 | tmp t => simp only [evalO]; rw [hg t v h]
 | const u => exact h
 | func f => exact h
 | global u => cases h
theorem co_ {g : Nat → Option T} {s : Nat → T} (hg : ∀ j v, g j = some v → s j = v) : ∀ {xs : List Operand} {vs : List T}, gEs g xs = some vs → bT_ s xs = some vs
 | [], _, h => h
 | x :: xs, vs, h => by
  simp only [gEs] at h
  split at h
  ·rename_i v hv
   split at h
   ·rename_i us hu
    simp only [bT_, ag_ hg hv, co_ hg hu, Option.bind_some, Option.map_some]; exact h
   ·cases h
  ·cases h
theorem f8_ {g : Nat → Option T} {s : Nat → T} (hg : ∀ j v, g j = some v → s j = v) : ∀ {xs : List (Nat × Operand)} {vs : List (Nat × T)}, gPs g xs = some vs → dr_ s xs = some vs
 | [], _, h => h
 | (i, x) :: xs, vs, h => by
  simp only [gPs] at h
  split at h
  ·rename_i v hv
   split at h
   ·rename_i us hu
    simp only [dr_, ag_ hg hv, f8_ hg hu, Option.bind_some, Option.map_some]; exact h
   ·cases h
  ·cases h
def okP (P : Program) (t : TypeId) : Bool := Nat.beq (aD_ P t) 7 && (ck_ P t).all fun f => (szOf P f.type).isSome
def pOp (P : Program) (g : Nat → Option T) : Op → Option T
 | .move x => gE g x
 | .assign x => gE g x
 | .pick c a b => match gE g c with
  | some (.bool true) => gE g a
  | some (.bool false) => gE g b
  | _ => none
 | .build t parts => match aT_ P t with
  | some z => match gPs g parts.toList with
   | some ps => match okP P t with
    | true => (ez_ (fun i => (bJ_ P t i).map fun (o, _, n) => (o, n)) z ps).map .agg
    | false => none
   | none => none
  | none => none
 | .load t a => match gE g a with
  | some (.vw cs) => part P t cs 0
  | _ => none
 | .nilCheck x => match gE g x with
  | some (.ptr b e o m) => some (.ptr b e o m)
  | some (.vw cs) => some (.vw cs)
  | some (.fn f a b) => some (.fn f a b)
  | _ => none
 | .binOp op t x y _ => match gE g x with
  | some x => match gE g y with
   | some y => binA P op t x y
   | none => none
  | none => none
 | .unOp op _ x => match gE g x with
  | some x => unA op x
  | none => none
 | .convert src dst x => match gE g x with
  | some (.int _ n) => match cz_ P src with
   | true => match P.underlying dst with
    | some (.int k) => some (.int k (k.wrap n))
    | _ => none
   | false => none
  | _ => none
 | .makeFunc (.func f) first caps => match gEs g first.toList with
  | some a => match gEs g caps.toList with
   | some b => some (.fn f a b)
   | none => none
  | none => none
 | .fieldAddr t x f => match gE g x with
  | some x => match bJ_ P t f with
   | some (off, _, n) => match x with
    | .ptr b e o m => if n = 0 then none else if off + n ≤ m then some (.ptr b e (o + off) n) else none
    | .vw cs => if n = 0 then none else if off + n ≤ cs.length then some (.vw (cs.drop off)) else none
    | _ => none
   | none => none
  | none => none
 | .field t x f => match gE g x with
  | some (.agg cs) => match bJ_ P t f with
   | some (off, ft, _) => part P ft cs off
   | none => none
  | _ => none
 | .extract x i => match gE g x with
  | some (.tup cs) => cs[i]?
  | _ => none
 | .call c => match c.callee with
  | .builtin .len => match gEs g c.args.toList with
   | some [x] => match c.argTypes.toList with
    | [t] => lenA P ⟨0, fun _ => none⟩ t x
    | _ => none
   | _ => none
  | _ => none
 | _ => none
theorem lZ_ (P : Program) (σ σ' : St) (t : TypeId) (x : T) : lenA P σ t x = lenA P σ' t x := by cases x <;> rfl
theorem iq_ {P : Program} {g : Nat → Option T} {s : Nat → T} (hg : ∀ j v, g j = some v → s j = v) {op : Op} {v : T} (h : pOp P g op = some v) (k : Option Nat) (σ : St) (d : Option Nat) (ty : TypeId) (ps : String) (af : Array Edge) (gd : Option (Nat × Bool)) :
  aOp P k ⟨s, σ⟩ ⟨d, op, ty, ps, af, gd⟩ = some (.val v σ) := by
 unfold pOp at h
 split at h
 ·rw [sF_, ag_ hg h]; rfl
 ·rw [pI_, ag_ hg h]; rfl
 ·rename_i c a b
  split at h
  ·rename_i hc; rw [qS_, ag_ hg hc]; simp [ag_ hg h]
  ·rename_i hc; rw [qS_, ag_ hg hc]; simp [ag_ hg h]
  ·cases h
 ·rename_i t parts
  split at h
  ·rename_i z hz
   split at h
   ·rename_i p hp
    split at h
    ·rename_i hk
     simp only [okP, Bool.and_eq_true] at hk
     rw [rK_, hz, Option.bind_some, f8_ hg hp, Option.bind_some, qF_, if_pos ⟨Nat.eq_of_beq_eq_true hk.1, hk.2⟩, h]; rfl
    ·cases h
   ·cases h
  ·cases h
 ·split at h
  ·rename_i cs hc; rw [i2_, ag_ hg hc, Option.bind_some, m0_, h]; rfl
  ·cases h
 ·split at h
  ·rename_i hc; injection h with h; subst h; rw [hJ_, ag_ hg hc]; rfl
  ·rename_i hc; injection h with h; subst h; rw [hJ_, ag_ hg hc]; rfl
  ·rename_i hc; injection h with h; subst h; rw [hJ_, ag_ hg hc]; rfl
  ·cases h
 ·split at h
  ·rename_i x hx
   split at h
   ·rename_i y hy; rw [iv_, ag_ hg hx, Option.bind_some, ag_ hg hy, Option.bind_some, h]; rfl
   ·cases h
  ·cases h
 ·split at h
  ·rename_i x hx; rw [tu_, ag_ hg hx, Option.bind_some, h]; rfl
  ·cases h
 ·split at h
  ·rename_i hx
   split at h
   ·rename_i hk
    split at h
    ·rename_i k2 hu
     injection h with h; subst h
     rw [kD_, ag_ hg hx, Option.bind_some, oO_, if_pos hk, hu]; rfl
    ·cases h
   ·cases h
  ·cases h
 ·split at h
  ·rename_i a ha
   split at h
   ·rename_i b hb; injection h with h; subst h; rw [ng_, co_ hg ha, Option.bind_some, co_ hg hb]; rfl
   ·cases h
  ·cases h
 ·split at h
  ·rename_i x hx
   split at h
   ·rename_i off ft n hf
    split at h
    ·rename_i b e o m
     rw [i1_, ag_ hg hx, Option.bind_some, hf, Option.bind_some, nd_]
     split at h
     ·cases h
     ·rename_i h0
      split at h
      ·rename_i h1; injection h with h; subst h; rw [if_neg h0, if_pos h1]
      ·cases h
    ·rename_i cs
     rw [i1_, ag_ hg hx, Option.bind_some, hf, Option.bind_some, oP_]
     split at h
     ·cases h
     ·rename_i h0
      split at h
      ·rename_i h1; injection h with h; subst h; rw [if_neg h0, if_pos h1]
      ·cases h
    ·cases h
   ·cases h
  ·cases h
 ·split at h
  ·rename_i cs hx
   split at h
   ·rename_i off ft n hf; rw [sg_, ag_ hg hx, Option.bind_some, hf, Option.bind_some, nw_, h]; rfl
   ·cases h
  ·cases h
 ·split at h
  ·rename_i cs hx; rw [nR_, ag_ hg hx, Option.bind_some, jX_, h]; rfl
  ·cases h
 ·rename_i c
  split at h
  ·rename_i hc
   split at h
   ·rename_i x hx
    split at h
    ·rename_i t ht
     obtain ⟨callee, args, ts⟩ := c
     simp only at hc hx ht
     subst hc
     rw [rt_, co_ hg hx, Option.bind_some, ht, lJ_, lZ_ P σ ⟨0, fun _ => none⟩, h]; rfl
    ·cases h
   ·cases h
  ·cases h
 ·cases h
def want (ops : Array Oper) (L : List (Nat × T)) (g : Option (Nat × Bool)) : Option Bool :=
 match g with
 | none => some true
 | some (j, w) => match ops[j]? with
  | some o => match o.dst with
   | some d => match get L d with
    | some (.bool b) => some (b == w)
    | some (.tup _) => some false
    | _ => none
   | none => none
  | none => none
theorem aF_ {ops : Array Oper} {L : List (Nat × T)} {s : Nat → T} (hS : Sub L s) {o : Oper} {b : Bool} (h : want ops L o.guard = some b) : wantedA ops o s = b := by
 unfold want at h
 unfold wantedA
 split at h
 ·rename_i e; injection h with h; subst h; simp [e]
 ·rename_i j w e
  split at h
  ·rename_i o2 ho
   split at h
   ·rename_i d hd
    split at h
    ·rename_i b2 hb
     injection h with h; subst h
     simp only [e, ho, Option.bind_some, hd, hS _ _ hb]
    ·rename_i b2 hb
     injection h with h; subst h
     simp only [e, ho, Option.bind_some, hd, hS _ _ hb]
    ·cases h
   ·cases h
  ·cases h
structure Cmp where
 vw : Nat → Bool
 cm : Nat → Bool
 ck : Nat → Nat → Bool
 wk : Nat → Nat → Bool
inductive Mo where
 | q
 | d (b i : Nat)
 | c (b i : Nat) (W : Nat → Nat → Prop) (σs : St) (cm : Cmp)
def Wc : List (Nat × (Nat → Prop)) → Nat → Nat → Prop
 | [], _, _ => False
 | (k, R) :: l, c, x => bif Nat.beq k c then ¬ R x else Wc l c x
theorem Wc.nil {ck : Nat → Bool} {x : Nat} : ∀ c, ck c = false → ¬ Wc [] c x := fun _ _ h => h
theorem Wc.cons {ck : Nat → Bool} {x k : Nat} {R : Nat → Prop} {l : List (Nat × (Nat → Prop))} (h : ck k = true ∨ R x) (t : ∀ c, ck c = false → ¬ Wc l c x) : ∀ c, ck c = false → ¬ Wc ((k, R) :: l) c x := fun c hc hw => by
 unfold Wc at hw
 cases hk : Nat.beq k c with
 | true =>
  rw [hk] at hw
  have := Nat.eq_of_beq_eq_true hk
  subst this
  rcases h with h | h
  ·rw [h] at hc; cases hc
  ·exact hw h
 | false => rw [hk] at hw; exact t c hc hw
def BT (t : T) (x : Nat) : Prop := ∃ e o n, t = .ref x e o n
def RN : Nat → Prop := fun _ => False
def RB (b : Nat) (R : Nat → Prop) : Nat → Prop := fun x => x = b ∨ R x
def RT (t : T) (R : Nat → Prop) : Nat → Prop := fun x => BT t x ∨ R x
def e0_ (b : Nat) (W : Nat → Nat → Prop) (σs σ : St) : Prop := b ≤ σ.next ∧ ∀ x, x < b → (∀ c, ¬ W c x) → σ.blk x = σs.blk x
def Room (b i m : Nat) (σ : St) : Prop := b + i + m ≤ σ.next ∧ ∀ j, j < m → σ.blk (b + i + j) = none
theorem Room.nxt {b i m : Nat} {σ : St} (h : Room b i (m + 1) σ) : Room b (i + 1) m σ := ⟨by have := h.1; omega, fun j hj => by rw [show b + (i + 1) + j = b + i + (j + 1) by omega]; exact h.2 (j + 1) (by omega)⟩
def Mo.al : Mo → St → St → Prop
 | .c b i W σs cm, σ, σ' => (cm.cm i = true → σ' = σ) ∧ (∀ x, x < b → (∀ c, cm.ck c i = false → ¬ W c x) → σ'.blk x = σ.blk x) ∧ e0_ b W σs σ' ∧ e0_ b W σs σ
 | _, σ, σ' => σ' = σ
def Mo.lt : Mo → Nat → Prop
 | .c b i W _ cm, x => cm.cm i = true ∨ (x < b ∧ ∀ c, cm.ck c i = false → ¬ W c x)
 | _, _ => True
def Mo.wr : Mo → Nat → Prop
 | .c b i W _ cm, x => b ≤ x ∨ ∃ c, cm.wk c i = true ∧ W c x
 | _, _ => True
def Mo.nw : Mo → Nat → Prop
 | .c b _ _ _ _, x => b ≤ x
 | _, _ => True
def Mo.base : Mo → St → Prop
 | .c b _ _ _ _, σ0 => σ0.next ≤ b
 | _, _ => True
def Mo.seq : Mo → Bool
 | .c _ i _ _ cm => cm.cm i
 | _ => true
def Mo.chg : Mo → Bool
 | .d .. => false
 | .c _ i _ _ cm => !cm.vw i
 | .q => true
def Mo.vw : Mo → Bool
 | .c _ i _ _ cm => cm.vw i
 | _ => false
theorem Mo.al_blk {m : Mo} {σ σ' : St} {b : Nat} (h : m.al σ σ') (k : m.lt b) : σ'.blk b = σ.blk b := by
 cases m with
 | c b' i W σs cm =>
  rcases k with k | ⟨k1, k⟩
  ·rw [h.1 k]
  ·rw [h.2.1 b k1 k]
 | q => rw [show σ' = σ from h]
 | d b i => rw [show σ' = σ from h]
def isCall : Op → Bool
 | .call c => match c.callee with
  | .builtin _ => false
  | _ => true
 | _ => false
def isChg : Op → Bool
 | .call c => match c.callee with
  | .builtin .append => true
  | .builtin _ => false
  | _ => true
 | .store .. | .alloc .. | .box .. | .buildSlice .. | .makeSlice .. => true
 | _ => false
theorem jy_ {op : Op} (h : isCall op = true) : isChg op = true := by
 cases op with
 | call c => simp only [isCall, isChg] at h ⊢; split at h <;> first | (cases h; done) | (split <;> first | rfl | simp_all)
 | _ => cases h
def dn_ (P : Program) (O : ax_) (ops : Array Oper) (k : Nat) (o : Oper) (s : Nat → T) (σ : St) : Option (T × St) :=
 if wantedA ops o s then
  (aOp P (some k) ⟨s, σ⟩ o).bind fun
   | .val v σ => some (v, σ)
   | .skip σ => some (.tup [], σ)
   | .call f args => O f args σ
 else some (.tup [], σ)
def opsC (P : Program) (O : ax_) (ops : Array Oper) (b : Nat) (W : Nat → Nat → Prop) (σs : St) (cm : Cmp) : Nat → List Oper → (Fr → Prop) → Fr → Prop
 | _, [], K, fr => K fr
 | i, o :: l, K, fr => match (isChg o.op && !cm.vw i) && wantedA ops o fr.s with
  | true => ∃ v σ', dn_ P O ops (b + i) o fr.s fr.σ = some (v, σ') ∧ (∀ x, x < b → (∀ c, cm.wk c i = true → ¬ W c x) → σ'.blk x = fr.σ.blk x) ∧ e0_ b W σs σ' ∧ Room b (i + 1) l.length σ' ∧ opsC P O ops b W σs cm (i + 1) l K (fr.put o.dst v σ')
  | false => ∃ v, (∀ σ', (cm.cm i = true → σ' = fr.σ) → (∀ x, x < b → (∀ c, cm.ck c i = false → ¬ W c x) → σ'.blk x = fr.σ.blk x) → e0_ b W σs σ' → dn_ P O ops (b + i) o fr.s σ' = some (v, σ')) ∧ opsC P O ops b W σs cm (i + 1) l K (fr.put o.dst v fr.σ)
def opsX (P : Program) (O : ax_) (ops : Array Oper) : Mo → List Oper → (Fr → Prop) → Fr → Prop
 | .q, l, K, fr => opsQ P O ops l K fr
 | .d b i, l, K, fr => opsD P O ops b i l K fr
 | .c b i W σs cm, l, K, fr => e0_ b W σs fr.σ → Room b i l.length fr.σ → opsC P O ops b W σs cm i l K fr
def nxM : Mo → Mo
 | .q => .q
 | .d b i => .d b (i + 1)
 | .c b i W σs cm => .c b (i + 1) W σs cm
section
variable {P : Program} {O : ax_} {ops : Array Oper} {m : Mo} {l : List Oper} {K : Fr → Prop} {s : Nat → T} {σ σ0 : St} {L : List (Nat × T)} {es : List Ent}
variable {d : Option Nat} {ty : TypeId} {ps : String} {af : Array Edge} {g : Option (Nat × Bool)}
theorem vF_ (k : K ⟨s, σ⟩) : opsX P O ops m [] K ⟨s, σ⟩ := by
 cases m with
 | q => exact k
 | d b i => exact k
 | c b i W σs cm => exact fun _ _ => k
theorem s1_ {o : Oper} {v : T} (hw : wantedA ops o s = true) (h : ∀ k σ', m.al σ σ' → aOp P k ⟨s, σ'⟩ o = some (.val v σ')) (kk : opsX P O ops (nxM m) l K (Fr.put ⟨s, σ⟩ o.dst v σ)) : opsX P O ops m (o :: l) K ⟨s, σ⟩ := by
 cases m with
 | q => show opQ P O ops none o (opsQ P O ops l K) ⟨s, σ⟩; unfold opQ; simp only [hw, cond_true, h none σ rfl]; exact kk
 | d b i => show opD P O ops (b + i) o (opsD P O ops b (i + 1) l K) ⟨s, σ⟩; unfold opD; simp only [hw, cond_true, h (some (b + i)) σ rfl]; exact ⟨rfl, kk⟩
 | c b i W σs cm =>
  intro hA hR
  have hp : (Fr.put ⟨s, σ⟩ o.dst v σ).σ = σ := by cases o.dst <;> rfl
  have kk := kk (by rw [hp]; exact hA) (by rw [hp]; exact hR.nxt)
  have hs : ∀ σ', (cm.cm i = true → σ' = σ) → (∀ x, x < b → (∀ c, cm.ck c i = false → ¬ W c x) → σ'.blk x = σ.blk x) → e0_ b W σs σ' → dn_ P O ops (b + i) o s σ' = some (v, σ') := fun σ' h'' h3 h' => by simp only [dn_, hw, if_true, h (some (b + i)) σ' ⟨h'', h3, h', hA⟩, Option.bind_some]
  unfold opsC
  cases hc : (isChg o.op && !cm.vw i) && wantedA ops o s with
  | true => exact ⟨v, σ, hs σ (fun _ => rfl) (fun _ _ _ => rfl) hA, fun _ _ _ => rfl, hA, hR.nxt, kk⟩
  | false => exact ⟨v, hs, kk⟩
theorem vD_ {o : Oper} (hw : wantedA ops o s = false) (kk : opsX P O ops (nxM m) l K (Fr.put ⟨s, σ⟩ o.dst (.tup []) σ)) : opsX P O ops m (o :: l) K ⟨s, σ⟩ := by
 cases m with
 | q => show opQ P O ops none o (opsQ P O ops l K) ⟨s, σ⟩; unfold opQ; simp only [hw, cond_false]; exact kk
 | d b i => show opD P O ops (b + i) o (opsD P O ops b (i + 1) l K) ⟨s, σ⟩; unfold opD; simp only [hw, cond_false]; exact kk
 | c b i W σs cm =>
  intro hA hR
  have hp : (Fr.put ⟨s, σ⟩ o.dst (.tup []) σ).σ = σ := by cases o.dst <;> rfl
  have kk := kk (by rw [hp]; exact hA) (by rw [hp]; exact hR.nxt)
  unfold opsC
  simp only [hw, Bool.and_false]
  exact ⟨.tup [], fun σ' _ _ _ => by simp [dn_, hw], kk⟩
theorem jU_ {o : Oper} {f : Nat} {args : List T} {r : T} {σ' : St} (hm : m.chg = true) (hcl : isCall o.op = true) (hw : wantedA ops o s = true) (h : ∀ k σ, aOp P k ⟨s, σ⟩ o = some (.call f args)) (hc : O f args σ = some (r, σ')) (hn : σ.next ≤ σ'.next) (ho : ∀ x, x < σ.next → σ'.blk x = σ.blk x)
  (kk : opsX P O ops (nxM m) l K (Fr.put ⟨s, σ⟩ o.dst r σ')) : opsX P O ops m (o :: l) K ⟨s, σ⟩ := by
 cases m with
 | q => show opQ P O ops none o (opsQ P O ops l K) ⟨s, σ⟩; unfold opQ; simp only [hw, cond_true, h]; exact ⟨r, σ', hc, kk⟩
 | d b i => cases hm
 | c b i W σs cm =>
  intro hA hR
  have hA' : e0_ b W σs σ' := ⟨Nat.le_trans hA.1 hn, fun x hx hx' => by rw [ho x (Nat.lt_of_lt_of_le hx hA.1), hA.2 x hx hx']⟩
  have hR' : Room b (i + 1) l.length σ' := ⟨Nat.le_trans hR.nxt.1 hn, fun j hj => by rw [ho (b + (i + 1) + j) (by have : b + (i + 1) + l.length ≤ σ.next := hR.nxt.1; omega)]; exact hR.nxt.2 j hj⟩
  have hp : (Fr.put ⟨s, σ⟩ o.dst r σ').σ = σ' := by cases o.dst <;> rfl
  have kk := kk (by rw [hp]; exact hA') (by rw [hp]; exact hR')
  have hs : dn_ P O ops (b + i) o s σ = some (r, σ') := by simp only [dn_, hw, if_true, h, Option.bind_some, hc]
  have hm' : (!cm.vw i) = true := hm
  unfold opsC
  simp only [jy_ hcl, hm', hw, Bool.and_self]
  exact ⟨r, σ', hs, fun x hx _ => ho x (Nat.lt_of_lt_of_le hx hA.1), hA', hR', kk⟩
theorem tr_ {o : Oper} {f : Nat} {args : List T} {r : T} (hcl : isCall o.op = true) (hw : wantedA ops o s = true) (h : ∀ k σ, aOp P k ⟨s, σ⟩ o = some (.call f args)) (hc : O f args σ = some (r, σ)) (hv : m.vw = true → ∀ σ, O f args σ = some (r, σ)) (kk : opsX P O ops (nxM m) l K (Fr.put ⟨s, σ⟩ o.dst r σ)) : opsX P O ops m (o :: l) K ⟨s, σ⟩ := by
 cases m with
 | d b i => show opD P O ops (b + i) o (opsD P O ops b (i + 1) l K) ⟨s, σ⟩; unfold opD; simp only [hw, cond_true, h]; exact ⟨r, hc, kk⟩
 | q => exact jU_ rfl hcl hw h hc (Nat.le_refl _) (fun _ _ => rfl) kk
 | c b i W σs cm =>
  cases hvi : cm.vw i with
  | false => exact jU_ (by show (!cm.vw i) = true; rw [hvi]; rfl) hcl hw h hc (Nat.le_refl _) (fun _ _ => rfl) kk
  | true =>
   intro hA hR
   have hp : (Fr.put ⟨s, σ⟩ o.dst r σ).σ = σ := by cases o.dst <;> rfl
   have kk := kk (by rw [hp]; exact hA) (by rw [hp]; exact hR.nxt)
   unfold opsC
   simp only [hvi, Bool.not_true, Bool.and_false, Bool.false_and]
   exact ⟨r, fun σ' _ _ _ => by simp only [dn_, hw, if_true, h, Option.bind_some, hv hvi σ'], kk⟩
def Mo.inb : Mo → Option Nat → Prop
 | .c b _ _ _ _, k => ∃ i, k = some i ∧ b ≤ i
 | _, k => k = none
def Cg (m : Mo) (k : Option Nat) (σ σ' : St) : Prop := σ.next ≤ σ'.next ∧ ∀ x, x < σ.next → k ≠ some x → σ'.blk x = σ.blk x ∨ (m.wr x ∧ (σ.blk x).isSome = true)
theorem Cg.c {b i : Nat} {W : Nat → Nat → Prop} {σs σ σ' : St} {cm : Cmp} {n : Nat} (h : Cg (.c b i W σs cm) (some (b + i)) σ σ') (hA : e0_ b W σs σ) (hR : Room b i (n + 1) σ) : (∀ x, x < b → (∀ c, cm.wk c i = true → ¬ W c x) → σ'.blk x = σ.blk x) ∧ e0_ b W σs σ' ∧ Room b (i + 1) n σ' := by
 have key : ∀ x, x < b → (∀ c, cm.wk c i = true → ¬ W c x) → σ'.blk x = σ.blk x := fun x hx hw => by
  rcases h.2 x (Nat.lt_of_lt_of_le hx hA.1) (fun e => by injection e with e; omega) with e | ⟨e | ⟨c, e1, e2⟩, _⟩
  ·exact e
  ·omega
  ·exact absurd e2 (hw c e1)
 refine ⟨key, ⟨Nat.le_trans hA.1 h.1, fun x hx hx' => ?_⟩, ⟨Nat.le_trans hR.nxt.1 h.1, fun j hj => ?_⟩⟩
 ·rw [key x hx fun c _ => hx' c, hA.2 x hx hx']
 ·have hn := hR.nxt.2 j hj
  rcases h.2 (b + (i + 1) + j) (by have := hR.nxt.1; omega) (fun e => by injection e with e; omega) with e | ⟨_, e⟩
  ·rw [e, hn]
  ·rw [hn] at e; cases e
theorem hL_ {o : Oper} (hm : m.chg = true) (hcl : isChg o.op = true) (hw : wantedA ops o s = true) (h : ∀ k, σ.okK k = true → m.inb k → ∃ v σ', aOp P k ⟨s, σ⟩ o = some (.val v σ') ∧ Cg m k σ σ' ∧ opsX P O ops (nxM m) l K (Fr.put ⟨s, σ⟩ o.dst v σ')) : opsX P O ops m (o :: l) K ⟨s, σ⟩ := by
 cases m with
 | q =>
  obtain ⟨v, σ', h1, _, h2⟩ := h none rfl rfl
  show opQ P O ops none o (opsQ P O ops l K) ⟨s, σ⟩; unfold opQ; simp only [hw, cond_true, h1]; exact h2
 | d b i => cases hm
 | c b i W σs cm =>
  intro hA hR
  have hok : σ.okK (some (b + i)) = true := by
   have h1 := hR.1; have h2 := hR.2 0 (by simp)
   simp only [St.okK, Bool.and_eq_true, decide_eq_true_eq, Option.isNone_iff_eq_none]
   simp only [List.length_cons] at h1
   exact ⟨by simpa using h2, by omega⟩
  obtain ⟨v, σ', h1, h2, kk⟩ := h _ hok ⟨_, rfl, by omega⟩
  obtain ⟨hW', hA', hR'⟩ := h2.c hA hR
  have hp : (Fr.put ⟨s, σ⟩ o.dst v σ').σ = σ' := by cases o.dst <;> rfl
  have kk := kk (by rw [hp]; exact hA') (by rw [hp]; exact hR')
  have hs : dn_ P O ops (b + i) o s σ = some (v, σ') := by simp only [dn_, hw, if_true, h1, Option.bind_some]
  have hm' : (!cm.vw i) = true := hm
  unfold opsC
  simp only [hcl, hm', hw, Bool.and_self]
  exact ⟨v, σ', hs, hW', hA', hR', kk⟩
theorem pw_ {o : Oper} {σ' : St} (hm : m.chg = true) (hcl : isChg o.op = true) (hw : wantedA ops o s = true) (h : ∀ k, aOp P k ⟨s, σ⟩ o = some (.skip σ')) (hg : ∀ k, Cg m k σ σ') (kk : opsX P O ops (nxM m) l K (Fr.put ⟨s, σ⟩ o.dst (.tup []) σ')) : opsX P O ops m (o :: l) K ⟨s, σ⟩ := by
 cases m with
 | q => show opQ P O ops none o (opsQ P O ops l K) ⟨s, σ⟩; unfold opQ; simp only [hw, cond_true, h]; exact kk
 | d b i => cases hm
 | c b i W σs cm =>
  intro hA hR
  obtain ⟨hW', hA', hR'⟩ := (hg (some (b + i))).c hA hR
  have hp : (Fr.put ⟨s, σ⟩ o.dst (.tup []) σ').σ = σ' := by cases o.dst <;> rfl
  have kk := kk (by rw [hp]; exact hA') (by rw [hp]; exact hR')
  have hs : dn_ P O ops (b + i) o s σ = some (.tup [], σ') := by simp only [dn_, hw, if_true, h, Option.bind_some]
  have hm' : (!cm.vw i) = true := hm
  unfold opsC
  simp only [hcl, hm', hw, Bool.and_self]
  exact ⟨_, σ', hs, hW', hA', hR', kk⟩
def putL (L : List (Nat × T)) (d : Option Nat) (v : T) : List (Nat × T) := match d with
 | some d => (d, v) :: L
 | none => L
theorem aS_ (hS : Sub L s) (d : Option Nat) (v : T) (σ : St) : Sub (putL L d v) (Fr.put ⟨s, σ⟩ d v σ).s := by
 cases d with
 | none => exact hS
 | some d => exact rI_ hS d v
theorem cb_ (d : Option Nat) (v : T) (σ σ' : St) : Fr.put ⟨s, σ⟩ d v σ' = ⟨(Fr.put ⟨s, σ⟩ d v σ).s, σ'⟩ := by cases d <;> rfl
def seg (P : Program) (ops : Array Oper) : Nat → List Oper → List (Nat × T) → Option (List (Nat × T))
 | 0, _, L => some L
 | _ + 1, [], _ => none
 | n + 1, o :: l, L => match want ops L o.guard with
  | some true => match pOp P (get L) o.op with
   | some v => seg P ops n l (putL L o.dst v)
   | none => none
  | some false => seg P ops n l (putL L o.dst (.tup []))
  | none => none
def nxN : Nat → Mo → Mo
 | 0, m => m
 | n + 1, m => nxN n (nxM m)
theorem seg_sound : ∀ {n : Nat} {l : List Oper} {L M : List (Nat × T)} {s : Nat → T} {m : Mo}, seg P ops n l L = some M → Sub L s → (∀ s', Sub M s' → opsX P O ops (nxN n m) (l.drop n) K ⟨s', σ⟩) → opsX P O ops m l K ⟨s, σ⟩
 | 0, l, L, M, s, m, h, hS, k => by injection h with h; subst h; exact k s hS
 | n + 1, [], L, M, s, m, h, hS, k => by cases h
 | n + 1, o :: l, L, M, s, m, h, hS, k => by
  simp only [seg] at h
  split at h
  ·rename_i hw
   split at h
   ·rename_i v hv
    refine s1_ (aF_ hS hw) (fun kk σ' _ => iq_ hS hv kk σ' _ _ _ _ _) ?_
    rw [cb_]
    exact seg_sound h (aS_ hS o.dst v σ) k
   ·cases h
  ·rename_i hw
   refine vD_ (aF_ hS hw) ?_
   rw [cb_]
   exact seg_sound h (aS_ hS o.dst _ σ) k
  ·cases h
theorem vn_ (n : Nat) (L' : List (Nat × T)) (hS : Sub L s) (h : ((seg P ops n l L).map fun M => L'.map fun p => get M p.1) = some (L'.map fun p => some p.2))
  (k : ∀ s', Sub L' s' → opsX P O ops (nxN n m) (l.drop n) K ⟨s', σ⟩) : opsX P O ops m l K ⟨s, σ⟩ := by
 obtain ⟨M, h1, h2⟩ := Option.map_eq_some_iff.1 h
 exact seg_sound h1 hS fun s' hM => k s' (ad_ hM h2)
theorem dX_ {op : Op} {v : T} (hw : want ops L g = some true) (hS : Sub L s) (h : ∀ k σ', m.al σ σ' → aOp P k ⟨s, σ'⟩ ⟨d, op, ty, ps, af, g⟩ = some (.val v σ'))
  (k : ∀ s', Sub (putL L d v) s' → opsX P O ops (nxM m) l K ⟨s', σ⟩) : opsX P O ops m (⟨d, op, ty, ps, af, g⟩ :: l) K ⟨s, σ⟩ :=
 s1_ (aF_ hS hw) h (by rw [cb_]; exact k _ (aS_ hS d v σ))
theorem jR_ {fo : Operand} {args : Array Operand} {ts : Array TypeId} {f : Nat} {a b as : List T} {r : T} (hw : want ops L g = some true) (hS : Sub L s) (hf : gE (get L) fo = some (.fn f a b)) (ha : gEs (get L) args.toList = some as)
  (hr : O f (a ++ as ++ b) σ = some (r, σ)) (hv : m.vw = true → ∀ σ, O f (a ++ as ++ b) σ = some (r, σ)) (k : ∀ s', Sub (putL L d r) s' → opsX P O ops (nxM m) l K ⟨s', σ⟩) : opsX P O ops m (⟨d, .call ⟨.value fo, args, ts⟩, ty, ps, af, g⟩ :: l) K ⟨s, σ⟩ :=
 tr_ rfl (aF_ hS hw) (fun kk σ' => by rw [hO_, co_ hS ha, Option.bind_some, ag_ hS hf]; rfl) hr hv (by rw [cb_]; exact k _ (aS_ hS d r σ))
theorem vL_ {x i : Operand} {t e : TypeId} {z : Bool} {n : Nat} {cs : List T} {kk : IntKind} {j : Int} {sz : Nat} (c rest : List T) (hw : want ops L g = some true) (hS : Sub L s) (hx : gE (get L) x = some (.row z n cs)) (hi : gE (get L) i = some (.int kk j))
  (he : ao_ P t = some e) (hz : szOf P e = some sz) (hj : 0 ≤ j ∧ j < n) (hl : cs.length = n * sz) (hd : cs.drop (j.toNat * sz) = c ++ rest)
  (k : ∀ s', Sub (putL L d (.vw (c ++ rest))) s' → opsX P O ops (nxM m) l K ⟨s', σ⟩) : opsX P O ops m (⟨d, .indexAddr t x i, ty, ps, af, g⟩ :: l) K ⟨s, σ⟩ :=
 dX_ hw hS (fun kk σ' _ => by rw [gQ_, ag_ hS hx, Option.bind_some, ag_ hS hi, Option.bind_some, tC_, he, Option.bind_some, hz, Option.bind_some, if_pos ⟨hj.1, hj.2, hl⟩, hd]; rfl) k
def bAt (s : ByteArray) (j : Int) : Int := if h : j.toNat < s.size then ((s[j.toNat]'h).toNat : Int) else 0
theorem tI_ {x i : Operand} {t : TypeId} {w : ByteArray} {kk : IntKind} {j : Int} (hw : want ops L g = some true) (hS : Sub L s) (hx : gE (get L) x = some (.str w)) (hi : gE (get L) i = some (.int kk j))
  (ht : aD_ P t = 3) (hj : 0 ≤ j ∧ j < w.size) (k : ∀ s', Sub (putL L d (.int .u8 (bAt w j))) s' → opsX P O ops (nxM m) l K ⟨s', σ⟩) : opsX P O ops m (⟨d, .index t x i, ty, ps, af, g⟩ :: l) K ⟨s, σ⟩ :=
 dX_ hw hS (fun kk σ' _ => by rw [r9_, ag_ hS hx, Option.bind_some, ag_ hS hi, Option.bind_some, ny_ P ht, dif_pos ⟨hj.1, by omega⟩]; simp only [Option.map_some, bAt]; rw [dif_pos (by omega)]) k
theorem u9_ {x y : Operand} {t u : TypeId} {a b : ByteArray} (hw : want ops L g = some true) (hS : Sub L s) (hx : gE (get L) x = some (.str a)) (hy : gE (get L) y = some (.str b)) (hb : a.size + b.size ≤ 9223372036854775807)
  (k : ∀ s', Sub (putL L d (.str (a ++ b))) s' → opsX P O ops (nxM m) l K ⟨s', σ⟩) : opsX P O ops m (⟨d, .binOp .add t x y u, ty, ps, af, g⟩ :: l) K ⟨s, σ⟩ :=
 dX_ hw hS (fun kk σ' _ => by rw [iv_, ag_ hS hx, Option.bind_some, ag_ hS hy, Option.bind_some, p3_, to_, if_pos hb]; rfl) k
theorem nM_ {o : Oper} {v : T} {σ' : St} (hw : wantedA ops o s = true) (h : aOp P none ⟨s, σ⟩ o = some (.val v σ')) (kk : opsX P O ops .q l K (Fr.put ⟨s, σ⟩ o.dst v σ')) : opsX P O ops .q (o :: l) K ⟨s, σ⟩ := by
 show opQ P O ops none o (opsQ P O ops l K) ⟨s, σ⟩
 unfold opQ; simp only [hw, cond_true, h]; exact kk
theorem Cg.push {m : Mo} {k : Option Nat} {σ : St} {B : Blk} (hk : σ.okK k = true) : Cg m k σ (σ.pushK k B) := ⟨ec_, fun x hx hn => by
 refine .inl ?_
 rw [bu_, if_neg]
 rintro rfl
 cases k with
 | none => simp [St.nid] at hx
 | some i => exact hn rfl⟩
theorem Mo.inb_base {m : Mo} {k : Option Nat} {σ0 : St} (h : m.inb k) (hb : m.base σ0) : ∀ i, k = some i → σ0.next ≤ i := fun i e => by
 cases m with
 | c b i' W σs cm => obtain ⟨j, rfl, h2⟩ := h; injection e with e; subst e; exact Nat.le_trans hb h2
 | _ => subst e; cases h
theorem Mo.inb_wr {m : Mo} {k : Option Nat} {σ : St} (h : m.inb k) : m.nw (σ.nid k) := by
 cases m with
 | c b i' W σs cm => obtain ⟨j, rfl, h2⟩ := h; exact h2
 | _ => trivial
theorem sP_ (hm : m.chg = true) (hb : m.base σ0) {x : Operand} {t : TypeId} {v : T} {cs : List T} (hw : want ops L g = some true) (hS : Sub L s) (hH : Heap σ0 σ es) (hx : gE (get L) x = some v) (hcs : v.cells = cs) (h1 : cs.all T.one = true)
  (k : ∀ b σ' s', m.nw b → Heap σ0 σ' (.box b cs :: es) → Sub (putL L d (.ptr b 0 0 cs.length)) s' → opsX P O ops (nxM m) l K ⟨s', σ'⟩) : opsX P O ops m (⟨d, .box t x, ty, ps, af, g⟩ :: l) K ⟨s, σ⟩ := by
 subst hcs
 refine hL_ hm rfl (aF_ hS hw) fun kk hk hi => ⟨T.ptr (σ.nid kk) 0 0 v.cells.length, σ.pushK kk (aH_ v.cells v.cells.length), ?_, Cg.push hk, ?_⟩
 ·show ((evalO s x).bind fun x => if x.cells.all T.one = true ∧ σ.okK kk = true then some (ARes.val (T.ptr (σ.nid kk) 0 0 x.cells.length) (σ.pushK kk (aH_ x.cells x.cells.length))) else none) = _
  rw [ag_ hS hx, Option.bind_some, if_pos ⟨h1, hk⟩]
 ·rw [cb_]; exact k _ _ _ (Mo.inb_wr hi) (hH.boxK hk (Mo.inb_base hi hb) _ _) (aS_ hS d _ σ)
theorem ml_ (hm : m.chg = true) (hb : m.base σ0) {t : TypeId} {z : List T} (hw : want ops L g = some true) (hS : Sub L s) (hH : Heap σ0 σ es) (hz : aT_ P t = some z)
  (k : ∀ b σ' s', m.nw b → Heap σ0 σ' (.box b z :: es) → Sub (putL L d (.ptr b 0 0 z.length)) s' → opsX P O ops (nxM m) l K ⟨s', σ'⟩) : opsX P O ops m (⟨d, .alloc t, ty, ps, af, g⟩ :: l) K ⟨s, σ⟩ := by
 refine hL_ hm rfl (aF_ hS hw) fun kk hk hi => ⟨T.ptr (σ.nid kk) 0 0 z.length, σ.pushK kk (aH_ z z.length), ?_, Cg.push hk, ?_⟩
 ·show ((aT_ P t).bind fun z => if σ.okK kk = true then some (ARes.val (T.ptr (σ.nid kk) 0 0 z.length) (σ.pushK kk (aH_ z z.length))) else none) = _
  rw [hz, Option.bind_some, if_pos hk]
 ·rw [cb_]; exact k _ _ _ (Mo.inb_wr hi) (hH.boxK hk (Mo.inb_base hi hb) _ _) (aS_ hS d _ σ)
theorem ta_ {x : Operand} {t : TypeId} {v : T} {cs : List T} (hw : want ops L g = some true) (hS : Sub L s) (hH : Heap σ0 σ es) (hx : gE (get L) x = some v) (hcs : v.cells = cs) (h1 : cs.all T.one = true)
  (k : ∀ b σ' s', Heap σ0 σ' (.box b cs :: es) → Sub (putL L d (.ptr b 0 0 cs.length)) s' → opsX P O ops .q l K ⟨s', σ'⟩) : opsX P O ops .q (⟨d, .box t x, ty, ps, af, g⟩ :: l) K ⟨s, σ⟩ :=
 sP_ (m := .q) rfl trivial hw hS hH hx hcs h1 fun b σ' s' _ => k b σ' s'
theorem q6_ {t : TypeId} {z : List T} (hw : want ops L g = some true) (hS : Sub L s) (hH : Heap σ0 σ es) (hz : aT_ P t = some z)
  (k : ∀ b σ' s', Heap σ0 σ' (.box b z :: es) → Sub (putL L d (.ptr b 0 0 z.length)) s' → opsX P O ops .q l K ⟨s', σ'⟩) : opsX P O ops .q (⟨d, .alloc t, ty, ps, af, g⟩ :: l) K ⟨s, σ⟩ :=
 ml_ (m := .q) rfl trivial hw hS hH hz fun b σ' s' _ => k b σ' s'
theorem Heap.at {σ0 σ : St} {es : List Ent} {e : Ent} (h : Heap σ0 σ es) (i : Nat) (he : es[i]? = some e) : Heap σ0 σ (e :: es.eraseIdx i) := by
 have := h.pull i
 unfold r4_ at this
 rw [he] at this; exact this
theorem tT_ {a : Operand} {t : TypeId} {b e off n : Nat} {cells : List T} {v : T} (i : Nat) (hlt : m.lt b) (hw : want ops L g = some true) (hS : Sub L s) (hH : Heap σ0 σ es) (he : es[i]? = some (.box b cells)) (ha : gE (get L) a = some (.ptr b e off n)) (hv : part P t ((cells.drop off).take n) 0 = some v)
  (k : ∀ s', Sub (putL L d v) s' → opsX P O ops (nxM m) l K ⟨s', σ⟩) : opsX P O ops m (⟨d, .load t a, ty, ps, af, g⟩ :: l) K ⟨s, σ⟩ := by
 obtain ⟨B, h1, rfl, h3, h4, h5⟩ := (hH.at i he).look
 exact dX_ hw hS (fun kk σ' ha' => by rw [i2_, ag_ hS ha, Option.bind_some, fg_, Mo.al_blk ha' hlt, h1, Option.bind_some, if_pos (by omega), hv]; rfl) k
def ll_ (P : Program) (t : TypeId) (cells : List T) (off n : Nat) (cs : List T) : Option (List T) :=
 match szOf P t with
 | some sz => if cs.length = sz ∧ sz ≤ n ∧ off + sz ≤ cells.length then some (splice cells off cs) else none
 | none => none
theorem mT_ (hm : m.chg = true) {a x : Operand} {t : TypeId} {b off n : Nat} {cells cells' cs : List T} {v : T} (hwr : m.wr b) (hw : want ops L g = some true) (hS : Sub L s) (hH : Heap σ0 σ (.box b cells :: es)) (ha : gE (get L) a = some (.ptr b 0 off n)) (hx : gE (get L) x = some v) (hcs : v.cells = cs) (h1 : cs.all T.one = true)
  (hc : ll_ P t cells off n cs = some cells')
  (k : ∀ σ' s', Heap σ0 σ' (.box b cells' :: es) → Sub (putL L d (.tup [])) s' → opsX P O ops (nxM m) l K ⟨s', σ'⟩) : opsX P O ops m (⟨d, .store t a x, ty, ps, af, g⟩ :: l) K ⟨s, σ⟩ := by
 obtain ⟨B, k1, rfl, k3, k4, k5⟩ := hH.look
 subst hcs
 unfold ll_ at hc
 split at hc
 ·rename_i sz hz
  split at hc
  ·rename_i hh
   injection hc with hc; subst hc
   refine pw_ (σ' := σ.set b { B with cells := splice B.cells off v.cells, low := B.ep, ver := B.ver + 1 }) hm rfl (aF_ hS hw) (fun kk => ?_) (fun kk => ⟨Nat.le_refl _, fun x hx _ => ?_⟩) ?_
   ·rw [oF_, ag_ hS ha, Option.bind_some, ag_ hS hx, Option.bind_some, jA_, k1, Option.bind_some, hz, Option.bind_some, if_pos ⟨k5, k3.symm, hh.1, hh.2.1, hh.2.2, h1⟩]; rfl
   ·rw [cN_]; split
    ·rename_i e; subst e; exact .inr ⟨hwr, by rw [k1]; rfl⟩
    ·exact .inl rfl
   ·rw [cb_]; exact k _ _ (hH.put rfl k3 k3 k5) (aS_ hS d _ σ)
  ·cases hc
 ·cases hc
end
section
variable {P : Program} {O : ax_} {Q : aA_ → Fr → Prop} {s : Nat → T} {σ σ0 : St} {L : List (Nat × T)} {es : List Ent}
theorem Heap.bump {n : Nat} (h : Heap σ0 σ es) : Heap σ0 (σ.bump n) es :=
 Heap.step (es1 := []) (es2 := []) (es := es) h (by simp) fun S hS _ _ => ⟨[], rfl, by simp, by simp, fun b hb _ => by rw [jQ_, if_pos hb]⟩
theorem uf_ {id : Nat} {ops : Array Oper} (hst : fW_ ops = true) (hH : Heap σ0 σ es) (h : ∀ b σ', Heap σ0 σ' es → opsX P O ops (.d b 0) ops.toList (Q .normal) ⟨s, σ'⟩) : codeQ P O (.region id ops true) Q ⟨s, σ⟩ :=
 nj_ hst (h σ.next (σ.bump ops.size) hH.bump)
theorem mq_ {c : Operand} {a b : Code} {t : Bool} (hS : Sub L s) (hc : gE (get L) c = some (.bool t)) (h1 : t = true → codeQ P O a Q ⟨s, σ⟩) (h2 : t = false → codeQ P O b Q ⟨s, σ⟩) : codeQ P O (.cond c a b) Q ⟨s, σ⟩ := by
 simp only [codeQ, ag_ hS hc]; exact ⟨h1, h2⟩
theorem lc_ {ops : Array Oper} {K K' : Fr → Prop} (hk : ∀ fr, K fr → K' fr) : ∀ {l : List Oper} {fr : Fr}, opsQ P O ops l K fr → opsQ P O ops l K' fr
 | [], fr, h => hk fr h
 | o :: l, fr, h => by
  have key : ∀ fr, opsQ P O ops l K fr → opsQ P O ops l K' fr := fun fr h => lc_ hk h
  simp only [opsQ, opQ] at h ⊢
  cases hw : wantedA ops o fr.s with
  | false => rw [hw] at h; exact key _ h
  | true =>
   rw [hw] at h
   simp only [cond_true] at h ⊢
   unfold resQ at h ⊢
   split at h
   ·exact key _ h
   ·exact key _ h
   ·obtain ⟨r, σ, h1, h2⟩ := h; exact ⟨r, σ, h1, key _ h2⟩
   ·exact h
theorem codeQ_mono : ∀ {c : Code} {Q Q' : aA_ → Fr → Prop} {fr : Fr}, (∀ x fr, Q x fr → Q' x fr) → codeQ P O c Q fr → codeQ P O c Q' fr := by
 intro c
 induction c with
 | skip => intro Q Q' fr hq h; exact hq _ _ h
 | region id ops draw =>
  intro Q Q' fr hq h
  cases draw with
  | false => exact lc_ (fun fr h => hq _ fr h) h
  | true => obtain ⟨fr', h1, h2⟩ := h; exact ⟨fr', h1, hq _ _ h2⟩
 | seq a b iha ihb =>
  intro Q Q' fr hq h
  refine iha (fun x fr h => ?_) h
  cases x with
  | normal => exact ihb hq h
  | exit i => exact hq _ _ h
  | ret => exact hq _ _ h
 | cond c a b iha ihb =>
  intro Q Q' fr hq h
  simp only [codeQ] at h ⊢
  unfold pB_ at h ⊢
  split at h
  ·exact ⟨fun e => iha hq (h.1 e), fun e => ihb hq (h.2 e)⟩
  ·exact h
 | block id c ih =>
  intro Q Q' fr hq h
  refine ih (fun x fr h => ?_) h
  cases x with
  | normal => exact hq _ _ h
  | exit i => exact hq _ _ h
  | ret => exact hq _ _ h
 | loop c ih =>
  intro Q Q' fr hq h
  obtain ⟨x, fr', h1, h2⟩ := h
  exact ⟨x, fr', h1, hq _ _ h2⟩
 | exit id => intro Q Q' fr hq h; exact hq _ _ h
 | ret => intro Q Q' fr hq h; exact hq _ _ h
 | rangeFunc g ps a b iha ihb =>
  intro Q Q' fr hq h
  obtain ⟨x, fr', h1, h2⟩ := h
  exact ⟨x, fr', h1, hq _ _ h2⟩
 | _ => intro Q Q' fr hq h; exact h.elim
end
section
variable {S R : Type}
def iter (body : S → Option (S ⊕ R)) : Nat → S → Option R
 | 0, _ => none
 | n + 1, s => match body s with
  | some (.inl s') => iter body n s'
  | some (.inr r) => some r
  | none => none
noncomputable def az_ (body : S → Option (S ⊕ R)) (s : S) : Option R := if h : ∃ n r, iter body n s = some r then some (Classical.choose (Classical.choose_spec h)) else none
theorem is_ {body : S → Option (S ⊕ R)} : ∀ {n : Nat} {s : S} {r : R}, iter body n s = some r → ∀ m, n ≤ m → iter body m s = some r
 | 0, s, r, h, m, hm => by cases h
 | n + 1, s, r, h, m, hm => by
  obtain ⟨m, rfl⟩ : ∃ k, m = k + 1 := ⟨m - 1, by omega⟩
  simp only [iter] at h ⊢
  split at h
  ·exact is_ h m (by omega)
  ·exact h
  ·cases h
theorem c5_ {body : S → Option (S ⊕ R)} {s : S} {r : R} : az_ body s = some r ↔ ∃ n, iter body n s = some r := by
 unfold az_
 constructor
 ·intro h
  split at h
  ·rename_i hx
   exact ⟨Classical.choose hx, by rw [Classical.choose_spec (Classical.choose_spec hx)]; exact h⟩
  ·cases h
 ·rintro ⟨n, h⟩
  have hx : ∃ n r, iter body n s = some r := ⟨n, r, h⟩
  rw [dif_pos hx]
  have h2 := Classical.choose_spec (Classical.choose_spec hx)
  have e1 := is_ h (max n (Classical.choose hx)) (Nat.le_max_left _ _)
  have e2 := is_ h2 (max n (Classical.choose hx)) (Nat.le_max_right _ _)
  rw [e1] at e2
  exact e2.symm
theorem au_ {body : S → Option (S ⊕ R)} {s s' : S} {r : R} (h : body s = some (.inl s')) (k : az_ body s' = some r) : az_ body s = some r := by
 obtain ⟨n, hn⟩ := c5_.1 k
 exact c5_.2 ⟨n + 1, by simp only [iter, h, hn]⟩
theorem aj_ {body : S → Option (S ⊕ R)} {s : S} {r : R} (h : body s = some (.inr r)) : az_ body s = some r := c5_.2 ⟨1, by simp only [iter, h]⟩
variable {P : Program} {O : ax_} {Q : aA_ → Fr → Prop}
def qH_ (Inv : S → Fr → Prop) (Fin : R → aA_ → Fr → Prop) : S ⊕ R → aA_ → Fr → Prop
 | .inl s, .normal, fr => Inv s fr
 | .inr r, .exit i, fr => Fin r (.exit i) fr
 | .inr r, .ret, fr => Fin r .ret fr
 | _, _, _ => False
theorem tV_ {body : S → Option (S ⊕ R)} {c : Code} {s0 : S} {r : R} (Inv : S → Fr → Prop) (Fin : R → aA_ → Fr → Prop) (hb : az_ body s0 = some r) {fr : Fr} (hi : Inv s0 fr)
  (hr : ∀ s x fr, body s = some x → Inv s fr → codeQ P O c (qH_ Inv Fin x) fr) (hk : ∀ x fr, Fin r x fr → Q x fr) : codeQ P O (.loop c) Q fr := by
 obtain ⟨n, hn⟩ := c5_.1 hb
 show p0_ (dx_ P O c) Q fr
 clear hb
 induction n generalizing s0 fr with
 | zero => cases hn
 | succ n ih =>
  simp only [iter] at hn
  unfold p0_
  rw [kQ_]
  split at hn
  ·rename_i s' hs
   obtain ⟨x, fr', h1, h2⟩ := codeQ_sound (hr _ _ _ hs hi)
   cases x with
   | normal =>
    rw [h1]
    exact ih (fr := fr') h2 hn
   | exit i => exact h2.elim
   | ret => exact h2.elim
  ·rename_i r' hs
   injection hn with hn; subst hn
   obtain ⟨x, fr', h1, h2⟩ := codeQ_sound (hr _ _ _ hs hi)
   rw [h1]
   cases x with
   | normal => exact h2.elim
   | exit i => exact ⟨_, _, rfl, hk _ _ h2⟩
   | ret => exact ⟨_, _, rfl, hk _ _ h2⟩
  ·cases hn
end
end Go.Am
end
section
set_option linter.unusedVariables false
set_option linter.unusedSimpArgs false
namespace Go.Am
open Classical
class Enc (α : Type) where
 cells : α → List T
 w : Nat
 len : ∀ a, (cells a).length = w
 one : ∀ a, (cells a).all T.one = true
 pure : ∀ a, pureL (cells a) = true
 inj : ∀ a b, cells a = cells b → a = b
structure Sl (α : Type) where
 z : Bool
 l : List α
structure Iv (k : IntKind) where
 v : Int
def ah_ {α : Type} [Enc α] : List α → List T
 | [] => []
 | a :: l => Enc.cells a ++ ah_ l
def Sl.t {α : Type} [Enc α] (s : Sl α) : T := .row s.z s.l.length (ah_ s.l)
section
variable {α : Type} [Enc α]
theorem cellsL_len : ∀ (l : List α), (ah_ l).length = l.length * Enc.w α
 | [] => by simp [ah_]
 | a :: l => by simp [ah_, Enc.len, cellsL_len l, Nat.succ_mul, Nat.add_comm]
theorem cellsL_append : ∀ (l l' : List α), ah_ (l ++ l') = ah_ l ++ ah_ l'
 | [], _ => rfl
 | a :: l, l' => by simp [ah_, cellsL_append l l']
theorem cellsL_drop : ∀ (l : List α) (i : Nat), (ah_ l).drop (i * Enc.w α) = ah_ (l.drop i)
 | [], i => by simp [ah_]
 | a :: l, 0 => by simp
 | a :: l, i + 1 => by
  simp only [ah_, List.drop_succ_cons]
  rw [List.drop_append, List.drop_of_length_le (by rw [Enc.len, Nat.succ_mul]; omega), List.nil_append, Enc.len, show (i + 1) * Enc.w α - Enc.w α = i * Enc.w α by rw [Nat.succ_mul]; omega]
  exact cellsL_drop l i
theorem cellsL_take : ∀ (l : List α) (i : Nat), (ah_ l).take (i * Enc.w α) = ah_ (l.take i)
 | [], i => by simp [ah_]
 | a :: l, 0 => by simp [ah_]
 | a :: l, i + 1 => by
  simp only [ah_, List.take_succ_cons]
  rw [List.take_append, List.take_of_length_le (by rw [Enc.len, Nat.succ_mul]; omega), Enc.len, show (i + 1) * Enc.w α - Enc.w α = i * Enc.w α by rw [Nat.succ_mul]; omega, cellsL_take l i]
theorem g2_ (l : List α) (i : Nat) (x : α) (h : l[i]? = some x) : (ah_ l).drop (i * Enc.w α) = Enc.cells x ++ ah_ (l.drop (i + 1)) := by
 rw [cellsL_drop]
 obtain ⟨hi, rfl⟩ := List.getElem?_eq_some_iff.1 h
 rw [List.drop_eq_getElem_cons hi]; rfl
theorem cellsL_one : ∀ (l : List α), (ah_ l).all T.one = true
 | [] => rfl
 | a :: l => by simp only [ah_, List.all_append, Enc.one, cellsL_one l, Bool.and_self]
theorem pureL_append : ∀ (a b : List T), pureL (a ++ b) = (pureL a && pureL b)
 | [], b => by simp [pureL]
 | t :: a, b => by simp [pureL, pureL_append a b, Bool.and_assoc]
theorem cellsL_pure : ∀ (l : List α), pureL (ah_ l) = true
 | [] => rfl
 | a :: l => by simp only [ah_, pureL_append, Enc.pure, cellsL_pure l, Bool.and_self]
theorem cellsL_inj : ∀ (l l' : List α), l.length = l'.length → ah_ l = ah_ l' → l = l'
 | [], [], _, _ => rfl
 | [], _ :: _, h, _ => by simp at h
 | _ :: _, [], h, _ => by simp at h
 | a :: l, b :: l', h, k => by
  simp only [ah_] at k
  have := List.append_inj k (by rw [Enc.len, Enc.len])
  rw [Enc.inj a b this.1, cellsL_inj l l' (by simpa using h) this.2]
@[simp] theorem Sl.one (s : Sl α) : s.t.one = true := (rfl)
@[simp] theorem Sl.cells (s : Sl α) : s.t.cells = [s.t] := (rfl)
@[simp] theorem Sl.pure (s : Sl α) : pureT s.t = true := cellsL_pure s.l
@[simp] theorem Sl.frz (s : Sl α) (σ : St) (d : Nat) : Go.Am.frz σ d s.t = some (s.t, []) := by cases d <;> rfl
theorem Sl.inj {a b : Sl α} (h : a.t = b.t) : a = b := by
 obtain ⟨z, l⟩ := a; obtain ⟨z', l'⟩ := b
 injection h with h1 h2 h3
 rw [show z = z' from h1, cellsL_inj l l' h2 h3]
@[simp] theorem Sl.inj_iff {a b : Sl α} : a.t = b.t ↔ a = b := ⟨Sl.inj, fun h => by rw [h]⟩
end
instance : Enc ByteArray := ⟨fun s => [.str s], 1, fun _ => rfl, fun _ => rfl, fun _ => rfl, fun a b h => by simpa using h⟩
instance : Enc Bool := ⟨fun s => [.bool s], 1, fun _ => rfl, fun _ => rfl, fun _ => rfl, fun a b h => by simpa using h⟩
instance (k : IntKind) : Enc (Iv k) := ⟨fun s => [.int k s.v], 1, fun _ => rfl, fun _ => rfl, fun _ => rfl, fun a b h => by cases a; cases b; simpa using h⟩
instance {α : Type} [Enc α] : Enc (Sl α) := ⟨fun s => [s.t], 1, fun _ => rfl, fun _ => rfl, fun s => by simp [pureL], fun a b h => by simpa using h⟩
def elt {α : Type} (s : Sl α) (i : Int) : Option α := if 0 ≤ i then s.l[i.toNat]? else none
theorem fl_ {α : Type} {s : Sl α} {i : Int} {x : α} (h : elt s i = some x) : 0 ≤ i ∧ i < s.l.length ∧ s.l[i.toNat]? = some x := by
 unfold elt at h
 split at h
 ·rename_i h0
  have := (List.getElem?_eq_some_iff.1 h).1
  exact ⟨h0, by omega, h⟩
 ·cases h
def aP_ (s : ByteArray) (i : Int) : Option Int := if 0 ≤ i ∧ i < s.size then some (bAt s i) else none
theorem iB_ {s : ByteArray} {i x : Int} (h : aP_ s i = some x) : (0 ≤ i ∧ i < s.size) ∧ x = bAt s i := by
 unfold aP_ at h
 split at h
 ·rename_i h0; injection h with h; exact ⟨h0, h.symm⟩
 ·cases h
def catB (a b : ByteArray) : Option ByteArray := if a.size + b.size ≤ 9223372036854775807 then some (a ++ b) else none
theorem nP_ {a b c : ByteArray} (h : catB a b = some c) : a.size + b.size ≤ 9223372036854775807 ∧ c = a ++ b := by
 unfold catB at h
 split at h
 ·rename_i h0; injection h with h; exact ⟨h0, h.symm⟩
 ·cases h
def flat1 : T → Bool
 | .ref .. | .agg _ | .tup _ | .emp | .mp _ | .anyi | .yld _ => false
 | _ => true
def flat2 : T → Bool
 | .agg cs => cs.all flat1
 | t => flat1 t
def flat3 : T → Bool
 | .tup ts => ts.all flat2
 | t => flat2 t
theorem in_ {σ : St} {d : Nat} {t : T} (h : flat1 t = true) : frz σ d t = some (t, []) := by cases t <;> cases d <;> simp [flat1] at h <;> simp [frz]
theorem kK_ {σ : St} {d : Nat} {t : T} (h : flat2 t = true) : frz σ (d + 1) t = some (t, []) := by
 cases t with
 | agg cs =>
  simp only [flat2, List.all_eq_true] at h
  simp only [frz, hc_ (f := frz σ d) (ts := cs) fun t ht => in_ (h t ht), Option.map_some]
 | _ => exact in_ h
theorem lj_ {σ : St} {d : Nat} {t : T} (h : flat3 t = true) : frz σ (d + 2) t = some (t, []) := by
 cases t with
 | tup cs =>
  simp only [flat3, List.all_eq_true] at h
  simp only [frz, hc_ (f := frz σ (d + 1)) (ts := cs) fun t ht => kK_ (h t ht), Option.map_some]
 | _ => exact kK_ h
theorem i4_ {σ : St} {ts : List T} (h : ts.all flat3 = true) : frzL (frz σ 4194304) ts = some (ts, []) := by
 simp only [List.all_eq_true] at h
 exact hc_ fun t ht => lj_ (h t ht)
def nums : Nat → List T → List (Nat × T)
 | _, [] => []
 | i, t :: ts => (i, t) :: nums (i + 1) ts
theorem fb_ (args : List T) : Sub (nums 0 args) (enterS args) := by
 have key : ∀ (ts : List T) (i : Nat) (j : Nat) (v : T), get (nums i ts) j = some v → i ≤ j ∧ ts[j - i]? = some v := by
  intro ts
  induction ts with
  | nil => intro i j v h; cases h
  | cons t ts ih =>
   intro i j v h
   simp only [nums, get] at h
   split at h
   ·rename_i e; have := Nat.eq_of_beq_eq_true e; subst this; simpa using h
   ·obtain ⟨h1, h2⟩ := ih (i + 1) j v h
    refine ⟨by omega, ?_⟩
    rw [show j - i = (j - (i + 1)) + 1 by omega]; simpa using h2
 intro j v h
 obtain ⟨_, h2⟩ := key args 0 j v h
 simp only [Nat.sub_zero] at h2
 simp [enterS, List.getD_eq_getElem?_getD, h2]
section
variable {P : Program} {s : Nat → T} {σ σ0 : St} {L : List (Nat × T)} {es : List Ent} {rs : List ResultVar} {l : List T}
theorem r_nil : resL P ⟨s, σ⟩ [] = some [] := rfl
theorem bE_ {t : Nat} {v : T} (hS : Sub L s) (h : get L t = some v) (k : resL P ⟨s, σ⟩ rs = some l) : resL P ⟨s, σ⟩ (.tmp t :: rs) = some (v :: l) := by
 simp only [resL, resV, hS t v h, k, Option.bind_some, Option.map_some]
theorem ce_ {a : Nat} {ty : TypeId} {b e off n : Nat} {cells : List T} {v : T} (hS : Sub L s) (hH : Heap σ0 σ (.box b cells :: es)) (h : get L a = some (.ptr b e off n)) (hv : part P ty ((cells.drop off).take n) 0 = some v)
  (k : resL P ⟨s, σ⟩ rs = some l) : resL P ⟨s, σ⟩ (.cell a ty :: rs) = some (v :: l) := by
 obtain ⟨B, h1, rfl, h3, h4, h5⟩ := hH.look
 simp only [resL, resV, hS a _ h, fg_, h1, Option.bind_some, k, Option.map_some]
 rw [if_pos (by omega), hv]; rfl
end
def St.empty' : St := ⟨0, fun _ => none⟩
section
variable (P : Program) (md : Nat → Md) (X : Ext)
noncomputable def semV {β : Type} (eb : β → T) (f : Nat) (args : List T) : Option β :=
 if h : ∃ r, ∀ σ, run P md X f args σ = some (eb r, σ) then some (Classical.choose h) else none
noncomputable def g5_ {β : Type} (eb : β → T) (p : T) (args : List T) : Option β := match p with
 | .fn f a b => semV P md X eb f (a ++ args ++ b)
 | _ => none
end
section
variable {P : Program} {md : Nat → Md} {X : Ext} {β : Type} {eb : β → T} {f : Nat} {args : List T} {r : β}
theorem e9_ (h : semV P md X eb f args = some r) (σ : St) : run P md X f args σ = some (eb r, σ) := by
 unfold semV at h
 split at h
 ·rename_i hx; injection h with h; subst h; exact Classical.choose_spec hx σ
 ·cases h
theorem jM_ (hi : ∀ a b, eb a = eb b → a = b) (h : ∀ σ, run P md X f args σ = some (eb r, σ)) : semV P md X eb f args = some r := by
 have hx : ∃ r, ∀ σ, run P md X f args σ = some (eb r, σ) := ⟨r, h⟩
 unfold semV
 rw [dif_pos hx]
 have h1 := Classical.choose_spec hx St.empty'
 rw [h St.empty'] at h1
 injection h1 with h1; injection h1 with h1
 rw [← hi _ _ h1]
theorem jv_ {p : T} (h : g5_ P md X eb p args = some r) (σ : St) : ∃ f a b, p = .fn f a b ∧ run P md X f (a ++ args ++ b) σ = some (eb r, σ) := by
 unfold g5_ at h
 split at h
 ·exact ⟨_, _, _, rfl, e9_ h σ⟩
 ·cases h
variable {ops : Array Oper} {m : Mo} {l : List Oper} {K : Fr → Prop} {s : Nat → T} {σ : St} {L : List (Nat × T)}
variable {d : Option Nat} {ty : TypeId} {ps : String} {af : Array Edge} {g : Option (Nat × Bool)}
theorem rh_ {fo : Operand} {as : Array Operand} {ts : Array TypeId} {a b xs : List T} (hw : want ops L g = some true) (hS : Sub L s) (hf : gE (get L) fo = some (.fn f a b)) (ha : gEs (get L) as.toList = some xs)
  (hr : semV P md X eb f (a ++ xs ++ b) = some r) (k : ∀ s', Sub (putL L d (eb r)) s' → opsX P (run P md X) ops (nxM m) l K ⟨s', σ⟩) : opsX P (run P md X) ops m (⟨d, .call ⟨.value fo, as, ts⟩, ty, ps, af, g⟩ :: l) K ⟨s, σ⟩ :=
 jR_ hw hS hf ha (e9_ hr σ) (fun _ σ => e9_ hr σ) k
theorem rb_ {fo : Operand} {as : Array Operand} {ts : Array TypeId} {xs : List T} {p : T} (hw : want ops L g = some true) (hS : Sub L s) (hf : gE (get L) fo = some p) (ha : gEs (get L) as.toList = some xs)
  (hr : g5_ P md X eb p xs = some r) (k : ∀ s', Sub (putL L d (eb r)) s' → opsX P (run P md X) ops (nxM m) l K ⟨s', σ⟩) : opsX P (run P md X) ops m (⟨d, .call ⟨.value fo, as, ts⟩, ty, ps, af, g⟩ :: l) K ⟨s, σ⟩ := by
 obtain ⟨f, a, b, rfl, h⟩ := jv_ hr σ
 refine jR_ hw hS hf ha h (fun _ σ' => ?_) k
 obtain ⟨f', a', b', e, h'⟩ := jv_ hr σ'
 injection e with e1 e2 e3
 subst e1; subst e2; subst e3
 exact h'
end
section
theorem l3_ {k : IntKind} : ∀ a b : Int, T.int k a = T.int k b → a = b := fun a b h => by injection h
theorem inj_bool : ∀ a b : Bool, T.bool a = T.bool b → a = b := fun a b h => by injection h
theorem inj_str : ∀ a b : ByteArray, T.str a = T.str b → a = b := fun a b h => by injection h
theorem k6_ {α : Type} [Enc α] : ∀ a b : Sl α, a.t = b.t → a = b := fun a b h => Sl.inj h
theorem inj_agg {α : Type} [Enc α] : ∀ a b : α, T.agg (Enc.cells a) = T.agg (Enc.cells b) → a = b := fun a b h => by injection h with h; exact Enc.inj a b h
variable {α β γ δ ε : Type} {e1 : α → T} {e2 : β → T} {e3 : γ → T} {e4 : δ → T} {e5 : ε → T}
theorem mZ_ (h1 : ∀ a b, e1 a = e1 b → a = b) (h2 : ∀ a b, e2 a = e2 b → a = b) : ∀ a b : α × β, T.tup [e1 a.1, e2 a.2] = T.tup [e1 b.1, e2 b.2] → a = b := fun a b h => by
 injection h with h; simp only [List.cons.injEq, and_true] at h
 exact Prod.ext (h1 _ _ h.1) (h2 _ _ h.2)
end
section
variable {P : Program} {O : ax_} {ops : Array Oper} {m : Mo} {l : List Oper} {K : Fr → Prop} {s : Nat → T} {σ : St} {L : List (Nat × T)}
variable {d : Option Nat} {ty : TypeId} {ps : String} {af : Array Edge} {g : Option (Nat × Bool)}
theorem vO_ {α : Type} [Enc α] {x i : Operand} {t e : TypeId} {sl : Sl α} {kk : IntKind} {j : Int} {y : α} (c : List T) (hw : want ops L g = some true) (hS : Sub L s) (hx : gE (get L) x = some sl.t) (hi : gE (get L) i = some (.int kk j))
  (he : ao_ P t = some e) (hz : szOf P e = some (Enc.w α)) (hy : elt sl j = some y) (hc : Enc.cells y = c)
  (k : ∀ rest s', Sub (putL L d (.vw (c ++ rest))) s' → opsX P O ops (nxM m) l K ⟨s', σ⟩) : opsX P O ops m (⟨d, .indexAddr t x i, ty, ps, af, g⟩ :: l) K ⟨s, σ⟩ := by
 obtain ⟨h1, h2, h3⟩ := fl_ hy
 exact vL_ (cs := ah_ sl.l) c (ah_ (sl.l.drop (j.toNat + 1))) hw hS hx hi he hz ⟨h1, h2⟩ (cellsL_len _) (by rw [g2_ _ _ _ h3, hc]) (fun s' => k _ s')
theorem rz_ {x i : Operand} {t : TypeId} {w : ByteArray} {kk : IntKind} {j y : Int} (hw : want ops L g = some true) (hS : Sub L s) (hx : gE (get L) x = some (.str w)) (hi : gE (get L) i = some (.int kk j))
  (ht : aD_ P t = 3) (hy : aP_ w j = some y) (k : ∀ s', Sub (putL L d (.int .u8 y)) s' → opsX P O ops (nxM m) l K ⟨s', σ⟩) : opsX P O ops m (⟨d, .index t x i, ty, ps, af, g⟩ :: l) K ⟨s, σ⟩ := by
 obtain ⟨h1, rfl⟩ := iB_ hy
 exact tI_ hw hS hx hi ht h1 k
theorem tE_ {x y : Operand} {t u : TypeId} {a b c : ByteArray} (hw : want ops L g = some true) (hS : Sub L s) (hx : gE (get L) x = some (.str a)) (hy : gE (get L) y = some (.str b)) (hc : catB a b = some c)
  (k : ∀ s', Sub (putL L d (.str c)) s' → opsX P O ops (nxM m) l K ⟨s', σ⟩) : opsX P O ops m (⟨d, .binOp .add t x y u, ty, ps, af, g⟩ :: l) K ⟨s, σ⟩ := by
 obtain ⟨h1, rfl⟩ := nP_ hc
 exact u9_ hw hS hx hy h1 k
def subB (s : ByteArray) (lo hi : Int) : Option ByteArray := if 0 ≤ lo ∧ lo ≤ hi ∧ hi ≤ s.size then some (s.extract lo.toNat hi.toNat) else none
def gq_ (x : Option T) (d : Int) : Option Int := match x with
 | none => some d
 | some (.int _ i) => some i
 | _ => none
def gO (g : Nat → Option T) : Option Operand → Option (Option T)
 | none => some none
 | some x => match gE g x with
  | some v => some (some v)
  | none => none
theorem id_ {g : Nat → Option T} {s : Nat → T} (hg : ∀ j v, g j = some v → s j = v) {x : Option Operand} {v : Option T} (h : gO g x = some v) : d1_ s x = some v := by
 cases x with
 | none => exact h
 | some x =>
  simp only [gO] at h
  split at h
  ·rename_i u hu; simp only [d1_, ag_ hg hu, Option.map_some]; exact h
  ·cases h
theorem h8_ {x : Option T} {n : Nat} {i : Int} (h : gq_ x n = some i) (h0 : 0 ≤ i) : boundA x n = some i.toNat ∧ okO x = true := by
 unfold gq_ at h
 split at h
 ·injection h with h; subst h; exact ⟨by simp [boundA], rfl⟩
 ·injection h with h; subst h; exact ⟨by simp [boundA, h0], rfl⟩
 ·cases h
theorem tW_ {x : Operand} {lo hi : Option Operand} {t : TypeId} {w y : ByteArray} {vlo vhi : Option T} {a b : Int} (hw : want ops L g = some true) (hS : Sub L s) (hx : gE (get L) x = some (.str w)) (hlo : gO (get L) lo = some vlo) (hhi : gO (get L) hi = some vhi)
  (ha : gq_ vlo 0 = some a) (hb : gq_ vhi w.size = some b) (ht : aD_ P t = 3) (hy : subB w a b = some y) (k : ∀ s', Sub (putL L d (.str y)) s' → opsX P O ops (nxM m) l K ⟨s', σ⟩) : opsX P O ops m (⟨d, .slice t x lo hi none, ty, ps, af, g⟩ :: l) K ⟨s, σ⟩ := by
 unfold subB at hy
 split at hy
 ·rename_i h
  injection hy with hy; subst hy
  obtain ⟨k1, k2⟩ := h8_ (n := 0) (x := vlo) (by simpa using ha) h.1
  obtain ⟨k3, k4⟩ := h8_ (n := w.size) hb (by omega)
  refine dX_ hw hS (fun kk σ' _ => ?_) k
  rw [j3_, ag_ hS hx, Option.bind_some, id_ hS hlo, Option.bind_some, id_ hS hhi, Option.bind_some, eR_, Option.bind_some, ks_, k2, k4]
  simp only [okO_none, Bool.and_self, if_true, nB_, ht, k1, k3, Option.bind_some]
  rw [if_pos ⟨by omega, by omega⟩]; rfl
 ·cases hy
def subS {α : Type} (s : Sl α) (lo hi : Int) : Option (Sl α) := if 0 ≤ lo ∧ lo ≤ hi ∧ hi ≤ s.l.length then some ⟨s.z, (s.l.drop lo.toNat).take (hi.toNat - lo.toNat)⟩ else none
theorem qL_ {α : Type} [Enc α] {x : Operand} {lo hi : Option Operand} {t e : TypeId} {w y : Sl α} {vlo vhi : Option T} {a b : Int} (hw : want ops L g = some true) (hS : Sub L s) (hx : gE (get L) x = some w.t) (hlo : gO (get L) lo = some vlo) (hhi : gO (get L) hi = some vhi)
  (ha : gq_ vlo 0 = some a) (hb : gq_ vhi w.l.length = some b) (he : ao_ P t = some e) (hz : szOf P e = some (Enc.w α)) (hy : subS w a b = some y) (k : ∀ s', Sub (putL L d y.t) s' → opsX P O ops (nxM m) l K ⟨s', σ⟩) : opsX P O ops m (⟨d, .slice t x lo hi none, ty, ps, af, g⟩ :: l) K ⟨s, σ⟩ := by
 unfold subS at hy
 split at hy
 ·rename_i h
  injection hy with hy; subst hy
  obtain ⟨k1, k2⟩ := h8_ (n := 0) (x := vlo) (by simpa using ha) h.1
  obtain ⟨k3, k4⟩ := h8_ (n := w.l.length) hb (by omega)
  refine dX_ hw hS (fun kk σ' _ => ?_) k
  rw [j3_, ag_ hS hx, Option.bind_some, id_ hS hlo, Option.bind_some, id_ hS hhi, Option.bind_some, eR_, Option.bind_some, ks_, k2, k4]
  simp only [okO_none, Bool.and_self, if_true, Sl.t, nE_, he, hz, k1, k3, Option.bind_some]
  rw [if_pos ⟨by omega, by omega, cellsL_len _⟩, cellsL_drop, cellsL_take]
  have : ((w.l.drop a.toNat).take (b.toNat - a.toNat)).length = b.toNat - a.toNat := by simp; omega
  simp only [Option.map_some, this]
 ·cases hy
theorem all_nil : ([] : List T).all flat3 = true := rfl
theorem all_cons {t : T} {ts : List T} (h : flat3 t = true) (k : ts.all flat3 = true) : (t :: ts).all flat3 = true := by simp [h, k]
theorem qC_ {α : Type} {c : Prop} [Decidable c] {A B : Option α} {r : α} (hc : c) (h : (if c then A else B) = some r) : A = some r := by rwa [if_pos hc] at h
theorem qD_ {α : Type} {c : Prop} [Decidable c] {A B : Option α} {r : α} (hc : ¬c) (h : (if c then A else B) = some r) : B = some r := by rwa [if_neg hc] at h
theorem oi_ {b : Bool} {p : Prop} (h : b = true) (k : b = false) : p := by rw [h] at k; cases k
theorem pr_ {b : Bool} {p : Prop} (h : ¬(b = true)) (k : b = true) : p := absurd k h
end
theorem bind_some {α β : Type} {x : Option α} {f : α → Option β} {r : β} (h : x.bind f = some r) : ∃ a, x = some a ∧ f a = some r := Option.bind_eq_some_iff.1 h
theorem hs_ {α : Type} {c : Prop} [Decidable c] {x : Option α} {r : α} (h : (if c then x else none) = some r) : c ∧ x = some r := by
 split at h
 ·rename_i hc; exact ⟨hc, h⟩
 ·cases h
section
variable {P : Program} {O : ax_} {Q : aA_ → Fr → Prop} {K : Fr → Prop} {fr : Fr}
end
end Go.Am
end
section
set_option linter.unusedVariables false
set_option linter.unusedSimpArgs false
namespace Go.Am
open Classical
theorem ex_ {σ : St} : ∀ (d : Nat) (t v : T) (S : List Nat), hold true σ d t = some (v, S) → hold false σ d t = some (v, S)
 | 0, t, v, S, h => by
  cases t with
  | row zz n cs => cases zz <;> cases n <;> cases cs <;> simp [hold] at h ⊢ <;> exact h
  | _ => simp [hold] at h <;> simp [hold, h]
 | d + 1, t, v, S, h => by
  cases t with
  | ref b e off n =>
   simp only [hold] at h
   obtain ⟨B, hb, h1⟩ := Option.bind_eq_some_iff.1 h
   split at h1
   ·rename_i hc
    obtain ⟨⟨cs, S1⟩, h2, h3⟩ := Option.map_eq_some_iff.1 h1
    injection h3 with h3 h4; subst h3; subst h4
    have h5 := as_ (g := hold false σ d) (fun t v S' _ hh _ => ex_ d t v S' hh) h2
    simp only [hold, hb, Option.bind_some, h5, Option.map_some]
    rw [if_pos ⟨(fun h => by cases h), hc.2⟩]
   ·cases h1
  | agg cs =>
   simp only [hold] at h
   obtain ⟨⟨cs', S1⟩, h2, h3⟩ := Option.map_eq_some_iff.1 h
   injection h3 with h3 h4; subst h3; subst h4
   simp only [hold, as_ (g := hold false σ d) (fun t v S' _ hh _ => ex_ d t v S' hh) h2, Option.map_some]
  | tup cs =>
   simp only [hold] at h
   obtain ⟨⟨cs', S1⟩, h2, h3⟩ := Option.map_eq_some_iff.1 h
   injection h3 with h3 h4; subst h3; subst h4
   simp only [hold, as_ (g := hold false σ d) (fun t v S' _ hh _ => ex_ d t v S' hh) h2, Option.map_some]
  | row zz n cs => cases zz <;> cases n <;> cases cs <;> simp [hold] at h ⊢ <;> exact h
  | _ => simp [hold] at h <;> simp [hold, h]
theorem dB_ {f : T → Option (T × List Nat)} : ∀ {a b va vb : List T} {Sa Sb : List Nat}, frzL f a = some (va, Sa) → frzL f b = some (vb, Sb) → frzL f (a ++ b) = some (va ++ vb, Sa ++ Sb)
 | [], b, va, vb, Sa, Sb, ha, hb => by simp [frzL] at ha; obtain ⟨rfl, rfl⟩ := ha; simpa using hb
 | t :: a, b, va, vb, Sa, Sb, ha, hb => by
  simp only [frzL] at ha
  obtain ⟨⟨v0, S0⟩, h1, h2⟩ := Option.bind_eq_some_iff.1 ha
  obtain ⟨⟨vs, S1⟩, h3, h4⟩ := Option.map_eq_some_iff.1 h2
  injection h4 with h4 h5; subst h4; subst h5
  simp only [List.cons_append, frzL, h1, Option.bind_some, dB_ h3 hb, Option.map_some, List.append_assoc]
theorem cs_ {z : Bool} {σ : St} {k k' : Nat} (hk : k ≤ k') {ts vs : List T} {F : List Nat} (h : frzL (hold z σ k) ts = some (vs, F)) : frzL (hold z σ k') ts = some (vs, F) :=
 as_ (fun t v S _ hh _ => ca_ k t v S hh k' hk) h
inductive HL (z : Bool) : List T → List T → List Ent → Prop
 | nil : HL z [] [] []
 | leaf {t v ts vs es} (h : ∀ σ d, hold z σ d t = some (v, [])) (r : HL z ts vs es) : HL z (t :: ts) (v :: vs) es
 | own {z' w t v ts vs es} (hz : (!z || z') = true) (r : HL z ts vs es) : HL z (t :: ts) (v :: vs) (.own z' w t v :: es)
 | agg {cs us es1 ts vs es2} (a : HL z cs us es1) (r : HL z ts vs es2) : HL z (.agg cs :: ts) (.agg us :: vs) (es1 ++ es2)
 | tup {cs us es1 ts vs es2} (a : HL z cs us es1) (r : HL z ts vs es2) : HL z (.tup cs :: ts) (.tup us :: vs) (es1 ++ es2)
theorem HL.sound {σ : St} {z ts vs es} (h : HL z ts vs es) : ∀ {F : List Nat}, cB_ σ es F → ∃ k, frzL (hold z σ k) ts = some (vs, F) := by
 induction h with
 | nil => intro F hF; cases hF; exact ⟨0, rfl⟩
 | leaf h r ih => intro F hF; obtain ⟨k, hk⟩ := ih hF; exact ⟨k, by simp only [frzL, h, Option.bind_some, hk, Option.map_some, List.nil_append]⟩
 | @own z' w t v ts vs es hz r ih =>
  intro F hF
  obtain ⟨S, F', rfl, ⟨_, _, k', h1⟩, h2⟩ := hF
  obtain ⟨k, hk⟩ := ih h2
  have h3 : hold z σ (max k k') t = some (v, S) := by
   have h4 := ca_ k' t v S h1 (max k k') (Nat.le_max_right _ _)
   cases z with
   | true => cases z' with
    | true => exact h4
    | false => cases hz
   | false => cases z' with
    | true => exact ex_ _ _ _ _ h4
    | false => exact h4
  exact ⟨max k k', by simp only [frzL, h3, Option.bind_some, cs_ (Nat.le_max_left k k') hk, Option.map_some]⟩
 | @agg cs us es1 ts vs es2 a r iha ihr =>
  intro F hF
  obtain ⟨F1, F2, rfl, h1, h2⟩ := hF.split
  obtain ⟨k1, q1⟩ := iha h1
  obtain ⟨k2, q2⟩ := ihr h2
  have h3 : hold z σ (max k1 k2 + 1) (.agg cs) = some (.agg us, F1) := by simp only [hold, cs_ (Nat.le_max_left k1 k2) q1, Option.map_some]
  exact ⟨max k1 k2 + 1, by simp only [frzL, h3, Option.bind_some, cs_ (Nat.le_succ_of_le (Nat.le_max_right k1 k2)) q2, Option.map_some]⟩
 | @tup cs us es1 ts vs es2 a r iha ihr =>
  intro F hF
  obtain ⟨F1, F2, rfl, h1, h2⟩ := hF.split
  obtain ⟨k1, q1⟩ := iha h1
  obtain ⟨k2, q2⟩ := ihr h2
  have h3 : hold z σ (max k1 k2 + 1) (.tup cs) = some (.tup us, F1) := by simp only [hold, cs_ (Nat.le_max_left k1 k2) q1, Option.map_some]
  exact ⟨max k1 k2 + 1, by simp only [frzL, h3, Option.bind_some, cs_ (Nat.le_succ_of_le (Nat.le_max_right k1 k2)) q2, Option.map_some]⟩
@[simp] theorem mQ_ (z : Bool) (σ : St) (d : Nat) (k : IntKind) (n : Int) : hold z σ d (.int k n) = some (.int k n, []) := by cases d <;> rfl
@[simp] theorem n0_ (z : Bool) (σ : St) (d : Nat) (b : Bool) : hold z σ d (.bool b) = some (.bool b, []) := by cases d <;> rfl
@[simp] theorem pG_ (z : Bool) (σ : St) (d : Nat) (s : ByteArray) : hold z σ d (.str s) = some (.str s, []) := by cases d <;> rfl
@[simp] theorem tw_ (z : Bool) (σ : St) (d : Nat) : hold z σ d .nilp = some (.nilp, []) := by cases d <;> rfl
@[simp] theorem s6_ (z : Bool) (σ : St) (d : Nat) : hold z σ d .nilf = some (.nilf, []) := by cases d <;> rfl
@[simp] theorem sI_ (z : Bool) (σ : St) (d : Nat) : hold z σ d .nili = some (.nili, []) := by cases d <;> rfl
@[simp] theorem sG_ (z : Bool) (σ : St) (d : Nat) : hold z σ d .nilm = some (.nilm, []) := by cases d <;> rfl
@[simp] theorem px_ (z : Bool) (σ : St) (d : Nat) : hold z σ d (.row true 0 []) = some (.row true 0 [], []) := by cases d <;> rfl
@[simp] theorem oB_ {α : Type} [Enc α] (σ : St) (d : Nat) (s : Sl α) : hold false σ d s.t = some (s.t, []) := by
 obtain ⟨z, l⟩ := s
 cases z <;> cases l <;> cases d <;> simp [Sl.t, hold, ah_]
@[simp] theorem ph_ {α : Type} [Enc α] (z : Bool) (σ : St) (d : Nat) : hold z σ d (Sl.t (⟨true, []⟩ : Sl α)) = some (Sl.t (⟨true, []⟩ : Sl α), []) := px_ z σ d
class Hld (z : Bool) (α : Type) [Enc α] : Prop where
 h : ∀ (a : α) (σ : St) (d : Nat), frzL (hold z σ d) (Enc.cells a) = some (Enc.cells a, [])
instance (z : Bool) : Hld z ByteArray := ⟨fun a σ d => by simp [Enc.cells]⟩
instance (z : Bool) : Hld z Bool := ⟨fun a σ d => by simp [Enc.cells]⟩
instance (z : Bool) (k : IntKind) : Hld z (Iv k) := ⟨fun a σ d => by simp [Enc.cells]⟩
instance {α : Type} [Enc α] : Hld false (Sl α) := ⟨fun a σ d => by simp [Enc.cells]⟩
theorem Hld.list {z : Bool} {α : Type} [Enc α] [Hld z α] (σ : St) (d : Nat) : ∀ l : List α, frzL (hold z σ d) (ah_ l) = some (ah_ l, [])
 | [] => rfl
 | a :: l => by simpa [ah_] using dB_ (Hld.h a σ d) (Hld.list σ d l)
def ar_ (t : T) : Prop := t.cells = [t] ∧ t.one = true
theorem k1_ {t : T} (h : isTop t = true) : ar_ t := by
 cases t <;> simp [isTop] at h <;> exact ⟨rfl, rfl⟩
theorem Heap.head {σ0 σ : St} {e : Ent} {es : List Ent} (h : Heap σ0 σ (e :: es)) : ∃ S, lU_ σ e S ∧ S.Nodup ∧ ∀ b ∈ S, σ0.next ≤ b ∧ b < σ.next := by
 obtain ⟨F, ⟨S, F', rfl, h1, h2⟩, h3, h4⟩ := h.ex
 exact ⟨S, h1, (List.nodup_append.1 h3).1, fun b hb => h4 b (by simp [hb])⟩
theorem Heap.one {σ0 σ : St} {z w t v es} (h : Heap σ0 σ (.own z w t v :: es)) : ar_ t := by
 obtain ⟨S, h1, _⟩ := h.head
 exact k1_ h1.1
theorem Heap.addNil {σ0 σ : St} {es : List Ent} (h : Heap σ0 σ es) (z : Bool) (w : Nat) : Heap σ0 σ (.own z w (.row true 0 []) (.row true 0 []) :: es) :=
 Heap.step (es1 := []) (es2 := [.own z w (.row true 0 []) (.row true 0 [])]) (es := es) h (Nat.le_refl _) fun S hS _ _ => ⟨[], ⟨[], [], rfl, ⟨rfl, (fun _ _ _ _ _ h _ _ => by cases h), 0, by simp⟩, rfl⟩, by simp, by simp, fun _ _ _ => rfl⟩
theorem Heap.addEmp {σ0 σ : St} {es : List Ent} (h : Heap σ0 σ es) (z : Bool) (w : Nat) : Heap σ0 σ (.own z w .emp (.row false 0 []) :: es) :=
 Heap.step (es1 := []) (es2 := [.own z w .emp (.row false 0 [])]) (es := es) h (Nat.le_refl _) fun S hS _ _ => ⟨[], ⟨[], [], rfl, ⟨rfl, (fun _ _ _ _ _ h _ _ => by cases h), 0, rfl⟩, rfl⟩, by simp, by simp, fun _ _ _ => rfl⟩
def enumV : Nat → List T → List (Nat × T)
 | _, [] => []
 | i, v :: vs => (i, v) :: enumV (i + 1) vs
def allV (sz : Nat) : List T → Prop
 | [] => True
 | v :: vs => v.cells.length = sz ∧ v.cells.all T.one = true ∧ allV sz vs
theorem kz_ {sz : Nat} : ∀ (vs : List T), allV sz vs → (vs.flatMap T.cells).length = vs.length * sz
 | [], _ => by simp
 | v :: vs, h => by
  have := kz_ vs h.2.2
  simp only [List.flatMap_cons, List.length_append, List.length_cons, Nat.succ_mul, h.1, this]; omega
theorem it_ {sz : Nat} (zc : List T) (hz : zc.length = sz) : ∀ (vs pre : List T) (i : Nat), pre.length = i * sz → allV sz vs →
  ez_ (fun i => some (i * sz, sz)) (pre ++ (List.replicate vs.length zc).flatten) (enumV i vs) = some (pre ++ vs.flatMap T.cells)
 | [], pre, i, hp, _ => by simp [enumV, ez_]
 | v :: vs, pre, i, hp, h => by
  obtain ⟨h1, h2, h3⟩ := h
  simp only [enumV, nH_, Option.bind_some, pO_]
  rw [if_pos ⟨h1, by simp [hp, List.replicate_succ, hz], h2⟩]
  have e : splice (pre ++ (List.replicate (v :: vs).length zc).flatten) (i * sz) v.cells = (pre ++ v.cells) ++ (List.replicate vs.length zc).flatten := by
   simp only [splice, List.length_cons, List.replicate_succ, List.flatten_cons]
   rw [List.take_append_of_le_length (by omega), List.take_of_length_le (by omega), List.drop_append, List.drop_of_length_le (by omega), List.nil_append, h1, hp, show i * sz + sz - i * sz = sz by omega, List.drop_append, List.drop_of_length_le (by omega), List.nil_append, hz, Nat.sub_self, List.drop_zero]
  rw [e, it_ zc hz vs (pre ++ v.cells) (i + 1) (by rw [List.length_append, hp, h1, Nat.succ_mul]) h3]
  simp
section
variable {P : Program} {O : ax_} {ops : Array Oper} {l : List Oper} {K : Fr → Prop} {s : Nat → T} {σ σ0 : St} {L : List (Nat × T)} {es ents : List Ent}
variable {d : Option Nat} {ty : TypeId} {ps : String} {af : Array Edge} {g : Option (Nat × Bool)}
theorem Heap.mkRowK {z : Bool} {n sz : Nat} {cs us : List T} (h : Heap σ0 σ (ents ++ es)) {k : Option Nat} (hk : σ.okK k = true) (hbk : ∀ i, k = some i → σ0.next ≤ i) (hsz : sz ≠ 0) (hn0 : n ≠ 0) (hl : cs.length = n * sz) (h1 : cs.all T.one = true) (hh : HL z cs us ents) :
  Heap σ0 (σ.pushK k (aH_ cs sz)) (.own z sz (.ref (σ.nid k) 0 0 n) (.row false n us) :: es) := by
 have h0 : σ0.next ≤ σ.nid k := by
  cases k with
  | none => exact h.grow.nx
  | some i => exact hbk i rfl
 have hf := gl_ hk
 refine Heap.stepN (es1 := ents) (es2 := [.own z sz (.ref (σ.nid k) 0 0 n) (.row false n us)]) (es := es) h ec_ (fun b hb' => by rw [bu_, if_neg (by omega)]) fun S hS hn hb => ?_
 have hs : ∀ b ∈ S, (σ.pushK k (aH_ cs sz)).blk b = σ.blk b := fun b hb' => en_ hk (hS.some b hb') (hb b hb').2
 obtain ⟨kk, hkk⟩ := hh.sound (hS.same hs)
 have hself : (σ.pushK k (aH_ cs sz)).blk (σ.nid k) = some (aH_ cs sz) := by rw [bu_, if_pos rfl]
 have hnot : σ.nid k ∉ S := fun hm => by
  rcases hf with hf | ⟨hf, _⟩
  ·have := (hb _ hm).2; omega
  ·have := hS.some _ hm; rw [hf] at this; cases this
 refine ⟨σ.nid k :: S, ⟨σ.nid k :: S, [], by simp, ⟨rfl, (fun b e o n B h hB _ => by injection h with h; subst h; rw [hself] at hB; injection hB with hB; subst hB; rfl), kk + 1, ?_⟩, rfl⟩, List.nodup_cons.2 ⟨hnot, hn⟩, ?_, fun b hb' hs' _ => en_ hk hs' hb'⟩
 ·simp only [hold, hself, Option.bind_some, dF_, hkk, Option.map_some]
  rw [if_pos (by simp only [aH_]; exact ⟨fun _ => trivial, trivial, Nat.le_refl _, trivial, hl, hsz, h1, hn0⟩)]
 ·intro b hb'
  rcases List.mem_cons.1 hb' with rfl | h
  ·exact .inr ⟨h0, iw_ hk, hf.imp id fun h => h.1⟩
  ·exact .inl h
theorem Heap.mkRow {z : Bool} {n sz : Nat} {cs us : List T} (h : Heap σ0 σ (ents ++ es)) (hsz : sz ≠ 0) (hn0 : n ≠ 0) (hl : cs.length = n * sz) (h1 : cs.all T.one = true) (hh : HL z cs us ents) :
  Heap σ0 (σ.pushK none (aH_ cs sz)) (.own z sz (.ref σ.next 0 0 n) (.row false n us) :: es) := h.mkRowK (k := none) rfl (fun _ e => by cases e) hsz hn0 hl h1 hh
theorem Heap.junk (h : Heap σ0 σ es) {k : Option Nat} (hk : σ.okK k = true) (hbk : ∀ i, k = some i → σ0.next ≤ i) (B : Blk) : Heap σ0 (σ.pushK k B) es := by
 have h0 : σ0.next ≤ σ.nid k := by
  cases k with
  | none => exact h.grow.nx
  | some i => exact hbk i rfl
 exact Heap.stepN (es1 := []) (es2 := []) (es := es) h ec_ (fun b hb' => by rw [bu_, if_neg (by omega)]) fun S hS hn hb => ⟨[], rfl, by simp, by simp, fun b hb' hs' _ => en_ hk hs' hb'⟩
theorem mW_ {sz : Nat} : ∀ (vs : List T), allV sz vs → (vs.flatMap T.cells).all T.one = true
 | [], _ => rfl
 | v :: vs, h => by simp only [List.flatMap_cons, List.all_append, h.2.1, mW_ vs h.2.2, Bool.and_self]
theorem vB_ {m : Mo} (hm : m.chg = true) (hmb : m.base σ0) {t e len sz : Nat} {parts : Array (Nat × Operand)} {z : Bool} {vs zc cs us : List T} {v : T} (hw : want ops L g = some true) (hS : Sub L s) (hH : Heap σ0 σ (ents ++ es)) (hg : gPs (get L) parts.toList = some (enumV 0 vs))
  (he : ao_ P t = some e) (hz : szOf P e = some sz) (hzz : aT_ P e = some zc) (hl : (Nat.beq zc.length sz && Nat.beq vs.length len && Nat.ble (len * sz) 16777216 && !Nat.beq sz 0 && !Nat.beq len 0) = true) (hv : allV sz vs) (hc : vs.flatMap T.cells = cs)
  (hh : HL z cs us ents) (hr : T.row false len us = v)
  (kk : ∀ t' σ' s', ar_ t' → Heap σ0 σ' (.own z sz t' v :: es) → Sub (putL L d t') s' → opsX P O ops (nxM m) l K ⟨s', σ'⟩) : opsX P O ops m (⟨d, .buildSlice t len parts, ty, ps, af, g⟩ :: l) K ⟨s, σ⟩ := by
 simp only [Bool.and_eq_true, Bool.not_eq_true'] at hl
 obtain ⟨⟨⟨⟨l1, l2⟩, l3⟩, l4⟩, l5⟩ := hl
 have l1 := Nat.eq_of_beq_eq_true l1; have l2 := Nat.eq_of_beq_eq_true l2; have l3 := Nat.le_of_ble_eq_true l3; have l4 := Nat.ne_of_beq_eq_false l4; have l5 := Nat.ne_of_beq_eq_false l5
 subst hr
 have hlen : cs.length = len * sz := by rw [← hc, ← l2]; exact kz_ vs hv
 refine hL_ hm rfl (aF_ hS hw) fun k hk hi => ⟨T.ref (σ.nid k) 0 0 len, σ.pushK k (aH_ cs sz), ?_, Cg.push hk, ?_⟩
 ·rw [f1_, he, Option.bind_some, hz, Option.bind_some, hzz, Option.bind_some, f8_ hS hg, Option.bind_some, il_, if_pos ⟨l1, l3, l4, hk⟩]
  have := it_ zc l1 vs [] 0 (by simp) hv
  simp only [List.nil_append, l2, hc] at this
  rw [this, if_neg l5]; rfl
 ·rw [cb_]; exact kk _ _ _ ⟨rfl, rfl⟩ (hH.mkRowK hk (Mo.inb_base hi hmb) l4 l5 hlen (by rw [← hc]; exact mW_ vs hv) hh) (aS_ hS d _ σ)
theorem vH_ {m : Mo} (hm : m.chg = true) (hmb : m.base σ0) {t e sz : Nat} {z : Bool} {zc : List T} (hw : want ops L g = some true) (hS : Sub L s) (hH : Heap σ0 σ es)
  (he : ao_ P t = some e) (hz : szOf P e = some sz) (hzz : aT_ P e = some zc) (hl : (Nat.beq zc.length sz && !Nat.beq sz 0) = true)
  (kk : ∀ t' σ' s', ar_ t' → Heap σ0 σ' (.own z sz t' (.row false 0 []) :: es) → Sub (putL L d t') s' → opsX P O ops (nxM m) l K ⟨s', σ'⟩) : opsX P O ops m (⟨d, .buildSlice t 0 #[], ty, ps, af, g⟩ :: l) K ⟨s, σ⟩ := by
 simp only [Bool.and_eq_true, Bool.not_eq_true'] at hl
 have l1 := Nat.eq_of_beq_eq_true hl.1; have l4 := Nat.ne_of_beq_eq_false hl.2
 refine hL_ hm rfl (aF_ hS hw) fun k hk hi => ⟨T.emp, σ.pushK k (aH_ [] sz), ?_, Cg.push hk, ?_⟩
 ·rw [f1_, he, Option.bind_some, hz, Option.bind_some, hzz, Option.bind_some]
  show (some []).bind _ = _
  rw [Option.bind_some, il_, if_pos ⟨l1, by omega, l4, hk⟩]; rfl
 ·rw [cb_]; exact kk _ _ _ ⟨rfl, rfl⟩ ((hH.junk hk (Mo.inb_base hi hmb) _).addEmp z sz) (aS_ hS d _ σ)
theorem cS_ {z : Bool} {k : Nat} {t : T} {zz : Bool} {n : Nat} {cs : List T} {S : List Nat} (ht : isTop t = true) (h : hold z σ k t = some (.row zz n cs, S)) :
  (t = .row true 0 [] ∧ zz = true ∧ n = 0 ∧ cs = [] ∧ S = []) ∨ (t = .emp ∧ zz = false ∧ n = 0 ∧ cs = [] ∧ S = []) ∨
  (zz = false ∧ ∃ b B S' k', t = .ref b B.ep 0 n ∧ σ.blk b = some B ∧ (z = true → B.st = true) ∧ B.low ≤ B.ep ∧ B.cells.length = n * B.esz ∧ B.esz ≠ 0 ∧ B.cells.all T.one = true ∧ frzL (hold z σ k') B.cells = some (cs, S') ∧ S = b :: S') := by
 cases t with
 | row z' n' cs' =>
  cases z' <;> cases n' <;> cases cs' <;> simp [isTop] at ht
  simp at h; obtain ⟨⟨rfl, rfl, rfl⟩, rfl⟩ := h; simp
 | emp => cases k <;> simp [hold] at h <;> (obtain ⟨⟨rfl, rfl, rfl⟩, rfl⟩ := h; simp)
 | ref b e off n' =>
  cases k with
  | zero => simp [hold] at h
  | succ k =>
   simp only [hold] at h
   obtain ⟨B, hb, h1⟩ := Option.bind_eq_some_iff.1 h
   split at h1
   ·rename_i hc
    obtain ⟨⟨us, S1⟩, h2, h3⟩ := Option.map_eq_some_iff.1 h1
    injection h3 with h3 h4; injection h3 with h5 h6 h7
    subst h4; subst h5; subst h6; subst h7
    obtain ⟨c1, rfl, c3, rfl, c5, c6, c7, _⟩ := hc
    exact .inr (.inr ⟨rfl, b, B, S1, k, rfl, hb, c1, c3, c5, c6, c7, h2, rfl⟩)
   ·cases h1
 | _ => simp [isTop] at ht
def appS {α : Type} (by_ : Nat) (a b : Sl α) : Option (Sl α) := match b.l with
 | [] => some a
 | _ :: _ => if (a.l.length + b.l.length) * by_ ≤ 1099511627776 then some ⟨false, a.l ++ b.l⟩ else none
theorem hb_ {α : Type} {by_ : Nat} {a b c : Sl α} (h : appS by_ a b = some c) : (b.l = [] ∧ c = a) ∨ (b.l ≠ [] ∧ (a.l.length + b.l.length) * by_ ≤ 1099511627776 ∧ c = ⟨false, a.l ++ b.l⟩) := by
 unfold appS at h
 split at h
 ·rename_i e; injection h with h; exact .inl ⟨e, h.symm⟩
 ·rename_i x xs e
  split at h
  ·rename_i hc; injection h with h; exact .inr ⟨by rw [e]; simp, hc, h.symm⟩
  ·cases h
theorem nY_ {α : Type} [Enc α] {z : Bool} {t1 : T} {a b : Sl α} {news : List T} {kx : Option Nat} (hkx : σ.okK kx = true) (hbk : ∀ i, kx = some i → σ0.next ≤ i) (hH : Heap σ0 σ (.own z (Enc.w α) t1 a.t :: ents ++ es)) (hb : b.l ≠ []) (h1 : news.all T.one = true)
  (hn : news.length = b.l.length * Enc.w α) (hsz : Enc.w α ≠ 0) (hh : ∀ S σ', cB_ σ ents S → S.Nodup → (∀ x ∈ S, σ'.blk x = σ.blk x) → ∃ S2 k, (∀ x ∈ S2, x ∈ S) ∧ S2.Nodup ∧ frzL (hold z σ' k) news = some (ah_ b.l, S2)) :
  ((t1 = .row true 0 [] ∨ t1 = .emp) ∧ a.l.length = 0 ∧ Heap σ0 (σ.pushK kx (aH_ news (Enc.w α))) (.own z (Enc.w α) (.ref (σ.nid kx) 0 0 b.l.length) (Sl.t ⟨false, a.l ++ b.l⟩) :: es)) ∨
  (∃ x B, t1 = .ref x B.ep 0 a.l.length ∧ σ.blk x = some B ∧ B.cells.length = a.l.length * B.esz ∧ B.low ≤ B.ep ∧ B.esz = Enc.w α ∧ Heap σ0 (σ.set x { B with cells := B.cells ++ news, ep := B.ep + 1, ver := B.ver + 1 }) (.own z (Enc.w α) (.ref x (B.ep + 1) 0 (a.l.length + b.l.length)) (Sl.t ⟨false, a.l ++ b.l⟩) :: es)) := by
 obtain ⟨S, ⟨ht, hwd, k, h2⟩, _, _⟩ := hH.head
 have ea : a.t = .row a.z a.l.length (ah_ a.l) := rfl
 rw [ea] at h2
 have fresh : a.l = [] → Heap σ0 (σ.pushK kx (aH_ news (Enc.w α))) (.own z (Enc.w α) (.ref (σ.nid kx) 0 0 b.l.length) (Sl.t ⟨false, a.l ++ b.l⟩) :: es) := fun ha => by
  have h0 : σ0.next ≤ σ.nid kx := by
   cases kx with
   | none => exact hH.grow.nx
   | some i => exact hbk i rfl
  have hf := gl_ hkx
  refine Heap.stepN (es1 := .own z (Enc.w α) t1 a.t :: ents) (es2 := [.own z (Enc.w α) (.ref (σ.nid kx) 0 0 b.l.length) (Sl.t ⟨false, a.l ++ b.l⟩)]) (es := es) hH ec_ (fun b hb' => by rw [bu_, if_neg (by omega)]) fun F hF hnd hbd => ?_
  have hall := hF.some
  obtain ⟨S1, F1, rfl, h3, h4⟩ := hF
  have hs : ∀ y ∈ F1, (σ.pushK kx (aH_ news (Enc.w α))).blk y = σ.blk y := fun y hy => en_ hkx (hall y (by simp [hy])) (hbd y (by simp [hy])).2
  obtain ⟨S2, k2, q1, q2, q3⟩ := hh F1 _ h4 (List.nodup_append.1 hnd).2.1 hs
  have hself : (σ.pushK kx (aH_ news (Enc.w α))).blk (σ.nid kx) = some (aH_ news (Enc.w α)) := by rw [bu_, if_pos rfl]
  have hnot : σ.nid kx ∉ S2 := fun hm => by
   have hm := q1 _ hm
   rcases hf with hf | ⟨hf, _⟩
   ·have := (hbd (σ.nid kx) (by simp [hm])).2; omega
   ·have := hall (σ.nid kx) (by simp [hm]); rw [hf] at this; cases this
  refine ⟨σ.nid kx :: S2, ⟨σ.nid kx :: S2, [], by simp, ⟨rfl, (fun b e o n B h hB _ => by injection h with h; subst h; rw [hself] at hB; injection hB with hB; subst hB; rfl), k2 + 1, ?_⟩, rfl⟩, List.nodup_cons.2 ⟨hnot, q2⟩, ?_, fun y hy hys _ => en_ hkx hys hy⟩
  ·simp only [hold, hself, Option.bind_some, dF_, q3, Option.map_some, ha, List.nil_append, Sl.t]
   rw [if_pos (by simp only [aH_]; exact ⟨fun _ => trivial, trivial, Nat.le_refl _, trivial, hn, hsz, h1, fun e => hb (List.length_eq_zero_iff.1 e)⟩)]
  ·intro y hy
   rcases List.mem_cons.1 hy with rfl | hy
   ·exact .inr ⟨h0, iw_ hkx, hf.imp id fun h => h.1⟩
   ·exact .inl (by simp [q1 _ hy])
 rcases cS_ ht h2 with ⟨rfl, hz, hn0, hcs, rfl⟩ | ⟨rfl, hz, hn0, hcs, rfl⟩ | ⟨hz, x, B, S', k', rfl, hB, c1, c3, c5, c6, c7, h3, rfl⟩
 ·exact .inl ⟨.inl rfl, hn0, fresh (List.length_eq_zero_iff.1 hn0)⟩
 ·exact .inl ⟨.inr rfl, hn0, fresh (List.length_eq_zero_iff.1 hn0)⟩
 ·have hesz := hwd _ _ _ _ _ rfl hB hsz
  refine .inr ⟨x, B, rfl, hB, c5, c3, hesz, ?_⟩
  refine Heap.step (es1 := .own z (Enc.w α) (.ref x B.ep 0 a.l.length) a.t :: ents) (es2 := [.own z (Enc.w α) (.ref x (B.ep + 1) 0 (a.l.length + b.l.length)) (Sl.t ⟨false, a.l ++ b.l⟩)]) (es := es) hH (by simp) fun F hF hnd hbd => ?_
  obtain ⟨S1, F1, rfl, ⟨_, _, k5, h5⟩, h4⟩ := hF
  have : S1 = x :: S' := by
   have e1 := ca_ k _ _ _ h2 (max k k5) (Nat.le_max_left _ _)
   have e2 := ca_ k5 _ _ _ h5 (max k k5) (Nat.le_max_right _ _)
   rw [ea, e1] at e2; injection e2 with e2; injection e2 with _ e2; exact e2.symm
  subst this
  obtain ⟨n1, n2, n3⟩ := List.nodup_append.1 hnd
  have hxS : x ∉ S' := (List.nodup_cons.1 n1).1
  have hxF : x ∉ F1 := fun h => n3 x (by simp) x h rfl
  have hs : ∀ y ∈ F1, (σ.set x { B with cells := B.cells ++ news, ep := B.ep + 1, ver := B.ver + 1 }).blk y = σ.blk y := fun y hy => by
   have hne : y ≠ x := fun e => by subst e; exact hxF hy
   rw [cN_, if_neg hne]
  obtain ⟨S2, k2, q1, q2, q3⟩ := hh F1 _ h4 n2 hs
  have h6 := as_ (g := hold z (σ.set x { B with cells := B.cells ++ news, ep := B.ep + 1, ver := B.ver + 1 }) k') (fun t v S'' _ hq hq2 => er_ k' t v S'' (fun y hy => by
   have hne : y ≠ x := fun e => by subst e; exact hxS (hq2 _ hy)
   rw [cN_, if_neg hne]) hq) h3
  have h7 := dB_ (cs_ (Nat.le_max_left k' k2) h6) (cs_ (Nat.le_max_right k' k2) q3)
  refine ⟨x :: (S' ++ S2), ⟨x :: (S' ++ S2), [], by simp, ⟨rfl, (fun b e o n B' h hB' _ => by injection h with h; subst h; rw [cD_] at hB'; injection hB' with hB'; subst hB'; exact hesz), max k' k2 + 1, ?_⟩, rfl⟩, ?_, ?_, fun y hy hm => by
   have hne : y ≠ x := fun e => hm (by simp [e])
   rw [cN_, if_neg hne]⟩
  ·simp only [hold, cD_, Option.bind_some, h7, Option.map_some, Sl.t, cellsL_append, List.length_append]
   rw [if_pos ⟨c1, trivial, by omega, trivial, by rw [c5, hn, hesz, Nat.add_mul], c6, by rw [List.all_append, c7, h1]; rfl, by have := List.length_pos_iff.2 hb; omega⟩]
  ·refine List.nodup_cons.2 ⟨fun hm => ?_, List.nodup_append.2 ⟨(List.nodup_cons.1 n1).2, q2, fun a ha b hb => n3 a (by simp [ha]) b (q1 b hb)⟩⟩
   rcases List.mem_append.1 hm with hm | hm
   ·exact hxS hm
   ·exact hxF (q1 _ hm)
  ·intro y hy
   refine .inl ?_
   rcases List.mem_cons.1 hy with rfl | hy
   ·simp
   ·rcases List.mem_append.1 hy with hy | hy
    ·simp [hy]
    ·simp [q1 _ hy]
theorem oA_ {α : Type} [Enc α] {z : Bool} {t1 y : T} {a b c : Sl α} {t t2 e by_ : Nat} {zc news : List T} {kx : Option Nat} (hkx : σ.okK kx = true) (hbk : ∀ i, kx = some i → σ0.next ≤ i) (hH : Heap σ0 σ (.own z (Enc.w α) t1 a.t :: ents ++ es)) (hc : appS by_ a b = some c)
  (he : ao_ P t = some e) (hz : szOf P e = some (Enc.w α)) (hby : cu_ P e = some by_) (hzz : aT_ P e = some zc) (hcl : (!cz_ P t2 && Nat.beq zc.length (Enc.w α) && !Nat.beq (Enc.w α) 0 && !Nat.beq by_ 0 && Nat.ble by_ 1048576) = true)
  (hy : e2_ σ (Enc.w α) y = some (b.l.length, news)) (hsrc : e8_ P t2 y = true) (h1 : news.all T.one = true) (hn : news.length = b.l.length * Enc.w α)
  (hh : ∀ S σ', cB_ σ ents S → S.Nodup → (∀ x ∈ S, σ'.blk x = σ.blk x) → ∃ S2 k, (∀ x ∈ S2, x ∈ S) ∧ S2.Nodup ∧ frzL (hold z σ' k) news = some (ah_ b.l, S2))
  : ∃ t' σ', bh_ P kx σ t t2 t1 y = some (t', σ') ∧ ar_ t' ∧ Heap σ0 σ' (.own z (Enc.w α) t' c.t :: es) ∧ σ.next ≤ σ'.next ∧ ∀ x, x < σ.next → kx ≠ some x → σ'.blk x = σ.blk x ∨ ((∃ e o n, t1 = .ref x e o n) ∧ (σ.blk x).isSome = true) := by
 simp only [Bool.and_eq_true, Bool.not_eq_true'] at hcl
 obtain ⟨⟨⟨⟨c1, c2⟩, c3⟩, c4⟩, c5⟩ := hcl
 have c2 := Nat.eq_of_beq_eq_true c2; have c3 := Nat.ne_of_beq_eq_false c3; have c4 := Nat.ne_of_beq_eq_false c4; have c5 := Nat.le_of_ble_eq_true c5
 have start : bh_ P kx σ t t2 t1 y = match t1 with
   | .row true 0 [] => if b.l.length = 0 then some (t1, σ) else if b.l.length * by_ ≤ 2 ^ 40 ∧ σ.okK kx = true then some (.ref (σ.nid kx) 0 0 b.l.length, σ.pushK kx (aH_ news (Enc.w α))) else none
   | .emp => if b.l.length = 0 then some (t1, σ) else if b.l.length * by_ ≤ 2 ^ 40 ∧ σ.okK kx = true then some (.ref (σ.nid kx) 0 0 b.l.length, σ.pushK kx (aH_ news (Enc.w α))) else none
   | .row false n cs => if b.l.length = 0 then some (t1, σ) else none
   | .ref x ep off n => (σ.blk x).bind fun B =>
     if b.l.length = 0 then (if B.esz = Enc.w α ∧ B.low ≤ ep then some (t1, σ) else none)
     else if off = 0 ∧ ep = B.ep ∧ B.esz = Enc.w α ∧ B.cells.length = n * Enc.w α ∧ (n + b.l.length) * by_ ≤ 2 ^ 40 then
      some (.ref x (ep + 1) 0 (n + b.l.length), σ.set x { B with cells := B.cells ++ news, ep := ep + 1, ver := B.ver + 1 })
     else if off = 0 ∧ ep = B.ep ∧ B.esz = Enc.w α ∧ n * Enc.w α ≤ B.cells.length ∧ B.st = true ∧ (n + b.l.length) * by_ ≤ 2 ^ 40 then
      some (.ref x (ep + 2) 0 (n + b.l.length), σ.set x { B with cells := B.cells.take (n * Enc.w α) ++ news, ep := ep + 2, low := ep + 1, ver := B.ver + 2 })
     else none
   | _ => none := by
  unfold bh_
  rw [he, Option.bind_some, hz, Option.bind_some, hby, Option.bind_some, hzz, Option.bind_some, c1, if_neg (by simp), if_neg (by omega), hy, Option.bind_some]
  simp only
  rw [if_neg (by simp [h1, hsrc])]
  cases t1 with
  | row z n cs => cases z <;> cases n <;> cases cs <;> rfl
  | _ => rfl
 rw [start]
 rcases hb_ hc with ⟨hb, rfl⟩ | ⟨hb, hlim, rfl⟩
 ·have hb0 : b.l.length = 0 := by rw [hb]; rfl
  have hH' : Heap σ0 σ (.own z (Enc.w α) t1 c.t :: es) := Heap.step (es1 := .own z (Enc.w α) t1 c.t :: ents) (es2 := [.own z (Enc.w α) t1 c.t]) (es := es) hH (Nat.le_refl _) fun F hF hnd hbd => by
   obtain ⟨S1, F1, rfl, h3, h4⟩ := hF
   exact ⟨S1, ⟨S1, [], by simp, h3, rfl⟩, (List.nodup_append.1 hnd).1, fun x hx => .inl (by simp [hx]), fun _ _ _ => rfl⟩
  obtain ⟨S, ⟨ht, hwd, k, h2⟩, _, _⟩ := hH.head
  have hone := k1_ ht
  rcases cS_ ht h2 with ⟨rfl, _⟩ | ⟨rfl, _⟩ | ⟨_, x, B, S', k', rfl, hB, q1, q3, q5, q6, q7, h3, rfl⟩
  ·exact ⟨_, σ, by simp [hb0], hone, hH', Nat.le_refl _, fun _ _ _ => .inl rfl⟩
  ·exact ⟨_, σ, by simp [hb0], hone, hH', Nat.le_refl _, fun _ _ _ => .inl rfl⟩
  ·refine ⟨_, σ, ?_, hone, hH', Nat.le_refl _, fun _ _ _ => .inl rfl⟩
   simp only [hB, Option.bind_some, hb0, if_true]
   rw [if_pos ⟨hwd _ _ _ _ _ rfl hB c3, q3⟩]
 ·have hb0 : b.l.length ≠ 0 := fun h => hb (List.length_eq_zero_iff.1 h)
  rcases nY_ hkx hbk hH hb h1 hn c3 hh with ⟨h | h, h0, hH'⟩ | ⟨x, B, rfl, hB, q5, q3, hesz, hH'⟩
  ·subst h
   refine ⟨_, _, ?_, ⟨rfl, rfl⟩, hH', ec_, fun x hx hne => .inl (by rw [bu_, if_neg]; rintro rfl; cases kx with | none => simp [St.nid] at hx | some i => exact hne rfl)⟩
   simp only
   rw [if_neg hb0, if_pos ⟨by rw [h0] at hlim; simpa using hlim, hkx⟩]
  ·subst h
   refine ⟨_, _, ?_, ⟨rfl, rfl⟩, hH', ec_, fun x hx hne => .inl (by rw [bu_, if_neg]; rintro rfl; cases kx with | none => simp [St.nid] at hx | some i => exact hne rfl)⟩
   simp only
   rw [if_neg hb0, if_pos ⟨by rw [h0] at hlim; simpa using hlim, hkx⟩]
  ·refine ⟨_, _, ?_, ⟨rfl, rfl⟩, hH', Nat.le_refl _, fun y _ _ => ?_⟩
   rotate_left
   ·by_cases e : y = x
    ·subst e; exact .inr ⟨⟨_, _, _, rfl⟩, by rw [hB]; rfl⟩
    ·exact .inl (by rw [cN_, if_neg e])
   simp only [hB, Option.bind_some]
   rw [if_neg hb0, if_pos ⟨trivial, trivial, hesz, by rw [q5, hesz], hlim⟩]
theorem nb_ {α : Type} [Enc α] {z : Bool} {y : T} {b : Sl α} {t2 : TypeId} (hH : Heap σ0 σ (.own z (Enc.w α) y b.t :: es)) (hsz : Enc.w α ≠ 0) (hk : aD_ P t2 = 4) :
  ∃ news, e2_ σ (Enc.w α) y = some (b.l.length, news) ∧ e8_ P t2 y = true ∧ news.all T.one = true ∧ news.length = b.l.length * Enc.w α ∧
   ∀ S σ', cB_ σ [.own z (Enc.w α) y b.t] S → S.Nodup → (∀ x ∈ S, σ'.blk x = σ.blk x) → ∃ S2 k, (∀ x ∈ S2, x ∈ S) ∧ S2.Nodup ∧ frzL (hold z σ' k) news = some (ah_ b.l, S2) := by
 obtain ⟨S, ⟨ht, hwd, k, h2⟩, _, _⟩ := hH.head
 have eb : b.t = .row b.z b.l.length (ah_ b.l) := rfl
 have h2' := h2
 rw [eb] at h2
 have hs0 : y.isStr = false := by cases y <;> simp [isTop] at ht <;> rfl
 have hsrc : e8_ P t2 y = true := by simp [e8_, hs0, hk]
 rcases cS_ ht h2 with ⟨rfl, hz, hn0, hcs, rfl⟩ | ⟨rfl, hz, hn0, hcs, rfl⟩ | ⟨hz, x, B, S', k', rfl, hB, c1, c3, c5, c6, c7, h3, rfl⟩
 ·exact ⟨[], by simp [e2_, cellsOf, hn0], hsrc, rfl, by simp [hn0], fun S σ' _ _ _ => ⟨[], 0, by simp, by simp, by rw [hcs]; rfl⟩⟩
 ·exact ⟨[], by simp [e2_, cellsOf, hn0], hsrc, rfl, by simp [hn0], fun S σ' _ _ _ => ⟨[], 0, by simp, by simp, by rw [hcs]; rfl⟩⟩
 ·have hesz := hwd _ _ _ _ _ rfl hB hsz
  refine ⟨B.cells, ?_, hsrc, c7, by rw [c5, hesz], fun S σ' hR hnd hx => ?_⟩
  ·have e : (B.cells.drop 0).take (b.l.length * B.esz) = B.cells := by rw [List.drop_zero, ← c5, List.take_length]
   simp only [e2_, cellsOf, hB, Option.bind_some, if_pos c3, e]
   rw [if_pos (by rw [c5, hesz])]
  ·obtain ⟨S1, F1, rfl, ⟨_, _, k5, h5⟩, h4⟩ := hR
   cases h4
   have e : S1 = x :: S' := by
    have e1 := ca_ k _ _ _ h2' (max k k5) (Nat.le_max_left _ _)
    have e2 := ca_ k5 _ _ _ h5 (max k k5) (Nat.le_max_right _ _)
    rw [e1] at e2; injection e2 with e2; injection e2 with _ e2; exact e2.symm
   subst e
   refine ⟨S', k', fun y hy => by simp [hy], ?_, as_ (fun t v S'' _ hq hq2 => er_ k' t v S'' (fun y hy => hx y (by simp [hq2 y hy])) hq) h3⟩
   simp only [List.append_nil] at hnd
   exact (List.nodup_cons.1 hnd).2
theorem sJ_ {m : Mo} (hm : m.chg = true) (hmb : m.base σ0) {α : Type} [Enc α] {z : Bool} {x y : Operand} {t1 ty1 : T} {a b c : Sl α} {t t2 e by_ : Nat} {zc : List T} (hwr : ∀ b e o n, t1 = .ref b e o n → m.wr b) (hw : want ops L g = some true) (hS : Sub L s) (hH : Heap σ0 σ (.own z (Enc.w α) t1 a.t :: .own z (Enc.w α) ty1 b.t :: es))
  (hx : gE (get L) x = some t1) (hy : gE (get L) y = some ty1) (he : ao_ P t = some e) (hz : szOf P e = some (Enc.w α)) (hby : cu_ P e = some by_) (hzz : aT_ P e = some zc)
  (hcl : (!cz_ P t2 && Nat.beq zc.length (Enc.w α) && !Nat.beq (Enc.w α) 0 && !Nat.beq by_ 0 && Nat.ble by_ 1048576) = true) (hk : aD_ P t2 = 4) (hc : appS by_ a b = some c)
  (kk : ∀ t' σ' s', ar_ t' → Heap σ0 σ' (.own z (Enc.w α) t' c.t :: es) → Sub (putL L d t') s' → opsX P O ops (nxM m) l K ⟨s', σ'⟩) : opsX P O ops m (⟨d, .call ⟨.builtin .append, #[x, y], #[t, t2]⟩, ty, ps, af, g⟩ :: l) K ⟨s, σ⟩ := by
 have hsz : Enc.w α ≠ 0 := by simp only [Bool.and_eq_true, Bool.not_eq_true'] at hcl; exact Nat.ne_of_beq_eq_false hcl.1.1.2
 obtain ⟨news, h1, h2, h3, h4, h5⟩ := nb_ (P := P) (t2 := t2) (hH.pull 1) hsz hk
 refine hL_ hm rfl (aF_ hS hw) fun kx hkx hi => ?_
 obtain ⟨t', σ', k1, k2, k3, k4, k5⟩ := oA_ hkx (Mo.inb_base hi hmb) (ents := [.own z (Enc.w α) ty1 b.t]) hH hc he hz hby hzz hcl h1 h2 h3 h4 h5
 refine ⟨t', σ', ?_, ⟨k4, fun x hx hne => (k5 x hx hne).imp id fun h => ⟨by obtain ⟨⟨e, o, n, h1⟩, _⟩ := h; exact hwr x e o n h1, h.2⟩⟩, ?_⟩
 ·have ev : bT_ s [x, y] = some [t1, ty1] := by simp only [bT_, ag_ hS hx, ag_ hS hy, Option.bind_some, Option.map_some]
  show ((bT_ s [x, y]).bind fun args => match args, [t, t2] with | [x, y], [t, t2] => (bh_ P kx σ t t2 x y).map fun (x, σ) => ARes.val x σ | _, _ => none) = _
  rw [ev, Option.bind_some]
  show (bh_ P kx σ t t2 _ _).map _ = _
  rw [k1]; rfl
 ·rw [cb_]; exact kk _ _ _ k2 k3 (aS_ hS d _ σ)
theorem oe_ {m : Mo} (hm : m.chg = true) (hmb : m.base σ0) {α : Type} [Enc α] {z : Bool} [Hld z α] {x y : Operand} {t1 : T} {a b c : Sl α} {t t2 e by_ : Nat} {zc : List T} (hwr : ∀ b e o n, t1 = .ref b e o n → m.wr b) (hw : want ops L g = some true) (hS : Sub L s) (hH : Heap σ0 σ (.own z (Enc.w α) t1 a.t :: es))
  (hx : gE (get L) x = some t1) (hy : gE (get L) y = some b.t) (he : ao_ P t = some e) (hz : szOf P e = some (Enc.w α)) (hby : cu_ P e = some by_) (hzz : aT_ P e = some zc)
  (hcl : (!cz_ P t2 && Nat.beq zc.length (Enc.w α) && !Nat.beq (Enc.w α) 0 && !Nat.beq by_ 0 && Nat.ble by_ 1048576) = true) (hk : aD_ P t2 = 4) (hc : appS by_ a b = some c)
  (kk : ∀ t' σ' s', ar_ t' → Heap σ0 σ' (.own z (Enc.w α) t' c.t :: es) → Sub (putL L d t') s' → opsX P O ops (nxM m) l K ⟨s', σ'⟩) : opsX P O ops m (⟨d, .call ⟨.builtin .append, #[x, y], #[t, t2]⟩, ty, ps, af, g⟩ :: l) K ⟨s, σ⟩ := by
 have h1 : e2_ σ (Enc.w α) b.t = some (b.l.length, ah_ b.l) := by simp only [e2_, Sl.t, cellsOf, Option.bind_some, cellsL_len, if_true]
 have h2 : e8_ P t2 b.t = true := by simp [e8_, Sl.t, T.isStr, hk]
 refine hL_ hm rfl (aF_ hS hw) fun kx hkx hi => ?_
 obtain ⟨t', σ', k1, k2, k3, k4, k5⟩ := oA_ hkx (Mo.inb_base hi hmb) (ents := []) hH hc he hz hby hzz hcl h1 h2 (cellsL_one b.l) (cellsL_len b.l) (fun S σ' _ _ _ => ⟨[], 0, by simp, by simp, Hld.list σ' 0 b.l⟩)
 refine ⟨t', σ', ?_, ⟨k4, fun x hx hne => (k5 x hx hne).imp id fun h => ⟨by obtain ⟨⟨e, o, n, h1⟩, _⟩ := h; exact hwr x e o n h1, h.2⟩⟩, ?_⟩
 ·have ev : bT_ s [x, y] = some [t1, b.t] := by simp only [bT_, ag_ hS hx, ag_ hS hy, Option.bind_some, Option.map_some]
  show ((bT_ s [x, y]).bind fun args => match args, [t, t2] with | [x, y], [t, t2] => (bh_ P kx σ t t2 x y).map fun (x, σ) => ARes.val x σ | _, _ => none) = _
  rw [ev, Option.bind_some]
  show (bh_ P kx σ t t2 _ _).map _ = _
  rw [k1]; rfl
 ·rw [cb_]; exact kk _ _ _ k2 k3 (aS_ hS d _ σ)
theorem ue_ {α : Type} [Enc α] {z : Bool} [Hld z α] {x y : Operand} {t1 : T} {a b c : Sl α} {t t2 e by_ : Nat} {zc : List T} (hw : want ops L g = some true) (hS : Sub L s) (hH : Heap σ0 σ (.own z (Enc.w α) t1 a.t :: es))
  (hx : gE (get L) x = some t1) (hy : gE (get L) y = some b.t) (he : ao_ P t = some e) (hz : szOf P e = some (Enc.w α)) (hby : cu_ P e = some by_) (hzz : aT_ P e = some zc)
  (hcl : (!cz_ P t2 && Nat.beq zc.length (Enc.w α) && !Nat.beq (Enc.w α) 0 && !Nat.beq by_ 0 && Nat.ble by_ 1048576) = true) (hk : aD_ P t2 = 4) (hc : appS by_ a b = some c)
  (kk : ∀ t' σ' s', ar_ t' → Heap σ0 σ' (.own z (Enc.w α) t' c.t :: es) → Sub (putL L d t') s' → opsX P O ops .q l K ⟨s', σ'⟩) : opsX P O ops .q (⟨d, .call ⟨.builtin .append, #[x, y], #[t, t2]⟩, ty, ps, af, g⟩ :: l) K ⟨s, σ⟩ :=
 oe_ (m := .q) rfl trivial (fun _ _ _ _ _ => trivial) hw hS hH hx hy he hz hby hzz hcl hk hc kk
theorem d2_ {α : Type} [Enc α] (x : α) : ∀ n, ah_ (List.replicate n x) = (List.replicate n (Enc.cells x)).flatten
 | 0 => rfl
 | n + 1 => by simp only [List.replicate_succ, ah_, List.flatten_cons, d2_ x n]
theorem tY_ {α : Type} [Enc α] {z : Bool} {x : Operand} {w : Nat} {t1 : T} {a : Sl α} {t : TypeId} {m : Mo} (hw : want ops L g = some true) (hS : Sub L s) (hH : Heap σ0 σ (.own z w t1 a.t :: es)) (hx : gE (get L) x = some t1) (hk : aD_ P t = 4)
  (kk : ∀ s', Sub (putL L d (.int .i64 a.l.length)) s' → opsX P O ops (nxM m) l K ⟨s', σ⟩) : opsX P O ops m (⟨d, .call ⟨.builtin .len, #[x], #[t]⟩, ty, ps, af, g⟩ :: l) K ⟨s, σ⟩ := by
 obtain ⟨S, ⟨ht, hwd, k, h2⟩, _, _⟩ := hH.head
 have ea : a.t = .row a.z a.l.length (ah_ a.l) := rfl
 rw [ea] at h2
 have hl : lenA P σ t t1 = some (.int .i64 a.l.length) := by
  rcases cS_ ht h2 with ⟨rfl, hz, hn0, hcs, rfl⟩ | ⟨rfl, hz, hn0, hcs, rfl⟩ | ⟨hz, x, B, S', k', rfl, hB, _⟩
  ·simp [hk, hn0]
  ·simp [hk, hn0]
  ·simp [hk]
 refine dX_ hw hS (fun kk σ' _ => ?_) kk
 have ev : bT_ s [x] = some [t1] := by simp only [bT_, ag_ hS hx, Option.bind_some, Option.map_some]
 rw [rt_]
 show (bT_ s [x]).bind _ = _
 rw [ev, Option.bind_some, lJ_, lZ_ P σ' σ, hl]; rfl
end
section
variable {P : Program} {O : ax_} {ops : Array Oper} {l : List Oper} {K : Fr → Prop} {s : Nat → T} {σ σ0 : St} {L : List (Nat × T)} {es ents : List Ent}
variable {d : Option Nat} {ty : TypeId} {ps : String} {af : Array Edge} {g : Option (Nat × Bool)}
theorem e7_ {f : T → Option (T × List Nat)} : ∀ {ts vs : List T} {F : List Nat} (n : Nat), frzL f ts = some (vs, F) → ∃ F1 F2, F = F1 ++ F2 ∧ frzL f (ts.take n) = some (vs.take n, F1) ∧ frzL f (ts.drop n) = some (vs.drop n, F2)
 | ts, vs, F, 0, h => ⟨[], F, rfl, by simp [frzL], by simpa using h⟩
 | [], vs, F, n + 1, h => by simp [frzL] at h; obtain ⟨rfl, rfl⟩ := h; exact ⟨[], [], rfl, by simp [frzL], by simp [frzL]⟩
 | t :: ts, vs, F, n + 1, h => by
  simp only [frzL] at h
  obtain ⟨⟨v0, S0⟩, h1, h2⟩ := Option.bind_eq_some_iff.1 h
  obtain ⟨⟨us, S1⟩, h3, h4⟩ := Option.map_eq_some_iff.1 h2
  injection h4 with h4 h5; subst h4; subst h5
  obtain ⟨F1, F2, rfl, h6, h7⟩ := e7_ n h3
  exact ⟨S0 ++ F1, F2, by simp, by simp only [List.take_succ_cons, frzL, h1, Option.bind_some, h6, Option.map_some], by simpa using h7⟩
theorem qr_ {α : Type} [Enc α] {z : Bool} {w : Nat} {t1 : T} {a : Sl α} {j : Int} {y : α} (hH : Heap σ0 σ (.own z w t1 a.t :: es)) (hy : elt a j = some y) : ∃ b ep, t1 = .ref b ep 0 a.l.length := by
 obtain ⟨S, ⟨ht, hwd, k, h2⟩, _, _⟩ := hH.head
 have ea : a.t = .row a.z a.l.length (ah_ a.l) := rfl
 rw [ea] at h2
 obtain ⟨q1, q2, q3⟩ := fl_ hy
 rcases cS_ ht h2 with ⟨rfl, hz, hn0, hcs, rfl⟩ | ⟨rfl, hz, hn0, hcs, rfl⟩ | ⟨hz, x, B, S', k', rfl, hB, _⟩
 ·omega
 ·omega
 ·exact ⟨_, _, rfl⟩
theorem j6_ {α : Type} [Enc α] {f : T → Option (T × List Nat)} {B : Blk} {a : List α} {S : List Nat} (h : B.cells.length = a.length * B.esz) (h3 : frzL f B.cells = some (ah_ a, S)) (hn : 0 < a.length) : B.esz = Enc.w α := by
 have h4 := iZ_ h3
 rw [cellsL_len, h] at h4
 exact (Nat.eq_of_mul_eq_mul_left hn h4).symm
theorem tS_ {α : Type} [Enc α] {z : Bool} {w : Nat} {m : Mo} {x i : Operand} {t e : TypeId} {t1 : T} {a : Sl α} {kk : IntKind} {j : Int} {y : α} (hm : ∀ b e o n, t1 = .ref b e o n → m.lt b) (hw : want ops L g = some true) (hS : Sub L s) (hH : Heap σ0 σ (.own z w t1 a.t :: es)) (hx : gE (get L) x = some t1) (hi : gE (get L) i = some (.int kk j))
  (he : ao_ P t = some e) (hz : szOf P e = some (Enc.w α)) (hy : elt a j = some y)
  (k : ∀ b ep s', t1 = .ref b ep 0 a.l.length → Sub (putL L d (.ptr b ep (j.toNat * Enc.w α) (Enc.w α))) s' → opsX P O ops (nxM m) l K ⟨s', σ⟩) : opsX P O ops m (⟨d, .indexAddr t x i, ty, ps, af, g⟩ :: l) K ⟨s, σ⟩ := by
 obtain ⟨b, ep, hr⟩ := qr_ hH hy
 obtain ⟨q1, q2, q3⟩ := fl_ hy
 obtain ⟨S, ⟨ht, hwd, k', h2⟩, _, _⟩ := hH.head
 have ea : a.t = .row a.z a.l.length (ah_ a.l) := rfl
 rw [ea] at h2
 rcases cS_ ht h2 with ⟨rfl, hz, hn0, hcs, rfl⟩ | ⟨rfl, hz, hn0, hcs, rfl⟩ | ⟨hzz, x', B, S', k'', rfl, hB, c1, c3, c5, c6, c7, h3, rfl⟩
 ·cases hr
 ·cases hr
 ·injection hr with e1 e2 _ _
  subst e1; subst e2
  refine dX_ hw hS (fun kk σ' ha' => ?_) (fun s' => k x' B.ep s' rfl)
  rw [gQ_, ag_ hS hx, Option.bind_some, ag_ hS hi, Option.bind_some, qx_, he, Option.bind_some, hz, Option.bind_some, Mo.al_blk ha' (hm _ _ _ _ rfl), hB, Option.bind_some, if_pos ⟨q1, q2, j6_ c5 h3 (by omega)⟩, Nat.zero_add]; rfl
theorem r5_ {α : Type} [Enc α] {z : Bool} {w : Nat} {m : Mo} {ad : Operand} {t : TypeId} {t1 : T} {a : Sl α} {j : Int} {y : α} {b ep off n : Nat} {c : List T} {v : T} (hm : ∀ b e o n, t1 = .ref b e o n → m.lt b) (hw : want ops L g = some true) (hS : Sub L s) (hH : Heap σ0 σ (.own z w t1 a.t :: es)) (hr : t1 = .ref b ep 0 a.l.length)
  (ha : gE (get L) ad = some (.ptr b ep (j.toNat * Enc.w α + off) n)) (hy : elt a j = some y) (hc : Enc.cells y = c) (hag : j2_ P t = some false) (hv : c[off]? = some v) (hn : Nat.ble 1 n = true) (hlf : ∀ σ d t S, hold z σ d t = some (v, S) → t = v)
  (k : ∀ s', Sub (putL L d v) s' → opsX P O ops (nxM m) l K ⟨s', σ⟩) : opsX P O ops m (⟨d, .load t ad, ty, ps, af, g⟩ :: l) K ⟨s, σ⟩ := by
 obtain ⟨q1, q2, q3⟩ := fl_ hy
 obtain ⟨S, ⟨ht, hwd, k', h2⟩, _, _⟩ := hH.head
 have ea : a.t = .row a.z a.l.length (ah_ a.l) := rfl
 rw [ea] at h2
 rcases cS_ ht h2 with ⟨rfl, hz, hn0, hcs, rfl⟩ | ⟨rfl, hz, hn0, hcs, rfl⟩ | ⟨hzz, x', B, S', k'', rfl, hB, c1, c3, c5, c6, c7, h3, rfl⟩
 ·cases hr
 ·cases hr
 ·injection hr with e1 e2 _ _
  subst e1; subst e2
  obtain ⟨F1, F2, _, _, h5⟩ := e7_ (j.toNat * Enc.w α) h3
  rw [g2_ a.l j.toNat y q3, hc] at h5
  obtain ⟨F3, F4, _, _, h6⟩ := e7_ off h5
  have hoff : off < c.length := (List.getElem?_eq_some_iff.1 hv).1
  have e1 : (c ++ ah_ (a.l.drop (j.toNat + 1))).drop off = v :: ((c ++ ah_ (a.l.drop (j.toNat + 1))).drop (off + 1)) := by
   rw [List.drop_eq_getElem_cons (by simp; omega)]
   congr 1
   rw [List.getElem_append_left hoff]
   exact (List.getElem?_eq_some_iff.1 hv).2
  rw [e1, List.drop_drop] at h6
  have hlen : (B.cells.drop (j.toNat * Enc.w α + off)) ≠ [] := fun h => by rw [h] at h6; simp [frzL] at h6
  obtain ⟨c0, cr, hcr⟩ := List.exists_cons_of_ne_nil hlen
  rw [hcr] at h6
  simp only [frzL] at h6
  obtain ⟨p, h7, h8⟩ := Option.bind_eq_some_iff.1 h6
  obtain ⟨q, h9, h10⟩ := Option.map_eq_some_iff.1 h8
  injection h10 with h10 _
  injection h10 with h10 _
  have hcv : c0 = v := hlf σ k'' c0 p.2 (by rw [h7, ← h10])
  refine dX_ hw hS (fun kk σ' ha' => ?_) k
  rw [i2_, ag_ hS ha, Option.bind_some, fg_, Mo.al_blk ha' (hm _ _ _ _ rfl), hB, Option.bind_some, if_pos c3, oG_, hag, Option.bind_some, iQ_, hcr, hcv]
  have := Nat.le_of_ble_eq_true hn
  obtain ⟨n, rfl⟩ : ∃ k, n = k + 1 := ⟨n - 1, by omega⟩
  simp
theorem pF_ {z : Bool} {k : IntKind} {n : Int} : ∀ (σ : St) (d : Nat) (t : T) (S : List Nat), hold z σ d t = some (.int k n, S) → t = .int k n := fun σ d t S h => by
 cases t with
 | row zz m cs => have := (hg_ h).1; cases this
 | ref b e o m =>
  cases d with
  | zero => simp [hold] at h
  | succ d =>
   simp only [hold] at h
   obtain ⟨B, _, h⟩ := Option.bind_eq_some_iff.1 h
   split at h
   ·obtain ⟨q, _, h⟩ := Option.map_eq_some_iff.1 h; injection h with h _; cases h
   ·cases h
 | agg cs => cases d <;> simp [hold] at h
 | tup cs => cases d <;> simp [hold] at h
 | emp => cases d <;> simp [hold] at h
 | _ => cases d <;> simp [hold] at h <;> simp_all
theorem pb_ {z : Bool} {n : Bool} : ∀ (σ : St) (d : Nat) (t : T) (S : List Nat), hold z σ d t = some (.bool n, S) → t = .bool n := fun σ d t S h => by
 cases t with
 | row zz m cs => have := (hg_ h).1; cases this
 | ref b e o m =>
  cases d with
  | zero => simp [hold] at h
  | succ d =>
   simp only [hold] at h
   obtain ⟨B, _, h⟩ := Option.bind_eq_some_iff.1 h
   split at h
   ·obtain ⟨q, _, h⟩ := Option.map_eq_some_iff.1 h; injection h with h _; cases h
   ·cases h
 | agg cs => cases d <;> simp [hold] at h
 | tup cs => cases d <;> simp [hold] at h
 | emp => cases d <;> simp [hold] at h
 | _ => cases d <;> simp [hold] at h <;> simp_all
theorem pS_ {z : Bool} {n : ByteArray} : ∀ (σ : St) (d : Nat) (t : T) (S : List Nat), hold z σ d t = some (.str n, S) → t = .str n := fun σ d t S h => by
 cases t with
 | row zz m cs => have := (hg_ h).1; cases this
 | ref b e o m =>
  cases d with
  | zero => simp [hold] at h
  | succ d =>
   simp only [hold] at h
   obtain ⟨B, _, h⟩ := Option.bind_eq_some_iff.1 h
   split at h
   ·obtain ⟨q, _, h⟩ := Option.map_eq_some_iff.1 h; injection h with h _; cases h
   ·cases h
 | agg cs => cases d <;> simp [hold] at h
 | tup cs => cases d <;> simp [hold] at h
 | emp => cases d <;> simp [hold] at h
 | _ => cases d <;> simp [hold] at h <;> simp_all
def setS {α : Type} (a : Sl α) (j : Int) (y : α) : Sl α := ⟨a.z, a.l.set j.toNat y⟩
theorem jG_ {α : Type} [Enc α] : ∀ (l : List α) (i : Nat) (x y : α), l[i]? = some x → ah_ (l.set i y) = (ah_ l).take (i * Enc.w α) ++ Enc.cells y ++ (ah_ l).drop (i * Enc.w α + Enc.w α)
 | [], i, x, y, h => by simp at h
 | a :: l, 0, x, y, h => by simp [ah_, Enc.len]
 | a :: l, i + 1, x, y, h => by
  have ih := jG_ l i x y (by simpa using h)
  simp only [List.set_cons_succ, ah_, ih]
  rw [List.take_append, List.drop_append, Enc.len, List.take_of_length_le (l := Enc.cells a) (by rw [Enc.len, Nat.succ_mul]; omega), List.drop_of_length_le (l := Enc.cells a) (by rw [Enc.len, Nat.succ_mul]; omega), show (i + 1) * Enc.w α - Enc.w α = i * Enc.w α by rw [Nat.succ_mul]; omega, show (i + 1) * Enc.w α + Enc.w α - Enc.w α = i * Enc.w α + Enc.w α by rw [Nat.succ_mul]; omega]
  simp
theorem nC_ (A c R vs : List T) (p o n w : Nat) (hA : A.length = p) (hc : c.length = w) (h : o + n ≤ w) :
  A ++ (c.take o ++ vs ++ c.drop (o + n)) ++ (A ++ (c ++ R)).drop (p + w) = (A ++ (c ++ R)).take (p + o) ++ vs ++ ((A ++ (c ++ R)).drop (p + o)).drop n := by
 subst hA; subst hc
 have e1 : (A ++ (c ++ R)).drop (A.length + c.length) = R := by rw [← List.drop_drop, List.drop_left, List.drop_left]
 have e2 : (A ++ (c ++ R)).take (A.length + o) = A ++ c.take o := by
  rw [List.take_append, List.take_of_length_le (by omega), Nat.add_sub_cancel_left, List.take_append_of_le_length (by omega)]
 have e3 : ((A ++ (c ++ R)).drop (A.length + o)).drop n = c.drop (o + n) ++ R := by
  rw [← List.drop_drop, List.drop_left, List.drop_drop, List.drop_append_of_le_length (by omega)]
 rw [e1, e2, e3]; simp
theorem oT_ {m : Mo} (hmc : m.chg = true) {α : Type} [Enc α] {w : Nat} {ad x : Operand} {t : TypeId} {t1 : T} {a : Sl α} {j : Int} {y y' : α} {b ep off n : Nat} {c us vs : List T} {v : T} (hwr : m.wr b) (hw : want ops L g = some true) (hS : Sub L s) (hH : Heap σ0 σ (.own true w t1 a.t :: ents ++ es)) (hr : t1 = .ref b ep 0 a.l.length)
  (ha : gE (get L) ad = some (.ptr b ep (j.toNat * Enc.w α + off) n)) (hx : gE (get L) x = some v) (hcs : v.cells = us) (h1 : us.all T.one = true) (hsz : szOf P t = some us.length) (hn : Nat.ble us.length n = true) (hy : elt a j = some y) (hc : Enc.cells y = c)
  (hh : HL true us vs ents) (hb : Nat.ble (off + us.length) (Enc.w α) = true) (hc' : Enc.cells y' = c.take off ++ vs ++ c.drop (off + us.length))
  (k : ∀ σ' s', Heap σ0 σ' (.own true w t1 (setS a j y').t :: es) → Sub (putL L d (.tup [])) s' → opsX P O ops (nxM m) l K ⟨s', σ'⟩) : opsX P O ops m (⟨d, .store t ad x, ty, ps, af, g⟩ :: l) K ⟨s, σ⟩ := by
 obtain ⟨q1, q2, q3⟩ := fl_ hy
 subst hr
 obtain ⟨S, ⟨ht, hwd, k', h2⟩, _, _⟩ := hH.head
 have ea : a.t = .row a.z a.l.length (ah_ a.l) := rfl
 rw [ea] at h2
 rcases cS_ ht h2 with ⟨hq, _⟩ | ⟨hq, _⟩ | ⟨hzz, x', B, S', k'', hq, hB, c1, c3, c5, c6, c7, h3, rfl⟩
 ·cases hq
 ·cases hq
 injection hq with e1 e2 _ _
 subst e1; subst e2
 have hesz := j6_ c5 h3 (by omega)
 have hb := Nat.le_of_ble_eq_true hb
 have hn := Nat.le_of_ble_eq_true hn
 have hpos : j.toNat * Enc.w α + off + us.length ≤ B.cells.length := by
  rw [c5, hesz]
  have : (j.toNat + 1) * Enc.w α ≤ a.l.length * Enc.w α := Nat.mul_le_mul_right _ (by omega)
  rw [Nat.succ_mul] at this; omega
 have hcl : c.length = Enc.w α := by rw [← hc, Enc.len]
 obtain ⟨pos, hpos0⟩ : ∃ pos, pos = j.toNat * Enc.w α + off := ⟨_, rfl⟩
 have hvs : vs.length = us.length := by
  have h4 := Enc.len y'
  rw [hc'] at h4
  simp only [List.length_append, List.length_take, List.length_drop, hcl] at h4
  omega
 refine pw_ (σ' := σ.set b { B with cells := splice B.cells pos us, low := B.ep, ver := B.ver + 1 }) hmc rfl (aF_ hS hw) (fun kk => ?_) (fun kk => ⟨Nat.le_refl _, fun y _ _ => by
  rw [cN_]; split
  ·rename_i e; subst e; exact .inr ⟨hwr, by rw [hB]; rfl⟩
  ·exact .inl rfl⟩) ?_
 ·rw [oF_, ag_ hS ha, Option.bind_some, ag_ hS hx, Option.bind_some, jA_, hB, Option.bind_some, hsz, Option.bind_some, hcs, if_pos ⟨c1 rfl, rfl, rfl, hn, hpos, h1⟩, hpos0]; rfl
 ·rw [cb_]
  refine k _ _ ?_ (aS_ hS d _ σ)
  refine Heap.step (es1 := .own true w (.ref b B.ep 0 a.l.length) a.t :: ents) (es2 := [.own true w (.ref b B.ep 0 a.l.length) (setS a j y').t]) (es := es) hH (by simp) fun F hF hnd hbd => ?_
  obtain ⟨S1, F1, rfl, ⟨_, _, k5, h5⟩, h4⟩ := hF
  have : S1 = b :: S' := by
   have e1 := ca_ k' _ _ _ h2 (max k' k5) (Nat.le_max_left _ _)
   have e2 := ca_ k5 _ _ _ h5 (max k' k5) (Nat.le_max_right _ _)
   rw [ea, e1] at e2; injection e2 with e2; injection e2 with _ e2; exact e2.symm
  subst this
  obtain ⟨n1, n2, n3⟩ := List.nodup_append.1 hnd
  obtain ⟨n4, n5⟩ := List.nodup_cons.1 n1
  have hxF : b ∉ F1 := fun h => n3 b (by simp) b h rfl
  have hs : ∀ y, y ≠ b → (σ.set b { B with cells := splice B.cells pos us, low := B.ep, ver := B.ver + 1 }).blk y = σ.blk y := fun y hne => by rw [cN_, if_neg hne]
  obtain ⟨k2, h6⟩ := hh.sound (h4.same fun x hx => hs x fun e => by subst e; exact hxF hx)
  obtain ⟨G1, G2, rfl, h7, h8⟩ := e7_ pos h3
  obtain ⟨G3, G4, rfl, h9, h10⟩ := e7_ us.length h8
  have cg : ∀ {ts ws : List T} {G : List Nat}, (∀ x ∈ G, x ∈ G1 ++ (G3 ++ G4)) → frzL (hold true σ k'') ts = some (ws, G) → frzL (hold true (σ.set b { B with cells := splice B.cells pos us, low := B.ep, ver := B.ver + 1 }) k'') ts = some (ws, G) := fun hG h =>
   as_ (fun t v S'' _ hq hq2 => er_ k'' t v S'' (fun x hx => hs x fun e => by subst e; exact n4 (hG _ (hq2 _ hx))) hq) h
  have r1 := cg (fun x hx => by simp [hx]) h7
  have r2 := cg (fun x hx => by simp [hx]) h10
  have r3 := dB_ (dB_ (cs_ (Nat.le_max_left k'' k2) r1) (cs_ (Nat.le_max_right k'' k2) h6)) (cs_ (Nat.le_max_left k'' k2) r2)
  refine ⟨b :: (G1 ++ F1 ++ G4), ⟨b :: (G1 ++ F1 ++ G4), [], by simp, ⟨rfl, (fun b' e o n B' h hB' _ => by injection h with h; subst h; rw [cD_] at hB'; injection hB' with hB'; subst hB'; show B.esz = w; exact hwd _ _ _ _ B rfl hB ‹w ≠ 0›), max k'' k2 + 1, ?_⟩, rfl⟩, ?_, ?_, fun y hy hm => hs y fun e => hm (by simp [e])⟩
  ·have hcells : ah_ (setS a j y').l = (ah_ a.l).take pos ++ vs ++ ((ah_ a.l).drop pos).drop us.length := by
    simp only [setS]
    rw [jG_ a.l j.toNat y y' q3, hc', hpos0]
    have hd := g2_ a.l j.toNat y q3
    rw [hc] at hd
    have hsplit : ah_ a.l = (ah_ a.l).take (j.toNat * Enc.w α) ++ (c ++ ah_ (a.l.drop (j.toNat + 1))) := by rw [← hd, List.take_append_drop]
    have hl0 : ((ah_ a.l).take (j.toNat * Enc.w α)).length = j.toNat * Enc.w α := by
     rw [List.length_take, cellsL_len]
     have : (j.toNat + 1) * Enc.w α ≤ a.l.length * Enc.w α := Nat.mul_le_mul_right _ (by omega)
     rw [Nat.succ_mul] at this; omega
    generalize (ah_ a.l).take (j.toNat * Enc.w α) = A at hsplit hl0
    generalize ah_ (a.l.drop (j.toNat + 1)) = R at hsplit
    rw [hsplit]
    have := nC_ A c R vs (j.toNat * Enc.w α) off us.length (Enc.w α) hl0 hcl hb
    exact this
   simp only [hold, cD_, Option.bind_some, kU_, Sl.t]
   have hll : (setS a j y').l.length = a.l.length := by simp [setS]
   simp only [kU_] at r3
   rw [hll, hcells, ← List.drop_drop]
   rw [← List.drop_drop] at r3
   have hall : (List.take pos B.cells ++ us ++ List.drop us.length (List.drop pos B.cells)).all T.one = true := by
    rw [List.all_append, List.all_append, h1, Bool.and_true, Bool.and_eq_true]
    rw [List.all_eq_true] at c7
    exact ⟨List.all_eq_true.2 fun x hx => c7 x (List.mem_of_mem_take hx), List.all_eq_true.2 fun x hx => c7 x (List.mem_of_mem_drop (List.mem_of_mem_drop hx))⟩
   have hz : (setS a j y').z = false := hzz
   rw [r3, if_pos ⟨fun _ => c1 rfl, trivial, Nat.le_refl _, trivial, by simp only [List.length_append, List.length_take, List.length_drop]; rw [← c5]; omega, c6, hall, by omega⟩, hz]
   try rfl
  ·refine List.nodup_cons.2 ⟨fun hm => ?_, ?_⟩
   ·simp only [List.mem_append] at hm
    rcases hm with (hm | hm) | hm
    ·exact n4 (by simp [hm])
    ·exact hxF hm
    ·exact n4 (by simp [hm])
   ·obtain ⟨u1, u2, u3⟩ := List.nodup_append.1 n5
    obtain ⟨u4, u5, u6⟩ := List.nodup_append.1 u2
    refine List.nodup_append.2 ⟨List.nodup_append.2 ⟨u1, n2, fun x hx y hy => n3 x (by simp [hx]) y hy⟩, u5, fun x hx y hy => ?_⟩
    rcases List.mem_append.1 hx with hx | hx
    ·exact u3 x hx y (by simp [hy])
    ·exact fun e => n3 y (by simp [hy]) x hx e.symm
  ·intro x hx
   refine .inl ?_
   simp only [List.mem_cons, List.mem_append] at hx ⊢
   rcases hx with rfl | (hx | hx) | hx
   ·simp
   ·simp [hx]
   ·simp [hx]
   ·simp [hx]
theorem Heap.weaken (h : Heap σ0 σ (ents ++ es)) (ho : (ents.all fun e => match e with | .own .. => true | _ => false) = true) : Heap σ0 σ ((ents.map fun e => match e with | .own _ w t v => .own false w t v | e => e) ++ es) :=
 Heap.step (es1 := ents) (es2 := ents.map _) (es := es) h (Nat.le_refl _) fun S hS hnd hbd => ⟨S, by
  clear h hnd hbd
  induction ents generalizing S with
  | nil => exact hS
  | cons e ents ih =>
   simp only [List.all_cons, Bool.and_eq_true] at ho
   obtain ⟨S1, F, rfl, h1, h2⟩ := hS
   refine ⟨S1, F, rfl, ?_, ih ho.2 F h2⟩
   cases e with
   | own z w t v =>
    obtain ⟨k1, k2, k, k3⟩ := h1
    refine ⟨k1, k2, k, ?_⟩
    cases z with
    | true => exact ex_ _ _ _ _ k3
    | false => exact k3
   | box b cells => exact h1
   | keep F σk => exact h1
   | flt w t v => exact h1
   | frt z w t v => exact h1, hnd, fun b hb => .inl hb, fun _ _ _ => rfl⟩
end
section
variable {P : Program} {md : Nat → Md} {X : Ext} {β : Type} {eb : β → T} {f : Nat} {r : β}
variable {ops : Array Oper} {m : Mo} {l : List Oper} {K : Fr → Prop} {s : Nat → T} {σ σ0 : St} {L : List (Nat × T)} {es ents : List Ent}
variable {d : Option Nat} {ty : TypeId} {ps : String} {af : Array Edge} {g : Option (Nat × Bool)}
theorem lM_ {O : ax_} {o : Oper} {args : List T} {v : T} {σ' : St} (hw : wantedA ops o s = true) (h : aOp P none ⟨s, σ⟩ o = some (.call f args)) (hc : O f args σ = some (v, σ')) (kk : opsX P O ops .q l K (Fr.put ⟨s, σ⟩ o.dst v σ')) : opsX P O ops .q (o :: l) K ⟨s, σ⟩ := by
 show opQ P O ops none o (opsQ P O ops l K) ⟨s, σ⟩
 unfold opQ; simp only [hw, cond_true, h]; exact ⟨v, σ', hc, kk⟩
theorem nn_ {σ : St} {d : Nat} {t : T} (h : flat1 t = true) : hold false σ d t = some (t, []) := by
 cases t with
 | row z n cs => cases z <;> cases n <;> cases cs <;> cases d <;> rfl
 | _ => cases d <;> simp [flat1] at h <;> rfl
theorem h9_ {t : T} (h : flat1 t = true) : flat3 t = true := by cases t <;> simp_all [flat1, flat2, flat3]
theorem HL.frz {z : Bool} {ts vs : List T} (hH : Heap σ0 σ (ents ++ es)) (hh : HL z ts vs ents) : ∃ D S, frzL (frz σ D) ts = some (vs, S) ∧ cB_ σ ents S ∧ S.Nodup ∧ ∀ b ∈ S, σ0.next ≤ b ∧ b < σ.next := by
 obtain ⟨F, h1, h2, h3⟩ := hH.ex
 obtain ⟨F1, F2, rfl, h4, h5⟩ := h1.split
 obtain ⟨k, hk⟩ := hh.sound h4
 exact ⟨k, F1, as_ (fun t v S _ hq _ => fF_ k t v S hq) hk, h4, (List.nodup_append.1 h2).1, fun b hb => h3 b (by simp [hb])⟩
theorem r0_ {z : Bool} {fo : Operand} {as : Array Operand} {tys : Array TypeId} {ts vs : List T} (hw : want ops L g = some true) (hS : Sub L s) (hf : gE (get L) fo = some (.fn f [] [])) (ha : gEs (get L) as.toList = some ts)
  (hv : md f = .view) (hH : Heap σ0 σ (ents ++ es)) (hh : HL z ts vs ents) (hr : semV P md X eb f vs = some r) (hl : leafT (eb r) = true)
  (k : ∀ s', Sub (putL L d (eb r)) s' → opsX P (run P md X) ops (nxM m) l K ⟨s', σ⟩) (hvw : m.vw = false) : opsX P (run P md X) ops m (⟨d, .call ⟨.value fo, as, tys⟩, ty, ps, af, g⟩ :: l) K ⟨s, σ⟩ := by
 obtain ⟨D, S, h1, _, _, _⟩ := hh.frz hH
 refine jR_ hw hS hf ha (r := eb r) ?_ (fun e => by rw [hvw] at e; cases e) k
 simp only [List.nil_append, List.append_nil]
 exact rG_ hv h1 hl (e9_ hr (σ.mark S))
def Ent.weak : Ent → Ent
 | .own _ w t v => .own false w t v
 | e => e
def Ent.isOwn : Ent → Bool
 | .own .. => true
 | _ => false
theorem hm_ {z : Bool} {σ : St} {S : List Nat} : ∀ (k : Nat) (t v : T) (F : List Nat), hold z σ k t = some (v, F) → hold false (σ.mark S) k t = some (v, F)
 | 0, t, v, F, h => by
  cases z with
  | true => have := ex_ _ _ _ _ h; cases t with
   | row zz n cs => exact ev_ this
   | _ => simp [hold] at this <;> simp [hold, this]
  | false => cases t with
   | row zz n cs => exact ev_ h
   | _ => simp [hold] at h <;> simp [hold, h]
 | d + 1, t, v, F, h => by
  have h : hold false σ (d + 1) t = some (v, F) := by cases z with
   | true => exact ex_ _ _ _ _ h
   | false => exact h
  cases t with
  | ref b e off n =>
   simp only [hold] at h
   obtain ⟨B, hb, h1⟩ := Option.bind_eq_some_iff.1 h
   split at h1
   ·rename_i hc
    obtain ⟨⟨cs, S1⟩, h2, h3⟩ := Option.map_eq_some_iff.1 h1
    injection h3 with h3 h4; subst h3; subst h4
    have h5 := as_ (g := hold false (σ.mark S) d) (fun t v S' _ hh _ => hm_ d t v S' hh) h2
    simp only [hold, St.mark, hb, Option.map_some, Option.bind_some]
    have hm : ∀ B', B' = (if b ∈ S then { B with st := false } else B) → B'.cells = B.cells ∧ B'.ep = B.ep ∧ B'.low = B.low ∧ B'.esz = B.esz := fun B' h => by subst h; split <;> exact ⟨rfl, rfl, rfl, rfl⟩
    obtain ⟨m1, m2, m3, m4⟩ := hm _ rfl
    rw [m1, m2, m3, m4]
    rw [if_pos ⟨(fun h => by cases h), hc.2⟩]
    have h5' : frzL (hold false ⟨σ.next, fun i => Option.map (fun B => if i ∈ S then { B with st := false } else B) (σ.blk i)⟩ d) B.cells = some (cs, S1) := h5
    rw [h5']; rfl
   ·cases h1
  | agg cs =>
   simp only [hold] at h
   obtain ⟨⟨cs', S1⟩, h2, h3⟩ := Option.map_eq_some_iff.1 h
   injection h3 with h3 h4; subst h3; subst h4
   simp only [hold, as_ (g := hold false (σ.mark S) d) (fun t v S' _ hh _ => hm_ d t v S' hh) h2, Option.map_some]
  | tup cs =>
   simp only [hold] at h
   obtain ⟨⟨cs', S1⟩, h2, h3⟩ := Option.map_eq_some_iff.1 h
   injection h3 with h3 h4; subst h3; subst h4
   simp only [hold, as_ (g := hold false (σ.mark S) d) (fun t v S' _ hh _ => hm_ d t v S' hh) h2, Option.map_some]
  | row zz n cs => exact ev_ h
  | _ => simp [hold] at h <;> simp [hold, h]
theorem cB_.mark {S : List Nat} : ∀ {es : List Ent} {F : List Nat}, es.all Ent.isOwn = true → cB_ σ es F → cB_ (σ.mark S) (es.map Ent.weak) F
 | [], F, _, h => h
 | e :: es, F, ho, h => by
  simp only [List.all_cons, Bool.and_eq_true] at ho
  obtain ⟨S1, F', rfl, h1, h2⟩ := h
  refine ⟨S1, F', rfl, ?_, h2.mark ho.2⟩
  cases e with
  | own z w t v =>
   obtain ⟨k1, k2, k, k3⟩ := h1
   refine ⟨k1, fun b e o n B ht hB hw0 => ?_, k, hm_ k t v S1 k3⟩
   obtain ⟨B', q1, q2⟩ := fx_ hB
   have := k2 b e o n B' ht q1 hw0
   rw [q2]; split <;> exact this
  | _ => simp [Ent.isOwn] at ho
theorem pV_ {z : Bool} {fo : Operand} {as : Array Operand} {tys : Array TypeId} {ts vs : List T} (hw : want ops L g = some true) (hS : Sub L s) (hf : gE (get L) fo = some (.fn f [] [])) (ha : gEs (get L) as.toList = some ts)
  (hv : md f = .view) (hH : Heap σ0 σ (ents ++ es)) (ho : ents.all Ent.isOwn = true) (hh : HL z ts vs ents) (hr : semV P md X eb f vs = some r) (hl : leafT (eb r) = false)
  (k : ∀ σ' s', Heap σ0 σ' (ents.map Ent.weak ++ es) → Sub (putL L d (eb r)) s' → opsX P (run P md X) ops .q l K ⟨s', σ'⟩) : opsX P (run P md X) ops .q (⟨d, .call ⟨.value fo, as, tys⟩, ty, ps, af, g⟩ :: l) K ⟨s, σ⟩ := by
 obtain ⟨D, S, h1, h2, h3, h4⟩ := hh.frz hH
 have hrun := pH_ hv h1 hl (e9_ hr (σ.mark S))
 have hH' : Heap σ0 (σ.mark S) (ents.map Ent.weak ++ es) := Heap.step (es1 := ents) (es2 := ents.map Ent.weak) (es := es) hH (by simp) fun S' hS' hnd hbd => by
  refine ⟨S', hS'.mark ho, hnd, fun b hb => .inl hb, fun b hb hm => ?_⟩
  have hSS : S' = S := by
   -- the same entries have the same blocks
   have key : ∀ {es : List Ent} {F F' : List Nat}, es.all Ent.isOwn = true → cB_ σ es F → cB_ σ es F' → F = F' := by
    intro es
    induction es with
    | nil => intro F F' _ h h'; rw [show F = [] from h, show F' = [] from h']
    | cons e es ih =>
     intro F F' ho h h'
     simp only [List.all_cons, Bool.and_eq_true] at ho
     obtain ⟨S1, F1, rfl, k1, k2⟩ := h
     obtain ⟨S2, F2, rfl, k3, k4⟩ := h'
     rw [ih ho.2 k2 k4]
     cases e with
     | own z w t v =>
      obtain ⟨_, _, k5, k6⟩ := k1
      obtain ⟨_, _, k7, k8⟩ := k3
      have e1 := ca_ k5 _ _ _ k6 (max k5 k7) (Nat.le_max_left _ _)
      have e2 := ca_ k7 _ _ _ k8 (max k5 k7) (Nat.le_max_right _ _)
      rw [e1] at e2; injection e2 with e2; injection e2 with _ e2; rw [e2]
     | _ => simp [Ent.isOwn] at ho
   exact key ho hS' h2
  subst hSS
  simp only [St.mark]
  cases hbb : σ.blk b with
  | none => rfl
  | some B => simp [hm]
 refine lM_ (f := f) (args := [] ++ ts ++ []) (v := eb r) (σ' := σ.mark S) (aF_ hS hw) (by rw [hO_, co_ hS ha, Option.bind_some, ag_ hS hf]; rfl) (by simpa using hrun) ?_
 rw [cb_]
 exact k _ _ hH' (aS_ hS d _ σ)
def endW (P : Program) (rs : List ResultVar) (σ0 : St) (r : T) : aA_ → Fr → Prop
 | .exit _, _ => False
 | .normal, fr => ∃ l D S, resL P fr rs = some l ∧ Go.Am.frz fr.σ D (tupOf l) = some (r, S) ∧ pureT r = true ∧ Grow σ0 fr.σ ∧ ∀ b ∈ S, σ0.next ≤ b
 | .ret, fr => ∃ l D S, resL P fr rs = some l ∧ Go.Am.frz fr.σ D (tupOf l) = some (r, S) ∧ pureT r = true ∧ Grow σ0 fr.σ ∧ ∀ b ∈ S, σ0.next ≤ b
theorem mB_ {c : Code} {n : Nat} {rs : List ResultVar} {args : List T} {σ : St} {r : T} {D : Nat} (hv : md f = .view) (hX : X f = none) (hok : Ok P f c n rs) (hlen : args.length ≤ n) (hargs : frzL (Go.Am.frz σ D) args = some (args, []))
  (h : codeQ P (run P md X) c (endW P rs σ r) ⟨enterS args, σ⟩) : run P md X f args σ = some (r, σ) := by
 obtain ⟨fn, h1, h2, h3, h4, h5, h6⟩ := hok
 obtain ⟨x, fr, k1, k2⟩ := codeQ_sound h
 have hx : (x = .normal ∨ x = .ret) ∧ ∃ l D S, resL P fr rs = some l ∧ Go.Am.frz fr.σ D (tupOf l) = some (r, S) ∧ pureT r = true ∧ Grow σ fr.σ ∧ ∀ b ∈ S, σ.next ≤ b := by
  cases x with
  | normal => exact ⟨.inl rfl, k2⟩
  | ret => exact ⟨.inr rfl, k2⟩
  | exit i => exact k2.elim
 obtain ⟨hx, l, D2, S2, m1, m2, m3, m4, m5⟩ := hx
 have := qh_ (P := P) (vm := md) (X := X) (σ := σ) (S2 := S2) (r' := r) hv hX h1 h2 h3 h4 (by rw [h5]; exact hlen) hargs (by rw [dM_]; exact k1) hx (by rw [resA, h6, m1]; rfl) m2 m3 (fun i hi => by rw [dM_]; exact m4.old i hi)
 rw [this, nA_ m5, dM_, dM_]
 simp
theorem rC_ {c : Code} {n : Nat} {rs : List ResultVar} {args : List T} (hi : ∀ a b, eb a = eb b → a = b) (hv : md f = .view) (hX : X f = none) (hok : Ok P f c n rs) (hlen : Nat.ble args.length n = true) (hf : args.all flat3 = true)
  (h : ∀ σ s, Sub (nums 0 args) s → Heap σ σ [] → codeQ P (run P md X) c (endW P rs σ (eb r)) ⟨s, σ⟩) : semV P md X eb f args = some r :=
 jM_ hi fun σ => mB_ hv hX hok (Nat.le_of_ble_eq_true hlen) (i4_ hf) (h σ _ (fb_ args) (Heap.nil σ))
theorem t3_ {rs : List ResultVar} {l : List T} {r : T} (hH : Heap σ0 σ es) (hl : resL P ⟨s, σ⟩ rs = some l) (hr : tupOf l = r) (hf : flat3 r = true) (hp : pureT r = true) : endW P rs σ0 r .ret ⟨s, σ⟩ :=
 ⟨l, 2, [], hl, by rw [hr]; exact lj_ (d := 0) hf, hp, hH.grow, by simp⟩
theorem md_ {z : Bool} {rs : List ResultVar} {l : List T} {r : T} (hH : Heap σ0 σ (ents ++ es)) (hl : resL P ⟨s, σ⟩ rs = some l) (hh : HL z [tupOf l] [r] ents) (hp : pureT r = true) : endW P rs σ0 r .ret ⟨s, σ⟩ := by
 obtain ⟨D, S, h1, _, _, h4⟩ := hh.frz hH
 refine ⟨l, D, S, hl, ?_, hp, hH.grow, fun b hb => (h4 b hb).1⟩
 simp only [frzL] at h1
 obtain ⟨p, h5, h6⟩ := Option.bind_eq_some_iff.1 h1
 simp at h6
 obtain ⟨h6, h7⟩ := h6
 rw [h5]; rw [← h6, ← h7]
structure f5_ (β : Type) where
 n : Nat
 tree : List T → β → T
 en : List T → β → List Ent
 eb : β → T
 ok : ∀ hs r, hs.length = n → HL true [tree hs r] [eb r] (en hs r)
 inj : ∀ a b, eb a = eb b → a = b
def OwnR (P : Program) (md : Nat → Md) (X : Ext) (Sh : f5_ β) (f : Nat) (args : List T) (r : β) : Prop :=
 ∀ σ, ∃ hs σ', hs.length = Sh.n ∧ run P md X f args σ = some (Sh.tree hs r, σ') ∧ Heap σ σ' (Sh.en hs r)
noncomputable def semO (P : Program) (md : Nat → Md) (X : Ext) (Sh : f5_ β) (f : Nat) (args : List T) : Option β :=
 if h : ∃ r, OwnR P md X Sh f args r then some (Classical.choose h) else none
theorem ld_ {Sh : f5_ β} {args : List T} (h : semO P md X Sh f args = some r) : OwnR P md X Sh f args r := by
 unfold semO at h
 split at h
 ·rename_i hx; injection h with h; subst h; exact Classical.choose_spec hx
 ·cases h
theorem OwnR.uniq {Sh : f5_ β} {args : List T} {r r' : β} (h : OwnR P md X Sh f args r) (h' : OwnR P md X Sh f args r') : r = r' := by
 obtain ⟨hs, σ', h1, h2, h3⟩ := h St.empty'
 obtain ⟨hs', σ2, h4, h5, h6⟩ := h' St.empty'
 rw [h2] at h5; injection h5 with h5; injection h5 with h5 h7
 subst h7
 obtain ⟨D, S, k1, _⟩ := (Sh.ok hs r h1).frz (es := []) (by simpa using h3)
 obtain ⟨D', S', k2, _⟩ := (Sh.ok hs' r' h4).frz (es := []) (by simpa using h6)
 rw [← h5] at k2
 have := de_ k1 k2
 injection this with e _
 injection e with e _
 exact Sh.inj _ _ e
theorem ni_ {Sh : f5_ β} {args : List T} (h : OwnR P md X Sh f args r) : semO P md X Sh f args = some r := by
 have hx : ∃ r, OwnR P md X Sh f args r := ⟨r, h⟩
 unfold semO
 rw [dif_pos hx, OwnR.uniq (Classical.choose_spec hx) h]
def p9_ (P : Program) (rs : List ResultVar) (σ0 : St) (Sh : f5_ β) (r : β) : aA_ → Fr → Prop
 | .exit _, _ => False
 | .normal, fr => ∃ l hs es, resL P fr rs = some l ∧ tupOf l = Sh.tree hs r ∧ hs.length = Sh.n ∧ Heap σ0 fr.σ (Sh.en hs r ++ es)
 | .ret, fr => ∃ l hs es, resL P fr rs = some l ∧ tupOf l = Sh.tree hs r ∧ hs.length = Sh.n ∧ Heap σ0 fr.σ (Sh.en hs r ++ es)
theorem td_ {Sh : f5_ β} {rs : List ResultVar} {l : List T} {L1 : List Ent} (hs : List T) (es : List Ent) (hl : resL P ⟨s, σ⟩ rs = some l) (ht : tupOf l = Sh.tree hs r) (hn : hs.length = Sh.n) (hH : Heap σ0 σ L1) (he : L1 = Sh.en hs r ++ es) : p9_ P rs σ0 Sh r .ret ⟨s, σ⟩ :=
 ⟨l, hs, es, hl, ht, hn, he ▸ hH⟩
theorem rZ_ {Sh : f5_ β} {c : Code} {n : Nat} {rs : List ResultVar} {args : List T} (hv : md f = .own) (hX : X f = none) (hok : Ok P f c n rs) (hlen : Nat.ble args.length n = true) (hf : args.all flat3 = true)
  (h : ∀ σ s, Sub (nums 0 args) s → Heap σ σ [] → codeQ P (run P md X) c (p9_ P rs σ Sh r) ⟨s, σ⟩) : semO P md X Sh f args = some r := by
 refine ni_ fun σ => ?_
 obtain ⟨fn, h1, h2, h3, h4, h5, h6⟩ := hok
 obtain ⟨x, fr, k1, k2⟩ := codeQ_sound (h σ _ (fb_ args) (Heap.nil σ))
 have hx : (x = .normal ∨ x = .ret) ∧ ∃ l hs es, resL P fr rs = some l ∧ tupOf l = Sh.tree hs r ∧ hs.length = Sh.n ∧ Heap σ fr.σ (Sh.en hs r ++ es) := by
  cases x with
  | normal => exact ⟨.inl rfl, k2⟩
  | ret => exact ⟨.inr rfl, k2⟩
  | exit i => exact k2.elim
 obtain ⟨hx, l, hs, es, m1, m2, m3, m4⟩ := hx
 obtain ⟨F, q1, q2, q3⟩ := m4.ex
 obtain ⟨F1, F2, rfl, q4, q5⟩ := q1.split
 obtain ⟨k, hk⟩ := (Sh.ok hs r m3).sound q4
 have hown : own fr.σ k (tupOf l) = some (Sh.eb r, F1) := by
  rw [m2]
  simp only [frzL] at hk
  obtain ⟨p, h7, h8⟩ := Option.bind_eq_some_iff.1 hk
  simp at h8
  obtain ⟨h8, h9⟩ := h8
  exact h6_ _ _ _ _ (by rw [h7, ← h8, ← h9])
 have hrun := sb_ (P := P) (vm := md) (X := X) (σ := σ) hv hX h1 h2 h3 h4 (by rw [h5]; exact Nat.le_of_ble_eq_true hlen) (i4_ hf) (by rw [dM_]; exact k1) hx (by rw [resA, h6, m1]; rfl) hown (fun b hb => (q3 b (by simp [hb])).1) (fun i hi => by rw [dM_]; exact m4.grow.old i hi)
 refine ⟨hs, σ.keep fr.σ F1, m3, by rw [hrun, m2], Grow.keep m4.grow.nx F1, F1, q4.same fun b hb => ?_, (List.nodup_append.1 q2).1, fun b hb => ?_⟩
 ·have := (q3 b (by simp [hb])).1
  simp only [St.keep]; rw [if_neg (by omega), if_pos hb]
 ·exact q3 b (by simp [hb])
theorem re_ (hm : m.chg = true) {Sh : f5_ β} {z : Bool} {fo : Operand} {as : Array Operand} {tys : Array TypeId} {ts vs : List T} (hw : want ops L g = some true) (hS : Sub L s) (hf : gE (get L) fo = some (.fn f [] [])) (ha : gEs (get L) as.toList = some ts)
  (hv : md f = .own) (hH : Heap σ0 σ (ents ++ es)) (hh : HL z ts vs ents) (hr : semO P md X Sh f vs = some r)
  (k : ∀ hs σ' s', hs.length = Sh.n → Heap σ0 σ' (Sh.en hs r ++ (ents ++ es)) → Sub (putL L d (Sh.tree hs r)) s' → opsX P (run P md X) ops (nxM m) l K ⟨s', σ'⟩) : opsX P (run P md X) ops m (⟨d, .call ⟨.value fo, as, tys⟩, ty, ps, af, g⟩ :: l) K ⟨s, σ⟩ := by
 obtain ⟨D, S, h1, h2, h3, h4⟩ := hh.frz hH
 obtain ⟨hs, σ1, m1, m2, m3⟩ := ld_ hr (σ.mark S)
 have hrun := ir_ hv h1 m2
 have hH' : Heap σ0 ⟨σ1.next, fun i => if i < σ.next then σ.blk i else σ1.blk i⟩ (Sh.en hs r ++ (ents ++ es)) := by
  refine Heap.step (es1 := []) (es2 := Sh.en hs r) (es := ents ++ es) hH m3.grow.nx fun S' hS' _ _ => ?_
  obtain ⟨F, q1, q2, q3⟩ := m3.ex
  refine ⟨F, q1.same fun b hb => ?_, q2, fun b hb => .inr (q3 b hb), fun b hb _ => ?_⟩
  ·have := (q3 b hb).1
   simp only [le_] at this
   simp only; rw [if_neg (by omega)]
  ·simp only; rw [if_pos hb]
 refine jU_ (f := f) (args := [] ++ ts ++ []) (r := Sh.tree hs r) (σ' := ⟨σ1.next, fun i => if i < σ.next then σ.blk i else σ1.blk i⟩) hm rfl (aF_ hS hw) (fun kk σ' => by rw [hO_, co_ hS ha, Option.bind_some, ag_ hS hf]; rfl) (by simpa using hrun) m3.grow.nx (fun x hx => by simp only; rw [if_pos hx]) ?_
 rw [cb_]
 exact k _ _ _ m1 hH' (aS_ hS d _ σ)
end
end Go.Am
end
