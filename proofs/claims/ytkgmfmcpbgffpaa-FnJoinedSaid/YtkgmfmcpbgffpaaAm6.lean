/- The abstract machine. -/
import Derived.Test.YtkgmfmcpbgffpaaAm5
import Derived.Test.YtkgmfmcpbgffpaaAm3
section
set_option linter.unusedVariables false
set_option linter.unusedSimpArgs false
namespace Go.Am
def Kn (σ0 : St) (L : List (Nat × T)) (es : List Ent) (p : Prop) (G : Fr → Prop) : Prop := p → ∀ s σ, Sub L s → Heap σ0 σ es → G ⟨s, σ⟩
inductive Ct where
 | s (c : Code)
 | b (i : Nat)
inductive Wh where
 | c (c : Code)
 | x (e : aA_)
def nx : Nat → Wh → List Ct → Option (Wh × List Ct)
 | 0, _, _ => none
 | n + 1, .c c, k => match c with
  | .seq a b => nx n (.c a) (.s b :: k)
  | .block i c => nx n (.c c) (.b i :: k)
  | .skip => nx n (.x .normal) k
  | .exit i => nx n (.x (.exit i)) k
  | .ret => nx n (.x .ret) k
  | c => some (.c c, k)
 | n + 1, .x e, k => match k with
  | [] => some (.x e, [])
  | .s c :: k => match e with
   | .normal => nx n (.c c) k
   | .exit j => nx n (.x (.exit j)) k
   | .ret => nx n (.x .ret) k
  | .b i :: k => match e with
   | .exit j => match Nat.beq j i with
    | true => nx n (.x .normal) k
    | false => nx n (.x (.exit j)) k
   | .normal => nx n (.x .normal) k
   | .ret => nx n (.x .ret) k
section
variable (P : Program) (O : ax_)
def popQ : List Ct → (aA_ → Fr → Prop) → aA_ → Fr → Prop
 | [], Q => Q
 | .s c :: k, Q => seqQ (codeQ P O c (popQ k Q)) (popQ k Q)
 | .b i :: k, Q => blkQ i (popQ k Q)
def whQ : Wh → List Ct → (aA_ → Fr → Prop) → Fr → Prop
 | .c c, k, Q, fr => codeQ P O c (popQ P O k Q) fr
 | .x e, k, Q, fr => popQ P O k Q e fr
end
section
variable {P : Program} {O : ax_} {Q : aA_ → Fr → Prop} {fr : Fr}
theorem nx_ok : ∀ {n : Nat} {w : Wh} {k : List Ct} {w' : Wh} {k' : List Ct}, nx n w k = some (w', k') → whQ P O w' k' Q fr → whQ P O w k Q fr
 | 0, _, _, _, _, h, _ => by cases h
 | n + 1, .c c, k, w', k', h, g => by
  have hd : ∀ c, some (Wh.c c, k) = some (w', k') → whQ P O (.c c) k Q fr := fun c h => by injection h with h; injection h with h1 h2; subst h1; subst h2; exact g
  cases c with
  | seq a b => exact nx_ok (n := n) (w := .c a) (k := .s b :: k) h g
  | block i c => exact nx_ok (n := n) (w := .c c) (k := .b i :: k) h g
  | skip => exact nx_ok (n := n) (w := .x .normal) h g
  | exit i => exact nx_ok (n := n) (w := .x (.exit i)) h g
  | ret => exact nx_ok (n := n) (w := .x .ret) h g
  | _ => exact hd _ h
 | n + 1, .x e, [], w', k', h, g => by injection h with h; injection h with h1 h2; subst h1; subst h2; exact g
 | n + 1, .x e, .s c :: k, w', k', h, g => by
  cases e with
  | normal => exact nx_ok (n := n) (w := .c c) (k := k) h g
  | exit j => exact nx_ok (n := n) (w := .x (.exit j)) (k := k) h g
  | ret => exact nx_ok (n := n) (w := .x .ret) (k := k) h g
 | n + 1, .x e, .b i :: k, w', k', h, g => by
  cases e with
  | normal => exact nx_ok (n := n) (w := .x .normal) (k := k) h g
  | exit j =>
   simp only [nx] at h
   show popQ P O k Q (if j = i then .normal else .exit j) fr
   split at h
   ·rename_i hb; rw [if_pos (Nat.eq_of_beq_eq_true hb)]; exact nx_ok (n := n) (w := .x .normal) (k := k) h g
   ·rename_i hb; rw [if_neg (fun e => by rw [e] at hb; simp at hb)]; exact nx_ok (n := n) (w := .x (.exit j)) (k := k) h g
  | ret => exact nx_ok (n := n) (w := .x .ret) (k := k) h g
end
def foL {α β : Type} : List α → (List α → Option β) → Option β
 | [], k => k []
 | x :: xs, k => foL xs fun ys => k (x :: ys)
theorem cL_ {α β : Type} : ∀ (l : List α) (k : List α → Option β), foL l k = k l
 | [], _ => rfl
 | x :: xs, k => by rw [foL, cL_ xs]
def tkL {β : Type} : Nat → List T → (List T → Option β) → Option β
 | 0, _, k => k []
 | _ + 1, [], _ => none
 | n + 1, x :: xs, k => tkL n xs fun ys => k (x :: ys)
theorem ko_ {β : Type} {b : β} : ∀ {n : Nat} {l : List T} {k : List T → Option β}, tkL n l k = some b → n ≤ l.length ∧ k (l.take n) = some b
 | 0, l, k, h => ⟨Nat.zero_le _, by simpa [tkL] using h⟩
 | n + 1, [], k, h => by cases h
 | n + 1, x :: xs, k, h => by
  obtain ⟨h1, h2⟩ := ko_ (n := n) (l := xs) h
  exact ⟨by simp; omega, by simpa using h2⟩
def drL : Nat → List T → Option (List T)
 | 0, l => some l
 | _ + 1, [] => none
 | n + 1, _ :: xs => drL n xs
theorem drL_some : ∀ {n : Nat} {l r : List T}, drL n l = some r → n ≤ l.length ∧ r = l.drop n
 | 0, l, r, h => ⟨Nat.zero_le _, by injection h with h; simp [h]⟩
 | n + 1, [], r, h => by cases h
 | n + 1, x :: xs, r, h => by
  obtain ⟨h1, h2⟩ := drL_some (n := n) (l := xs) h
  exact ⟨by simp; omega, by simpa using h2⟩
def jd_ (P : Program) (t : TypeId) (cs : List T) (off : Nat) : Option T :=
 match drL off cs with
 | some cs => match j2_ P t with
  | some true => match szOf P t with
   | some n => tkL n cs fun l => some (.agg l)
   | none => none
  | some false => match cs with
   | x :: _ => some x
   | [] => none
  | none => none
 | none => none
theorem mS_ {P : Program} {t : TypeId} {cs : List T} {off : Nat} {v : T} (h : jd_ P t cs off = some v) : part P t cs off = some v := by
 unfold jd_ at h
 split at h
 ·rename_i r hr
  obtain ⟨h1, rfl⟩ := drL_some hr
  unfold part
  split at h
  ·rename_i ha
   split at h
   ·rename_i n hn
    obtain ⟨h2, h3⟩ := ko_ h
    simp only [List.length_drop] at h2
    rw [ha, Option.bind_some, hn]
    simp only [if_true, Option.bind_some]
    rw [if_pos (by omega)]; exact h3
   ·cases h
  ·rename_i ha
   rw [ha, Option.bind_some]
   simp only [Bool.false_eq_true, if_false]
   split at h
   ·rename_i x xs hx
    injection h with h; subst h
    have := congrArg (·[0]?) hx
    simpa using this
   ·cases h
  ·cases h
 ·cases h
def qd_ (place : Nat → Option (Nat × Nat)) (cells : List T) : List (Nat × T) → Option (List T)
 | [] => some cells
 | (i, v) :: rest => match place i with
  | some (off, size) => match Nat.beq v.cells.length size && Nat.ble (off + size) cells.length && v.cells.all T.one with
   | true => foL (splice cells off v.cells) fun cells => qd_ place cells rest
   | false => none
  | none => none
theorem mY_ {place : Nat → Option (Nat × Nat)} : ∀ {ps : List (Nat × T)} {cells r : List T}, qd_ place cells ps = some r → ez_ place cells ps = some r
 | [], _, _, h => h
 | (i, v) :: rest, cells, r, h => by
  simp only [qd_] at h
  split at h
  ·rename_i off size hp
   split at h
   ·rename_i hc
    simp only [Bool.and_eq_true] at hc
    rw [cL_] at h
    simp only [ez_, hp, Option.bind_some]
    rw [if_pos ⟨Nat.eq_of_beq_eq_true hc.1.1, Nat.le_of_ble_eq_true hc.1.2, hc.2⟩]
    exact mY_ h
   ·cases h
  ·cases h
def pF (P : Program) (g : Nat → Option T) (op : Op) : Option T :=
 match op with
 | .build t parts => match aT_ P t with
  | some z => match gPs g parts.toList with
   | some ps => match okP P t with
    | true => match qd_ (fun i => match bJ_ P t i with | some (o, _, n) => some (o, n) | none => none) z ps with
     | some cs => foL cs fun cs => some (.agg cs)
     | none => none
    | false => none
   | none => none
  | none => none
 | .load t a => match gE g a with
  | some (.vw cs) => jd_ P t cs 0
  | _ => none
 | .field t x f => match gE g x with
  | some (.agg cs) => match bJ_ P t f with
   | some (off, ft, _) => jd_ P ft cs off
   | none => none
  | _ => none
 | .fieldAddr t x f => match gE g x with
  | some x => match bJ_ P t f with
   | some (off, _, n) => match x with
    | .ptr b e o m => match !Nat.beq n 0 && Nat.ble (off + n) m with
     | true => some (.ptr b e (o + off) n)
     | false => none
    | .vw cs => match n with
     | 0 => none
     | _ + 1 => match drL off cs with
      | some cs' => match tkL n cs' (fun _ => some ()) with
       | some _ => some (.vw cs')
       | none => none
      | none => none
    | _ => none
   | none => none
  | none => none
 | op => pOp P g op
theorem uA_ {P : Program} {g : Nat → Option T} {op : Op} {v : T} (h : pF P g op = some v) : pOp P g op = some v := by
 cases op with
 | build t parts =>
  simp only [pF] at h
  split at h
  ·rename_i z hz
   split at h
   ·rename_i ps hp
    split at h
    ·rename_i hk
     split at h
     ·rename_i cs hc
      rw [cL_] at h
      have e : (fun i => (bJ_ P t i).map fun (o, _, n) => (o, n)) = fun i => match bJ_ P t i with | some (o, _, n) => some (o, n) | none => none := by
       funext i; cases bJ_ P t i <;> rfl
      simp only [pOp, hz, hp, hk, e, mY_ hc]; exact h
     ·cases h
    ·cases h
   ·cases h
  ·cases h
 | load t a =>
  simp only [pF] at h
  split at h
  ·rename_i hc; simp only [pOp, hc]; exact mS_ h
  ·cases h
 | field t x f =>
  simp only [pF] at h
  split at h
  ·rename_i hc
   split at h
   ·rename_i hf; simp only [pOp, hc, hf]; exact mS_ h
   ·cases h
  ·cases h
 | fieldAddr t x f =>
  simp only [pF] at h
  split at h
  ·rename_i hx
   split at h
   ·rename_i hf
    simp only [pOp, hx, hf]
    split at h
    ·split at h
     ·rename_i hc
      simp only [Bool.and_eq_true, Bool.not_eq_true'] at hc
      show (if _ = 0 then none else if _ then _ else none) = _; rw [if_neg (fun (e : _ = 0) => by rw [e] at hc; simp at hc), if_pos (Nat.le_of_ble_eq_true hc.2)]; exact h
     ·cases h
    ·split at h
     ·cases h
     ·split at h
      ·rename_i cs' hd
       obtain ⟨h1, rfl⟩ := drL_some hd
       split at h
       ·rename_i u hu
        obtain ⟨h2, _⟩ := ko_ hu
        simp only [List.length_drop] at h2
        show (if _ = 0 then none else if _ then _ else none) = _; rw [if_neg (by omega), if_pos (by omega)]; exact h
       ·cases h
      ·cases h
    ·cases h
   ·cases h
  ·cases h
 | _ => exact h
def sg (P : Program) (ops : Array Oper) : Nat → List Oper → List (Nat × T) → Option (List (Nat × T) × List Oper)
 | 0, l, L => some (L, l)
 | _ + 1, [], _ => none
 | n + 1, o :: l, L => match want ops L o.guard with
  | some true => match pF P (get L) o.op with
   | some v => match o.dst with
    | some d => sg P ops n l ((d, v) :: L)
    | none => sg P ops n l L
   | none => none
  | some false => match o.dst with
   | some d => sg P ops n l ((d, .tup []) :: L)
   | none => sg P ops n l L
  | none => none
theorem jL_ {P : Program} {ops : Array Oper} : ∀ {n : Nat} {l : List Oper} {L : List (Nat × T)} {M : List (Nat × T)} {l' : List Oper}, sg P ops n l L = some (M, l') → seg P ops n l L = some M ∧ l' = l.drop n
 | 0, l, L, M, l', h => by injection h with h; injection h with h1 h2; subst h1; subst h2; exact ⟨rfl, rfl⟩
 | n + 1, [], L, M, l', h => by cases h
 | n + 1, o :: l, L, M, l', h => by
  simp only [sg] at h
  simp only [seg, List.drop_succ_cons]
  split at h
  ·rename_i hw
   split at h
   ·rename_i v hv
    simp only [hw, uA_ hv]
    split at h
    ·rename_i d hd; rw [hd]; exact jL_ h
    ·rename_i hd; rw [hd]; exact jL_ h
   ·cases h
  ·rename_i hw
   simp only [hw]
   split at h
   ·rename_i d hd; rw [hd]; exact jL_ h
   ·rename_i hd; rw [hd]; exact jL_ h
  ·cases h
def sgA (P : Program) (ops : Array Oper) : List Oper → List (Nat × T) → Option (List (Nat × T))
 | [], L => some L
 | o :: l, L => match want ops L o.guard with
  | some true => match pF P (get L) o.op with
   | some v => match o.dst with
    | some d => sgA P ops l ((d, v) :: L)
    | none => sgA P ops l L
   | none => none
  | some false => match o.dst with
   | some d => sgA P ops l ((d, .tup []) :: L)
   | none => sgA P ops l L
  | none => none
theorem iu_ {P : Program} {ops : Array Oper} : ∀ {l : List Oper} {L : List (Nat × T)} {M : List (Nat × T)}, sgA P ops l L = some M → seg P ops l.length l L = some M
 | [], L, M, h => by injection h with h; subst h; rfl
 | o :: l, L, M, h => by
  simp only [sgA] at h
  simp only [seg, List.length_cons]
  split at h
  ·rename_i hw
   split at h
   ·rename_i v hv
    simp only [hw, uA_ hv]
    split at h
    ·rename_i d hd; rw [hd]; exact iu_ h
    ·rename_i hd; rw [hd]; exact iu_ h
   ·cases h
  ·rename_i hw
   simp only [hw]
   split at h
   ·rename_i d hd; rw [hd]; exact iu_ h
   ·rename_i hd; rw [hd]; exact iu_ h
  ·cases h
section
variable {P : Program} {O : ax_} {ops : Array Oper} {m : Mo} {l l' : List Oper} {K : Fr → Prop} {σ0 : St} {L L' : List (Nat × T)} {es es' : List Ent} {p q : Prop} {G : Fr → Prop}
variable {Q : aA_ → Fr → Prop} {k k' : List Ct} {w w' : Wh} {s : Nat → T} {σ : St}
theorem t_bk (h : p) (hS : Sub L s) (hH : Heap σ0 σ es) (kk : Kn σ0 L es p G) : G ⟨s, σ⟩ := kk h s σ hS hH
theorem t_h (f : ∀ {σ}, Heap σ0 σ es → Heap σ0 σ es') (kk : Kn σ0 L es' p G) : Kn σ0 L es p G := fun h s σ hS hH => kk h s σ hS (f hH)
theorem t_U (n : Nat) (kk : Kn σ0 L' es p (opsX P O ops (nxN n m) l' K)) (h : sg P ops n l L = some (L', l') := by rfl) : Kn σ0 L es p (opsX P O ops m l K) := fun hp s σ hS hH => by
 obtain ⟨h1, rfl⟩ := jL_ h
 exact seg_sound h1 hS fun s' hM => kk hp s' σ hM hH
theorem t_N (kk : Kn σ0 L' es p (whQ P O w' k' Q)) (h : sgA P ops l L = some L' := by rfl) (h2 : nx 99 (.x .normal) k = some (w', k') := by rfl) : Kn σ0 L es p (opsX P O ops m l (popQ P O k Q .normal)) := fun hp s σ hS hH =>
 seg_sound (iu_ h) hS fun s' hM => by
  rw [List.drop_length]
  exact vF_ (nx_ok (w := .x .normal) h2 (kk hp s' σ hM hH))
theorem t_R {id : Nat} (kk : Kn σ0 L es p (opsX P O ops .q ops.toList (popQ P O k Q .normal))) : Kn σ0 L es p (whQ P O (.c (.region id ops false)) k Q) := kk
theorem t_RU {id : Nat} (n : Nat) (kk : Kn σ0 L' es p (opsX P O ops .q l' (popQ P O k Q .normal))) (h : sg P ops n ops.toList L = some (L', l') := by rfl) : Kn σ0 L es p (whQ P O (.c (.region id ops false)) k Q) := fun hp s σ hS hH => by
 obtain ⟨h1, rfl⟩ := jL_ h
 have e : ∀ n, nxN n Mo.q = .q := fun n => by induction n with
  | zero => rfl
  | succ n ih => exact ih
 exact seg_sound (m := .q) h1 hS fun s' hM => by rw [e]; exact kk hp s' σ hM hH
theorem t_RN {id : Nat} (kk : Kn σ0 L' es p (whQ P O w' k' Q)) (h : sgA P ops ops.toList L = some L' := by rfl) (h2 : nx 99 (.x .normal) k = some (w', k') := by rfl) : Kn σ0 L es p (whQ P O (.c (.region id ops false)) k Q) := t_R (t_N kk h h2)
theorem t_go {c : Code} (h : p) (hS : Sub L s) (hH : Heap σ0 σ es) (kk : Kn σ0 L es p (whQ P O w' k' Q)) (hn : nx 99 (.c c) [] = some (w', k') := by rfl) : codeQ P O c Q ⟨s, σ⟩ := nx_ok (w := .c c) (k := []) hn (kk h s σ hS hH)
theorem ff_ne : ¬ (false = true) := by simp
end
section
variable {P : Program} {O : ax_} {ops : Array Oper} {m : Mo} {l : List Oper} {K : Fr → Prop} {σ0 : St} {L L' : List (Nat × T)} {es es' : List Ent} {p q : Prop} {G : Fr → Prop} {γ : Type} {r : γ} {x y : Option γ}
variable {Q : aA_ → Fr → Prop} {k k1 k2 : List Ct} {w1 w2 : Wh} {c : Operand} {a b : Code} {t : Bool}
theorem t_if (h1 : t = true → Kn σ0 L es (x = some r) (whQ P O w1 k1 Q)) (h2 : ¬ (t = true) → Kn σ0 L es (y = some r) (whQ P O w2 k2 Q)) (hc : gE (get L) c = some (.bool t) := by rfl) (e1 : nx 99 (.c a) k = some (w1, k1) := by rfl) (e2 : nx 99 (.c b) k = some (w2, k2) := by rfl) : Kn σ0 L es ((if t = true then x else y) = some r) (whQ P O (.c (.cond c a b)) k Q) := fun hp s σ hS hH =>
 mq_ hS hc (fun h => nx_ok (w := .c a) e1 (h1 h (qC_ h hp) s σ hS hH)) (fun h => have h : ¬ (t = true) := by simp [h]
  nx_ok (w := .c b) e2 (h2 h (qD_ h hp) s σ hS hH))
theorem t_cT (h : t = true) (kk : Kn σ0 L es p (whQ P O w1 k1 Q)) (hc : gE (get L) c = some (.bool t) := by rfl) (e1 : nx 99 (.c a) k = some (w1, k1) := by rfl) : Kn σ0 L es p (whQ P O (.c (.cond c a b)) k Q) := fun hp s σ hS hH =>
 c_cT h hS hc (nx_ok (w := .c a) e1 (kk hp s σ hS hH))
theorem t_cF (h : ¬ (t = true)) (kk : Kn σ0 L es p (whQ P O w1 k1 Q)) (hc : gE (get L) c = some (.bool t) := by rfl) (e1 : nx 99 (.c b) k = some (w1, k1) := by rfl) : Kn σ0 L es p (whQ P O (.c (.cond c a b)) k Q) := fun hp s σ hS hH =>
 c_cF h hS hc (nx_ok (w := .c b) e1 (kk hp s σ hS hH))
theorem ay_ (d : Nat) (h1 : t = true → Kn σ0 ((d, .bool true) :: L) es (x = some r) G) (h2 : ¬ (t = true) → Kn σ0 ((d, .bool false) :: L) es (y = some r) G) (hc : get L d = some (.bool t) := by rfl) : Kn σ0 L es ((if t = true then x else y) = some r) G := fun hp s σ hS hH => by
 have e := hS d _ hc
 by_cases h : t = true
 ·exact h1 h (qC_ h hp) s σ (ia_ hS (by rw [e, h])) hH
 ·exact h2 h (qD_ h hp) s σ (ia_ hS (by rw [e]; simp at h; rw [h])) hH
theorem t_gT (d : Nat) (h : t = true) (kk : Kn σ0 ((d, .bool true) :: L) es p G) (hc : get L d = some (.bool t) := by rfl) : Kn σ0 L es p G := fun hp s σ hS hH => kk hp s σ (ia_ hS (by rw [hS d _ hc, h])) hH
theorem t_gF (d : Nat) (h : ¬ (t = true)) (kk : Kn σ0 ((d, .bool false) :: L) es p G) (hc : get L d = some (.bool t) := by rfl) : Kn σ0 L es p G := fun hp s σ hS hH => kk hp s σ (ia_ hS (by rw [hS d _ hc]; simp at h; rw [h])) hH
theorem t_no : Kn σ0 L es ((none : Option γ) = some r) G := fun h => by cases h
end
end Go.Am
end
section
set_option linter.unusedVariables false
set_option linter.unusedSimpArgs false
namespace Go.Am
def pickE : Nat → List Ent → Option (Ent × List Ent)
 | 0, e :: es => some (e, es)
 | n + 1, e :: es => match pickE n es with
  | some (x, r) => some (x, e :: r)
  | none => none
 | _, [] => none
theorem pickE_perm : ∀ {n : Nat} {es : List Ent} {x : Ent} {r : List Ent}, pickE n es = some (x, r) → es.Perm (x :: r)
 | 0, e :: es, x, r, h => by injection h with h; injection h with h1 h2; subst h1; subst h2; exact .refl _
 | n + 1, e :: es, x, r, h => by
  simp only [pickE] at h
  split at h
  ·rename_i x' r' hr
   injection h with h; injection h with h1 h2; subst h1; subst h2
   exact ((pickE_perm hr).cons e).trans (.swap _ _ _)
  ·cases h
 | 0, [], _, _, h => by cases h
 | _ + 1, [], _, _, h => by cases h
theorem Heap.pick {σ0 σ : St} {n : Nat} {es : List Ent} {x : Ent} {r : List Ent} (hH : Heap σ0 σ es) (h : pickE n es = some (x, r)) : Heap σ0 σ (x :: r) := hH.perm (pickE_perm h)
def qq_ (P : Program) (t : TypeId) : Option (List T) := match aT_ P t with
 | some z => foL z some
 | none => none
theorem mm_ {P : Program} {t : TypeId} {z : List T} (h : qq_ P t = some z) : aT_ P t = some z := by
 unfold qq_ at h
 split at h
 ·rename_i z' hz; rw [cL_] at h; rw [hz]; exact h
 ·cases h
def cellsF : T → Option (List T)
 | .agg cs => foL cs some
 | .int k n => some [.int k n]
 | .bool b => some [.bool b]
 | .str s => some [.str s]
 | .nilp => some [.nilp]
 | .nilf => some [.nilf]
 | .nili => some [.nili]
 | .nilm => some [.nilm]
 | .ptr b e o m => some [.ptr b e o m]
 | .vw cs => some [.vw cs]
 | .row z n cs => some [.row z n cs]
 | .emp => some [.emp]
 | .ref b e o n => some [.ref b e o n]
 | .fn f a b => some [.fn f a b]
 | .tup cs => some [.tup cs]
 | .mp b => some [.mp b]
 | .anyi => some [.anyi]
 | .yld l => some [.yld l]
theorem gY_ {v : T} {cs : List T} (h : cellsF v = some cs) : v.cells = cs := by
 cases v with
 | agg l => rw [cellsF, cL_] at h; injection h
 | _ => injection h
def lr_ (P : Program) (t : TypeId) (cells : List T) (off n : Nat) (cs : List T) : Option (List T) :=
 match szOf P t with
 | some sz => match Nat.beq cs.length sz && Nat.ble sz n && Nat.ble (off + sz) cells.length with
  | true => foL (splice cells off cs) some
  | false => none
 | none => none
theorem nZ_ {P : Program} {t : TypeId} {cells cs r : List T} {off n : Nat} (h : lr_ P t cells off n cs = some r) : ll_ P t cells off n cs = some r := by
 unfold lr_ at h; unfold ll_
 split at h
 ·rename_i sz hz
  split at h
  ·rename_i hc
   simp only [Bool.and_eq_true] at hc
   rw [cL_] at h
   rw [hz]
   show (if _ then _ else none) = _
   rw [if_pos ⟨Nat.eq_of_beq_eq_true hc.1.1, Nat.le_of_ble_eq_true hc.1.2, Nat.le_of_ble_eq_true hc.2⟩]; exact h
  ·cases h
 ·cases h
def pu (L : List (Nat × T)) (d : Option Nat) (v : T) : Option (List (Nat × T)) := match d with
 | some d => some ((d, v) :: L)
 | none => some L
theorem o3_ {L L' : List (Nat × T)} {d : Option Nat} {v : T} (h : pu L d v = some L') : putL L d v = L' := by
 cases d with
 | some d => injection h
 | none => injection h
class Lit (α : Type) [Enc α] where
 c : α → List T
 h : ∀ a, Enc.cells a = c a
instance : Lit ByteArray := ⟨fun s => [.str s], fun _ => rfl⟩
instance : Lit Bool := ⟨fun s => [.bool s], fun _ => rfl⟩
instance (k : IntKind) : Lit (Iv k) := ⟨fun s => [.int k s.v], fun _ => rfl⟩
instance {α : Type} [Enc α] : Lit (Sl α) := ⟨fun s => [s.t], fun _ => rfl⟩
section
variable {P : Program} {O : ax_} {ops : Array Oper} {m : Mo} {l : List Oper} {K : Fr → Prop} {σ0 : St} {L L' : List (Nat × T)} {es es' : List Ent} {p : Prop} {β γ : Type} {r : γ}
variable {d : Nat} {dO : Option Nat} {ty : TypeId} {ps : String} {af : Array Edge} {g : Option (Nat × Bool)}
theorem a2_ {t : TypeId} {z : List T} (kk : ∀ b, Kn σ0 ((d, .ptr b 0 0 z.length) :: L) (.box b z :: es) p (opsX P O ops .q l K)) (hz : qq_ P t = some z := by rfl) (hw : want ops L g = some true := by rfl) : Kn σ0 L es p (opsX P O ops .q (⟨some d, .alloc t, ty, ps, af, g⟩ :: l) K) := fun hp s σ hS hH =>
 q6_ hw hS hH (mm_ hz) fun b σ' s' hH' hS' => kk b hp s' σ' hS' hH'
theorem kt_ {t : TypeId} {z : List T} (hb : m.base σ0) (kk : ∀ b, m.nw b → Kn σ0 ((d, .ptr b 0 0 z.length) :: L) (.box b z :: es) p (opsX P O ops (nxM m) l K)) (hz : qq_ P t = some z := by rfl) (hw : want ops L g = some true := by rfl) (hm : m.chg = true := by rfl) : Kn σ0 L es p (opsX P O ops m (⟨some d, .alloc t, ty, ps, af, g⟩ :: l) K) := fun hp s σ hS hH =>
 ml_ hm hb hw hS hH (mm_ hz) fun b σ' s' hn hH' hS' => kk b hn hp s' σ' hS' hH'
theorem cm_ {x : Operand} {t : TypeId} {v : T} {cs : List T} (kk : ∀ b, Kn σ0 ((d, .ptr b 0 0 cs.length) :: L) (.box b cs :: es) p (opsX P O ops .q l K)) (hx : gE (get L) x = some v := by rfl) (hcs : cellsF v = some cs := by rfl) (h1 : cs.all T.one = true := by kernel_rfl) (hw : want ops L g = some true := by rfl) : Kn σ0 L es p (opsX P O ops .q (⟨some d, .box t x, ty, ps, af, g⟩ :: l) K) := fun hp s σ hS hH =>
 ta_ hw hS hH hx (gY_ hcs) h1 fun b σ' s' hH' hS' => kk b hp s' σ' hS' hH'
theorem s3_ {x : Operand} {t : TypeId} {v : T} (cs : List T) (hcs : v.cells = cs) (h1 : cs.all T.one = true) (kk : ∀ b, Kn σ0 ((d, .ptr b 0 0 cs.length) :: L) (.box b cs :: es) p (opsX P O ops .q l K)) (hx : gE (get L) x = some v := by rfl) (hw : want ops L g = some true := by rfl) : Kn σ0 L es p (opsX P O ops .q (⟨some d, .box t x, ty, ps, af, g⟩ :: l) K) := fun hp s σ hS hH =>
 ta_ hw hS hH hx hcs h1 fun b σ' s' hH' hS' => kk b hp s' σ' hS' hH'
theorem o8_ {x : Operand} {t : TypeId} {v : T} (h1 : ar_ v) (kk : ∀ b, Kn σ0 ((d, .ptr b 0 0 1) :: L) (.box b [v] :: es) p (opsX P O ops .q l K)) (hx : gE (get L) x = some v := by rfl) (hw : want ops L g = some true := by rfl) : Kn σ0 L es p (opsX P O ops .q (⟨some d, .box t x, ty, ps, af, g⟩ :: l) K) :=
 s3_ [v] h1.1 (by simp [h1.2]) kk hx hw
theorem mH_ {a x : Operand} {t : TypeId} {b off n : Nat} {cells cells' cs : List T} {v : T} (i : Nat) (hcs : v.cells = cs) (h1 : cs.all T.one = true) (kk : Kn σ0 L' (.box b cells' :: es') p (opsX P O ops (nxM m) l K)) (ha : gE (get L) a = some (.ptr b 0 off n) := by rfl) (he : pickE i es = some (.box b cells, es') := by rfl) (hx : gE (get L) x = some v := by rfl) (hc : lr_ P t cells off n cs = some cells' := by rfl) (hL : pu L dO (.tup []) = some L' := by rfl) (hw : want ops L g = some true := by rfl) (hwr : ∀ {σ}, Heap σ0 σ es → m.wr b := by exact fun _ => trivial) (hm : m.chg = true := by rfl) : Kn σ0 L es p (opsX P O ops m (⟨dO, .store t a x, ty, ps, af, g⟩ :: l) K) := fun hp s σ hS hH =>
 mT_ hm (hwr hH) hw hS (hH.pick he) ha hx hcs h1 (nZ_ hc) fun σ' s' hH' hS' => kk hp s' σ' (o3_ hL ▸ hS') hH'
theorem a6_ {a x : Operand} {t : TypeId} {b off n : Nat} {cells cells' cs : List T} {v : T} (i : Nat) (kk : Kn σ0 L' (.box b cells' :: es') p (opsX P O ops (nxM m) l K)) (ha : gE (get L) a = some (.ptr b 0 off n) := by rfl) (he : pickE i es = some (.box b cells, es') := by rfl) (hx : gE (get L) x = some v := by rfl) (hcs : cellsF v = some cs := by rfl) (h1 : cs.all T.one = true := by kernel_rfl) (hc : lr_ P t cells off n cs = some cells' := by rfl) (hL : pu L dO (.tup []) = some L' := by rfl) (hw : want ops L g = some true := by rfl) (hwr : ∀ {σ}, Heap σ0 σ es → m.wr b := by exact fun _ => trivial) (hm : m.chg = true := by rfl) : Kn σ0 L es p (opsX P O ops m (⟨dO, .store t a x, ty, ps, af, g⟩ :: l) K) :=
 mH_ i (gY_ hcs) h1 kk ha he hx hc hL hw hwr hm
theorem bI_ {a x : Operand} {t : TypeId} {b off n : Nat} {cells cells' : List T} {v : T} (i : Nat) (h1 : ar_ v) (kk : Kn σ0 L' (.box b cells' :: es') p (opsX P O ops (nxM m) l K)) (ha : gE (get L) a = some (.ptr b 0 off n) := by rfl) (he : pickE i es = some (.box b cells, es') := by rfl) (hx : gE (get L) x = some v := by rfl) (hc : lr_ P t cells off n [v] = some cells' := by rfl) (hL : pu L dO (.tup []) = some L' := by rfl) (hw : want ops L g = some true := by rfl) (hwr : ∀ {σ}, Heap σ0 σ es → m.wr b := by exact fun _ => trivial) (hm : m.chg = true := by rfl) : Kn σ0 L es p (opsX P O ops m (⟨dO, .store t a x, ty, ps, af, g⟩ :: l) K) :=
 mH_ i h1.1 (by simp [h1.2]) kk ha he hx hc hL hw hwr hm
theorem af_ {a x : Operand} {t : TypeId} {b n : Nat} {cells cs : List T} {v : T} (i : Nat) (kk : Kn σ0 L' (.box b cs :: es') p (opsX P O ops (nxM m) l K)) (ha : gE (get L) a = some (.ptr b 0 0 n) := by rfl) (he : pickE i es = some (.box b cells, es') := by rfl) (hx : gE (get L) x = some v := by rfl) (hcs : cellsF v = some cs := by rfl) (h1 : cs.all T.one = true := by kernel_rfl) (hc : ll_ P t cells 0 n cs = some cs := by kernel_rfl) (hL : pu L dO (.tup []) = some L' := by rfl) (hw : want ops L g = some true := by rfl) (hwr : ∀ {σ}, Heap σ0 σ es → m.wr b := by exact fun _ => trivial) (hm : m.chg = true := by rfl) : Kn σ0 L es p (opsX P O ops m (⟨dO, .store t a x, ty, ps, af, g⟩ :: l) K) := fun hp s σ hS hH =>
 mT_ hm (hwr hH) hw hS (hH.pick he) ha hx (gY_ hcs) h1 hc fun σ' s' hH' hS' => kk hp s' σ' (o3_ hL ▸ hS') hH'
theorem ab_ {a : Operand} {t : TypeId} {b e off n : Nat} {cells cs : List T} {v : T} (i : Nat) (kk : Kn σ0 ((d, v) :: L) es p (opsX P O ops (nxM m) l K)) (ha : gE (get L) a = some (.ptr b e off n) := by rfl) (he : es[i]? = some (.box b cells) := by rfl) (hc : drL off cells = some cs := by rfl) (hv : jd_ P t cs 0 = some v := by rfl) (hn : part P t (cs.take n) 0 = some v := by kernel_rfl) (hlt : m.lt b := by exact trivial) (hw : want ops L g = some true := by rfl) : Kn σ0 L es p (opsX P O ops m (⟨some d, .load t a, ty, ps, af, g⟩ :: l) K) := fun hp s σ hS hH =>
 tT_ (e := e) i hlt hw hS hH he ha (by rw [← (drL_some hc).2]; exact hn) fun s' hS' => kk hp s' σ hS' hH
theorem rN_ {a : Operand} {t : TypeId} {b e off n : Nat} {cells cs : List T} {v : T} (hL : Lent σ0 b cells) (kk : Kn σ0 ((d, v) :: L) es p (opsX P O ops (nxM m) l K)) (ha : gE (get L) a = some (.ptr b e off n) := by rfl) (hc : drL off cells = some cs := by rfl) (hv : jd_ P t cs 0 = some v := by rfl) (hn : part P t (cs.take n) 0 = some v := by kernel_rfl) (hlt : m.lt b := by exact trivial) (hw : want ops L g = some true := by rfl) : Kn σ0 L es p (opsX P O ops m (⟨some d, .load t a, ty, ps, af, g⟩ :: l) K) := fun hp s σ hS hH =>
 rS_ (e := e) hlt hw hS hH hL ha (by rw [← (drL_some hc).2]; exact hn) fun s' hS' => kk hp s' σ hS' hH
theorem cA_ {α : Type} [Enc α] [Lit α] {x i : Operand} {t e : TypeId} {sl : Sl α} {kk : IntKind} {j : Int} {f : α → Option γ} {c : α → List T} (k : ∀ y rest, elt sl j = some y → Kn σ0 ((d, .vw (c y ++ rest)) :: L) es (f y = some r) (opsX P O ops (nxM m) l K)) (hx : gE (get L) x = some sl.t := by rfl) (hi : gE (get L) i = some (.int kk j) := by rfl)
  (he : ao_ P t = some e := by rfl) (hz : szOf P e = some (Enc.w α) := by kernel_rfl) (hc : ∀ y, foL (Lit.c y) some = some (c y) := by intro; rfl) (hw : want ops L g = some true := by rfl) : Kn σ0 L es ((elt sl j).bind f = some r) (opsX P O ops m (⟨some d, .indexAddr t x i, ty, ps, af, g⟩ :: l) K) := fun hp s σ hS hH => by
 obtain ⟨y, hy, hp⟩ := bind_some hp
 exact vO_ (c y) hw hS hx hi he hz hy (by rw [Lit.h]; have := hc y; rw [cL_] at this; injection this) fun rest s' hS' => k y rest hy hp s' σ hS' hH
theorem dP_ {x i : Operand} {t : TypeId} {w : ByteArray} {kk : IntKind} {j : Int} {f : Int → Option γ} (k : ∀ y, aP_ w j = some y → Kn σ0 ((d, .int .u8 y) :: L) es (f y = some r) (opsX P O ops (nxM m) l K)) (hx : gE (get L) x = some (.str w) := by rfl) (hi : gE (get L) i = some (.int kk j) := by rfl) (ht : aD_ P t = 3 := by kernel_rfl) (hw : want ops L g = some true := by rfl) : Kn σ0 L es ((aP_ w j).bind f = some r) (opsX P O ops m (⟨some d, .index t x i, ty, ps, af, g⟩ :: l) K) := fun hp s σ hS hH => by
 obtain ⟨y, hy, hp⟩ := bind_some hp
 exact rz_ hw hS hx hi ht hy fun s' hS' => k y hy hp s' σ hS' hH
theorem nk_ {x y : Operand} {t u : TypeId} {a b : ByteArray} {f : ByteArray → Option γ} (k : ∀ c, catB a b = some c → Kn σ0 ((d, .str c) :: L) es (f c = some r) (opsX P O ops (nxM m) l K)) (hx : gE (get L) x = some (.str a) := by rfl) (hy : gE (get L) y = some (.str b) := by rfl) (hw : want ops L g = some true := by rfl) : Kn σ0 L es ((catB a b).bind f = some r) (opsX P O ops m (⟨some d, .binOp .add t x y u, ty, ps, af, g⟩ :: l) K) := fun hp s σ hS hH => by
 obtain ⟨c, hc, hp⟩ := bind_some hp
 exact tE_ hw hS hx hy hc fun s' hS' => k c hc hp s' σ hS' hH
theorem lk_ {x : Operand} {lo hi : Option Operand} {t : TypeId} {w : ByteArray} {vlo vhi : Option T} {a b : Int} {f : ByteArray → Option γ} (k : ∀ y, subB w a b = some y → Kn σ0 ((d, .str y) :: L) es (f y = some r) (opsX P O ops (nxM m) l K)) (hx : gE (get L) x = some (.str w) := by rfl) (hlo : gO (get L) lo = some vlo := by rfl) (hhi : gO (get L) hi = some vhi := by rfl)
  (ha : gq_ vlo 0 = some a := by rfl) (hb : gq_ vhi w.size = some b := by rfl) (ht : aD_ P t = 3 := by kernel_rfl) (hw : want ops L g = some true := by rfl) : Kn σ0 L es ((subB w a b).bind f = some r) (opsX P O ops m (⟨some d, .slice t x lo hi none, ty, ps, af, g⟩ :: l) K) := fun hp s σ hS hH => by
 obtain ⟨y, hy, hp⟩ := bind_some hp
 exact tW_ hw hS hx hlo hhi ha hb ht hy fun s' hS' => k y hy hp s' σ hS' hH
theorem tH_ {α : Type} [Enc α] {x : Operand} {lo hi : Option Operand} {t e : TypeId} {w : Sl α} {vlo vhi : Option T} {a b : Int} {f : Sl α → Option γ} (k : ∀ y, subS w a b = some y → Kn σ0 ((d, y.t) :: L) es (f y = some r) (opsX P O ops (nxM m) l K)) (hx : gE (get L) x = some w.t := by rfl) (hlo : gO (get L) lo = some vlo := by rfl) (hhi : gO (get L) hi = some vhi := by rfl)
  (ha : gq_ vlo 0 = some a := by rfl) (hb : gq_ vhi w.l.length = some b := by rfl) (he : ao_ P t = some e := by rfl) (hz : szOf P e = some (Enc.w α) := by kernel_rfl) (hw : want ops L g = some true := by rfl) : Kn σ0 L es ((subS w a b).bind f = some r) (opsX P O ops m (⟨some d, .slice t x lo hi none, ty, ps, af, g⟩ :: l) K) := fun hp s σ hS hH => by
 obtain ⟨y, hy, hp⟩ := bind_some hp
 exact qL_ hw hS hx hlo hhi ha hb he hz hy fun s' hS' => k y hy hp s' σ hS' hH
end
def hlOk : T → Bool
 | .int .. | .bool _ | .str _ | .row .. | .nilp | .nilf | .nili | .nilm | .fn .. | .vw .. | .ptr .. => true
 | .agg cs => hlOks cs
 | .tup cs => hlOks cs
 | .ref .. | .emp | .mp _ | .anyi | .yld _ => false
where hlOks : List T → Bool
 | [] => true
 | t :: ts => hlOk t && hlOks ts
mutual
theorem hl1 {ts vs : List T} {es : List Ent} : ∀ {t : T}, hlOk t = true → HL false ts vs es → HL false (t :: ts) (t :: vs) es
 | .int k n, _, h => HL.leaf (fun σ d => mQ_ _ σ d _ _) h
 | .bool b, _, h => HL.leaf (fun σ d => by cases d <;> rfl) h
 | .str b, _, h => HL.leaf (fun σ d => by cases d <;> rfl) h
 | .row z n cs, _, h => HL.leaf (fun σ d => by cases d <;> cases z <;> cases n <;> cases cs <;> rfl) h
 | .emp, k, h => by cases k
 | .mp _, k, h => by cases k
 | .anyi, k, h => by cases k
 | .yld _, k, h => by cases k
 | .nilp, _, h => HL.leaf (fun σ d => by cases d <;> rfl) h
 | .nilf, _, h => HL.leaf (fun σ d => by cases d <;> rfl) h
 | .nili, _, h => HL.leaf (fun σ d => by cases d <;> rfl) h
 | .nilm, _, h => HL.leaf (fun σ d => by cases d <;> rfl) h
 | .fn f a b, _, h => HL.leaf (fun σ d => by cases d <;> rfl) h
 | .vw cs, _, h => HL.leaf (fun σ d => by cases d <;> rfl) h
 | .ptr b e o m, _, h => HL.leaf (fun σ d => by cases d <;> rfl) h
 | .agg cs, k, h => HL.agg (es1 := []) (hl2 (ts := cs) k) h
 | .tup cs, k, h => HL.tup (es1 := []) (hl2 (ts := cs) k) h
 | .ref .., k, h => by cases k
theorem hl2 : ∀ {ts : List T}, hlOk.hlOks ts = true → HL false ts ts []
 | [], _ => .nil
 | t :: ts, h => by
  simp only [hlOk.hlOks, Bool.and_eq_true] at h
  exact hl1 h.1 (hl2 h.2)
end
def HC (z : Bool) (ts vs : List T) (es es1 : List Ent) : Prop := ∃ ents, HL z ts vs ents ∧ es = ents ++ es1
section
variable {z : Bool} {ts vs cs us : List T} {es es1 es2 : List Ent}
theorem HC.nil : HC z [] [] es es := ⟨[], .nil, rfl⟩
theorem HC.i {k : IntKind} {n : Int} (h : HC z ts vs es es1) : HC z (.int k n :: ts) (.int k n :: vs) es es1 := let ⟨a, b, c⟩ := h; ⟨a, HLi b, c⟩
theorem HC.s {x : ByteArray} (h : HC z ts vs es es1) : HC z (.str x :: ts) (.str x :: vs) es es1 := let ⟨a, b, c⟩ := h; ⟨a, HLs b, c⟩
theorem HC.b {x : Bool} (h : HC z ts vs es es1) : HC z (.bool x :: ts) (.bool x :: vs) es es1 := let ⟨a, b, c⟩ := h; ⟨a, HLb b, c⟩
theorem HC.n {α : Type} [Enc α] (h : HC z ts vs es es1) : HC z (Sl.t (⟨true, []⟩ : Sl α) :: ts) (Sl.t (⟨true, []⟩ : Sl α) :: vs) es es1 := let ⟨a, b, c⟩ := h; ⟨a, HLn b, c⟩
theorem HC.p {α : Type} [Enc α] {x : Sl α} (h : HC false ts vs es es1) : HC false (x.t :: ts) (x.t :: vs) es es1 := let ⟨a, b, c⟩ := h; ⟨a, HLp b, c⟩
theorem HC.own {z' : Bool} {w : Nat} {t v : T} (hz : (!z || z') = true) (h : HC z ts vs es es1) : HC z (t :: ts) (v :: vs) (.own z' w t v :: es) es1 := let ⟨a, b, c⟩ := h; ⟨_, HL.own hz b, by rw [c]; rfl⟩
theorem HC.agg (h : HC z cs us es es2) (k : HC z ts vs es2 es1) : HC z (.agg cs :: ts) (.agg us :: vs) es es1 := let ⟨a, b, c⟩ := h; let ⟨a', b', c'⟩ := k; ⟨a ++ a', HL.agg b b', by rw [c, c', List.append_assoc]⟩
theorem HC.of {ents : List Ent} (h : HL z ts vs ents) : HC z ts vs (ents ++ es1) es1 := ⟨_, h, rfl⟩
end
section
variable {P : Program} {md : Nat → Md} {X : Ext} {ops : Array Oper} {m : Mo} {l : List Oper} {K : Fr → Prop} {σ0 : St} {L L' : List (Nat × T)} {es es1 ents : List Ent} {β γ : Type} {eb : β → T} {r : γ} {fn : Nat} {h : β → Option γ}
variable {d : Nat} {ty : TypeId} {ps : String} {af : Array Edge} {g : Option (Nat × Bool)} {fo : Operand} {as : Array Operand} {tys : Array TypeId}
theorem an_ {xs : List T} (k : ∀ y, semV P md X eb fn xs = some y → Kn σ0 ((d, eb y) :: L) es (h y = some r) (opsX P (run P md X) ops (nxM m) l K)) (hf : gE (get L) fo = some (.fn fn [] []) := by rfl) (ha : gEs (get L) as.toList = some xs := by rfl) (hw : want ops L g = some true := by rfl) : Kn σ0 L es ((semV P md X eb fn xs).bind h = some r) (opsX P (run P md X) ops m (⟨some d, .call ⟨.value fo, as, tys⟩, ty, ps, af, g⟩ :: l) K) := fun hp s σ hS hH => by
 obtain ⟨y, hy, hp⟩ := bind_some hp
 exact rh_ (a := []) (b := []) (xs := xs) hw hS hf ha (by simpa using hy) fun s' hS' => k y hy hp s' σ hS' hH
theorem one_of {σ : St} {es : List Ent} {z : Bool} {w : Nat} {t v : T} {i : Nat} (hH : Heap σ0 σ es) (h : es[i]? = some (.own z w t v)) : ar_ t := Heap.one (hH.at i h)
theorem gh_ {Sh : f5_ β} {ts vs : List T} {es1 : List Ent} {es' : β → T → List Ent} (k : ∀ y t, semO P md X Sh fn vs = some y → ar_ t → Kn σ0 ((d, Sh.tree [t] y) :: L) (es' y t) (h y = some r) (opsX P (run P md X) ops (nxM m) l K)) (hn : Sh.n = 1 := by rfl) (hf : gE (get L) fo = some (.fn fn [] []) := by rfl) (ha : gEs (get L) as.toList = some ts := by rfl) (hh : HC false ts vs es es1 := by repeat (first | exact HC.nil | apply HC.i | apply HC.s | apply HC.b | apply HC.n | apply HC.p | apply HC.agg | apply HC.own rfl))
  (he : ∀ y t, foL (Sh.en [t] y ++ es) some = some (es' y t) := by intros; rfl) {z : β → T → Bool} {w : β → T → Nat} {v : β → T → T} (ho : ∀ y t, (es' y t)[0]? = some (.own (z y t) (w y t) t (v y t)) := by intros; rfl) (hv : md fn = .own := by rfl) (hm : m.chg = true := by rfl) (hw : want ops L g = some true := by rfl) : Kn σ0 L es ((semO P md X Sh fn vs).bind h = some r) (opsX P (run P md X) ops m (⟨some d, .call ⟨.value fo, as, tys⟩, ty, ps, af, g⟩ :: l) K) := fun hp s σ hS hH => by
 obtain ⟨y, hy, hp⟩ := bind_some hp
 obtain ⟨ents, hh, hE⟩ := hh
 refine re_ hm hw hS hf ha hv (hE ▸ hH) hh hy fun hs σ' s' hl hH' hS' => ?_
 rw [hn] at hl
 rw [← hE] at hH'
 match hs, hl with
 | [t], _ =>
  have := he y t; rw [cL_] at this; injection this with this
  rw [this] at hH'
  exact k y t hy (one_of hH' (ho y t)) hp s' σ' hS' hH'
end
def KR (P : Program) (σ0 : St) (L : List (Nat × T)) (es : List Ent) (rs : List ResultVar) (l : List T) : Prop := ∀ s σ, Sub L s → Heap σ0 σ es → resL P ⟨s, σ⟩ rs = some l
def okX : aA_ → Bool
 | .exit _ => false
 | _ => true
section
variable {P : Program} {md : Nat → Md} {X : Ext} {O : ax_} {σ0 : St} {L L0 : List (Nat × T)} {es es1 ents : List Ent} {β : Type} {eb : β → T} {r v : β} {f n : Nat} {p : Prop} {c : Code} {rs : List ResultVar} {args l : List T} {w : Wh} {k : List Ct} {e : aA_} {Sh : f5_ β}
theorem rN : KR P σ0 L es [] [] := fun _ _ _ _ => rfl
theorem rT {t : Nat} {v : T} (kk : KR P σ0 L es rs l) (h : get L t = some v := by rfl) : KR P σ0 L es (.tmp t :: rs) (v :: l) := fun s σ hS hH => bE_ hS h (kk s σ hS hH)
theorem rC {a : Nat} {ty : TypeId} {b e off n : Nat} {cells cs : List T} {v : T} (i : Nat) (kk : KR P σ0 L es rs l) (h : get L a = some (.ptr b e off n) := by rfl) (he : es[i]? = some (.box b cells) := by rfl) (hc : drL off cells = some cs := by rfl) (hv : jd_ P ty cs 0 = some v := by rfl) (hn : part P ty (cs.take n) 0 = some v := by kernel_rfl) : KR P σ0 L es (.cell a ty :: rs) (v :: l) := fun s σ hS hH =>
 ce_ (e := e) hS (hH.at i he) h (by rw [← (drL_some hc).2]; exact hn) (kk s σ hS hH)
theorem k_W (hok : Ok P f c n rs) (hi : ∀ a b, eb a = eb b → a = b) (hp : p) (kk : ∀ σ0, Kn σ0 L0 [] p (whQ P (run P md X) w k (endW P rs σ0 (eb r)))) (hf : args.all flat3 = true := by kernel_rfl) (hv : md f = .view := by rfl) (hX : X f = none := by rfl) (hlen : Nat.ble args.length n = true := by kernel_rfl) (hL : foL (nums 0 args) some = some L0 := by rfl) (hc : nx 99 (.c c) [] = some (w, k) := by rfl) : semV P md X eb f args = some r :=
 rC_ hi hv hX hok hlen hf fun σ s hS hH => nx_ok (w := .c c) hc (kk σ hp s σ (by rw [cL_] at hL; injection hL with hL; rw [← hL]; exact hS) hH)
theorem k_O (hok : Ok P f c n rs) (hp : p) (kk : ∀ σ0, Kn σ0 L0 [] p (whQ P (run P md X) w k (p9_ P rs σ0 Sh r))) (hf : args.all flat3 = true := by kernel_rfl) (hv : md f = .own := by rfl) (hX : X f = none := by rfl) (hlen : Nat.ble args.length n = true := by kernel_rfl) (hL : foL (nums 0 args) some = some L0 := by rfl) (hc : nx 99 (.c c) [] = some (w, k) := by rfl) : semO P md X Sh f args = some r :=
 rZ_ hv hX hok hlen hf fun σ s hS hH => nx_ok (w := .c c) hc (kk σ hp s σ (by rw [cL_] at hL; injection hL with hL; rw [← hL]; exact hS) hH)
theorem k_eW (hr : KR P σ0 L es rs l) (hp : ∀ v, pureT (eb v) = true) (ht : tupOf l = eb v := by rfl) (hf : flat3 (eb v) = true := by kernel_rfl) (he : okX e = true := by rfl) : Kn σ0 L es (some v = some r) (whQ P O (.x e) [] (endW P rs σ0 (eb r))) := fun h s σ hS hH => by
 injection h with h; subst h
 have := t3_ hH (hr s σ hS hH) ht hf (hp v)
 cases e with
 | exit i => cases he
 | _ => exact this
theorem eW {s : Nat → T} {σ : St} (hS : Sub L s) (hH : Heap σ0 σ es) (hr : KR P σ0 L es rs l) (hp : ∀ v, pureT (eb v) = true) (ht : tupOf l = eb v := by rfl) (hf : flat3 (eb v) = true := by kernel_rfl) : endW P rs σ0 (eb v) .ret ⟨s, σ⟩ := t3_ hH (hr s σ hS hH) ht hf (hp v)
theorem k_eO (hs : List T) (hr : KR P σ0 L es rs l) (ht : tupOf l = Sh.tree hs v := by rfl) (hn : hs.length = Sh.n := by rfl) (he : es = Sh.en hs v ++ es1 := by rfl) (hx : okX e = true := by rfl) : Kn σ0 L es (some v = some r) (whQ P O (.x e) [] (p9_ P rs σ0 Sh r)) := fun h s σ hS hH => by
 injection h with h; subst h
 have := td_ (P := P) hs es1 (hr s σ hS hH) ht hn hH he
 cases e with
 | exit i => cases hx
 | _ => exact this
end
def splitF : Nat → List Ct → Option (List Ct × List Ct)
 | 0, k => some ([], k)
 | n + 1, x :: k => match splitF n k with
  | some (a, b) => some (x :: a, b)
  | none => none
 | _ + 1, [] => none
theorem ge_ {P : Program} {O : ax_} {Q : aA_ → Fr → Prop} : ∀ {n : Nat} {k a b : List Ct}, splitF n k = some (a, b) → popQ P O k Q = popQ P O a (popQ P O b Q)
 | 0, k, a, b, h => by injection h with h; injection h with h1 h2; subst h1; subst h2; rfl
 | n + 1, [], _, _, h => by cases h
 | n + 1, x :: k, a, b, h => by
  simp only [splitF] at h
  split at h
  ·rename_i a' b' hs
   injection h with h; injection h with h1 h2; subst h1; subst h2
   cases x with
   | s c => simp only [popQ]; rw [ge_ hs]
   | b i => simp only [popQ]; rw [ge_ hs]
  ·cases h
theorem kR_ {P : Program} {O : ax_} {k : List Ct} : ∀ {Q Q' : aA_ → Fr → Prop}, (∀ e fr, Q e fr → Q' e fr) → ∀ e fr, popQ P O k Q e fr → popQ P O k Q' e fr := by
 induction k with
 | nil => exact fun h => h
 | cons x k ih =>
  intro Q Q' h e fr hh
  cases x with
  | s c =>
   cases e with
   | normal => exact codeQ_mono (ih h) hh
   | exit i => exact ih h (.exit i) fr hh
   | ret => exact ih h .ret fr hh
  | b i =>
   cases e with
   | normal => exact ih h .normal fr hh
   | exit j => exact ih h _ fr hh
   | ret => exact ih h .ret fr hh
theorem p7_ {P : Program} {O : ax_} {w : Wh} {k : List Ct} {Q Q' : aA_ → Fr → Prop} (h : ∀ e fr, Q e fr → Q' e fr) {fr : Fr} (hh : whQ P O w k Q fr) : whQ P O w k Q' fr := by
 cases w with
 | c c => exact codeQ_mono (kR_ h) hh
 | x e => exact kR_ h _ _ hh
section
variable {P : Program} {O : ax_} {ops : Array Oper} {σ0 : St} {L L1 : List (Nat × T)} {es es' : List Ent} {β γ S : Type} {r : γ} {p : Prop} {G : Fr → Prop}
variable {Q : aA_ → Fr → Prop} {k ka kb k1 : List Ct} {w w1 : Wh} {s : Nat → T} {σ : St} {e : aA_} {c : Code}
theorem d4_ {A : Option β} {h : β → Option γ} (n : Nat) (F : β → aA_ → Fr → Prop) (h2 : ∀ y e fr, h y = some r → F y e fr → popQ P O kb Q e fr) (h1 : ∀ y, Kn σ0 L es (A = some y) (whQ P O w ka (F y))) (hs : splitF n k = some (ka, kb) := by rfl) : Kn σ0 L es (A.bind h = some r) (whQ P O w k Q) := fun hp s σ hS hH => by
 obtain ⟨y, hy, hp⟩ := bind_some hp
 have := p7_ (fun e fr => h2 y e fr hp) (h1 y hy s σ hS hH)
 cases w with
 | c c => simp only [whQ] at this ⊢; rw [ge_ hs]; exact this
 | x e => simp only [whQ] at this ⊢; rw [ge_ hs]; exact this
theorem t_bx (h : p) (hS : Sub L s) (hH : Heap σ0 σ es) (kk : Kn σ0 L es p (whQ P O w1 k1 Q)) (hn : nx 99 (.x e) k = some (w1, k1) := by rfl) : popQ P O k Q e ⟨s, σ⟩ := nx_ok (w := .x e) hn (kk h s σ hS hH)
theorem t_e {v y : γ} (kk : ∀ {s σ}, y = v → Sub L s → Heap σ0 σ es → Q e ⟨s, σ⟩) : Kn σ0 L es (some v = some y) (whQ P O (.x e) [] Q) := fun h s σ hS hH => kk (by injection h with h; exact h.symm) hS hH
theorem bv_ {body : S → Option (S ⊕ β)} {s0 : S} {h : β → Option γ} (Inv : S → Fr → Prop) (F : β → aA_ → Fr → Prop) (hi : ∀ {s σ}, Sub L s → Heap σ0 σ es → Inv s0 ⟨s, σ⟩) (hr : ∀ st x fr, body st = some x → Inv st fr → whQ P O w1 k1 (qH_ Inv F x) fr) (hk : ∀ y e fr, h y = some r → F y e fr → popQ P O k Q e fr) (hn : nx 99 (.c c) [] = some (w1, k1) := by rfl) : Kn σ0 L es ((az_ body s0).bind h = some r) (whQ P O (.c (.loop c)) k Q) := fun hp s σ hS hH => by
 obtain ⟨y, hy, hp⟩ := bind_some hp
 exact tV_ Inv F hy (hi hS hH) (fun st x fr hb hI => nx_ok (w := .c c) (k := []) hn (hr st x fr hb hI)) (fun e fr => hk y e fr hp)
theorem t_D {id : Nat} (kk : ∀ mb, Kn σ0 L es p (opsX P O ops (.d mb 0) ops.toList (popQ P O k Q .normal))) (hd : fW_ ops = true := by kernel_rfl) : Kn σ0 L es p (whQ P O (.c (.region id ops true)) k Q) := fun hp s σ hS hH =>
 uf_ (id := id) hd hH fun mb σ' hH' => kk mb hp s σ' hS hH'
end
section
variable {P : Program} {md : Nat → Md} {X : Ext} {ops : Array Oper} {σ0 : St} {L : List (Nat × T)} {es : List Ent} {p : Prop} {Q : aA_ → Fr → Prop} {k : List Ct}
theorem bD_ {id : Nat} (W : List (Nat × (Nat → Prop))) (hX : XOk X) (kk : ∀ B σs, σ0.next ≤ B → (∀ x cells, Ent.box x cells ∈ es → x < B) → (∀ z w t v, Ent.own z w t v ∈ es → ∀ b e o n, t = .ref b e o n → b < B) → Kn σ0 L es p (opsX P (run P md X) ops (.c B 0 (Wc W) σs (qp_ [] md ops)) ops.toList (popQ P (run P md X) k Q .normal))) (hst : fW_ ops = true := by kernel_rfl) (hch : n8_ [] md ops = true := by kernel_rfl) : Kn σ0 L es p (whQ P (run P md X) (.c (.region id ops true)) k Q) := fun hp s σ hS hH =>
 rB_ (id := id) [] (Wc W) hX hst hch hH fun B σs σ' h1 h2 h3 hH' => kk B σs h1 h2 h3 hp s σ' hS hH'
end
section
variable {σ0 : St} {es : List Ent} {bs : List Nat} {cs : List (List T)} {b : Nat} {c : List T}
end
section
variable {P : Program} {md : Nat → Md} {X : Ext} {ops : Array Oper} {m : Mo} {l : List Oper} {K : Fr → Prop} {σ0 : St} {L L' : List (Nat × T)} {es ents : List Ent} {β γ : Type} {eb : β → T} {r : γ} {fn : Nat} {h : β → Option γ}
variable {d : Nat} {dO : Option Nat} {ty : TypeId} {ps : String} {af : Array Edge} {g : Option (Nat × Bool)} {fo : Operand} {as : Array Operand} {tys : Array TypeId}
theorem oV_ {ts vs : List T} {es1 : List Ent} (k : ∀ y, semV P md X eb fn vs = some y → Kn σ0 ((d, eb y) :: L) es (h y = some r) (opsX P (run P md X) ops (nxM m) l K)) (hlf : ∀ y, leafT (eb y) = true := by intro; kernel_rfl) (hf : gE (get L) fo = some (.fn fn [] []) := by rfl) (ha : gEs (get L) as.toList = some ts := by rfl) (hh : HC false ts vs es es1 := by repeat (first | exact HC.nil | apply HC.i | apply HC.s | apply HC.b | apply HC.n | apply HC.p | apply HC.agg | apply HC.own rfl)) (hv : md fn = .view := by rfl) (hw : want ops L g = some true := by rfl) (hvw : m.vw = false := by rfl) : Kn σ0 L es ((semV P md X eb fn vs).bind h = some r) (opsX P (run P md X) ops m (⟨some d, .call ⟨.value fo, as, tys⟩, ty, ps, af, g⟩ :: l) K) := fun hp s σ hS hH => by
 obtain ⟨y, hy, hp⟩ := bind_some hp
 obtain ⟨ents, hh, hE⟩ := hh
 exact r0_ hw hS hf ha hv (hE ▸ hH) hh hy (hlf y) (fun s' hS' => k y hy hp s' σ hS' hH) hvw
theorem kA_ {xs : List T} {q : T} (k : ∀ y, g5_ P md X eb q xs = some y → Kn σ0 ((d, eb y) :: L) es (h y = some r) (opsX P (run P md X) ops (nxM m) l K)) (hf : gE (get L) fo = some q := by rfl) (ha : gEs (get L) as.toList = some xs := by rfl) (hw : want ops L g = some true := by rfl) : Kn σ0 L es ((g5_ P md X eb q xs).bind h = some r) (opsX P (run P md X) ops m (⟨some d, .call ⟨.value fo, as, tys⟩, ty, ps, af, g⟩ :: l) K) := fun hp s σ hS hH => by
 obtain ⟨y, hy, hp⟩ := bind_some hp
 exact rb_ hw hS hf ha hy fun s' hS' => k y hy hp s' σ hS' hH
theorem a1_ {A : Option β} {xs a b : List T} {tree : β → List T → T} {ents' : β → List T → List Ent} {n : Nat} {es1 : List Ent} (k : ∀ y hs, A = some y → hs.length = n → Kn σ0 ((d, tree y hs) :: L) (ents' y hs ++ es1) (h y = some r) (opsX P (run P md X) ops .q l K)) (hf : gE (get L) fo = some (.fn fn a b) := by rfl) (ha : gEs (get L) as.toList = some xs := by rfl) (hr : ∀ y, A = some y → RawS P md X fn (a ++ xs ++ b) n (tree y) ents (ents' y)) (hE : es = ents ++ es1 := by rfl) (hw : want ops L g = some true := by rfl) : Kn σ0 L es (A.bind h = some r) (opsX P (run P md X) ops .q (⟨some d, .call ⟨.value fo, as, tys⟩, ty, ps, af, g⟩ :: l) K) := fun hp s σ hS hH => by
 obtain ⟨y, hy, hp⟩ := bind_some hp
 exact ol_ hw hS hf ha (hE ▸ hH) (hr y hy) fun hs σ' s' hl hH' hS' => k y hs hy hl hp s' σ' hS' hH'
theorem gk_ {A : Option β} {xs a b : List T} {tree : β → List T → T} {ents' : β → List T → List Ent} {n : Nat} {es1 : List Ent} (R : Nat → Prop) (hX : XOk X) (hR : Stay R es1) (hwr : ∀ x, ¬ R x → m.wr x) (k : ∀ y hs, A = some y → hs.length = n → Kn σ0 ((d, tree y hs) :: L) (ents' y hs ++ es1) (h y = some r) (opsX P (run P md X) ops (nxM m) l K)) (hf : gE (get L) fo = some (.fn fn a b) := by rfl) (ha : gEs (get L) as.toList = some xs := by rfl) (hr : ∀ y, A = some y → RawS P md X fn (a ++ xs ++ b) n (tree y) ents (ents' y)) (hE : es = ents ++ es1 := by rfl) (hm : m.chg = true := by rfl) (hw : want ops L g = some true := by rfl) : Kn σ0 L es (A.bind h = some r) (opsX P (run P md X) ops m (⟨some d, .call ⟨.value fo, as, tys⟩, ty, ps, af, g⟩ :: l) K) := fun hp s σ hS hH => by
 obtain ⟨y, hy, hp⟩ := bind_some hp
 exact mA_ hX hm R hR hwr hw hS hf ha (hE ▸ hH) (hr y hy) fun hs σ' s' hl hH' hS' => k y hs hy hl hp s' σ' hS' hH'
theorem fP_ {xs a b args : List T} {c : Code} {n0 : Nat} {rs : List ResultVar} {L0 : List (Nat × T)} {w : Wh} {k : List Ct} {p : Prop} (hok : Ok P fn c n0 rs) (kk : Kn σ0 L0 es p (whQ P (run P md X) w k (endI P rs fun v σ' => ∀ s', Sub (putL L dO v) s' → opsX P (run P md X) ops .q l K ⟨s', σ'⟩))) (hf : gE (get L) fo = some (.fn fn a b) := by rfl) (ha : gEs (get L) as.toList = some xs := by rfl) (hab : foL (a ++ xs ++ b) some = some args := by rfl) (hL : foL (nums 0 args) some = some L0 := by rfl) (hv : md fn = .raw := by rfl) (hX : X fn = none := by rfl) (hlen : Nat.ble args.length n0 = true := by kernel_rfl) (hn : nx 99 (.c c) [] = some (w, k) := by rfl) (hw : want ops L g = some true := by rfl) : Kn σ0 L es p (opsX P (run P md X) ops .q (⟨dO, .call ⟨.value fo, as, tys⟩, ty, ps, af, g⟩ :: l) K) := fun hp s σ hS hH =>
 tP_ args hw hS hf ha (by rw [cL_] at hab; injection hab) hv hX hok hlen fun s1 h1 => nx_ok (w := .c c) (k := []) hn (kk hp s1 σ (by rw [cL_] at hL; injection hL with hL; rw [← hL]; exact h1) hH)
theorem jJ_ {A : Option β} {xs a b args : List T} {c : Code} {n0 : Nat} {rs : List ResultVar} {L0 : List (Nat × T)} {w : Wh} {k : List Ct} (HF : β → (Nat → T) → St → Prop) (hok : Ok P fn c n0 rs) (k1 : ∀ y, Kn σ0 L0 es (A = some y) (whQ P (run P md X) w k (endI P rs fun v σ' => ∀ s', Sub (putL L dO v) s' → HF y s' σ'))) (k2 : ∀ y s σ, HF y s σ → h y = some r → opsX P (run P md X) ops .q l K ⟨s, σ⟩) (hf : gE (get L) fo = some (.fn fn a b) := by rfl) (ha : gEs (get L) as.toList = some xs := by rfl) (hab : foL (a ++ xs ++ b) some = some args := by rfl) (hL : foL (nums 0 args) some = some L0 := by rfl) (hv : md fn = .raw := by rfl) (hX : X fn = none := by rfl) (hlen : Nat.ble args.length n0 = true := by kernel_rfl) (hn : nx 99 (.c c) [] = some (w, k) := by rfl) (hw : want ops L g = some true := by rfl) : Kn σ0 L es (A.bind h = some r) (opsX P (run P md X) ops .q (⟨dO, .call ⟨.value fo, as, tys⟩, ty, ps, af, g⟩ :: l) K) := fun hp s σ hS hH => by
 obtain ⟨y, hy, hp⟩ := bind_some hp
 exact tj_ (HF := HF y) args hw hS hf ha (by rw [cL_] at hab; injection hab) hv hX hok hlen (fun s1 h1 => nx_ok (w := .c c) (k := []) hn (k1 y hy s1 σ (by rw [cL_] at hL; injection hL with hL; rw [← hL]; exact h1) hH)) fun s' σ' hF => k2 y s' σ' hF hp
theorem ow_ {A : Option β} {xs a b args : List T} {c : Code} {n0 : Nat} {rs : List ResultVar} {L0 : List (Nat × T)} {w : Wh} {k : List Ct} (HF : β → (Nat → T) → St → Prop) (hXx : XOk X) (R : Nat → Prop) (hst : ∀ y s {σ σ'}, Heap σ0 σ es → HF y s σ' → ∀ x, R x → σ'.blk x = σ.blk x) (hwr : ∀ x, ¬ R x → m.wr x) (hok : Ok P fn c n0 rs) (k1 : ∀ y, Kn σ0 L0 es (A = some y) (whQ P (run P md X) w k (endI P rs fun v σ' => ∀ s', Sub (putL L dO v) s' → HF y s' σ'))) (k2 : ∀ y s σ, HF y s σ → h y = some r → opsX P (run P md X) ops (nxM m) l K ⟨s, σ⟩) (hf : gE (get L) fo = some (.fn fn a b) := by rfl) (ha : gEs (get L) as.toList = some xs := by rfl) (hab : foL (a ++ xs ++ b) some = some args := by rfl) (hL : foL (nums 0 args) some = some L0 := by rfl) (hv : md fn = .raw := by rfl) (hX : X fn = none := by rfl) (hlen : Nat.ble args.length n0 = true := by kernel_rfl) (hn : nx 99 (.c c) [] = some (w, k) := by rfl) (hw : want ops L g = some true := by rfl) (hm : m.chg = true := by rfl) : Kn σ0 L es (A.bind h = some r) (opsX P (run P md X) ops m (⟨dO, .call ⟨.value fo, as, tys⟩, ty, ps, af, g⟩ :: l) K) := fun hp s σ hS hH => by
 obtain ⟨y, hy, hp⟩ := bind_some hp
 exact tt_ (HF := HF y) hXx hm R (fun s σ' hF => hst y s hH hF) hwr args hw hS hf ha (by rw [cL_] at hab; injection hab) hv hX hok hlen (fun s1 h1 => nx_ok (w := .c c) (k := []) hn (k1 y hy s1 σ (by rw [cL_] at hL; injection hL with hL; rw [← hL]; exact h1) hH)) fun s' σ' hF => k2 y s' σ' hF hp
theorem k_eI {L1 : List (Nat × T)} {rs : List ResultVar} {l1 : List T} {v : T} {e : aA_} {p : Prop} {O : ax_} (hr : KR P σ0 L es rs l1) (kk : Kn σ0 L' es p (opsX P O ops m l K)) (ht : tupOf l1 = v := by rfl) (hL : pu L1 dO v = some L' := by rfl) (he : okX e = true := by rfl) : Kn σ0 L es p (whQ P O (.x e) [] (endI P rs fun v σ' => ∀ s', Sub (putL L1 dO v) s' → opsX P O ops m l K ⟨s', σ'⟩)) := fun hp s σ hS hH => by
 have := tc_ (K := fun v σ' => ∀ s', Sub (putL L1 dO v) s' → opsX P O ops m l K ⟨s', σ'⟩) (hr s σ hS hH) ht fun s' hS' => kk hp s' σ (o3_ hL ▸ hS') hH
 cases e with
 | exit i => cases he
 | _ => exact this
theorem fO_ {L1 : List (Nat × T)} {rs : List ResultVar} {l1 : List T} {v : T} {e : aA_} {O : ax_} {HF : (Nat → T) → St → Prop} {u y : β} (hr : KR P σ0 L es rs l1) (kk : ∀ {s σ}, y = u → Sub L' s → Heap σ0 σ es → HF s σ) (ht : tupOf l1 = v := by rfl) (hL : pu L1 dO v = some L' := by rfl) (he : okX e = true := by rfl) : Kn σ0 L es (some u = some y) (whQ P O (.x e) [] (endI P rs fun v σ' => ∀ s', Sub (putL L1 dO v) s' → HF s' σ')) := fun hp s σ hS hH => by
 have := tc_ (K := fun v σ' => ∀ s', Sub (putL L1 dO v) s' → HF s' σ') (hr s σ hS hH) ht fun s' hS' => kk (by injection hp with hp; exact hp.symm) (o3_ hL ▸ hS') hH
 cases e with
 | exit i => cases he
 | _ => exact this
theorem mF_ {α : Type} [Enc α] {z : Bool} {w : Nat} {t1 : T} {a : Sl α} {t : TypeId} {x : Operand} {p : Prop} {O : ax_} (i : Nat) (kk : Kn σ0 ((d, .int .i64 a.l.length) :: L) es p (opsX P O ops (nxM m) l K)) (hx : gE (get L) x = some t1 := by rfl) (he : es[i]? = some (.own z w t1 a.t) := by rfl) (hk : aD_ P t = 4 := by kernel_rfl) (hw : want ops L g = some true := by rfl) : Kn σ0 L es p (opsX P O ops m (⟨some d, .call ⟨.builtin .len, #[x], #[t]⟩, ty, ps, af, g⟩ :: l) K) := fun hp s σ hS hH =>
 tY_ (z := z) (w := w) hw hS (hH.at i he) hx hk fun s' hS' => kk hp s' σ hS' hH
end
def entT : List Ent → Nat → Option T
 | .own _ _ t _ :: _, 0 => some t
 | .flt _ t _ :: _, 0 => some t
 | _ :: es, n + 1 => entT es n
 | _, _ => none
theorem mK_ {σ0 σ : St} : ∀ {es : List Ent} {i : Nat} {t : T}, Heap σ0 σ es → entT es i = some t → ar_ t
 | .own z w t v :: es, 0, t', hH, h => by injection h with h; subst h; exact Heap.one hH
 | .flt w t v :: es, 0, t', hH, h => by injection h with h; subst h; exact Heap.fltOne hH
 | .box .. :: es, 0, _, _, h => by cases h
 | .frt .. :: es, 0, _, _, h => by cases h
 | .keep .. :: es, 0, _, _, h => by cases h
 | e :: es, n + 1, t, hH, h => mK_ (es := es) (i := n) hH.drop (by cases e <;> exact h)
 | [], 0, _, _, h => by cases h
 | [], _ + 1, _, _, h => by cases h
section
variable {σ0 : St} {L : List (Nat × T)} {es es' : List Ent} {p : Prop} {G : Fr → Prop} {α β : Type} {r : α}
theorem a7_ {t : T} (i : Nat) (kk : ar_ t → Kn σ0 L es p G) (h : entT es i = some t := by rfl) : Kn σ0 L es p G := fun hp s σ hS hH => kk (mK_ hH h) hp s σ hS hH
theorem cj_ (kk : Kn σ0 L es' p G) (h : foL es some = some es' := by rfl) : Kn σ0 L es p G := fun hp s σ hS hH => kk hp s σ hS (by rw [cL_] at h; injection h with h; rw [← h]; exact hH)
theorem el_l {γ : Type} {f : α → Option γ} {g : β → Option γ} {a : α} {r : γ} (h : Sum.elim f g (Sum.inl a) = some r) : f a = some r := h
theorem el_r {γ : Type} {f : α → Option γ} {g : β → Option γ} {a : β} {r : γ} (h : Sum.elim f g (Sum.inr a) = some r) : g a = some r := h
end
def gVF (g : Nat → Option T) : Nat → List (Nat × Operand) → Option (List T)
 | _, [] => some []
 | i, (j, x) :: l => match Nat.beq i j with
  | true => match gE g x with
   | some v => match gVF g (i + 1) l with
    | some vs => some (v :: vs)
    | none => none
   | none => none
  | false => none
theorem pa_ {g : Nat → Option T} : ∀ {l : List (Nat × Operand)} {i : Nat} {vs : List T}, gVF g i l = some vs → gPs g l = some (enumV i vs)
 | [], i, vs, h => by injection h with h; subst h; rfl
 | (j, x) :: l, i, vs, h => by
  simp only [gVF] at h
  split at h
  ·rename_i hb
   split at h
   ·rename_i v hv
    split at h
    ·rename_i us hu
     injection h with h; subst h
     simp only [gPs, hv, pa_ hu, enumV, Nat.eq_of_beq_eq_true hb]
    ·cases h
   ·cases h
  ·cases h
def csF : List T → Option (List T)
 | [] => some []
 | v :: vs => match cellsF v with
  | some c => match csF vs with
   | some r => foL (c ++ r) some
   | none => none
  | none => none
theorem csF_ok : ∀ {vs cs : List T}, csF vs = some cs → vs.flatMap T.cells = cs
 | [], cs, h => by injection h
 | v :: vs, cs, h => by
  simp only [csF] at h
  split at h
  ·rename_i c hc
   split at h
   ·rename_i r hr
    rw [cL_] at h; injection h with h; subst h
    rw [List.flatMap_cons, gY_ hc, csF_ok hr]
   ·cases h
  ·cases h
theorem lP_ {sz : Nat} : ∀ {vs : List T}, (vs.all fun v => Nat.beq v.cells.length sz) = true → (vs.flatMap T.cells).all T.one = true → allV sz vs
 | [], _, _ => trivial
 | v :: vs, h, k => by
  simp only [List.all_cons, Bool.and_eq_true] at h
  rw [List.flatMap_cons, List.all_append, Bool.and_eq_true] at k
  exact ⟨Nat.eq_of_beq_eq_true h.1, k.1, lP_ h.2 k.2⟩
def litL {α : Type} [Enc α] [Lit α] : List α → List T
 | [] => []
 | x :: l => Lit.c x ++ litL l
theorem mb_ {α : Type} [Enc α] [Lit α] : ∀ (l : List α), ah_ l = litL l
 | [] => rfl
 | x :: l => by rw [ah_, litL, Lit.h, mb_ l]
section
variable {P : Program} {O : ax_} {ops : Array Oper} {m : Mo} {l : List Oper} {K : Fr → Prop} {σ0 : St} {L L' : List (Nat × T)} {es es1 es' ents : List Ent} {γ : Type} {r : γ} {p : Prop} {α : Type} [Enc α]
variable {d : Nat} {dO : Option Nat} {ty : TypeId} {ps : String} {af : Array Edge} {g : Option (Nat × Bool)} {t t2 e by_ w sz len : Nat} {x y i0 : Operand} {z : Bool} {t1 ty1 : T} {zc : List T} {parts : Array (Nat × Operand)} {kk0 : IntKind} {j : Int}
theorem t1_ {G : Fr → Prop} (w2 i : Nat) (kk : Kn σ0 L (.flt w2 t1 (.row false 0 []) :: es1) p G) (he : pickE i es = some (.own z w t1 (.row false 0 []), es1) := by rfl) : Kn σ0 L es p G := fun hp s σ hS hH => kk hp s σ hS (Heap.toFlt0 w2 (hH.pick he))
theorem qB_ {G : Fr → Prop} (w2 i : Nat) (kk : Kn σ0 L (.flt w2 t1 (.row true 0 []) :: es1) p G) (he : pickE i es = some (.own z w t1 (.row true 0 []), es1) := by rfl) : Kn σ0 L es p G := fun hp s σ hS hH => kk hp s σ hS (Heap.toFltN w2 (hH.pick he))
theorem k_bs [Lit α] {vs cs us : List T} (a : Sl α) (kk : ∀ t', ar_ t' → Kn σ0 ((d, t') :: L) (.own z sz t' a.t :: es1) p (opsX P O ops (nxM m) l K)) (hg : gVF (get L) 0 parts.toList = some vs := by rfl) (hc : csF vs = some cs := by rfl) (hu : foL (litL a.l) some = some us := by rfl) (hh : HC z cs us es es1 := by repeat (first | exact HC.nil | apply HC.i | apply HC.s | apply HC.b | apply HC.n | apply HC.p | apply HC.agg | apply HC.own rfl)) (he : ao_ P t = some e := by rfl) (hz : szOf P e = some sz := by rfl) (hzz : aT_ P e = some zc := by rfl) (hl : (Nat.beq zc.length sz && Nat.beq vs.length len && Nat.ble (len * sz) 16777216 && !Nat.beq sz 0 && !Nat.beq len 0) = true := by kernel_rfl) (hv : (vs.all fun v => Nat.beq v.cells.length sz) = true := by kernel_rfl) (h1 : cs.all T.one = true := by kernel_rfl) (hr : T.row false len (ah_ a.l) = a.t := by rfl) (hb : m.base σ0 := by exact trivial) (hm : m.chg = true := by rfl) (hw : want ops L g = some true := by rfl) : Kn σ0 L es p (opsX P O ops m (⟨some d, .buildSlice t len parts, ty, ps, af, g⟩ :: l) K) := fun hp s σ hS hH => by
 obtain ⟨ents, hh, hE⟩ := hh
 exact vB_ hm hb hw hS (hE ▸ hH) (pa_ hg) he hz hzz hl (lP_ hv (by rw [csF_ok hc]; exact h1)) (csF_ok hc) hh (by rw [cL_] at hu; injection hu with hu; rw [← hu, ← mb_]; exact hr) fun t' σ' s' h1 h2 h3 => kk t' h1 hp s' σ' h3 h2
theorem sQ_ (kk : ∀ t', ar_ t' → Kn σ0 ((d, t') :: L) (.own true sz t' (Sl.t (⟨false, []⟩ : Sl α)) :: es) p (opsX P O ops (nxM m) l K)) (he : ao_ P t = some e := by rfl) (hz : szOf P e = some sz := by rfl) (hzz : aT_ P e = some zc := by rfl) (hl : (Nat.beq zc.length sz && !Nat.beq sz 0) = true := by kernel_rfl) (hb : m.base σ0 := by exact trivial) (hm : m.chg = true := by rfl) (hw : want ops L g = some true := by rfl) : Kn σ0 L es p (opsX P O ops m (⟨some d, .buildSlice t 0 #[], ty, ps, af, g⟩ :: l) K) := fun hp s σ hS hH =>
 vH_ hm hb hw hS hH he hz hzz hl fun t' σ' s' h1 h2 h3 => kk t' h1 hp s' σ' h3 h2
theorem n9_ {a b : Sl α} {f : Sl α → Option γ} (i i2 : Nat) (k : ∀ c t', appS by_ a b = some c → ar_ t' → Kn σ0 ((d, t') :: L) (.own z (Enc.w α) t' c.t :: es') (f c = some r) (opsX P O ops (nxM m) l K)) (hx : gE (get L) x = some t1 := by rfl) (hy : gE (get L) y = some ty1 := by rfl) (h1 : pickE i es = some (.own z (Enc.w α) t1 a.t, es1) := by rfl) (h2 : pickE i2 es1 = some (.own z (Enc.w α) ty1 b.t, es') := by rfl)
  (he : ao_ P t = some e := by rfl) (hz : szOf P e = some (Enc.w α) := by kernel_rfl) (hby : cu_ P e = some by_ := by kernel_rfl) (hzz : aT_ P e = some zc := by rfl) (hcl : (!cz_ P t2 && Nat.beq zc.length (Enc.w α) && !Nat.beq (Enc.w α) 0 && !Nat.beq by_ 0 && Nat.ble by_ 1048576) = true := by kernel_rfl) (hk : aD_ P t2 = 4 := by kernel_rfl) (hb : m.base σ0 := by exact trivial) (hwr : ∀ {σ}, Heap σ0 σ es → ∀ b e o n, t1 = .ref b e o n → m.wr b := by exact fun _ _ _ _ _ _ => trivial) (hm : m.chg = true := by rfl) (hw : want ops L g = some true := by rfl) : Kn σ0 L es ((appS by_ a b).bind f = some r) (opsX P O ops m (⟨some d, .call ⟨.builtin .append, #[x, y], #[t, t2]⟩, ty, ps, af, g⟩ :: l) K) := fun hp s σ hS hH => by
 obtain ⟨c, hc, hp⟩ := bind_some hp
 have hH0 := hH
 have hH : Heap σ0 σ (.own z (Enc.w α) t1 a.t :: .own z (Enc.w α) ty1 b.t :: es') := (hH.pick h1).perm ((pickE_perm h2).cons _)
 exact sJ_ hm hb (hwr hH0) hw hS hH hx hy he hz hby hzz hcl hk hc fun t' σ' s' h1 h2 h3 => k c t' hc h1 hp s' σ' h3 h2
theorem qN_ [Hld z α] {a b : Sl α} {f : Sl α → Option γ} (i : Nat) (k : ∀ c t', appS by_ a b = some c → ar_ t' → Kn σ0 ((d, t') :: L) (.own z (Enc.w α) t' c.t :: es') (f c = some r) (opsX P O ops (nxM m) l K)) (hx : gE (get L) x = some t1 := by rfl) (hy : gE (get L) y = some b.t := by rfl) (h1 : pickE i es = some (.own z (Enc.w α) t1 a.t, es') := by rfl)
  (he : ao_ P t = some e := by rfl) (hz : szOf P e = some (Enc.w α) := by kernel_rfl) (hby : cu_ P e = some by_ := by kernel_rfl) (hzz : aT_ P e = some zc := by rfl) (hcl : (!cz_ P t2 && Nat.beq zc.length (Enc.w α) && !Nat.beq (Enc.w α) 0 && !Nat.beq by_ 0 && Nat.ble by_ 1048576) = true := by kernel_rfl) (hk : aD_ P t2 = 4 := by kernel_rfl) (hb : m.base σ0 := by exact trivial) (hwr : ∀ {σ}, Heap σ0 σ es → ∀ b e o n, t1 = .ref b e o n → m.wr b := by exact fun _ _ _ _ _ _ => trivial) (hm : m.chg = true := by rfl) (hw : want ops L g = some true := by rfl) : Kn σ0 L es ((appS by_ a b).bind f = some r) (opsX P O ops m (⟨some d, .call ⟨.builtin .append, #[x, y], #[t, t2]⟩, ty, ps, af, g⟩ :: l) K) := fun hp s σ hS hH => by
 obtain ⟨c, hc, hp⟩ := bind_some hp
 exact oe_ hm hb (hwr hH) hw hS (hH.pick h1) hx hy he hz hby hzz hcl hk hc fun t' σ' s' h1 h2 h3 => k c t' hc h1 hp s' σ' h3 h2
theorem kv_ {a b : Sl α} {f : Sl α → Option γ} (i : Nat) (hn : ∀ {σ}, Heap σ0 σ es → e2_ σ (Enc.w α) ty1 = some (b.l.length, ah_ b.l) ∧ e8_ P t2 ty1 = true) (k : ∀ c t', appS by_ a b = some c → ar_ t' → Kn σ0 ((d, t') :: L) (.flt (Enc.w α) t' c.t :: es') (f c = some r) (opsX P O ops (nxM m) l K)) (hx : gE (get L) x = some t1 := by rfl) (hy : gE (get L) y = some ty1 := by rfl) (h1 : pickE i es = some (.flt (Enc.w α) t1 a.t, es') := by rfl)
  (he : ao_ P t = some e := by rfl) (hz : szOf P e = some (Enc.w α) := by kernel_rfl) (hby : cu_ P e = some by_ := by kernel_rfl) (hzz : aT_ P e = some zc := by rfl) (hcl : (!cz_ P t2 && Nat.beq zc.length (Enc.w α) && !Nat.beq (Enc.w α) 0 && !Nat.beq by_ 0 && Nat.ble by_ 1048576) = true := by kernel_rfl) (hb : m.base σ0 := by exact trivial) (hwr : ∀ {σ}, Heap σ0 σ es → ∀ b e o n, t1 = .ref b e o n → m.wr b := by exact fun _ _ _ _ _ _ => trivial) (hm : m.chg = true := by rfl) (hw : want ops L g = some true := by rfl) : Kn σ0 L es ((appS by_ a b).bind f = some r) (opsX P O ops m (⟨some d, .call ⟨.builtin .append, #[x, y], #[t, t2]⟩, ty, ps, af, g⟩ :: l) K) := fun hp s σ hS hH => by
 obtain ⟨c, hc, hp⟩ := bind_some hp
 exact se_ hm hb (hwr hH) hw hS (hH.pick h1) (hn hH) hx hy he hz hby hzz hcl hc fun t' σ' s' h1 h2 h3 => k c t' hc h1 hp s' σ' h3 h2
theorem pQ_ [Lit α] {vs cs : List T} (a : Sl α) (kk : ∀ t', ar_ t' → Kn σ0 ((d, t') :: L) (.flt sz t' a.t :: es) p (opsX P O ops (nxM m) l K)) (hg : gVF (get L) 0 parts.toList = some vs := by rfl) (hc : csF vs = some cs := by rfl) (hu : foL (litL a.l) some = some cs := by rfl) (he : ao_ P t = some e := by rfl) (hz : szOf P e = some sz := by rfl) (hzz : aT_ P e = some zc := by rfl) (hl : (Nat.beq zc.length sz && Nat.beq vs.length len && Nat.ble (len * sz) 16777216 && !Nat.beq sz 0 && !Nat.beq len 0) = true := by kernel_rfl) (hv : (vs.all fun v => Nat.beq v.cells.length sz) = true := by kernel_rfl) (h1 : cs.all T.one = true := by kernel_rfl) (hr : T.row false len (ah_ a.l) = a.t := by rfl) (hb : m.base σ0 := by exact trivial) (hm : m.chg = true := by rfl) (hw : want ops L g = some true := by rfl) : Kn σ0 L es p (opsX P O ops m (⟨some d, .buildSlice t len parts, ty, ps, af, g⟩ :: l) K) := fun hp s σ hS hH =>
 t8_ hm hb hw hS hH (pa_ hg) he hz hzz hl (lP_ hv (by rw [csF_ok hc]; exact h1)) (csF_ok hc) (by rw [cL_] at hu; injection hu with hu; rw [← hu, ← mb_]; exact hr) fun t' σ' s' h1 h2 h3 => kk t' h1 hp s' σ' h3 h2
theorem mG_ {a : Sl α} {f : α → Option γ} (i : Nat) (k : ∀ b ep y, elt a j = some y → t1 = .ref b ep 0 a.l.length → Kn σ0 ((d, .ptr b ep (j.toNat * Enc.w α) (Enc.w α)) :: L) es (f y = some r) (opsX P O ops (nxM m) l K)) (hx : gE (get L) x = some t1 := by rfl) (hi : gE (get L) i0 = some (.int kk0 j) := by rfl) (h1 : es[i]? = some (.own z w t1 a.t) := by rfl) (he : ao_ P t = some e := by rfl) (hz : szOf P e = some (Enc.w α) := by kernel_rfl) (hlt : ∀ b e o n, t1 = .ref b e o n → m.lt b := by exact fun _ _ _ _ _ => trivial) (hw : want ops L g = some true := by rfl) : Kn σ0 L es ((elt a j).bind f = some r) (opsX P O ops m (⟨some d, .indexAddr t x i0, ty, ps, af, g⟩ :: l) K) := fun hp s σ hS hH => by
 obtain ⟨y, hy, hp⟩ := bind_some hp
 exact tS_ (z := z) (w := w) hlt hw hS (hH.at i h1) hx hi he hz hy fun b ep s' hr h3 => k b ep y hy hr hp s' σ h3 hH
theorem a3_ {a : Sl α} {f : α → Option γ} (i : Nat) (k : ∀ b ep y, elt a j = some y → t1 = .ref b ep 0 a.l.length → Kn σ0 ((d, .ptr b ep (j.toNat * Enc.w α) (Enc.w α)) :: L) es (f y = some r) (opsX P O ops (nxM m) l K)) (hx : gE (get L) x = some t1 := by rfl) (hi : gE (get L) i0 = some (.int kk0 j) := by rfl) (h1 : es[i]? = some (.flt (Enc.w α) t1 a.t) := by rfl) (he : ao_ P t = some e := by rfl) (hz : szOf P e = some (Enc.w α) := by kernel_rfl) (hlt : ∀ b e o n, t1 = .ref b e o n → m.lt b := by exact fun _ _ _ _ _ => trivial) (hw : want ops L g = some true := by rfl) : Kn σ0 L es ((elt a j).bind f = some r) (opsX P O ops m (⟨some d, .indexAddr t x i0, ty, ps, af, g⟩ :: l) K) := fun hp s σ hS hH => by
 obtain ⟨y, hy, hp⟩ := bind_some hp
 exact tK_ hlt hw hS (hH.at i h1) hx hi he hz hy fun b ep s' hr h3 => k b ep y hy hr hp s' σ h3 hH
theorem i5_ {a : Sl α} (i : Nat) (kk : Kn σ0 ((d, .int .i64 a.l.length) :: L) es p (opsX P O ops (nxM m) l K)) (hx : gE (get L) x = some t1 := by rfl) (he : es[i]? = some (.flt w t1 a.t) := by rfl) (hk : aD_ P t = 4 := by kernel_rfl) (hw : want ops L g = some true := by rfl) : Kn σ0 L es p (opsX P O ops m (⟨some d, .call ⟨.builtin .len, #[x], #[t]⟩, ty, ps, af, g⟩ :: l) K) := fun hp s σ hS hH =>
 sH_ (w := w) hw hS (hH.at i he) hx hk fun s' hS' => kk hp s' σ hS' hH
theorem lW_ [Lit α] {a : Sl α} {b ep n : Nat} {c : List T} {v : T} {y : α} (i off : Nat) (hr : t1 = .ref b ep 0 a.l.length) (hy : elt a j = some y) (kk : Kn σ0 ((d, v) :: L) es p (opsX P O ops (nxM m) l K)) (ha : gE (get L) x = some (.ptr b ep (j.toNat * Enc.w α + off) n) := by rfl) (he : es[i]? = some (.own z w t1 a.t) := by rfl) (hc : foL (Lit.c y) some = some c := by rfl) (hv : c[off]? = some v := by rfl) (hag : j2_ P t = some false := by kernel_rfl) (hn : Nat.ble 1 n = true := by kernel_rfl) (hlf : ∀ σ d t S, hold z σ d t = some (v, S) → t = v := by first | exact pF_ | exact pS_ | exact pb_) (hlt : ∀ b e o n, t1 = .ref b e o n → m.lt b := by exact fun _ _ _ _ _ => trivial) (hw : want ops L g = some true := by rfl) : Kn σ0 L es p (opsX P O ops m (⟨some d, .load t x, ty, ps, af, g⟩ :: l) K) := fun hp s σ hS hH =>
 r5_ (z := z) (w := w) (c := c) hlt hw hS (hH.at i he) hr ha hy (by rw [Lit.h]; rw [cL_] at hc; injection hc) hag hv hn hlf fun s' h3 => kk hp s' σ h3 hH
theorem aJ_ [Lit α] {a : Sl α} {b ep n : Nat} {c cs : List T} {v : T} {y : α} (i off : Nat) (hr : t1 = .ref b ep 0 a.l.length) (hy : elt a j = some y) (kk : Kn σ0 ((d, v) :: L) es p (opsX P O ops (nxM m) l K)) (ha : gE (get L) x = some (.ptr b ep (j.toNat * Enc.w α + off) n) := by rfl) (he : es[i]? = some (.flt (Enc.w α) t1 a.t) := by rfl) (hc : foL (Lit.c y) some = some c := by rfl) (hd : drL off c = some cs := by rfl) (hv : jd_ P t cs 0 = some v := by rfl) (hn : Nat.ble (off + n) (Enc.w α) = true := by kernel_rfl) (hvn : part P t (cs.take n) 0 = some v := by kernel_rfl) (hlt : ∀ b e o n, t1 = .ref b e o n → m.lt b := by exact fun _ _ _ _ _ => trivial) (hw : want ops L g = some true := by rfl) : Kn σ0 L es p (opsX P O ops m (⟨some d, .load t x, ty, ps, af, g⟩ :: l) K) := fun hp s σ hS hH =>
 q3_ (c := c) hlt hw hS (hH.at i he) hr ha hy (by rw [Lit.h]; rw [cL_] at hc; injection hc) hn (by rw [← (drL_some hd).2]; exact hvn) fun s' h3 => kk hp s' σ h3 hH
theorem s7_ {a : Sl α} {f : Sl α → Option γ} (i : Nat) (k : ∀ c t', cutS a j = some c → ar_ t' → Kn σ0 ((d, t') :: L) (.flt (Enc.w α) t' c.t :: es') (f c = some r) (opsX P O ops (nxM m) l K)) (hx : gE (get L) x = some t1 := by rfl) (hi : gE (get L) i0 = some (.int kk0 j) := by rfl) (h1 : pickE i es = some (.flt (Enc.w α) t1 a.t, es') := by rfl) (he : ao_ P t = some e := by rfl) (hz : szOf P e = some (Enc.w α) := by kernel_rfl) (hlt : ∀ b e o n, t1 = .ref b e o n → m.lt b := by exact fun _ _ _ _ _ => trivial) (hw : want ops L g = some true := by rfl) : Kn σ0 L es ((cutS a j).bind f = some r) (opsX P O ops m (⟨some d, .slice t x none (some i0) none, ty, ps, af, g⟩ :: l) K) := fun hp s σ hS hH => by
 obtain ⟨c, hc, hp⟩ := bind_some hp
 exact t9_ hlt hw hS (hH.pick h1) hx hi he hz hc fun t' s' h1 h2 h3 => k c t' hc h1 hp s' σ h3 h2
end
section
variable {P : Program} {O : ax_} {ops : Array Oper} {m : Mo} {l : List Oper} {K : Fr → Prop} {σ0 σk : St} {F : List Nat} {L : List (Nat × T)} {es : List Ent} {p : Prop}
variable {d : Nat} {ty : TypeId} {ps : String} {af : Array Edge} {g : Option (Nat × Bool)} {t : TypeId} {x : Operand} {pp : T} {c : List T}
theorem dy_ (hq : Pt F σk pp c) (kk : Kn σ0 ((d, pp) :: L) es p (opsX P O ops (nxM m) l K)) (hx : gE (get L) x = some pp := by rfl) (hw : want ops L g = some true := by rfl) : Kn σ0 L es p (opsX P O ops m (⟨some d, .nilCheck x, ty, ps, af, g⟩ :: l) K) := fun hp s σ hS hH =>
 rp_ hq hw hS hx fun s' h => kk hp s' σ h hH
theorem b9_ {f off n : Nat} {ft : TypeId} (hq : Pt F σk pp c) (kk : Kn σ0 ((d, ptAt pp off n) :: L) es p (opsX P O ops (nxM m) l K)) (hx : gE (get L) x = some pp := by rfl) (hf : bJ_ P t f = some (off, ft, n) := by rfl) (hn : (!Nat.beq n 0 && Nat.ble (off + n) c.length) = true := by kernel_rfl) (hw : want ops L g = some true := by rfl) : Kn σ0 L es p (opsX P O ops m (⟨some d, .fieldAddr t x f, ty, ps, af, g⟩ :: l) K) := fun hp s σ hS hH =>
 oN_ hq hw hS hx hf hn fun s' h => kk hp s' σ h hH
theorem cJ_ {off n : Nat} {cs : List T} {v : T} (i : Nat) (hq : Pt F σk pp c) (kk : Kn σ0 ((d, v) :: L) es p (opsX P O ops (nxM m) l K)) (hx : gE (get L) x = some (ptAt pp off n) := by rfl) (he : es[i]? = some (.keep F σk) := by rfl) (hd : drL off c = some cs := by rfl) (hv : jd_ P t cs 0 = some v := by rfl) (hvn : part P t (cs.take n) 0 = some v := by kernel_rfl) (hn : Nat.ble off c.length = true := by kernel_rfl) (hlt : ∀ b, m.lt b := by exact fun _ => trivial) (hw : want ops L g = some true := by rfl) : Kn σ0 L es p (opsX P O ops m (⟨some d, .load t x, ty, ps, af, g⟩ :: l) K) := fun hp s σ hS hH =>
 pZ_ i hlt hq hw hS hH he hx hn (by rw [← (drL_some hd).2]; exact hvn) fun s' h => kk hp s' σ h hH
theorem bA_ {b off n : Nat} {cs : List T} {v : T} (i : Nat) (hk : Kb F σk b c) (kk : Kn σ0 ((d, v) :: L) es p (opsX P O ops (nxM m) l K)) (hx : gE (get L) x = some (.ptr b 0 off n) := by rfl) (he : es[i]? = some (.keep F σk) := by rfl) (hd : drL off c = some cs := by rfl) (hv : jd_ P t cs 0 = some v := by rfl) (hvn : part P t (cs.take n) 0 = some v := by kernel_rfl) (hlt : m.lt b := by exact trivial) (hw : want ops L g = some true := by rfl) : Kn σ0 L es p (opsX P O ops m (⟨some d, .load t x, ty, ps, af, g⟩ :: l) K) := fun hp s σ hS hH =>
 m9_ i hlt hk hw hS hH he hx (by rw [← (drL_some hd).2]; exact hvn) fun s' h => kk hp s' σ h hH
end
end Go.Am
end
section
set_option linter.unusedVariables false
set_option linter.unusedSimpArgs false
namespace Go.Am
open Classical
section
variable {P : Program} {O : ax_} {ops : Array Oper} {s : Nat → T} {σ : St} {L M : List (Nat × T)}
end
section
variable {P : Program} {O : ax_} {α S : Type} [Enc α]
end
section
variable {P : Program} {O : ax_} {α S γ : Type} [Enc α] [Lit α] {σ0 : St} {L : List (Nat × T)} {es : List Ent} {r : γ}
end
section
variable {P : Program} {O : ax_} {ops : Array Oper} {l : List Oper} {K : Fr → Prop} {s : Nat → T} {σ σ0 : St} {L : List (Nat × T)} {es : List Ent}
variable {d : Option Nat} {ty : TypeId} {ps : String} {af : Array Edge} {g : Option (Nat × Bool)}
end
end Go.Am
end
section
set_option linter.unusedVariables false
set_option linter.unusedSimpArgs false
namespace Go.Am
section
variable {P : Program} {O : ax_} {ops : Array Oper} {m : Mo} {l : List Oper} {K : Fr → Prop} {s : Nat → T} {σ σ0 : St} {L : List (Nat × T)} {es es' ents : List Ent} {γ : Type} {r0 : γ} {p : Prop}
variable {d0 : Nat} {d : Option Nat} {ty : TypeId} {ps : String} {af : Array Edge} {g : Option (Nat × Bool)}
end
end Go.Am
end
section
set_option linter.unusedVariables false
set_option linter.unusedSimpArgs false
namespace Go.Am
section
variable {P : Program} {O : ax_} {ops : Array Oper} {m : Mo} {l : List Oper} {K : Fr → Prop} {s : Nat → T} {σ σ0 σk : St} {L L' : List (Nat × T)} {es es' ents : List Ent} {p : Prop} {F : List Nat}
variable {d : Nat} {dO : Option Nat} {ty : TypeId} {ps : String} {af : Array Edge} {g : Option (Nat × Bool)}
theorem vi_ {o : Oper} (hw : wantedA ops o s = true) (h : ∀ k σ', m.al σ σ' → aOp P k ⟨s, σ'⟩ o = some (.skip σ')) (kk : opsX P O ops (nxM m) l K (Fr.put ⟨s, σ⟩ o.dst (.tup []) σ)) : opsX P O ops m (o :: l) K ⟨s, σ⟩ := by
 cases m with
 | q => show opQ P O ops none o (opsQ P O ops l K) ⟨s, σ⟩; unfold opQ; simp only [hw, cond_true, h none σ rfl]; exact kk
 | d b i => show opD P O ops (b + i) o (opsD P O ops b (i + 1) l K) ⟨s, σ⟩; unfold opD; simp only [hw, cond_true, h (some (b + i)) σ rfl]; exact ⟨rfl, kk⟩
 | c b i W σs cm =>
  intro hA hR
  have hp : (Fr.put ⟨s, σ⟩ o.dst (.tup []) σ).σ = σ := by cases o.dst <;> rfl
  have kk := kk (by rw [hp]; exact hA) (by rw [hp]; exact hR.nxt)
  have hs : ∀ σ', (cm.cm i = true → σ' = σ) → (∀ x, x < b → (∀ c, cm.ck c i = false → ¬ W c x) → σ'.blk x = σ.blk x) → e0_ b W σs σ' → dn_ P O ops (b + i) o s σ' = some (.tup [], σ') := fun σ' h'' h3 h' => by simp only [dn_, hw, if_true, h (some (b + i)) σ' ⟨h'', h3, h', hA⟩, Option.bind_some]
  unfold opsC
  cases hc : (isChg o.op && !cm.vw i) && wantedA ops o s with
  | true => exact ⟨.tup [], σ, hs σ (fun _ => rfl) (fun _ _ _ => rfl) hA, fun _ _ _ => rfl, hA, hR.nxt, kk⟩
  | false => exact ⟨.tup [], hs, kk⟩
@[simp] theorem pN_ (k : Option Nat) (fr : Fr) (dd : Option Nat) (t : TypeId) (y x : Operand) : aOp P k fr ⟨dd, .lookup t y x false, ty, ps, af, g⟩ = (evalO fr.s y).bind fun y => (evalO fr.s x).bind fun x => if isMpx y = true ∧ iH_ P t = true ∧ keyA fr.σ x = true then some (.val .anyi fr.σ) else none := rfl
@[simp] theorem lL_ (k : Option Nat) (fr : Fr) (dd : Option Nat) (t : TypeId) (y x z : Operand) : aOp P k fr ⟨dd, .mapUpdate t y x z, ty, ps, af, g⟩ = (evalO fr.s y).bind fun y => (evalO fr.s x).bind fun x => (evalO fr.s z).bind fun z => if isMpx y = true ∧ iH_ P t = true ∧ keyA fr.σ x = true ∧ isAnyi z = true then some (.skip fr.σ) else none := rfl
def KeyM (m : Mo) (σ0 : St) (es : List Ent) (t : T) : Prop := ∀ σ σ', Heap σ0 σ es → m.al σ σ' → keyA σ' t = true
theorem KeyM.nil : KeyM m σ0 es .nilp := fun _ _ _ _ => rfl
theorem KeyM.pt {pp : T} {c : List T} (i : Nat) (hp : Pt F σk pp c) (he : es[i]? = some (.keep F σk) := by rfl) (hc : Nat.blt 0 c.length = true := by kernel_rfl) (hm : ∀ b, m.lt b := by exact fun _ => trivial) : KeyM m σ0 es pp := fun σ σ' hH ha => by
 have hl : 0 < c.length := by have := hc; simp [Nat.blt] at this; omega
 rcases hp with ⟨rest, rfl⟩ | ⟨b, rfl, hk⟩
 ·cases c with
  | nil => simp at hl
  | cons x xs => rfl
 ·obtain ⟨h1, B, h2, h3, h4, h5⟩ := hk
  have h6 := mk_ hH he b h1
  simp only [keyA]
  rw [Mo.al_blk ha (hm b), h6, h2]
  simp only [Bool.and_eq_true, decide_eq_true_eq]
  omega
def isMp : T → Bool
 | .mp _ => true
 | _ => false
theorem gm_ {q : T} (h : isMp q = true) : ar_ q := by cases q <;> simp [isMp] at h; exact ⟨rfl, rfl⟩
theorem m2_ {t u : TypeId} {y x : Operand} {q : T} (hq : isMp q = true) (kk : Kn σ0 ((d, .bool (isMpx q)) :: L) es p (opsX P O ops (nxM m) l K)) (hy : gE (get L) y = some q := by rfl) (hx : gE (get L) x = some (.mp false) := by rfl) (ht : Nat.beq (aD_ P t) 9 = true := by kernel_rfl) (hw : want ops L g = some true := by rfl) : Kn σ0 L es p (opsX P O ops m (⟨some d, .binOp .neq t y x u, ty, ps, af, g⟩ :: l) K) := fun hp s σ hS hH =>
 dX_ hw hS (fun k σ' ha => by
  rw [iv_, ag_ hS hy, Option.bind_some, ag_ hS hx, Option.bind_some]
  cases q <;> simp [isMp] at hq
  rename_i b
  have h9 := Nat.eq_of_beq_eq_true ht
  simp [binA, eqA, isNilm, h9, isMpx]) fun s' h => kk hp s' σ h hH
theorem ib_ {t : TypeId} {y x : Operand} {key q : T} (hb : isMpx q = true) (hk : KeyM m σ0 es key) (kk : Kn σ0 ((d, .anyi) :: L) es p (opsX P O ops (nxM m) l K)) (hy : gE (get L) y = some q := by rfl) (hx : gE (get L) x = some key := by rfl) (ht : iH_ P t = true := by kernel_rfl) (hw : want ops L g = some true := by rfl) : Kn σ0 L es p (opsX P O ops m (⟨some d, .lookup t y x false, ty, ps, af, g⟩ :: l) K) := fun hp s σ hS hH =>
 dX_ hw hS (fun k σ' ha => by rw [pN_, ag_ hS hy, Option.bind_some, ag_ hS hx, Option.bind_some, if_pos ⟨hb, ht, hk _ _ hH ha⟩]) fun s' h => kk hp s' σ h hH
theorem if_ {t : TypeId} {y x z : Operand} {key q : T} (hb : isMpx q = true) (hk : KeyM m σ0 es key) (kk : Kn σ0 L' es p (opsX P O ops (nxM m) l K)) (hy : gE (get L) y = some q := by rfl) (hx : gE (get L) x = some key := by rfl) (hz : gE (get L) z = some .anyi := by rfl) (hL : pu L dO (.tup []) = some L' := by rfl) (ht : iH_ P t = true := by kernel_rfl) (hw : want ops L g = some true := by rfl) : Kn σ0 L es p (opsX P O ops m (⟨dO, .mapUpdate t y x z, ty, ps, af, g⟩ :: l) K) := fun hp s σ hS hH =>
 vi_ (aF_ hS hw) (fun k σ' ha => by rw [lL_, ag_ hS hy, Option.bind_some, ag_ hS hx, Option.bind_some, ag_ hS hz, Option.bind_some, if_pos ⟨hb, ht, hk _ _ hH ha, rfl⟩]) (by rw [cb_]; exact kk hp _ σ (o3_ hL ▸ aS_ hS dO _ σ) hH)
end
section
variable {P : Program} {O : ax_} {σ0 : St} {L L' : List (Nat × T)} {es es' : List Ent} {Q : aA_ → Fr → Prop} {γ : Type} {r : γ} {t : Bool} {c : Operand} {a b : Code} {w w' w1 w2 : Wh} {k k' k1 k2 : List Ct} {p : Prop}
theorem m8_ {B : Option γ} (L' : List (Nat × T)) (es' : List Ent) (h1 : Kn σ0 L es True (whQ P O w [] fun e fr => e = .normal ∧ Sub L' fr.s ∧ Heap σ0 fr.σ es')) (h2 : Kn σ0 L' es' (B = some r) (whQ P O w' k' Q)) (hn : nx 99 (.x .normal) k = some (w', k') := by rfl) : Kn σ0 L es (B = some r) (whQ P O w k Q) :=
 d4_ (A := some ()) (h := fun _ => B) (ka := []) (kb := k) 0 (fun _ e fr => e = .normal ∧ Sub L' fr.s ∧ Heap σ0 fr.σ es') (fun y e fr hp hF => by
  obtain ⟨rfl, hS, hH⟩ := hF
  exact t_bx hp hS hH h2 hn) (fun y _ s σ hS hH => h1 trivial s σ hS hH) (by cases k <;> rfl)
theorem qo_ (h1 : t = true → Kn σ0 L es p (whQ P O w1 k1 Q)) (h2 : ¬ (t = true) → Kn σ0 L es p (whQ P O w2 k2 Q)) (hc : gE (get L) c = some (.bool t) := by rfl) (e1 : nx 99 (.c a) k = some (w1, k1) := by rfl) (e2 : nx 99 (.c b) k = some (w2, k2) := by rfl) : Kn σ0 L es p (whQ P O (.c (.cond c a b)) k Q) := fun hp s σ hS hH =>
 mq_ hS hc (fun h => nx_ok (w := .c a) e1 (h1 h hp s σ hS hH)) (fun h => have h : ¬ (t = true) := by simp [h]
  nx_ok (w := .c b) e2 (h2 h hp s σ hS hH))
theorem t_eU (kk : ∀ {s σ}, Sub L s → Heap σ0 σ es → Q .normal ⟨s, σ⟩) : Kn σ0 L es p (whQ P O (.x .normal) [] Q) := fun _ s σ hS hH => kk hS hH
end
section
open Go.RowKit
end
end Go.Am
end
section
set_option linter.unusedVariables false
set_option linter.unusedSimpArgs false
namespace Go.Am
section
variable {P : Program} {O : ax_} {ops : Array Oper} {m : Mo} {l : List Oper} {K : Fr → Prop} {s : Nat → T} {σ σ0 : St} {L : List (Nat × T)} {es es' ents : List Ent} {p : Prop}
variable {d0 : Nat} {d : Option Nat} {ty : TypeId} {ps : String} {af : Array Edge} {g : Option (Nat × Bool)}
end
section
variable {P : Program} {md : Nat → Md} {X : Ext} {ops : Array Oper} {m : Mo} {l : List Oper} {K : Fr → Prop} {s : Nat → T} {σ σ0 : St} {L : List (Nat × T)} {es ents : List Ent} {f : Nat}
variable {ty : TypeId} {ps : String} {af : Array Edge} {g : Option (Nat × Bool)}
end
section
variable {P : Program} {md : Nat → Md} {X : Ext} {ops : Array Oper} {σ0 : St} {L : List (Nat × T)} {es : List Ent} {p : Prop} {Q : aA_ → Fr → Prop} {k : List Ct}
end
end Go.Am
end
section
set_option linter.unusedVariables false
set_option linter.unusedSimpArgs false
namespace Go.Am
section
variable {P : Program} {O : ax_}
variable {ops : Array Oper} {m : Mo} {l : List Oper} {K : Fr → Prop} {s : Nat → T} {σ σ0 : St} {L : List (Nat × T)} {es ents : List Ent}
variable {d : Option Nat} {ty : TypeId} {ps : String} {af : Array Edge} {g : Option (Nat × Bool)}
end
section
variable {P : Program} {O : ax_} {ops : Array Oper} {m : Mo} {l : List Oper} {K : Fr → Prop} {σ0 : St} {L : List (Nat × T)} {es es' ents : List Ent} {p : Prop}
variable {d0 : Nat} {ty : TypeId} {ps : String} {af : Array Edge} {g : Option (Nat × Bool)}
end
section
variable {P : Program} {O : ax_} {ops : Array Oper} {m : Mo} {l : List Oper} {K : Fr → Prop} {s : Nat → T} {σ σ0 : St} {L : List (Nat × T)} {es : List Ent}
variable {d : Option Nat} {ty : TypeId} {ps : String} {af : Array Edge} {g : Option (Nat × Bool)}
def FzL (σ0 σ : St) (ts vs : List T) : Prop := ∃ D S, frzL (frz σ D) ts = some (vs, S) ∧ ∀ b ∈ S, σ0.next ≤ b
theorem FzL.nil : FzL σ0 σ [] [] := ⟨0, [], rfl, fun _ h => by cases h⟩
theorem FzL.cons {t v : T} {ts vs : List T} (h : ∃ D S, frz σ D t = some (v, S) ∧ ∀ b ∈ S, σ0.next ≤ b) (k : FzL σ0 σ ts vs) : FzL σ0 σ (t :: ts) (v :: vs) := by
 obtain ⟨D, S, h1, h2⟩ := h
 obtain ⟨D2, S2, k1, k2⟩ := k
 have h1 := d8_ D _ _ _ h1 (max D D2) (Nat.le_max_left _ _)
 have k1 : frzL (frz σ (max D D2)) ts = some (vs, S2) := as_ (fun t v S' _ hh _ => d8_ D2 t v S' hh (max D D2) (Nat.le_max_right _ _)) k1
 exact ⟨max D D2, S ++ S2, by simp only [frzL, h1, Option.bind_some, k1, Option.map_some], fun b hb => by
  rcases List.mem_append.1 hb with hb | hb
  ·exact h2 b hb
  ·exact k2 b hb⟩
theorem FzL.leaf {t : T} {ts vs : List T} (h : flat1 t = true) (k : FzL σ0 σ ts vs) : FzL σ0 σ (t :: ts) (t :: vs) := .cons ⟨0, [], in_ h, fun _ h => by cases h⟩ k
theorem FzL.flt {α : Type} [Enc α] [Hld false α] {t : T} {x : Sl α} {ts vs : List T} (i : Nat) (hH : Heap σ0 σ es) (hi : es[i]? = some (.flt (Enc.w α) t x.t)) (k : FzL σ0 σ ts vs) : FzL σ0 σ (t :: ts) (x.t :: vs) := by
 have h := hH.at i hi
 refine .cons ?_ k
 obtain ⟨G, hG1, hG2, hG3⟩ := h.ex
 obtain ⟨S, F', rfl, _, _⟩ := hG1
 rcases dO_ h with ⟨rfl, rfl⟩ | ⟨rfl, rfl⟩ | ⟨b, B, rfl, hz, hB, c1, c2, c3, c4, c5, c6⟩
 ·exact ⟨0, [], rfl, fun _ h => by cases h⟩
 ·exact ⟨0, [], rfl, fun _ h => by cases h⟩
 ·refine ⟨1, [b], ?_, fun y hy => ?_⟩
  ·have h1 : frzL (frz σ 0) (ah_ x.l) = some (ah_ x.l, []) := as_ (fun t v S _ hq _ => fF_ 0 t v S hq) (Hld.list (z := false) σ 0 x.l)
   simp only [frz, hB, Option.bind_some, List.drop_zero, c3, c6, h1, Option.map_some]
   rw [if_pos ⟨c2, c4⟩]
   show some (T.row false x.l.length (ah_ x.l), [b]) = some (T.row x.z x.l.length (ah_ x.l), [b])
   rw [hz]
  ·rw [List.mem_singleton] at hy; subst hy
   obtain ⟨S2, h2, hn, hb⟩ := h.head
   rcases h2 with ⟨h, _⟩ | ⟨h, _⟩ | ⟨b2, B2, n2, h, _, rfl, _⟩
   ·cases h
   ·cases h
   ·injection h with h _; subst h; exact (hb y (by simp)).1
theorem FzL.agg {cs us ts vs : List T} (h : FzL σ0 σ cs us) (k : FzL σ0 σ ts vs) : FzL σ0 σ (.agg cs :: ts) (.agg us :: vs) := by
 obtain ⟨D, S, h1, h2⟩ := h
 exact .cons ⟨D + 1, S, by simp only [frz, h1, Option.map_some], h2⟩ k
theorem hZ_ {rs : List ResultVar} {l : List T} {r : T} (hH : Heap σ0 σ es) (hl : resL P ⟨s, σ⟩ rs = some l) (hh : FzL σ0 σ [tupOf l] [r]) (hp : pureT r = true) : endW P rs σ0 r .ret ⟨s, σ⟩ := by
 obtain ⟨D, S, h1, h2⟩ := hh
 simp only [frzL] at h1
 obtain ⟨p, h5, h6⟩ := Option.bind_eq_some_iff.1 h1
 simp at h6
 obtain ⟨h6, h7⟩ := h6
 refine ⟨l, D, S, hl, ?_, hp, hH.grow, h2⟩
 rw [h5]; rw [← h6, ← h7]
end
end Go.Am
end
section
set_option linter.unusedVariables false
set_option linter.unusedSimpArgs false
namespace Go.Am
noncomputable def tell (p : Prop) : Option Bool := some (@decide p (Classical.propDecidable p))
theorem dT_ {n : Int} (h0 : -9223372036854775808 ≤ n) (h1 : n < 9223372036854775808) : w4 n = n := by
 simp only [w4, IntKind.wrap, IntKind.signed, IntKind.bits]
 simp
 omega
theorem q4_ {α : Type} {s : Sl α} {i : Nat} {x : α} (h : s.l[i]? = some x) : elt s (i : Int) = some x := by
 simp [elt, h]
/- sizes -/
/- copies -/
def FitS {α : Type} (n : Nat) (F : α → Prop) (s : Sl α) : Prop := s.l.length ≤ n ∧ ∀ x ∈ s.l, F x
/- comparisons, put together -/
end Go.Am
end
section
set_option linter.unusedVariables false
set_option linter.unusedSimpArgs false
namespace Go.Am
section
variable {P : Program} {t : TypeId} {d : Nat} {ts : List T}
theorem qK_ {α : Type} [Enc α] {B : α → Prop} : ∀ (els : List (List T)), (∀ el ∈ els, ∃ x : α, el = Enc.cells x ∧ B x) → ∃ l : List α, els.flatten = ah_ l ∧ l.length = els.length ∧ ∀ x ∈ l, B x
 | [], _ => ⟨[], rfl, rfl, fun _ h => absurd h (by simp)⟩
 | el :: els, h => by
  obtain ⟨x, rfl, hx⟩ := h el (by simp)
  obtain ⟨l, h1, h2, h3⟩ := qK_ els (fun e he => h e (by simp [he]))
  refine ⟨x :: l, by simp [ah_, h1], by simp [h2], fun y hy => ?_⟩
  rcases List.mem_cons.1 hy with rfl | hy
  ·exact hx
  ·exact h3 y hy
theorem sO_ {α : Type} [Enc α] {B : α → Prop} {e : TypeId} (kt : aD_ P t = 4) (he : ao_ P t = some e) (hd : ∀ d ts, Shp P d e ts → ∃ x : α, ts = Enc.cells x ∧ B x) (h : Shp P d t ts) : ∃ x : Sl α, ts = [Sl.t x] ∧ FitS maxLen B x := by
 cases d with
 | zero => exact h.elim
 | succ d =>
  rcases h with h | h | h | h | h
  ·rw [kt] at h; exact absurd h.1 (by decide)
  ·simp [cz_, kt] at h
  ·rw [kt] at h; exact absurd h.1 (by decide)
  ·obtain ⟨_, e', h1, h2⟩ := h
   rw [he] at h1
   injection h1 with h1; subst h1
   rcases h2 with rfl | ⟨els, rfl, h2, h3⟩
   ·exact ⟨⟨true, []⟩, rfl, ⟨by simp, by simp⟩⟩
   ·obtain ⟨l, q1, q2, q3⟩ := qK_ (B := B) els (fun el hel => hd d el (h3 el hel).2)
    exact ⟨⟨false, l⟩, by simp [Sl.t, q1, q2], ⟨by show l.length ≤ maxLen; omega, q3⟩⟩
  ·rw [kt] at h; exact absurd h.1 (by decide)
end
end Go.Am
end
section
set_option linter.unusedVariables false
set_option linter.unusedSimpArgs false
namespace Go.Am
theorem bm_ {α : Type} {s : Sl α} {i : Nat} (h : i < s.l.length) : elt s (i : Int) = some s.l[i] := q4_ (List.getElem?_eq_getElem h)
@[simp] theorem vd_ {α : Type} {s : Sl α} {i : Int} {x : α} : (setS s i x).l.length = s.l.length := by simp [setS]
theorem a4_ {n : Int} (h0 : 0 ≤ n) (h1 : n ≤ 4611686018427387904) : w4 n = n := dT_ (by omega) (by omega)
theorem maxLen_eq : maxLen = 9223372036854775807 := by decide
theorem mv_ {n : Nat} {R : Type} {p : Nat → Prop} {bd : Int → Option (Int ⊕ R)} {x y : R} (j0 : Nat) (hn : n < 9223372036854775807) (h1 : ∀ i : Nat, j0 ≤ i → i < n → p i → bd i = some (.inl (w4 ((i : Int) + 1)))) (h2 : ∀ i : Nat, j0 ≤ i → i < n → ¬ p i → bd i = some (.inr y)) :
  ((∀ i, j0 ≤ i → i < n → p i) → az_ (fun st1 : Int => if decide (st1 < (n : Int)) = true then bd st1 else some (.inr x)) (j0 : Int) = some x) ∧
  (¬ (∀ i, j0 ≤ i → i < n → p i) → az_ (fun st1 : Int => if decide (st1 < (n : Int)) = true then bd st1 else some (.inr x)) (j0 : Int) = some y) := by
 suffices H : ∀ k i0, j0 ≤ i0 → n - i0 = k → ((∀ i, i0 ≤ i → i < n → p i) → az_ (fun st1 : Int => if decide (st1 < (n : Int)) = true then bd st1 else some (.inr x)) (i0 : Int) = some x) ∧
  (¬ (∀ i, i0 ≤ i → i < n → p i) → az_ (fun st1 : Int => if decide (st1 < (n : Int)) = true then bd st1 else some (.inr x)) (i0 : Int) = some y) from H _ j0 (Nat.le_refl _) rfl
 intro k
 induction k with
 | zero =>
  intro i0 _ hk
  refine ⟨fun _ => aj_ (by rw [if_neg (by simp; omega)]), fun h => absurd (fun i h1 h2 => by omega) h⟩
 | succ k ih =>
  intro i0 hj hk
  have hlt : i0 < n := by omega
  obtain ⟨q1, q2⟩ := ih (i0 + 1) (by omega) (by omega)
  have hc : ((i0 + 1 : Nat) : Int) = (i0 : Int) + 1 := by simp
  rw [hc] at q1 q2
  by_cases hp : p i0
  ·have hb := h1 i0 hj hlt hp
   rw [dT_ (by omega) (by omega)] at hb
   refine ⟨fun h => au_ (by rw [if_pos (by simp; omega)]; exact hb) (q1 fun i hi hn => h i (by omega) hn), fun h => au_ (by rw [if_pos (by simp; omega)]; exact hb) (q2 fun w => h fun i hi hn => ?_)⟩
   by_cases e : i = i0
   ·subst e; exact hp
   ·exact w i (by omega) hn
  ·refine ⟨fun h => absurd (h i0 (Nat.le_refl _) hlt) hp, fun _ => aj_ (by rw [if_pos (by simp; omega)]; exact h2 i0 hj hlt hp)⟩
theorem oE_ {n : Nat} {p : Nat → Prop} {bd : Int → Option (Int ⊕ Int)} (hn : n < 9223372036854775807) (h1 : ∀ i : Nat, i < n → p i → bd i = some (.inl (w4 ((i : Int) + 1)))) (h2 : ∀ i : Nat, i < n → ¬ p i → bd i = some (.inr (i : Int))) :
  ∃ r : Nat, r ≤ n ∧ az_ (fun st1 : Int => if decide (st1 < (n : Int)) = true then bd st1 else some (.inr st1)) 0 = some (r : Int) ∧ (r = n ↔ ∀ i, i < n → p i) := by
 suffices H : ∀ k i0, n - i0 = k → i0 ≤ n → (∀ i, i < i0 → p i) → ∃ r : Nat, r ≤ n ∧ az_ (fun st1 : Int => if decide (st1 < (n : Int)) = true then bd st1 else some (.inr st1)) (i0 : Int) = some (r : Int) ∧ (r = n ↔ ∀ i, i < n → p i) from H n 0 (by omega) (by omega) (by intro i h; omega)
 intro k
 induction k with
 | zero =>
  intro i0 hk hle hp
  have : i0 = n := by omega
  subst this
  exact ⟨i0, Nat.le_refl _, aj_ (by rw [if_neg (by simp)]), by simpa using hp⟩
 | succ k ih =>
  intro i0 hk hle hp
  have hlt : i0 < n := by omega
  by_cases hq : p i0
  ·obtain ⟨r, r1, r2, r3⟩ := ih (i0 + 1) (by omega) (by omega) fun i hi => by
    by_cases e : i = i0
    ·subst e; exact hq
    ·exact hp i (by omega)
   have hb := h1 i0 hlt hq
   rw [dT_ (by omega) (by omega)] at hb
   have hc : ((i0 + 1 : Nat) : Int) = (i0 : Int) + 1 := by simp
   rw [hc] at r2
   exact ⟨r, r1, au_ (by rw [if_pos (by simp; omega)]; exact hb) r2, r3⟩
  ·exact ⟨i0, hle, aj_ (by rw [if_pos (by simp; omega)]; exact h2 i0 hlt hq), ⟨fun e => by omega, fun w => absurd (w i0 hlt) hq⟩⟩
noncomputable def says (p : Prop) : Bool := @decide p (Classical.propDecidable p)
theorem eA_ {p q : Prop} (h : p ↔ q) : says p = says q := by rw [propext h]
theorem bs_ {p : Prop} (h : p) : says p = true := by simp [says, h]
theorem aZ_ {p : Prop} (h : ¬ p) : says p = false := by simp [says, h]
theorem ho_ {c p : Prop} [Decidable c] {K : Option Bool} (h : c → K = some (says p)) : (if decide c = true then K else some false) = some (says (c ∧ p)) := by
 by_cases hc : c
 ·rw [if_pos (by simp [hc]), h hc]; congr 1; exact eA_ ⟨fun w => ⟨hc, w⟩, fun w => w.2⟩
 ·rw [if_neg (by simp [hc]), aZ_ fun w => hc w.1]
theorem ms_ {c p : Prop} {o K : Option Bool} (ho : o = some (says c)) (h : c → K = some (says p)) : (o.bind fun y => if y = true then K else some false) = some (says (c ∧ p)) := by
 rw [ho, Option.bind_some]
 by_cases hc : c
 ·rw [bs_ hc, if_pos rfl, h hc]; congr 1; exact eA_ ⟨fun w => ⟨hc, w⟩, fun w => w.2⟩
 ·rw [aZ_ hc, if_neg (by simp), aZ_ fun w => hc w.1]
theorem mE_ {c p : Prop} {o K : Option Bool} (ho : o = some (says c)) (h : ¬ c → K = some (says p)) : (o.bind fun y => if y = true then some true else K) = some (says (c ∨ p)) := by
 rw [ho, Option.bind_some]
 by_cases hc : c
 ·rw [bs_ hc, if_pos rfl, bs_ (.inl hc)]
 ·rw [aZ_ hc, if_neg (by simp), h hc]; congr 1; exact eA_ ⟨fun w => .inr w, fun w => w.resolve_left hc⟩
theorem ff_ {c : Prop} {o : Option Bool} (ho : o = some (says c)) : (o.bind fun y => some y) = some (says c) := by rw [ho]; rfl
theorem nl_ {c : Prop} [Decidable c] : some (decide c) = some (says c) := by by_cases h : c <;> simp [says, h]
theorem lm_ {o : Option Bool} {p q : Prop} (h : o = some (says p)) (hi : p ↔ q) : o = some (says q) := by rw [h, eA_ hi]
theorem iW_ {p : Prop} [Decidable p] : decide p = says p := by by_cases h : p <;> simp [says, h]
theorem kE_ {n : Nat} {p : Nat → Prop} {bd : Int → Option (Int ⊕ (Unit ⊕ Bool))} (i0 : Nat) (hn : n < 9223372036854775807) (h1 : ∀ i : Nat, i0 ≤ i → i < n → p i → bd i = some (.inl (w4 ((i : Int) + 1)))) (h2 : ∀ i : Nat, i0 ≤ i → i < n → ¬ p i → bd i = some (.inr (.inr false))) :
  ((az_ (S := Int) (R := Unit ⊕ Bool) (fun st1 : Int => if decide (st1 < (n : Int)) = true then bd st1 else some (.inr (.inl ()))) (i0 : Int)).bind fun y => Sum.elim (fun _ => some true) (fun y => some y) y) = some (says (∀ i, i0 ≤ i → i < n → p i)) := by
 obtain ⟨q1, q2⟩ := mv_ (R := Unit ⊕ Bool) (x := .inl ()) (y := .inr false) i0 hn h1 h2
 by_cases h : ∀ i, i0 ≤ i → i < n → p i
 ·rw [q1 h, bs_ h]; rfl
 ·rw [q2 h, aZ_ h]; rfl
theorem kT_ {α : Type} {a : Sl α} {p : α → Prop} {bd : Int → Option (Int ⊕ (Unit ⊕ Bool))} (hn : a.l.length < 9223372036854775807) (h : ∀ (i : Nat) x, x ∈ a.l → elt a (i : Int) = some x → (p x → bd i = some (.inl (w4 ((i : Int) + 1)))) ∧ (¬ p x → bd i = some (.inr (.inr false)))) :
  ((az_ (S := Int) (R := Unit ⊕ Bool) (fun st1 : Int => if decide (st1 < (a.l.length : Int)) = true then bd st1 else some (.inr (.inl ()))) 0).bind fun y => Sum.elim (fun _ => some true) (fun y => some y) y) = some (says (∀ x ∈ a.l, p x)) := by
 have := kE_ (p := fun i => ∀ x, a.l[i]? = some x → p x) (bd := bd) 0 hn (fun i _ hi hp => (h i _ (List.getElem_mem hi) (bm_ hi)).1 (hp _ (List.getElem?_eq_getElem hi))) (fun i _ hi hp => (h i _ (List.getElem_mem hi) (bm_ hi)).2 fun q => hp fun x hx => by rw [List.getElem?_eq_getElem hi] at hx; injection hx with hx; exact hx ▸ q)
 refine Eq.trans this (congrArg some (eA_ ⟨fun w x hx => ?_, fun w i _ hi x hx => w x (List.mem_of_getElem? hx)⟩))
 obtain ⟨i, hi, rfl⟩ := List.getElem_of_mem hx
 exact w i (Nat.zero_le _) hi _ (List.getElem?_eq_getElem hi)
theorem dH_ {α : Type} {by_ : Nat} {z : Bool} {a : List α} {x : α} (h : (a.length + 1) * by_ ≤ 1099511627776) : appS by_ (⟨z, a⟩ : Sl α) ⟨false, [x]⟩ = some ⟨false, a ++ [x]⟩ := by
 simp only [appS, List.length_singleton]; rw [if_pos h]
end Go.Am
end
