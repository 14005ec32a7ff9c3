/- The abstract machine. -/
import Derived.Test.YtnabmjlpdcpaeaaAm3
import Derived.Test.YtnabmjlpdcpaeaaAm2
section
set_option linter.unusedVariables false
set_option linter.unusedSimpArgs false
namespace Go.Am
open Classical

/-- A box that may be read. -/
def Lent (σ : St) (b : Nat) (cells : List T) : Prop := b < σ.next ∧ ∃ B, σ.blk b = some B ∧ B.cells = cells ∧ B.ep = 0 ∧ B.low = 0
def LentL (σ : St) : List Nat → List (List T) → Prop
  | [], [] => True
  | b :: bs, c :: cs => Lent σ b c ∧ LentL σ bs cs
  | _, _ => False

theorem Lent.grow {σ σ' : St} {b : Nat} {cells : List T} (h : Lent σ b cells) (g : Grow σ σ') : Lent σ' b cells := by
  obtain ⟨h1, B, h2, h3⟩ := h
  exact ⟨Nat.lt_of_lt_of_le h1 g.nx, B, by rw [g.old b h1, h2], h3⟩
theorem Heap.lent {σ0 σ : St} {b : Nat} {cells : List T} {es : List Ent} (h : Heap σ0 σ (.box b cells :: es)) : Lent σ b cells := by
  obtain ⟨S, ⟨rfl, B, h1, h2, h3, h4, _⟩, _, h5⟩ := h.head
  exact ⟨(h5 b (by simp)).2, B, h1, h2, h3, h4⟩
theorem lent1 {σ : St} {bs : List Nat} {c0 : List T} (h : LentL σ bs [c0]) : ∃ b0, bs = [b0] ∧ Lent σ b0 c0 := by
  match bs, h with
  | [b0], h => exact ⟨b0, rfl, h.1⟩
theorem lent2 {σ : St} {bs : List Nat} {c0 c1 : List T} (h : LentL σ bs [c0, c1]) : ∃ b0 b1, bs = [b0, b1] ∧ Lent σ b0 c0 ∧ Lent σ b1 c1 := by
  match bs, h with
  | [b0, b1], h => exact ⟨b0, b1, rfl, h.1, h.2.1⟩
theorem lent_ex : ∀ (cs : List (List T)), ∃ σ bs, LentL σ bs cs := by
  intro cs
  have key : ∀ (cs : List (List T)) (k : Nat) (σ : St), (∀ i c, cs[i]? = some c → Lent σ (k + i) c) → LentL σ (List.range' k cs.length) cs := by
    intro cs
    induction cs with
    | nil => intro k σ _; trivial
    | cons c cs ih =>
      intro k σ h
      exact ⟨h 0 c (by simp), ih (k + 1) σ fun i c hi => by have := h (i + 1) c (by simpa using hi); rwa [show k + (i + 1) = k + 1 + i by omega] at this⟩
  refine ⟨⟨cs.length, fun i => (cs[i]?).map fun c => mkBlk c 1⟩, _, key cs 0 _ fun i c hi => ?_⟩
  exact ⟨by have := (List.getElem?_eq_some_iff.1 hi).1; simpa using this, mkBlk c 1, by simp [hi], rfl, rfl, rfl⟩

section
variable {P : Program} {md : Nat → Md} {X : Ext} {β : Type} {eb : β → T} {f : Nat} {r : β}
variable {O : Oracle} {ops : Array Oper} {m : Mo} {l : List Oper} {K : Fr → Prop} {s : Nat → T} {σ σ0 : St} {L : List (Nat × T)} {es ents : List Ent}
variable {d : Option Nat} {ty : TypeId} {ps : String} {af : Array Edge} {g : Option (Nat × Bool)}

theorem q_loadL {a : Operand} {t : TypeId} {b e off n : Nat} {cells : List T} {v : T} (hlt : m.lt b) (hw : want ops L g = some true) (hS : Sub L s) (hH : Heap σ0 σ es) (hL : Lent σ0 b cells) (ha : gE (get L) a = some (.ptr b e off n)) (hv : part P t ((cells.drop off).take n) 0 = some v)
    (k : ∀ s', Sub (putL L d v) s' → opsX P O ops (nxM m) l K ⟨s', σ⟩) : opsX P O ops m (⟨d, .load t a, ty, ps, af, g⟩ :: l) K ⟨s, σ⟩ := by
  obtain ⟨_, B, h1, rfl, h3, h4⟩ := hL.grow hH.grow
  exact q_val hw hS (fun kk σ' ha' => by rw [a_load, gE_sound hS ha, Option.bind_some, loadA_ptr, Mo.al_blk ha' hlt, h1, Option.bind_some, if_pos (by omega), hv]; rfl) k

def ViewL (P : Program) (md : Nat → Md) (X : Ext) (eb : β → T) (f : Nat) (mk : List Nat → List T) (cs : List (List T)) (r : β) : Prop := ∀ σ bs, LentL σ bs cs → run P md X f (mk bs) σ = some (eb r, σ)
noncomputable def semL (P : Program) (md : Nat → Md) (X : Ext) (eb : β → T) (f : Nat) (mk : List Nat → List T) (cs : List (List T)) : Option β :=
  if h : ∃ r, ViewL P md X eb f mk cs r then some (Classical.choose h) else none
theorem semL_spec {mk : List Nat → List T} {cs : List (List T)} (h : semL P md X eb f mk cs = some r) : ViewL P md X eb f mk cs r := by
  unfold semL at h
  split at h
  · rename_i hx; injection h with h; subst h; exact Classical.choose_spec hx
  · cases h
theorem semL_intro {mk : List Nat → List T} {cs : List (List T)} (hi : ∀ a b, eb a = eb b → a = b) (h : ViewL P md X eb f mk cs r) : semL P md X eb f mk cs = some r := by
  have hx : ∃ r, ViewL P md X eb f mk cs r := ⟨r, h⟩
  unfold semL
  rw [dif_pos hx]
  obtain ⟨σ, bs, hl⟩ := lent_ex cs
  have h1 := Classical.choose_spec hx σ bs hl
  rw [h σ bs hl] at h1
  injection h1 with h1; injection h1 with h1
  rw [← hi _ _ h1]
theorem semL_of {c : Code} {n : Nat} {rs : List ResultVar} {mk : List Nat → List T} {cs : List (List T)} (hi : ∀ a b, eb a = eb b → a = b) (hv : md f = .view) (hX : X f = none) (hok : Ok P f c n rs) (hlen : ∀ bs, bs.length = cs.length → Nat.ble (mk bs).length n = true) (hf : ∀ bs, bs.length = cs.length → (mk bs).all flat3 = true)
    (h : ∀ σ bs s, LentL σ bs cs → Sub (nums 0 (mk bs)) s → Heap σ σ [] → codeQ P (run P md X) c (endW P rs σ (eb r)) ⟨s, σ⟩) : semL P md X eb f mk cs = some r :=
  semL_intro hi fun σ bs hl => by
    have hlb : bs.length = cs.length := by
      clear h hf hlen
      induction bs generalizing cs with
      | nil => cases cs with
        | nil => rfl
        | cons c cs => exact hl.elim
      | cons b bs ih => cases cs with
        | nil => exact hl.elim
        | cons c cs => simp [ih hl.2]
    exact view_ofW hv hX hok (Nat.le_of_ble_eq_true (hlen bs hlb)) (frzL_flat (hf bs hlb)) (h σ bs _ hl (sub_enter _) (Heap.nil σ))
theorem q_callL {fo : Operand} {as : Array Operand} {ts : Array TypeId} {xs : List T} {mk : List Nat → List T} {cs : List (List T)} (bs : List Nat) (hw : want ops L g = some true) (hS : Sub L s) (hf : gE (get L) fo = some (.fn f [] [])) (ha : gEs (get L) as.toList = some xs)
    (hmk : mk bs = xs) (hl : LentL σ bs cs) (hr : semL P md X eb f mk cs = some r) (k : ∀ s', Sub (putL L d (eb r)) s' → opsX P (run P md X) ops (nxM m) l K ⟨s', σ⟩) : opsX P (run P md X) ops m (⟨d, .call ⟨.value fo, as, ts⟩, ty, ps, af, g⟩ :: l) K ⟨s, σ⟩ :=
  q_callV hw hS hf ha (by simp only [List.nil_append, List.append_nil]; rw [← hmk]; exact semL_spec hr σ bs hl) k

def OwnLR (P : Program) (md : Nat → Md) (X : Ext) (Sh : Shape β) (f : Nat) (mk : List Nat → List T) (cs : List (List T)) (r : β) : Prop :=
  ∀ σ bs, LentL σ bs cs → ∃ hs σ', hs.length = Sh.n ∧ run P md X f (mk bs) σ = some (Sh.tree hs r, σ') ∧ Heap σ σ' (Sh.en hs r) ∧ ∀ b, b < σ.next → σ'.blk b = σ.blk b
noncomputable def semLO (P : Program) (md : Nat → Md) (X : Ext) (Sh : Shape β) (f : Nat) (mk : List Nat → List T) (cs : List (List T)) : Option β :=
  if h : ∃ r, OwnLR P md X Sh f mk cs r then some (Classical.choose h) else none
theorem semLO_spec {Sh : Shape β} {mk : List Nat → List T} {cs : List (List T)} (h : semLO P md X Sh f mk cs = some r) : OwnLR P md X Sh f mk cs r := by
  unfold semLO at h
  split at h
  · rename_i hx; injection h with h; subst h; exact Classical.choose_spec hx
  · cases h
theorem OwnLR.uniq {Sh : Shape β} {mk : List Nat → List T} {cs : List (List T)} {r r' : β} (h : OwnLR P md X Sh f mk cs r) (h' : OwnLR P md X Sh f mk cs r') : r = r' := by
  obtain ⟨σ, bs, hl⟩ := lent_ex cs
  obtain ⟨hs, σ', h1, h2, h3, _⟩ := h σ bs hl
  obtain ⟨hs', σ2, h4, h5, h6, _⟩ := h' σ bs hl
  rw [h2] at h5; injection h5 with h5; injection h5 with h5 h7
  subst h7
  obtain ⟨D, S, k1, _⟩ := (Sh.ok hs r h1).frz (es := []) (by simpa using h3)
  obtain ⟨D', S', k2, _⟩ := (Sh.ok hs' r' h4).frz (es := []) (by simpa using h6)
  rw [← h5] at k2
  have := frzL_uniq k1 k2
  injection this with e _
  injection e with e _
  exact Sh.inj _ _ e
theorem semLO_intro {Sh : Shape β} {mk : List Nat → List T} {cs : List (List T)} (h : OwnLR P md X Sh f mk cs r) : semLO P md X Sh f mk cs = some r := by
  have hx : ∃ r, OwnLR P md X Sh f mk cs r := ⟨r, h⟩
  unfold semLO
  rw [dif_pos hx, OwnLR.uniq (Classical.choose_spec hx) h]
theorem semLO_of {Sh : Shape β} {c : Code} {n : Nat} {rs : List ResultVar} {mk : List Nat → List T} {cs : List (List T)} (hv : md f = .own) (hX : X f = none) (hok : Ok P f c n rs) (hlen : ∀ bs, bs.length = cs.length → Nat.ble (mk bs).length n = true) (hf : ∀ bs, bs.length = cs.length → (mk bs).all flat3 = true)
    (h : ∀ σ bs s, LentL σ bs cs → Sub (nums 0 (mk bs)) s → Heap σ σ [] → codeQ P (run P md X) c (endOw P rs σ Sh r) ⟨s, σ⟩) : semLO P md X Sh f mk cs = some r := by
  refine semLO_intro fun σ bs hl => ?_
  have hlb : bs.length = cs.length := by
    clear h hf hlen
    induction bs generalizing cs with
    | nil => cases cs with
      | nil => rfl
      | cons c cs => exact hl.elim
    | cons b bs ih => cases cs with
      | nil => exact hl.elim
      | cons c cs => simp [ih hl.2]
  obtain ⟨fn, h1, h2, h3, h4, h5, h6⟩ := hok
  obtain ⟨x, fr, k1, k2⟩ := codeQ_sound (h σ bs _ hl (sub_enter _) (Heap.nil σ))
  have hx : (x = .normal ∨ x = .ret) ∧ ∃ l hs es, resL P fr rs = some l ∧ tupOf l = Sh.tree hs r ∧ hs.length = Sh.n ∧ Heap σ fr.σ (Sh.en hs r ++ es) := by
    cases x with
    | normal => exact ⟨.inl rfl, k2⟩
    | ret => exact ⟨.inr rfl, k2⟩
    | exit i => exact k2.elim
  obtain ⟨hx, l, hs, es, m1, m2, m3, m4⟩ := hx
  obtain ⟨F, q1, q2, q3⟩ := m4.ex
  obtain ⟨F1, F2, rfl, q4, q5⟩ := q1.split
  obtain ⟨k, hk⟩ := (Sh.ok hs r m3).sound q4
  have hown : own fr.σ k (tupOf l) = some (Sh.eb r, F1) := by
    rw [m2]
    simp only [frzL] at hk
    obtain ⟨p, h7, h8⟩ := Option.bind_eq_some_iff.1 hk
    simp at h8
    obtain ⟨h8, h9⟩ := h8
    exact hold_own _ _ _ _ (by rw [h7, ← h8, ← h9])
  have hrun := run_own (P := P) (vm := md) (X := X) (σ := σ) hv hX h1 h2 h3 h4 (by rw [h5]; exact Nat.le_of_ble_eq_true (hlen bs hlb)) (frzL_flat (hf bs hlb)) (by rw [mark_nil]; exact k1) hx (by rw [resA, h6, m1]; rfl) hown (fun b hb => (q3 b (by simp [hb])).1) (fun i hi => by rw [mark_nil]; exact m4.grow.old i hi)
  refine ⟨hs, σ.keep fr.σ F1, m3, by rw [hrun, m2], ⟨Grow.keep m4.grow.nx F1, F1, q4.same fun b hb => ?_, (List.nodup_append.1 q2).1, fun b hb => ?_⟩, fun b hb => ?_⟩
  · have := (q3 b (by simp [hb])).1
    simp only [St.keep]; rw [if_neg (by omega), if_pos hb]
  · exact q3 b (by simp [hb])
  · simp only [St.keep]; rw [if_pos hb]
theorem q_callLO (hm : m.chg = true) {Sh : Shape β} {fo : Operand} {as : Array Operand} {tys : Array TypeId} {xs : List T} {mk : List Nat → List T} {cs : List (List T)} (bs : List Nat) (hw : want ops L g = some true) (hS : Sub L s) (hf : gE (get L) fo = some (.fn f [] [])) (ha : gEs (get L) as.toList = some xs)
    (hmk : mk bs = xs) (hH : Heap σ0 σ es) (hl : LentL σ bs cs) (hr : semLO P md X Sh f mk cs = some r)
    (k : ∀ hs σ' s', hs.length = Sh.n → Heap σ0 σ' (Sh.en hs r ++ es) → Sub (putL L d (Sh.tree hs r)) s' → opsX P (run P md X) ops (nxM m) l K ⟨s', σ'⟩) : opsX P (run P md X) ops m (⟨d, .call ⟨.value fo, as, tys⟩, ty, ps, af, g⟩ :: l) K ⟨s, σ⟩ := by
  obtain ⟨hs, σ1, m1, m2, m3, m4⟩ := semLO_spec hr σ bs hl
  have hH' : Heap σ0 σ1 (Sh.en hs r ++ es) := by
    refine Heap.step (es1 := []) (es2 := Sh.en hs r) (es := es) hH m3.grow.nx fun S' hS' _ _ => ?_
    obtain ⟨F, q1, q2, q3⟩ := m3.ex
    exact ⟨F, q1, q2, fun b hb => .inr (q3 b hb), fun b hb _ => m4 b hb⟩
  refine x_callC (f := f) (args := [] ++ xs ++ []) (r := Sh.tree hs r) hm rfl (want_sound hS hw) (fun kk σ' => by rw [a_call, gEs_sound hS ha, Option.bind_some, gE_sound hS hf]; rfl) (by simp only [List.nil_append, List.append_nil]; rw [← hmk]; exact m2) m3.grow.nx m4 ?_
  rw [put_eq]
  exact k _ _ _ m1 hH' (sub_putL hS d _ σ)
end

/-! ### structs that are compared -/
def eqB : List T → List T → Bool
  | .int _ a :: xs, .int _ b :: ys => decide (a = b) && eqB xs ys
  | .bool a :: xs, .bool b :: ys => (a == b) && eqB xs ys
  | .str a :: xs, .str b :: ys => decide (a = b) && eqB xs ys
  | _, _ => true
def leafOk (P : Program) (t : TypeId) : T → T → Bool
  | .int k _, .int k' _ => isIntT P t && decide (k = k')
  | .bool _, .bool _ => Nat.beq (kindT P t) 1
  | .str _, .str _ => Nat.beq (kindT P t) 3
  | _, _ => false
/-- Fields, one behind the other, of kinds that are compared at once, or structs of such (n: a bound on the steps; d: how deep). -/
def eqOk (P : Program) : Nat → Nat → Nat → List Field → List T → List T → Bool
  | _, _, _, [], [], [] => true
  | n + 1, d, i, f :: fs, xs, ys => (f.name != "_") && Nat.beq f.offset i && (match aggOf P f.type with
    | some false => match xs, ys with
      | x :: xs', y :: ys' => leafOk P f.type x y && eqOk P n d (i + 1) fs xs' ys'
      | _, _ => false
    | some true => match szOf P f.type, d with
      | some m, d' + 1 => Nat.beq (kindT P f.type) 7 && (!P.stoodInHeld f.type) && Nat.ble m xs.length && Nat.ble m ys.length && eqOk P n d' 0 (fieldsT P f.type) (xs.take m) (ys.take m) && eqOk P n (d' + 1) (i + m) fs (xs.drop m) (ys.drop m)
      | _, _ => false
    | none => false)
  | _, _, _, _, _, _ => false

theorem leaf_eqT {P : Program} {t : TypeId} {x y : T} {n : Nat} (h : leafOk P t x y = true) : eqT P (n + 1) t x y = some (eqB [x] [y]) := by
  unfold leafOk at h
  split at h
  · simp only [Bool.and_eq_true, decide_eq_true_eq] at h
    simp only [eqT, eqB]; rw [if_pos h]; simp
  · simp only [eqT, eqB]; rw [if_pos (Nat.eq_of_beq_eq_true h)]; simp
  · simp only [eqT, eqB]; rw [if_pos (Nat.eq_of_beq_eq_true h)]; simp
  · cases h
theorem leaf_eqB {P : Program} {t : TypeId} {x y : T} {xs ys : List T} (h : leafOk P t x y = true) : eqB (x :: xs) (y :: ys) = (eqB [x] [y] && eqB xs ys) := by
  unfold leafOk at h
  split at h <;> first | (simp [eqB]; done) | cases h

theorem eqOk_len {P : Program} : ∀ (n d i : Nat) (fs : List Field) (xs ys : List T), eqOk P n d i fs xs ys = true → xs.length = ys.length
  | _, _, _, [], [], [], _ => rfl
  | n, d, i, [], [], _ :: _, h => by cases n <;> simp [eqOk] at h
  | n, d, i, [], _ :: _, _, h => by cases n <;> simp [eqOk] at h
  | n + 1, d, i, f :: fs, xs, ys, h => by
    simp only [eqOk, Bool.and_eq_true] at h
    obtain ⟨_, h⟩ := h
    split at h
    · split at h
      · simp only [Bool.and_eq_true] at h
        simp [eqOk_len n d (i + 1) fs _ _ h.2]
      · cases h
    · split at h
      · rename_i d1 m d' _
        simp only [Bool.and_eq_true] at h
        have h1 := Nat.le_of_ble_eq_true h.1.1.2
        have h2 := Nat.le_of_ble_eq_true h.1.1.1.2
        have h3 := eqOk_len n (d' + 1) (i + m) fs _ _ h.2
        simp only [List.length_drop] at h3; omega
      · cases h
    · cases h

theorem eqB_split {P : Program} : ∀ (n d i : Nat) (fs : List Field) (xs ys xs' ys' : List T), eqOk P n d i fs xs ys = true → eqB (xs ++ xs') (ys ++ ys') = (eqB xs ys && eqB xs' ys')
  | _, _, _, [], [], [], xs', ys', _ => by simp [eqB]
  | n, d, i, [], [], _ :: _, _, _, h => by cases n <;> simp [eqOk] at h
  | n, d, i, [], _ :: _, _, _, _, h => by cases n <;> simp [eqOk] at h
  | n + 1, d, i, f :: fs, xs, ys, xs', ys', h => by
    simp only [eqOk, Bool.and_eq_true] at h
    obtain ⟨_, h⟩ := h
    split at h
    · split at h
      · simp only [Bool.and_eq_true] at h
        rename_i x xs y ys
        rw [List.cons_append, List.cons_append, leaf_eqB (xs := xs ++ xs') (ys := ys ++ ys') h.1, eqB_split n d (i + 1) fs _ _ xs' ys' h.2, leaf_eqB (xs := xs) (ys := ys) h.1, Bool.and_assoc]
      · cases h
    · split at h
      · rename_i d1 m d' _
        simp only [Bool.and_eq_true] at h
        have e1 := eqB_split n d' 0 (fieldsT P f.type) (xs.take m) (ys.take m) (xs.drop m) (ys.drop m) h.1.2
        have e2 := eqB_split n d' 0 (fieldsT P f.type) (xs.take m) (ys.take m) (xs.drop m ++ xs') (ys.drop m ++ ys') h.1.2
        have e3 := eqB_split n (d' + 1) (i + m) fs (xs.drop m) (ys.drop m) xs' ys' h.2
        rw [List.take_append_drop, List.take_append_drop] at e1
        rw [← List.append_assoc, ← List.append_assoc, List.take_append_drop, List.take_append_drop] at e2
        rw [e2, e3, e1, Bool.and_assoc]
      · cases h
    · cases h

theorem eqFs_ok {P : Program} : ∀ (n d i k : Nat) (fs : List Field) (xs ys px py : List T), d ≤ k → px.length = i → py.length = i → eqOk P n d i fs xs ys = true → eqFs P (eqT P (k + 1)) (px ++ xs) (py ++ ys) fs = some (eqB xs ys)
  | _, _, _, _, [], [], [], px, py, _, _, _, _ => rfl
  | n, d, i, _, [], [], _ :: _, _, _, _, _, _, h => by cases n <;> simp [eqOk] at h
  | n, d, i, _, [], _ :: _, _, _, _, _, _, _, h => by cases n <;> simp [eqOk] at h
  | n + 1, d, i, k, f :: fs, xs, ys, px, py, hk, hx, hy, h => by
    simp only [eqOk, Bool.and_eq_true, bne_iff_ne, ne_eq] at h
    obtain ⟨⟨h1, h2⟩, h⟩ := h
    have h2 := Nat.eq_of_beq_eq_true h2
    simp only [eqFs, if_pos h1, part_eq, h2]
    split at h
    · rename_i ha
      split at h
      · rename_i x xs y ys
        simp only [Bool.and_eq_true] at h
        have ih := eqFs_ok n d (i + 1) k fs xs ys (px ++ [x]) (py ++ [y]) hk (by simp [hx]) (by simp [hy]) h.2
        simp only [List.append_assoc, List.singleton_append] at ih
        simp only [ha, Option.bind_some, partA_false]
        have ex : (px ++ x :: xs)[i]? = some x := by rw [← hx, List.getElem?_append_right (Nat.le_refl _), Nat.sub_self]; rfl
        have ey : (py ++ y :: ys)[i]? = some y := by rw [← hy, List.getElem?_append_right (Nat.le_refl _), Nat.sub_self]; rfl
        rw [ex, ey, Option.bind_some, Option.bind_some, leaf_eqT h.1, Option.bind_some, leaf_eqB (xs := xs) (ys := ys) h.1]
        cases hb : eqB [x] [y] with
        | true => simp only [if_true, Bool.true_and]; exact ih
        | false => simp
      · cases h
    · rename_i ha
      split at h
      · rename_i d1 m d' hm
        simp only [Bool.and_eq_true, Bool.not_eq_true'] at h
        obtain ⟨⟨⟨⟨⟨c1, c2⟩, c3⟩, c4⟩, c5⟩, c6⟩ := h
        have c3 := Nat.le_of_ble_eq_true c3; have c4 := Nat.le_of_ble_eq_true c4
        obtain ⟨k, rfl⟩ : ∃ k', k = k' + 1 := ⟨k - 1, by omega⟩
        have ih1 := eqFs_ok n d' 0 k (fieldsT P f.type) (xs.take m) (ys.take m) [] [] (by omega) rfl rfl c5
        have ih2 := eqFs_ok n (d' + 1) (i + m) (k + 1) fs (xs.drop m) (ys.drop m) (px ++ xs.take m) (py ++ ys.take m) hk (by simp [hx]; omega) (by simp [hy]; omega) c6
        rw [List.append_assoc, List.append_assoc, List.take_append_drop, List.take_append_drop] at ih2
        have e1 := eqB_split n d' 0 (fieldsT P f.type) (xs.take m) (ys.take m) (xs.drop m) (ys.drop m) c5
        rw [List.take_append_drop, List.take_append_drop] at e1
        simp only [ha, Option.bind_some, partA_true, hm]
        rw [if_pos (by simp [hx]; omega), if_pos (by simp [hy]; omega), Option.bind_some, Option.bind_some]
        have ex : (px ++ xs).drop i = xs := by rw [← hx, List.drop_left]
        have ey : (py ++ ys).drop i = ys := by rw [← hy, List.drop_left]
        have et : eqT P (k + 1 + 1) f.type (.agg (xs.take m)) (.agg (ys.take m)) = some (eqB (xs.take m) (ys.take m)) := by
          rw [eqT, if_pos ⟨Nat.eq_of_beq_eq_true c1, c2⟩]; exact ih1
        rw [ex, ey, et, Option.bind_some, e1]
        cases hb : eqB (xs.take m) (ys.take m) with
        | true => simp only [if_true, Bool.true_and]; exact ih2
        | false => simp
      · cases h
    · cases h

def eqAll (P : Program) (t : TypeId) (xs ys : List T) : Bool := Nat.beq (kindT P t) 7 && (!P.stoodInHeld t) && (!P.eqGuardType P.depth t) && eqOk P 100 6 0 (fieldsT P t) xs ys
theorem eqA_flat {P : Program} {t : TypeId} {xs ys : List T} (h : eqAll P t xs ys = true) : eqA P t (.agg xs) (.agg ys) = some (eqB xs ys) := by
  simp only [eqAll, Bool.and_eq_true, Bool.not_eq_true'] at h
  obtain ⟨⟨⟨h1, h2⟩, h3⟩, h4⟩ := h
  simp only [eqA, h3, if_true]
  rw [eqT, if_pos ⟨Nat.eq_of_beq_eq_true h1, h2⟩]
  exact eqFs_ok 100 6 0 6 (fieldsT P t) xs ys [] [] (Nat.le_refl _) rfl rfl h4

section
variable {P : Program} {O : Oracle} {ops : Array Oper} {m : Mo} {l : List Oper} {K : Fr → Prop} {s : Nat → T} {σ : St} {L : List (Nat × T)}
variable {d : Option Nat} {ty : TypeId} {ps : String} {af : Array Edge} {g : Option (Nat × Bool)}
theorem q_eqS {x y : Operand} {t u : TypeId} {xs ys : List T} {v : Bool} (hw : want ops L g = some true) (hS : Sub L s) (hx : gE (get L) x = some (.agg xs)) (hy : gE (get L) y = some (.agg ys)) (h : eqAll P t xs ys = true) (hv : eqB xs ys = v)
    (k : ∀ s', Sub (putL L d (.bool v)) s' → opsX P O ops (nxM m) l K ⟨s', σ⟩) : opsX P O ops m (⟨d, .binOp .eql t x y u, ty, ps, af, g⟩ :: l) K ⟨s, σ⟩ :=
  q_val hw hS (fun kk σ' _ => by rw [a_binOp, gE_sound hS hx, Option.bind_some, gE_sound hS hy, Option.bind_some]; simp only [binA, eqA_flat h, hv]; rfl) k
theorem q_neS {x y : Operand} {t u : TypeId} {xs ys : List T} {v : Bool} (hw : want ops L g = some true) (hS : Sub L s) (hx : gE (get L) x = some (.agg xs)) (hy : gE (get L) y = some (.agg ys)) (h : eqAll P t xs ys = true) (hv : eqB xs ys = v)
    (k : ∀ s', Sub (putL L d (.bool (!v))) s' → opsX P O ops (nxM m) l K ⟨s', σ⟩) : opsX P O ops m (⟨d, .binOp .neq t x y u, ty, ps, af, g⟩ :: l) K ⟨s, σ⟩ :=
  q_val hw hS (fun kk σ' _ => by rw [a_binOp, gE_sound hS hx, Option.bind_some, gE_sound hS hy, Option.bind_some]; simp only [binA, eqA_flat h, hv]; rfl) k
end

/-! ### a region in an open order whose calls are in order -/
def callsOf (ops : Array Oper) : List Nat := (List.range ops.size).filter fun i => match ops[i]? with
  | some o => isCall o.op
  | none => false
def chainB (ops : Array Oper) : Bool := (callsOf ops).all fun i => (callsOf ops).all fun j => !Nat.blt i j || ((ancs ops).getD j []).contains i

def lastC (ch : List Nat) (c : Nat → Bool) : Nat := ch.foldr (fun k a => if c k then max (k + 1) a else a) 0
theorem lastC_le {ch : List Nat} {c : Nat → Bool} {n : Nat} : lastC ch c ≤ n ↔ ∀ k ∈ ch, c k = true → k + 1 ≤ n := by
  induction ch with
  | nil => simp [lastC]
  | cons a ch ih =>
    have e : lastC (a :: ch) c = if c a then max (a + 1) (lastC ch c) else lastC ch c := rfl
    rw [e]
    by_cases h : c a = true
    · rw [if_pos h]
      constructor
      · intro hle k hk hc
        rcases List.mem_cons.1 hk with rfl | hk
        · omega
        · exact ih.1 (by omega) k hk hc
      · intro hall
        have := hall a (by simp) h
        have := ih.2 fun k hk hc => hall k (by simp [hk]) hc
        omega
    · rw [if_neg h]
      exact ⟨fun hle k hk hc => by rcases List.mem_cons.1 hk with rfl | hk; exact absurd hc h; exact ih.1 hle k hk hc, fun hall => ih.2 fun k hk hc => hall k (by simp [hk]) hc⟩
theorem lastC_congr {ch : List Nat} {c c' : Nat → Bool} (h : ∀ k ∈ ch, c k = c' k) : lastC ch c = lastC ch c' := by
  apply Nat.le_antisymm
  · exact lastC_le.2 fun k hk hc => lastC_le.1 (Nat.le_refl _) k hk (by rw [← h k hk]; exact hc)
  · exact lastC_le.2 fun k hk hc => lastC_le.1 (Nat.le_refl _) k hk (by rw [h k hk]; exact hc)

section
variable {P : Program} {O : Oracle} {ops : Array Oper} {K : Fr → Prop} {s : Nat → T} {b n0 : Nat} {σs : St}

theorem stepV_eq {i : Nat} {o : Oper} (ho : ops[i]? = some o) (s : Nat → T) (σ : St) : stepV P O ops b i s σ = stepO P O ops (b + i) o s σ := by
  unfold stepV stepO; rw [ho]; rfl

theorem opsC_vals (hf : DrawFacts ops) : ∀ n k (vals : Nat → T) (S : Nat → St), k + n = ops.size →
    (∀ i, i < k → stepV P O ops b i (sl ops vals s (fun j => decide (j < i))) (S i) = some (vals i, S (i + 1)) ∧ OldEq n0 σs (S (i + 1)) ∧ (i ∉ callsOf ops → S (i + 1) = S i ∧ ∀ σ', OldEq n0 σs σ' → stepV P O ops b i (sl ops vals s (fun j => decide (j < i))) σ' = some (vals i, σ'))) →
    OldEq n0 σs (S k) → opsC P O ops b n0 σs k (ops.toList.drop k) K ⟨sl ops vals s (fun j => decide (j < k)), S k⟩ →
    ∃ (vals' : Nat → T) (S' : Nat → St), S' 0 = S 0 ∧ (∀ i, i < ops.size → stepV P O ops b i (sl ops vals' s (fun j => decide (j < i))) (S' i) = some (vals' i, S' (i + 1)) ∧ OldEq n0 σs (S' (i + 1)) ∧ (i ∉ callsOf ops → S' (i + 1) = S' i ∧ ∀ σ', OldEq n0 σs σ' → stepV P O ops b i (sl ops vals' s (fun j => decide (j < i))) σ' = some (vals' i, σ'))) ∧
      K ⟨sl ops vals' s (fun j => decide (j < ops.size)), S' ops.size⟩ := by
  intro n
  induction n with
  | zero =>
    intro k vals S hk h1 hA h2
    have : k = ops.size := by omega
    subst this
    rw [List.drop_of_length_le (by simp)] at h2
    exact ⟨vals, S, rfl, h1, h2⟩
  | succ n ih =>
    intro k vals S hk h1 hA h2
    have hlt : k < ops.size := by omega
    have ho : ops[k]? = some ops[k] := by simp [hlt]
    have hd : ops.toList.drop k = ops[k] :: ops.toList.drop (k + 1) := by
      rw [List.drop_eq_getElem_cons (by simpa using hlt)]; simp
    rw [hd] at h2
    have hmem : k ∈ callsOf ops ↔ isCall ops[k].op = true := by
      simp [callsOf, hlt, ho]
    -- the value and the state behind the operation
    have key : ∃ v σ', stepO P O ops (b + k) ops[k] (sl ops vals s (fun j => decide (j < k))) (S k) = some (v, σ') ∧ OldEq n0 σs σ' ∧ (k ∉ callsOf ops → σ' = S k ∧ ∀ σ2, OldEq n0 σs σ2 → stepO P O ops (b + k) ops[k] (sl ops vals s (fun j => decide (j < k))) σ2 = some (v, σ2)) ∧
        opsC P O ops b n0 σs (k + 1) (ops.toList.drop (k + 1)) K (Fr.put ⟨sl ops vals s (fun j => decide (j < k)), S k⟩ ops[k].dst v σ') := by
      unfold opsC at h2
      cases hc : isCall ops[k].op && wantedA ops ops[k] (sl ops vals s (fun j => decide (j < k))) with
      | true =>
        simp only [hc] at h2
        obtain ⟨v, σ', q1, q2, q3⟩ := h2
        simp only [Bool.and_eq_true] at hc
        exact ⟨v, σ', q1, q2, fun hn => absurd (hmem.2 hc.1) hn, q3⟩
      | false =>
        simp only [hc] at h2
        obtain ⟨v, q1, q3⟩ := h2
        exact ⟨v, S k, q1 _ hA, hA, fun _ => ⟨rfl, q1⟩, q3⟩
    obtain ⟨v, σ', q1, q2, q3, q4⟩ := key
    let vals' : Nat → T := fun j => if j = k then v else vals j
    let S' : Nat → St := fun j => if j = k + 1 then σ' else S j
    have e1 : ∀ i, i ≤ k → sl ops vals' s (fun j => decide (j < i)) = sl ops vals s (fun j => decide (j < i)) := fun i hi => sl_vals fun j hj => by
      simp at hj
      simp only [vals']; rw [if_neg (by omega)]
    have e2 : (fun j => decide (j < k) || decide (j = k)) = (fun j => decide (j < k + 1)) := by
      funext j
      rw [Bool.eq_iff_iff]; simp; omega
    have e3 : ∀ i, i ≤ k → S' i = S i := fun i hi => by simp only [S']; rw [if_neg (by omega)]
    have e4 : S' (k + 1) = σ' := by simp [S']
    have e5 : vals' k = v := by simp [vals']
    obtain ⟨vals2, S2, r1, r2, r3⟩ := ih (k + 1) vals' S' (by omega) (fun i hi => by
      by_cases hik : i = k
      · subst hik
        rw [e1 i (Nat.le_refl _), e3 i (Nat.le_refl _), e4, e5, stepV_eq ho]
        refine ⟨q1, q2, fun hn => ⟨(q3 hn).1, fun σ2 h2 => ?_⟩⟩
        rw [stepV_eq ho]; exact (q3 hn).2 σ2 h2
      · rw [e1 i (by omega), e3 i (by omega), e3 (i + 1) (by omega), show vals' i = vals i from if_neg hik]
        exact h1 i (by omega)) (by rw [e4]; exact q2) (by
      have hp := sl_put (vals := vals') (s := s) hf ho (L := fun j => decide (j < k)) (by simp) (S k) σ'
      rw [e1 k (Nat.le_refl _), e2, e5] at hp
      rw [e4, ← hp]; exact q4)
    exact ⟨vals2, S2, by rw [r1, e3 0 (by omega)], r2, r3⟩

theorem drawQ_chain (hst : drawOk ops = true) (hch : chainB ops = true) {fr : Fr} {n0 : Nat} (hn : n0 ≤ fr.σ.next) (h : opsC P O ops fr.σ.next n0 (fr.σ.bump ops.size) 0 ops.toList K ⟨fr.s, fr.σ.bump ops.size⟩) : drawQ P O ops K fr := by
  have hf := drawOk_facts hst
  have h0 : sl ops (fun _ => .tup []) fr.s (fun j => decide (j < 0)) = fr.s := by funext t; exact sl_none fun _ _ _ _ => by simp
  have hA0 : OldEq n0 (fr.σ.bump ops.size) (fr.σ.bump ops.size) := ⟨by simp; omega, fun _ _ => rfl⟩
  obtain ⟨vals, S, s0, h1, h2⟩ := opsC_vals (P := P) (O := O) (K := K) (s := fr.s) (b := fr.σ.next) (n0 := n0) (σs := fr.σ.bump ops.size) hf ops.size 0 (fun _ => .tup []) (fun _ => fr.σ.bump ops.size) (by omega) (fun i hi => absurd hi (by omega)) hA0 (by rw [h0]; simpa using h)
  have hmem : ∀ i ∈ callsOf ops, i < ops.size := fun i hi => by
    simp only [callsOf, List.mem_filter, List.mem_range] at hi; exact hi.1
  have hanc : ∀ i ∈ callsOf ops, ∀ j ∈ callsOf ops, i < j → i ∈ (ancs ops).getD j [] := fun i hi j hj hij => by
    have := List.all_eq_true.1 (List.all_eq_true.1 hch i hi) j hj
    simp only [Bool.or_eq_true, Bool.not_eq_true'] at this
    rcases this with h | h
    · have : Nat.blt i j = true := by simp [Nat.blt]; omega
      rw [this] at h; cases h
    · simpa using h
  -- between the calls nothing changes
  have hS : ∀ j, j ≤ ops.size → S j = S (lastC (callsOf ops) (fun k => decide (k < j))) := by
    intro j
    induction j with
    | zero =>
      intro _
      have : lastC (callsOf ops) (fun k => decide (k < 0)) = 0 := Nat.le_zero.1 (lastC_le.2 fun k _ hk => by simp at hk)
      rw [this]
    | succ j ih =>
      intro hj
      by_cases hc : j ∈ callsOf ops
      · have : lastC (callsOf ops) (fun k => decide (k < j + 1)) = j + 1 := by
          apply Nat.le_antisymm
          · exact lastC_le.2 fun k _ hk => by simp at hk; omega
          · exact lastC_le.1 (Nat.le_refl _) j hc (by simp)
        rw [this]
      · rw [((h1 j (by omega)).2.2 hc).1, ih (by omega)]
        congr 1
        exact lastC_congr fun k hk => by
          have : k ≠ j := fun e => hc (e ▸ hk)
          rw [Bool.eq_iff_iff]; simp; omega
  have hOld : ∀ j, j ≤ ops.size → OldEq n0 (fr.σ.bump ops.size) (S j) := fun j hj => by
    cases j with
    | zero => rw [s0]; exact hA0
    | succ j => exact (h1 j (by omega)).2.1
  refine ⟨⟨sl ops vals fr.s (fun j => decide (j < ops.size)), S (lastC (callsOf ops) (fun j => decide (j < ops.size)))⟩, ?_, by rw [← hS ops.size (Nat.le_refl _)]; exact h2⟩
  have hle : ∀ c : Nat → Bool, lastC (callsOf ops) c ≤ ops.size := fun c => lastC_le.2 fun k hk _ => hmem k hk
  refine draw_drawL (P := P) (O := O) (vals := vals) (s := fr.s) (Sg := fun c => S (lastC (callsOf ops) c)) (ch := callsOf ops) hst rfl ?_ ?_ (fun c c' hcc => by rw [lastC_congr hcc]) hmem
  · have : lastC (callsOf ops) (fun _ => false) = 0 := Nat.le_zero.1 (lastC_le.2 fun k _ hk => by cases hk)
    rw [this, s0]
  · intro i hi c hc
    obtain ⟨f1, f2, f3, _⟩ := hc
    by_cases hic : i ∈ callsOf ops
    · have e1 : lastC (callsOf ops) c = lastC (callsOf ops) (fun k => decide (k < i)) := lastC_congr fun k hk => by
        rcases Nat.lt_trichotomy k i with h | h | h
        · rw [f1 k hk (hanc k hk i hic h)]; simp [h]
        · subst h; rw [f3]; simp
        · rw [f2 k hk (hanc i hic k hk h)]; simp; omega
      have e2 : lastC (callsOf ops) (fun j => c j || decide (j = i)) = i + 1 := by
        apply Nat.le_antisymm
        · refine lastC_le.2 fun k hk hkc => ?_
          rcases Nat.lt_trichotomy k i with h | h | h
          · omega
          · omega
          · simp [f2 k hk (hanc i hic k hk h)] at hkc; omega
        · exact lastC_le.1 (Nat.le_refl _) i hic (by simp)
      rw [e1, ← hS i (by omega), e2]
      exact (h1 i hi).1
    · have e2 : lastC (callsOf ops) (fun j => c j || decide (j = i)) = lastC (callsOf ops) c := lastC_congr fun k hk => by
        have : k ≠ i := fun e => hic (e ▸ hk)
        simp [this]
      rw [e2]
      exact ((h1 i hi).2.2 hic).2 _ (hOld _ (hle c))

theorem c_chain {Q : AExit → Fr → Prop} {σ σ0 : St} {es : List Ent} {id : Nat} (hst : drawOk ops = true) (hch : chainB ops = true) (hH : Heap σ0 σ es)
    (h : ∀ B n0 σs σ', σ0.next ≤ n0 → (∀ x cells, Ent.box x cells ∈ es → x < n0) → Heap σ0 σ' es → opsX P O ops (.c B 0 n0 σs) ops.toList (Q .normal) ⟨s, σ'⟩) : codeQ P O (.region id ops true) Q ⟨s, σ⟩ := by
  refine drawQ_chain hst hch (n0 := σ.next) (Nat.le_refl _) ?_
  refine h σ.next σ.next (σ.bump ops.size) (σ.bump ops.size) hH.grow.nx (fun x cells hx => ?_) hH.bump ⟨by simp, fun _ _ => rfl⟩
  obtain ⟨n, hn, e⟩ := List.getElem_of_mem hx
  obtain ⟨F, h1, h2, h3⟩ := hH.ex
  obtain ⟨l1, l2, rfl⟩ := List.append_of_mem hx
  obtain ⟨F1, F2, rfl, h4, h5⟩ := h1.split
  obtain ⟨S, F', rfl, ⟨rfl, _⟩, _⟩ := h5
  exact (h3 x (by simp)).2
end
theorem bl1 {bs : List Nat} {c : List T} (h : bs.length = [c].length) : ∃ b, bs = [b] := by
  rcases bs with _ | ⟨b, _ | ⟨x, l⟩⟩ <;> simp at h
  exact ⟨b, rfl⟩
theorem bl2 {bs : List Nat} {c c' : List T} (h : bs.length = [c, c'].length) : ∃ b b', bs = [b, b'] := by
  rcases bs with _ | ⟨b, _ | ⟨b', _ | ⟨x, l⟩⟩⟩ <;> simp at h
  exact ⟨b, b', rfl⟩
end Go.Am
end
section
set_option linter.unusedVariables false
set_option linter.unusedSimpArgs false
namespace Go.Am


noncomputable def tell (p : Prop) : Option Bool := some (@decide p (Classical.propDecidable p))
theorem tell_t {p : Prop} (h : p) : tell p = some true := by simp [tell, h]
theorem tell_f {p : Prop} (h : ¬ p) : tell p = some false := by simp [tell, h]
def A2 {α : Type} (R : α → α → Prop) : List α → List α → Prop
  | [], [] => True
  | x :: xs, y :: ys => R x y ∧ A2 R xs ys
  | _, _ => False
theorem A2.refl {α : Type} {R : α → α → Prop} : ∀ {l : List α}, (∀ x ∈ l, R x x) → A2 R l l
  | [], _ => trivial
  | x :: xs, h => ⟨h x (by simp), A2.refl (fun y hy => h y (by simp [hy]))⟩
theorem A2.len {α : Type} {R : α → α → Prop} : ∀ {l m : List α}, A2 R l m → l.length = m.length
  | [], [], _ => rfl
  | _ :: xs, _ :: ys, h => by simp [A2.len h.2]
  | [], _ :: _, h => h.elim
  | _ :: _, [], h => h.elim
theorem A2.drop {α : Type} {R : α → α → Prop} {l m : List α} {i : Nat} {x y : α} (hx : l[i]? = some x) (hy : m[i]? = some y) : A2 R (l.drop i) (m.drop i) ↔ R x y ∧ A2 R (l.drop (i + 1)) (m.drop (i + 1)) := by
  obtain ⟨h1, rfl⟩ := List.getElem?_eq_some_iff.1 hx
  obtain ⟨h2, rfl⟩ := List.getElem?_eq_some_iff.1 hy
  rw [List.drop_eq_getElem_cons h1, List.drop_eq_getElem_cons h2]
  exact Iff.rfl
theorem wrap_id {n : Int} (h0 : -9223372036854775808 ≤ n) (h1 : n < 9223372036854775808) : IntKind.i64.wrap n = n := by
  simp only [IntKind.wrap, IntKind.signed, IntKind.bits]
  simp
  omega
theorem elt_nat {α : Type} {s : Sl α} {i : Nat} {x : α} (h : s.l[i]? = some x) : elt s (i : Int) = some x := by
  simp [elt, h]

theorem loop_eq {α : Type} {R : α → α → Prop} {a b : Sl α} {body : Int → Option (Int ⊕ (Unit ⊕ Bool))} (hl : a.l.length = b.l.length)
    (h1 : ∀ (i : Nat) x y, a.l[i]? = some x → b.l[i]? = some y → (R x y → body i = some (.inl ((i : Int) + 1))) ∧ (¬ R x y → body i = some (.inr (.inr false))))
    (h2 : body (a.l.length : Int) = some (.inr (.inl ()))) :
    (A2 R a.l b.l → loopO body 0 = some (.inl ())) ∧ (¬ A2 R a.l b.l → loopO body 0 = some (.inr false)) := by
  suffices H : ∀ (k i : Nat), i + k = a.l.length → (A2 R (a.l.drop i) (b.l.drop i) → loopO body (i : Int) = some (.inl ())) ∧ (¬ A2 R (a.l.drop i) (b.l.drop i) → loopO body (i : Int) = some (.inr false)) by
    have := H a.l.length 0 (by simp)
    simpa using this
  intro k
  induction k with
  | zero =>
    intro i hi
    have : i = a.l.length := by omega
    subst this
    refine ⟨fun _ => loopO_stop h2, fun h => ?_⟩
    refine absurd ?_ h
    rw [List.drop_length]
    rw [hl, List.drop_length]
    trivial
  | succ k ih =>
    intro i hi
    have ha : i < a.l.length := by omega
    have hb : i < b.l.length := by omega
    have ea : a.l[i]? = some a.l[i] := List.getElem?_eq_getElem ha
    have eb : b.l[i]? = some b.l[i] := List.getElem?_eq_getElem hb
    have hh := h1 i _ _ ea eb
    have ihh := ih (i + 1) (by omega)
    rw [A2.drop ea eb]
    have hc : ((i + 1 : Nat) : Int) = (i : Int) + 1 := by simp
    rw [hc] at ihh
    by_cases hR : R a.l[i] b.l[i]
    · refine ⟨fun h => loopO_go (hh.1 hR) (ihh.1 h.2), fun h => loopO_go (hh.1 hR) (ihh.2 (fun q => h ⟨hR, q⟩))⟩
    · exact ⟨fun h => absurd h.1 hR, fun _ => loopO_stop (hh.2 hR)⟩

/- sizes -/
def SzOk (o : Option Int) (l : Int) (P : Prop) : Prop := o = some (-1) ∨ ∃ l', o = some l' ∧ 0 ≤ l' ∧ l' ≤ l ∧ P
theorem SzOk.imp {o : Option Int} {l m : Int} {P Q : Prop} (h : SzOk o l P) (hm : l ≤ m) (f : P → Q) : SzOk o m Q := by
  rcases h with h | ⟨l', h1, h2, h3, h4⟩
  · exact .inl h
  · exact .inr ⟨l', h1, h2, by omega, f h4⟩
theorem sz_u {B F : Option Int} {l : Int} {P : Prop} (u : ∀ r, B = some r → F = some r) (h : SzOk B l P) : SzOk F l P := by
  rcases h with h | ⟨l', h1, h2⟩
  · exact .inl (u _ h)
  · exact .inr ⟨l', u _ h1, h2⟩
theorem sz_end {l : Int} {Q : Prop} (h : 0 ≤ l) (q : Q) : SzOk (some l) l Q := .inr ⟨l, rfl, h, by omega, q⟩
theorem sz_if {l l' : Int} {K : Option Int} {Q : Prop} (hl : l' ≤ l) (h : 0 ≤ l' → SzOk K l' Q) : SzOk (if decide (l' < 0) = true then some (-1) else K) l Q := by
  by_cases hn : l' < 0
  · exact .inl (by simp [hn])
  · rw [if_neg (by simpa using hn)]
    exact (h (by omega)).imp hl (fun q => q)
theorem sz_bind {o : Option Int} {l : Int} {P Q : Prop} {k : Int → Option Int} (h : SzOk o l P) (hk : ∀ l', 0 ≤ l' → l' ≤ l → P → SzOk (k l') l' Q) : SzOk (o.bind fun y => if decide (y < 0) = true then some (-1) else k y) l Q := by
  rcases h with h | ⟨l', h1, h2, h3, h4⟩
  · subst h; exact .inl (by simp)
  · subst h1
    show SzOk (if decide (l' < 0) = true then some (-1) else k l') l Q
    rw [if_neg (by simp; omega)]
    exact (hk l' h2 h3 h4).imp h3 (fun q => q)
theorem loop_sz {α : Type} {P : α → Prop} {a : Sl α} {body : Int × Int → Option ((Int × Int) ⊕ (Int ⊕ Int))} {l : Int} (h0 : 0 ≤ l)
    (h1 : ∀ (i : Nat) x l', a.l[i]? = some x → 0 ≤ l' → l' ≤ l → body (l', i) = some (.inr (.inr (-1))) ∨ ∃ l'', body (l', i) = some (.inl (l'', (i : Int) + 1)) ∧ 0 ≤ l'' ∧ l'' ≤ l' ∧ P x)
    (h2 : ∀ l', body (l', (a.l.length : Int)) = some (.inr (.inl l'))) :
    SzOk ((loopO body (l, 0)).bind fun y => Sum.elim (fun y => some y) (fun y => some y) y) l (∀ x ∈ a.l, P x) := by
  suffices H : ∀ (k i : Nat), i + k = a.l.length → ∀ l', 0 ≤ l' → l' ≤ l → (loopO body (l', (i : Int)) = some (.inr (-1))) ∨ ∃ l'', loopO body (l', (i : Int)) = some (.inl l'') ∧ 0 ≤ l'' ∧ l'' ≤ l' ∧ ∀ x ∈ a.l.drop i, P x by
    rcases H a.l.length 0 (by simp) l h0 (by omega) with h | ⟨l', h, h3⟩
    · have h : loopO body (l, 0) = some (.inr (-1)) := h
      rw [h]; exact .inl rfl
    · have h : loopO body (l, 0) = some (.inl l') := h
      rw [h]; exact .inr ⟨l', rfl, by simpa using h3⟩
  intro k
  induction k with
  | zero =>
    intro i hi l' hl0 hl
    have : i = a.l.length := by omega
    subst this
    exact .inr ⟨l', loopO_stop (h2 l'), hl0, by omega, by simp⟩
  | succ k ih =>
    intro i hi l' hl0 hl
    have ha : i < a.l.length := by omega
    have ea : a.l[i]? = some a.l[i] := List.getElem?_eq_getElem ha
    rcases h1 i _ l' ea hl0 hl with h | ⟨l2, h, h3, h4, h5⟩
    · exact .inl (loopO_stop h)
    · have hc : ((i + 1 : Nat) : Int) = (i : Int) + 1 := by simp
      rcases ih (i + 1) (by omega) l2 h3 (by omega) with q | ⟨l3, q, q1, q2, q3⟩
      · rw [hc] at q
        exact .inl (loopO_go h q)
      · rw [hc] at q
        refine .inr ⟨l3, loopO_go h q, q1, by omega, ?_⟩
        rw [List.drop_eq_getElem_cons ha]
        intro x hx
        rcases List.mem_cons.1 hx with rfl | hx
        · exact h5
        · exact q3 x hx

/- copies -/
def ToOk {α : Type} (o : Option α) (P : α → Prop) : Prop := ∃ y, o = some y ∧ P y
theorem to_u {α : Type} {B F : Option α} {P : α → Prop} (u : ∀ r, B = some r → F = some r) (h : ToOk B P) : ToOk F P := by
  obtain ⟨y, h1, h2⟩ := h
  exact ⟨y, u _ h1, h2⟩
theorem to_bind {α β : Type} {o : Option α} {P : α → Prop} {k : α → Option β} {Q : β → Prop} (h : ToOk o P) (hk : ∀ y, P y → ToOk (k y) Q) : ToOk (o.bind k) Q := by
  obtain ⟨y, rfl, h2⟩ := h
  exact hk y h2
theorem to_end {α : Type} {x : α} {P : α → Prop} (h : P x) : ToOk (some x) P := ⟨x, rfl, h⟩
theorem loop_to {α : Type} {P : α → Prop} {n : Nat} {a : Sl α} {by_ : Nat} {z : α} {body : Int × Sl α → Option ((Int × Sl α) ⊕ Sl α)} (hn : a.l.length ≤ n) (hb : n * by_ ≤ 1099511627776) (hb2 : n ≤ 1099511627776)
    (h1 : ∀ (i : Nat) x (s : Sl α) w, a.l[i]? = some x → s.l[i]? = some w → ∃ y, body (i, s) = some (.inl ((i : Int) + 1, setS s i y)) ∧ P y)
    (h2 : ∀ s, body ((a.l.length : Int), s) = some (.inr s)) :
    ToOk ((mkS by_ z (a.l.length : Int) (a.l.length : Int)).bind fun y1 => (loopO body (0, y1)).bind fun y2 => some y2) (fun r => r.l.length ≤ n ∧ ∀ x ∈ r.l, P x) := by
  have hm : mkS by_ z (a.l.length : Int) (a.l.length : Int) = some ⟨false, List.replicate a.l.length z⟩ := by
    have : a.l.length * by_ ≤ n * by_ := Nat.mul_le_mul_right _ hn
    unfold mkS
    rw [if_pos]
    · simp
    · refine ⟨by omega, by omega, ?_, by omega⟩
      have : ((a.l.length * by_ : Nat) : Int) ≤ 1099511627776 := by omega
      simpa using this
  rw [hm]
  suffices H : ∀ (k i : Nat), i + k = a.l.length → ∀ s : Sl α, s.l.length = a.l.length → (∀ j x, j < i → s.l[j]? = some x → P x) → ∃ r, loopO body ((i : Int), s) = some r ∧ r.l.length = a.l.length ∧ ∀ x ∈ r.l, P x by
    obtain ⟨r, q1, q2, q3⟩ := H a.l.length 0 (by simp) ⟨false, List.replicate a.l.length z⟩ (by simp) (by intro j x h; omega)
    have q1 : loopO body (0, ⟨false, List.replicate a.l.length z⟩) = some r := q1
    refine ⟨r, ?_, by omega, q3⟩
    show (loopO body (0, ⟨false, List.replicate a.l.length z⟩)).bind _ = _
    rw [q1]; rfl
  intro k
  induction k with
  | zero =>
    intro i hi s hs hP
    have : i = a.l.length := by omega
    subst this
    refine ⟨s, loopO_stop (h2 s), hs, fun x hx => ?_⟩
    obtain ⟨j, hj, rfl⟩ := List.getElem_of_mem hx
    exact hP j _ (by omega) (List.getElem?_eq_getElem hj)
  | succ k ih =>
    intro i hi s hs hP
    have ha : i < a.l.length := by omega
    have hi' : i < s.l.length := by omega
    obtain ⟨y, q1, q2⟩ := h1 i _ s _ (List.getElem?_eq_getElem ha) (List.getElem?_eq_getElem hi')
    obtain ⟨r, p1, p2, p3⟩ := ih (i + 1) (by omega) (setS s i y) (by simp [setS, hs]) (by
      intro j x hj hx
      simp only [setS, Int.toNat_natCast, List.getElem?_set] at hx
      by_cases hij : i = j
      · subst hij
        simp [hi'] at hx
        exact hx ▸ q2
      · rw [if_neg hij] at hx
        exact hP j x (by omega) hx)
    have hc : ((i + 1 : Nat) : Int) = (i : Int) + 1 := by simp
    rw [hc] at p1
    exact ⟨r, loopO_go q1 p1, p2, p3⟩

theorem slice_eq {α : Type} {R : α → α → Prop} {a b : Sl α} {body : Int → Option (Int ⊕ (Unit ⊕ Bool))}
    (h1 : ∀ (i : Nat) x y, x ∈ a.l → y ∈ b.l → i < a.l.length → elt a (i : Int) = some x → elt b (i : Int) = some y → (R x y → body i = some (.inl ((i : Int) + 1))) ∧ (¬ R x y → body i = some (.inr (.inr false))))
    (h2 : body (a.l.length : Int) = some (.inr (.inl ()))) :
    (if (!decide ((a.l.length : Int) = (b.l.length : Int))) = true then some false else ((loopO body 0).bind fun y => Sum.elim (fun y => some true) (fun y => some y) y)) = tell (A2 R a.l b.l) := by
  by_cases hl : a.l.length = b.l.length
  · have := loop_eq (R := R) hl (fun i x y hx hy => h1 i x y (List.mem_of_getElem? hx) (List.mem_of_getElem? hy) (List.getElem?_eq_some_iff.1 hx).1 (elt_nat hx) (elt_nat hy)) h2
    rw [if_neg (by simp [hl])]
    by_cases hA : A2 R a.l b.l
    · rw [this.1 hA, tell_t hA]; rfl
    · rw [this.2 hA, tell_f hA]; rfl
  · rw [if_pos (by simp; omega), tell_f (fun h => hl h.len)]
/-- The body of a comparison, of what its test gives. -/
theorem eq_step {α : Type} {p : Prop} {a b : Sl α} {x y : α} {i : Nat} {n : Int} {o : Option Bool} {e : Option (Int ⊕ (Unit ⊕ Bool))} {k : α → α → Option (Int ⊕ (Unit ⊕ Bool))} (hi : (i : Int) < n) (hx : elt a (i : Int) = some x) (hy : elt b (i : Int) = some y)
    (hk : (p → k x y = some (.inl (IntKind.i64.wrap ((i : Int) + 1)))) ∧ (¬ p → k x y = some (.inr (.inr false)))) (hn : n < 9223372036854775808) :
    (p → (if decide ((i : Int) < n) = true then (elt a (i : Int)).bind fun y2 => (elt b (i : Int)).bind fun y3 => k y2 y3 else e) = some (.inl ((i : Int) + 1))) ∧ (¬ p → (if decide ((i : Int) < n) = true then (elt a (i : Int)).bind fun y2 => (elt b (i : Int)).bind fun y3 => k y2 y3 else e) = some (.inr (.inr false))) := by
  rw [if_pos (by simpa using hi), hx, hy]
  simp only [Option.bind_some]
  rw [wrap_id (by omega) (by omega)] at hk
  exact hk
theorem tell_step {p : Prop} {o : Option Bool} {A B : Option (Int ⊕ (Unit ⊕ Bool))} (h : o = tell p) : (p → (o.bind fun y => if (!y) = true then B else A) = A) ∧ (¬ p → (o.bind fun y => if (!y) = true then B else A) = B) := by
  subst h
  refine ⟨fun q => ?_, fun q => ?_⟩
  · rw [tell_t q]; rfl
  · rw [tell_f q]; rfl
theorem tell_bind {p : Prop} {β : Type} {k : Bool → Option β} : (tell p).bind k = @ite _ p (Classical.propDecidable p) (k true) (k false) := by
  by_cases h : p
  · rw [tell_t h, if_pos h]; rfl
  · rw [tell_f h, if_neg h]; rfl
def FitS {α : Type} (n : Nat) (F : α → Prop) (s : Sl α) : Prop := s.l.length ≤ n ∧ ∀ x ∈ s.l, F x
theorem slice_sz {α : Type} {P : α → Prop} {a : Sl α} {body : Int × Int → Option ((Int × Int) ⊕ (Int ⊕ Int))} {l : Int} (h0 : 0 ≤ l) (h20 : l ≤ 1048576) (hb : a.l.length ≤ maxLen)
    (h1 : ∀ (i : Nat) x l', x ∈ a.l → i < a.l.length → elt a (i : Int) = some x → 0 ≤ l' → l' ≤ l → body (l', i) = some (.inr (.inr (-1))) ∨ ∃ l'', body (l', i) = some (.inl (l'', (i : Int) + 1)) ∧ 0 ≤ l'' ∧ l'' ≤ l' ∧ P x)
    (h2 : ∀ l', body (l', (a.l.length : Int)) = some (.inr (.inl l'))) :
    SzOk (if decide (IntKind.i64.wrap (l - (a.l.length : Int)) < 0) = true then some (-1) else (loopO body (IntKind.i64.wrap (l - (a.l.length : Int)), 0)).bind fun y => Sum.elim (fun y => some y) (fun y => some y) y) l (FitS 1048576 P a) := by
  have hm : maxLen = 9223372036854775807 := by decide
  rw [hm] at hb
  rw [wrap_id (by omega) (by omega)]
  refine sz_if (by omega) (fun hn => ?_)
  exact (loop_sz hn (fun i x l' hx q1 q2 => h1 i x l' (List.mem_of_getElem? hx) (List.getElem?_eq_some_iff.1 hx).1 (elt_nat hx) q1 (by omega)) h2).imp (Int.le_refl _) (fun q => ⟨by omega, q⟩)
theorem sz_step {α : Type} {p : Prop} {a : Sl α} {x : α} {i : Nat} {n l : Int} {e : Option ((Int × Int) ⊕ (Int ⊕ Int))} {G : α → Option Int} (hi : (i : Int) < n) (hx : elt a (i : Int) = some x) (hG : SzOk (G x) l p) (hn : n < 9223372036854775808) :
    (if decide ((i : Int) < n) = true then (elt a (i : Int)).bind fun y2 => (G y2).bind fun y3 => if decide (y3 < 0) = true then some (.inr (.inr (-1))) else some (.inl (y3, IntKind.i64.wrap ((i : Int) + 1))) else e) = some (.inr (.inr (-1))) ∨
    ∃ l'', (if decide ((i : Int) < n) = true then (elt a (i : Int)).bind fun y2 => (G y2).bind fun y3 => if decide (y3 < 0) = true then some (.inr (.inr (-1))) else some (.inl (y3, IntKind.i64.wrap ((i : Int) + 1))) else e) = some (.inl (l'', (i : Int) + 1)) ∧ 0 ≤ l'' ∧ l'' ≤ l ∧ p := by
  rw [if_pos (by simpa using hi), hx, wrap_id (by omega) (by omega)]
  rcases hG with h | ⟨l', h, h2, h3, h4⟩
  · left; simp [h]
  · right
    refine ⟨l', ?_, h2, h3, h4⟩
    simp only [Option.bind_some, h]
    rw [if_neg (by simp; omega)]
theorem to_step {α : Type} {P : α → Prop} {a s : Sl α} {x w : α} {i : Nat} {n : Int} {e : Option ((Int × Sl α) ⊕ Sl α)} {G : α → Option α} (hi : (i : Int) < n) (hx : elt a (i : Int) = some x) (hw : elt s (i : Int) = some w) (hG : ToOk (G x) P) (hn : n < 9223372036854775808) :
    ∃ y, (if decide ((i : Int) < n) = true then (elt a (i : Int)).bind fun y3 => (G y3).bind fun y4 => (elt s (i : Int)).bind fun y5 => some (.inl (IntKind.i64.wrap ((i : Int) + 1), setS s (i : Int) y4)) else e) = some (.inl ((i : Int) + 1, setS s i y)) ∧ P y := by
  rw [if_pos (by simpa using hi), hx, hw, wrap_id (by omega) (by omega)]
  obtain ⟨y, h, h2⟩ := hG
  exact ⟨y, by simp [h], h2⟩
theorem slice_to {α : Type} {P : α → Prop} {a : Sl α} {by_ : Nat} {z : α} {body : Int × Sl α → Option ((Int × Sl α) ⊕ Sl α)} (hn : a.l.length ≤ 1048576) (hb : 1048576 * by_ ≤ 1099511627776)
    (h1 : ∀ (i : Nat) x (s : Sl α) w, x ∈ a.l → i < a.l.length → elt a (i : Int) = some x → elt s (i : Int) = some w → ∃ y, body (i, s) = some (.inl ((i : Int) + 1, setS s i y)) ∧ P y)
    (h2 : ∀ s, body ((a.l.length : Int), s) = some (.inr s)) :
    ToOk ((mkS by_ z (a.l.length : Int) (a.l.length : Int)).bind fun y1 => (loopO body (0, y1)).bind fun y2 => some y2) (FitS 1048576 P) :=
  loop_to hn hb (by omega) (fun i x s w hx hw => h1 i x s w (List.mem_of_getElem? hx) (List.getElem?_eq_some_iff.1 hx).1 (elt_nat hx) (elt_nat hw)) h2

/- comparisons, put together -/
theorem says_iff {o : Option Bool} {p q : Prop} (h : o = tell p) (hi : p ↔ q) : o = tell q := by rw [h, propext hi]
theorem says_ifn {c q : Prop} [Decidable c] {K : Option Bool} (h : c → K = tell q) : (if (!decide c) = true then some false else K) = tell (c ∧ q) := by
  by_cases hc : c
  · rw [if_neg (by simp [hc]), h hc]; congr 1; simp [hc]
  · rw [if_pos (by simp [hc]), tell_f (fun w => hc w.1)]
theorem says_if {c q : Prop} [Decidable c] {K : Option Bool} (h : c → K = tell q) : (if decide c = true then K else some false) = tell (c ∧ q) := by
  by_cases hc : c
  · rw [if_pos (by simp [hc]), h hc]; congr 1; simp [hc]
  · rw [if_neg (by simp [hc]), tell_f (fun w => hc w.1)]
theorem says_bindn {p q : Prop} {o K : Option Bool} (ho : o = tell p) (h : p → K = tell q) : (o.bind fun y => if (!y) = true then some false else K) = tell (p ∧ q) := by
  subst ho
  by_cases hc : p
  · rw [tell_t hc, h hc]; show tell q = _; congr 1; simp [hc]
  · rw [tell_f hc, tell_f (fun w => hc w.1)]; rfl
theorem says_bind {p q : Prop} {o K : Option Bool} (ho : o = tell p) (h : p → K = tell q) : (o.bind fun y => if y = true then K else some false) = tell (p ∧ q) := by
  subst ho
  by_cases hc : p
  · rw [tell_t hc, h hc]; show tell q = _; congr 1; simp [hc]
  · rw [tell_f hc, tell_f (fun w => hc w.1)]; rfl
theorem says_last {p : Prop} {o : Option Bool} (ho : o = tell p) : (o.bind fun y => some y) = tell p := by
  rw [ho]; rfl
theorem says_dec {c : Prop} [Decidable c] : some (decide c) = tell c := by
  by_cases hc : c
  · rw [tell_t hc]; simp [hc]
  · rw [tell_f hc]; simp [hc]
theorem says_true : some true = tell True := by rw [tell_t trivial]
theorem says_ifb {c : Prop} {q : Prop} {b : Bool} {K : Option Bool} (hb : b = true ↔ c) (h : c → K = tell q) : (if b = true then K else some false) = tell (c ∧ q) := by
  by_cases hc : c
  · rw [if_pos (hb.2 hc), h hc]; congr 1; simp [hc]
  · rw [if_neg (fun w => hc (hb.1 w)), tell_f (fun w => hc w.1)]
theorem says_b {c : Prop} {b : Bool} (hb : b = true ↔ c) : some b = tell c := by
  cases b with
  | true => rw [tell_t (hb.1 rfl)]
  | false => rw [tell_f (fun h => by simp at hb; exact hb h)]

def Steps (o : Option (Int ⊕ (Unit ⊕ Bool))) (i : Nat) (p : Prop) : Prop := (p → o = some (.inl (IntKind.i64.wrap ((i : Int) + 1)))) ∧ (¬ p → o = some (.inr (.inr false)))
theorem st_end {i : Nat} : Steps (some (.inl (IntKind.i64.wrap ((i : Int) + 1)))) i True := ⟨fun _ => rfl, fun h => absurd trivial h⟩
theorem st_ifn {i : Nat} {c q : Prop} [Decidable c] {K : Option (Int ⊕ (Unit ⊕ Bool))} (h : c → Steps K i q) : Steps (if (!decide c) = true then some (.inr (.inr false)) else K) i (c ∧ q) := by
  by_cases hc : c
  · rw [if_neg (by simp [hc])]; exact ⟨fun w => (h hc).1 w.2, fun w => (h hc).2 (fun q => w ⟨hc, q⟩)⟩
  · rw [if_pos (by simp [hc])]; exact ⟨fun w => absurd w.1 hc, fun _ => rfl⟩
theorem st_ifnb {i : Nat} {c q : Prop} {b : Bool} {K : Option (Int ⊕ (Unit ⊕ Bool))} (hb : b = true ↔ c) (h : c → Steps K i q) : Steps (if (!b) = true then some (.inr (.inr false)) else K) i (c ∧ q) := by
  by_cases hc : c
  · rw [if_neg (by simp [hb.2 hc])]; exact ⟨fun w => (h hc).1 w.2, fun w => (h hc).2 (fun q => w ⟨hc, q⟩)⟩
  · rw [if_pos (by cases b with | true => exact absurd (hb.1 rfl) hc | false => rfl)]; exact ⟨fun w => absurd w.1 hc, fun _ => rfl⟩
theorem st_bindn {i : Nat} {p q : Prop} {o : Option Bool} {K : Option (Int ⊕ (Unit ⊕ Bool))} (ho : o = tell p) (h : p → Steps K i q) : Steps (o.bind fun y => if (!y) = true then some (.inr (.inr false)) else K) i (p ∧ q) := by
  subst ho
  by_cases hc : p
  · rw [tell_t hc]; exact ⟨fun w => (h hc).1 w.2, fun w => (h hc).2 (fun q => w ⟨hc, q⟩)⟩
  · rw [tell_f hc]; exact ⟨fun w => absurd w.1 hc, fun _ => rfl⟩
theorem st_elt {α : Type} {i : Nat} {p : Prop} {a : Sl α} {x : α} {k : α → Option (Int ⊕ (Unit ⊕ Bool))} (hx : elt a (i : Int) = some x) (h : Steps (k x) i p) : Steps ((elt a (i : Int)).bind k) i p := by
  rw [hx]; exact h
/-- A loop that compares two slices, and what comes behind. -/
theorem says_loop {α : Type} {R : α → α → Prop} {a b : Sl α} {q : Prop} {K : Option Bool} {bd : Int → Option (Int ⊕ (Unit ⊕ Bool))} (hl : (a.l.length : Int) = (b.l.length : Int)) (hn : a.l.length ≤ maxLen)
    (h1 : ∀ (i : Nat) x y, x ∈ a.l → y ∈ b.l → elt a (i : Int) = some x → elt b (i : Int) = some y → ∃ p, (p ↔ R x y) ∧ Steps (bd i) i p) (hK : K = tell q) :
    ((loopO (S := Int) (R := Unit ⊕ Bool) (fun st1 => if decide (st1 < (a.l.length : Int)) = true then bd st1 else some (.inr (.inl ()))) 0).bind fun y => Sum.elim (fun _ => K) (fun y => some y) y) = tell (A2 R a.l b.l ∧ q) := by
  have hm : maxLen = 9223372036854775807 := by decide
  rw [hm] at hn
  have := loop_eq (R := R) (a := a) (b := b) (body := fun st1 => if decide (st1 < (a.l.length : Int)) = true then bd st1 else some (.inr (.inl ()))) (by omega) (fun i x y hx hy => by
    have hi := (List.getElem?_eq_some_iff.1 hx).1
    obtain ⟨p, hp, hs⟩ := h1 i x y (List.mem_of_getElem? hx) (List.mem_of_getElem? hy) (elt_nat hx) (elt_nat hy)
    have hs : (p → bd i = some (.inl (IntKind.i64.wrap ((i : Int) + 1)))) ∧ (¬ p → bd i = some (.inr (.inr false))) := hs
    rw [wrap_id (by omega) (by omega), propext hp] at hs
    show (R x y → (if decide ((i : Int) < (a.l.length : Int)) = true then bd i else some (.inr (.inl ()))) = _) ∧ (¬ R x y → (if decide ((i : Int) < (a.l.length : Int)) = true then bd i else some (.inr (.inl ()))) = _)
    rw [if_pos (by simpa using hi)]
    exact hs) (by simp)
  by_cases hA : A2 R a.l b.l
  · rw [this.1 hA]; show K = _; rw [hK]; congr 1; simp [hA]
  · rw [this.2 hA, tell_f (fun w => hA w.1)]; rfl
theorem says_len {α : Type} {R : α → α → Prop} {a b : Sl α} {o : Option Bool} (h : o = tell ((a.l.length : Int) = (b.l.length : Int) ∧ A2 R a.l b.l ∧ True)) : o = tell (A2 R a.l b.l) :=
  says_iff h ⟨fun w => w.2.1, fun w => ⟨by rw [A2.len w], w, trivial⟩⟩
end Go.Am
end
section
set_option linter.unusedVariables false
set_option linter.unusedSimpArgs false
namespace Go.Am
section
variable {P : Program} {t : TypeId} {d : Nat} {ts : List T}
theorem shp_struct (kt : kindT P t = 7) (h : Shp P d t ts) : ∃ d', ShpF P (Shp P d') ((fieldsT P t).map (·.type)) ts := by
  cases d with
  | zero => exact h.elim
  | succ d =>
    rcases h with h | h | h | h | h
    · rw [kt] at h; exact absurd h.1 (by decide)
    · simp [isIntT, kt] at h
    · rw [kt] at h; exact absurd h.1 (by decide)
    · rw [kt] at h; exact absurd h.1 (by decide)
    · exact ⟨d, h.2⟩
theorem shp_str (kt : kindT P t = 3) (h : Shp P d t ts) : ∃ s : ByteArray, ts = [.str s] ∧ s.size ≤ maxLen := by
  cases d with
  | zero => exact h.elim
  | succ d =>
    rcases h with h | h | h | h | h
    · rw [kt] at h; exact absurd h.1 (by decide)
    · simp [isIntT, kt] at h
    · exact h.2
    · rw [kt] at h; exact absurd h.1 (by decide)
    · rw [kt] at h; exact absurd h.1 (by decide)
theorem shp_int {k : IntKind} (hu : P.underlying t = some (.int k)) (kt : kindT P t = 2) (h : Shp P d t ts) : ∃ n : Int, ts = [.int k n] := by
  cases d with
  | zero => exact h.elim
  | succ d =>
    rcases h with h | h | h | h | h
    · rw [kt] at h; exact absurd h.1 (by decide)
    · obtain ⟨_, k', n, h1, h2, _⟩ := h
      rw [hu] at h1
      injection h1 with h1; injection h1 with h1; subst h1
      exact ⟨n, h2⟩
    · rw [kt] at h; exact absurd h.1 (by decide)
    · rw [kt] at h; exact absurd h.1 (by decide)
    · rw [kt] at h; exact absurd h.1 (by decide)
theorem decAll {α : Type} [Enc α] {B : α → Prop} : ∀ (els : List (List T)), (∀ el ∈ els, ∃ x : α, el = Enc.cells x ∧ B x) → ∃ l : List α, els.flatten = cellsL l ∧ l.length = els.length ∧ ∀ x ∈ l, B x
  | [], _ => ⟨[], rfl, rfl, fun _ h => absurd h (by simp)⟩
  | el :: els, h => by
    obtain ⟨x, rfl, hx⟩ := h el (by simp)
    obtain ⟨l, h1, h2, h3⟩ := decAll els (fun e he => h e (by simp [he]))
    refine ⟨x :: l, by simp [cellsL, h1], by simp [h2], fun y hy => ?_⟩
    rcases List.mem_cons.1 hy with rfl | hy
    · exact hx
    · exact h3 y hy
theorem shp_sl {α : Type} [Enc α] {B : α → Prop} {e : TypeId} (kt : kindT P t = 4) (he : elemOfSl P t = some e) (hd : ∀ d ts, Shp P d e ts → ∃ x : α, ts = Enc.cells x ∧ B x) (h : Shp P d t ts) : ∃ x : Sl α, ts = [Sl.t x] ∧ FitS maxLen B x := by
  cases d with
  | zero => exact h.elim
  | succ d =>
    rcases h with h | h | h | h | h
    · rw [kt] at h; exact absurd h.1 (by decide)
    · simp [isIntT, kt] at h
    · rw [kt] at h; exact absurd h.1 (by decide)
    · obtain ⟨_, e', h1, h2⟩ := h
      rw [he] at h1
      injection h1 with h1; subst h1
      rcases h2 with rfl | ⟨els, rfl, h2, h3⟩
      · exact ⟨⟨true, []⟩, rfl, ⟨by simp, by simp⟩⟩
      · obtain ⟨l, q1, q2, q3⟩ := decAll (B := B) els (fun el hel => hd d el (h3 el hel).2)
        exact ⟨⟨false, l⟩, by simp [Sl.t, q1, q2], ⟨by show l.length ≤ maxLen; omega, q3⟩⟩
    · rw [kt] at h; exact absurd h.1 (by decide)
end
end Go.Am
end
