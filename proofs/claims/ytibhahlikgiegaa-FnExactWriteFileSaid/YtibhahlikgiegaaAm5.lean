/- The abstract machine. -/
import Derived.Test.YtibhahlikgiegaaAm4
import Derived.Test.YtibhahlikgiegaaAm3
section
set_option linter.unusedVariables false
set_option linter.unusedSimpArgs false
namespace Go.Am
open Classical

/-- A box that may be read. -/
def Lent (σ : St) (b : Nat) (cells : List T) : Prop := b < σ.next ∧ ∃ B, σ.blk b = some B ∧ B.cells = cells ∧ B.ep = 0 ∧ B.low = 0
def LentL (σ : St) : List Nat → List (List T) → Prop
  | [], [] => True
  | b :: bs, c :: cs => Lent σ b c ∧ LentL σ bs cs
  | _, _ => False

theorem Lent.grow {σ σ' : St} {b : Nat} {cells : List T} (h : Lent σ b cells) (g : Grow σ σ') : Lent σ' b cells := by
  obtain ⟨h1, B, h2, h3⟩ := h
  exact ⟨Nat.lt_of_lt_of_le h1 g.nx, B, by rw [g.old b h1, h2], h3⟩
theorem Heap.lent {σ0 σ : St} {b : Nat} {cells : List T} {es : List Ent} (h : Heap σ0 σ (.box b cells :: es)) : Lent σ b cells := by
  obtain ⟨S, ⟨rfl, B, h1, h2, h3, h4, _⟩, _, h5⟩ := h.head
  exact ⟨(h5 b (by simp)).2, B, h1, h2, h3, h4⟩
theorem lent1 {σ : St} {bs : List Nat} {c0 : List T} (h : LentL σ bs [c0]) : ∃ b0, bs = [b0] ∧ Lent σ b0 c0 := by
  match bs, h with
  | [b0], h => exact ⟨b0, rfl, h.1⟩
theorem lent2 {σ : St} {bs : List Nat} {c0 c1 : List T} (h : LentL σ bs [c0, c1]) : ∃ b0 b1, bs = [b0, b1] ∧ Lent σ b0 c0 ∧ Lent σ b1 c1 := by
  match bs, h with
  | [b0, b1], h => exact ⟨b0, b1, rfl, h.1, h.2.1⟩
theorem lent_ex : ∀ (cs : List (List T)), ∃ σ bs, LentL σ bs cs := by
  intro cs
  have key : ∀ (cs : List (List T)) (k : Nat) (σ : St), (∀ i c, cs[i]? = some c → Lent σ (k + i) c) → LentL σ (List.range' k cs.length) cs := by
    intro cs
    induction cs with
    | nil => intro k σ _; trivial
    | cons c cs ih =>
      intro k σ h
      exact ⟨h 0 c (by simp), ih (k + 1) σ fun i c hi => by have := h (i + 1) c (by simpa using hi); rwa [show k + (i + 1) = k + 1 + i by omega] at this⟩
  refine ⟨⟨cs.length, fun i => (cs[i]?).map fun c => mkBlk c 1⟩, _, key cs 0 _ fun i c hi => ?_⟩
  exact ⟨by have := (List.getElem?_eq_some_iff.1 hi).1; simpa using this, mkBlk c 1, by simp [hi], rfl, rfl, rfl⟩

section
variable {P : Program} {md : Nat → Md} {X : Ext} {β : Type} {eb : β → T} {f : Nat} {r : β}
variable {O : Oracle} {ops : Array Oper} {m : Mo} {l : List Oper} {K : Fr → Prop} {s : Nat → T} {σ σ0 : St} {L : List (Nat × T)} {es ents : List Ent}
variable {d : Option Nat} {ty : TypeId} {ps : String} {af : Array Edge} {g : Option (Nat × Bool)}

theorem q_loadL {a : Operand} {t : TypeId} {b e off n : Nat} {cells : List T} {v : T} (hlt : m.lt b) (hw : want ops L g = some true) (hS : Sub L s) (hH : Heap σ0 σ es) (hL : Lent σ0 b cells) (ha : gE (get L) a = some (.ptr b e off n)) (hv : part P t ((cells.drop off).take n) 0 = some v)
    (k : ∀ s', Sub (putL L d v) s' → opsX P O ops (nxM m) l K ⟨s', σ⟩) : opsX P O ops m (⟨d, .load t a, ty, ps, af, g⟩ :: l) K ⟨s, σ⟩ := by
  obtain ⟨_, B, h1, rfl, h3, h4⟩ := hL.grow hH.grow
  exact q_val hw hS (fun kk σ' ha' => by rw [a_load, gE_sound hS ha, Option.bind_some, loadA_ptr, Mo.al_blk ha' hlt, h1, Option.bind_some, if_pos (by omega), hv]; rfl) k

def ViewL (P : Program) (md : Nat → Md) (X : Ext) (eb : β → T) (f : Nat) (mk : List Nat → List T) (cs : List (List T)) (r : β) : Prop := ∀ σ bs, LentL σ bs cs → run P md X f (mk bs) σ = some (eb r, σ)
noncomputable def semL (P : Program) (md : Nat → Md) (X : Ext) (eb : β → T) (f : Nat) (mk : List Nat → List T) (cs : List (List T)) : Option β :=
  if h : ∃ r, ViewL P md X eb f mk cs r then some (Classical.choose h) else none
theorem semL_spec {mk : List Nat → List T} {cs : List (List T)} (h : semL P md X eb f mk cs = some r) : ViewL P md X eb f mk cs r := by
  unfold semL at h
  split at h
  · rename_i hx; injection h with h; subst h; exact Classical.choose_spec hx
  · cases h
theorem semL_intro {mk : List Nat → List T} {cs : List (List T)} (hi : ∀ a b, eb a = eb b → a = b) (h : ViewL P md X eb f mk cs r) : semL P md X eb f mk cs = some r := by
  have hx : ∃ r, ViewL P md X eb f mk cs r := ⟨r, h⟩
  unfold semL
  rw [dif_pos hx]
  obtain ⟨σ, bs, hl⟩ := lent_ex cs
  have h1 := Classical.choose_spec hx σ bs hl
  rw [h σ bs hl] at h1
  injection h1 with h1; injection h1 with h1
  rw [← hi _ _ h1]
theorem semL_of {c : Code} {n : Nat} {rs : List ResultVar} {mk : List Nat → List T} {cs : List (List T)} (hi : ∀ a b, eb a = eb b → a = b) (hv : md f = .view) (hX : X f = none) (hok : Ok P f c n rs) (hlen : ∀ bs, bs.length = cs.length → Nat.ble (mk bs).length n = true) (hf : ∀ bs, bs.length = cs.length → (mk bs).all flat3 = true)
    (h : ∀ σ bs s, LentL σ bs cs → Sub (nums 0 (mk bs)) s → Heap σ σ [] → codeQ P (run P md X) c (endW P rs σ (eb r)) ⟨s, σ⟩) : semL P md X eb f mk cs = some r :=
  semL_intro hi fun σ bs hl => by
    have hlb : bs.length = cs.length := by
      clear h hf hlen
      induction bs generalizing cs with
      | nil => cases cs with
        | nil => rfl
        | cons c cs => exact hl.elim
      | cons b bs ih => cases cs with
        | nil => exact hl.elim
        | cons c cs => simp [ih hl.2]
    exact view_ofW hv hX hok (Nat.le_of_ble_eq_true (hlen bs hlb)) (frzL_flat (hf bs hlb)) (h σ bs _ hl (sub_enter _) (Heap.nil σ))
theorem q_callL {fo : Operand} {as : Array Operand} {ts : Array TypeId} {xs : List T} {mk : List Nat → List T} {cs : List (List T)} (bs : List Nat) (hw : want ops L g = some true) (hS : Sub L s) (hf : gE (get L) fo = some (.fn f [] [])) (ha : gEs (get L) as.toList = some xs)
    (hmk : mk bs = xs) (hl : LentL σ bs cs) (hr : semL P md X eb f mk cs = some r) (k : ∀ s', Sub (putL L d (eb r)) s' → opsX P (run P md X) ops (nxM m) l K ⟨s', σ⟩) : opsX P (run P md X) ops m (⟨d, .call ⟨.value fo, as, ts⟩, ty, ps, af, g⟩ :: l) K ⟨s, σ⟩ :=
  q_callV hw hS hf ha (by simp only [List.nil_append, List.append_nil]; rw [← hmk]; exact semL_spec hr σ bs hl) k

def OwnLR (P : Program) (md : Nat → Md) (X : Ext) (Sh : Shape β) (f : Nat) (mk : List Nat → List T) (cs : List (List T)) (r : β) : Prop :=
  ∀ σ bs, LentL σ bs cs → ∃ hs σ', hs.length = Sh.n ∧ run P md X f (mk bs) σ = some (Sh.tree hs r, σ') ∧ Heap σ σ' (Sh.en hs r) ∧ ∀ b, b < σ.next → σ'.blk b = σ.blk b
noncomputable def semLO (P : Program) (md : Nat → Md) (X : Ext) (Sh : Shape β) (f : Nat) (mk : List Nat → List T) (cs : List (List T)) : Option β :=
  if h : ∃ r, OwnLR P md X Sh f mk cs r then some (Classical.choose h) else none
theorem semLO_spec {Sh : Shape β} {mk : List Nat → List T} {cs : List (List T)} (h : semLO P md X Sh f mk cs = some r) : OwnLR P md X Sh f mk cs r := by
  unfold semLO at h
  split at h
  · rename_i hx; injection h with h; subst h; exact Classical.choose_spec hx
  · cases h
theorem OwnLR.uniq {Sh : Shape β} {mk : List Nat → List T} {cs : List (List T)} {r r' : β} (h : OwnLR P md X Sh f mk cs r) (h' : OwnLR P md X Sh f mk cs r') : r = r' := by
  obtain ⟨σ, bs, hl⟩ := lent_ex cs
  obtain ⟨hs, σ', h1, h2, h3, _⟩ := h σ bs hl
  obtain ⟨hs', σ2, h4, h5, h6, _⟩ := h' σ bs hl
  rw [h2] at h5; injection h5 with h5; injection h5 with h5 h7
  subst h7
  obtain ⟨D, S, k1, _⟩ := (Sh.ok hs r h1).frz (es := []) (by simpa using h3)
  obtain ⟨D', S', k2, _⟩ := (Sh.ok hs' r' h4).frz (es := []) (by simpa using h6)
  rw [← h5] at k2
  have := frzL_uniq k1 k2
  injection this with e _
  injection e with e _
  exact Sh.inj _ _ e
theorem semLO_intro {Sh : Shape β} {mk : List Nat → List T} {cs : List (List T)} (h : OwnLR P md X Sh f mk cs r) : semLO P md X Sh f mk cs = some r := by
  have hx : ∃ r, OwnLR P md X Sh f mk cs r := ⟨r, h⟩
  unfold semLO
  rw [dif_pos hx, OwnLR.uniq (Classical.choose_spec hx) h]
theorem semLO_of {Sh : Shape β} {c : Code} {n : Nat} {rs : List ResultVar} {mk : List Nat → List T} {cs : List (List T)} (hv : md f = .own) (hX : X f = none) (hok : Ok P f c n rs) (hlen : ∀ bs, bs.length = cs.length → Nat.ble (mk bs).length n = true) (hf : ∀ bs, bs.length = cs.length → (mk bs).all flat3 = true)
    (h : ∀ σ bs s, LentL σ bs cs → Sub (nums 0 (mk bs)) s → Heap σ σ [] → codeQ P (run P md X) c (endOw P rs σ Sh r) ⟨s, σ⟩) : semLO P md X Sh f mk cs = some r := by
  refine semLO_intro fun σ bs hl => ?_
  have hlb : bs.length = cs.length := by
    clear h hf hlen
    induction bs generalizing cs with
    | nil => cases cs with
      | nil => rfl
      | cons c cs => exact hl.elim
    | cons b bs ih => cases cs with
      | nil => exact hl.elim
      | cons c cs => simp [ih hl.2]
  obtain ⟨fn, h1, h2, h3, h4, h5, h6⟩ := hok
  obtain ⟨x, fr, k1, k2⟩ := codeQ_sound (h σ bs _ hl (sub_enter _) (Heap.nil σ))
  have hx : (x = .normal ∨ x = .ret) ∧ ∃ l hs es, resL P fr rs = some l ∧ tupOf l = Sh.tree hs r ∧ hs.length = Sh.n ∧ Heap σ fr.σ (Sh.en hs r ++ es) := by
    cases x with
    | normal => exact ⟨.inl rfl, k2⟩
    | ret => exact ⟨.inr rfl, k2⟩
    | exit i => exact k2.elim
  obtain ⟨hx, l, hs, es, m1, m2, m3, m4⟩ := hx
  obtain ⟨F, q1, q2, q3⟩ := m4.ex
  obtain ⟨F1, F2, rfl, q4, q5⟩ := q1.split
  obtain ⟨k, hk⟩ := (Sh.ok hs r m3).sound q4
  have hown : own fr.σ k (tupOf l) = some (Sh.eb r, F1) := by
    rw [m2]
    simp only [frzL] at hk
    obtain ⟨p, h7, h8⟩ := Option.bind_eq_some_iff.1 hk
    simp at h8
    obtain ⟨h8, h9⟩ := h8
    exact hold_own _ _ _ _ (by rw [h7, ← h8, ← h9])
  have hrun := run_own (P := P) (vm := md) (X := X) (σ := σ) hv hX h1 h2 h3 h4 (by rw [h5]; exact Nat.le_of_ble_eq_true (hlen bs hlb)) (frzL_flat (hf bs hlb)) (by rw [mark_nil]; exact k1) hx (by rw [resA, h6, m1]; rfl) hown (fun b hb => (q3 b (by simp [hb])).1) (fun i hi => by rw [mark_nil]; exact m4.grow.old i hi)
  refine ⟨hs, σ.keep fr.σ F1, m3, by rw [hrun, m2], ⟨Grow.keep m4.grow.nx F1, F1, q4.same fun b hb => ?_, (List.nodup_append.1 q2).1, fun b hb => ?_⟩, fun b hb => ?_⟩
  · have := (q3 b (by simp [hb])).1
    simp only [St.keep]; rw [if_neg (by omega), if_pos hb]
  · exact q3 b (by simp [hb])
  · simp only [St.keep]; rw [if_pos hb]
theorem q_callLO (hm : m.chg = true) {Sh : Shape β} {fo : Operand} {as : Array Operand} {tys : Array TypeId} {xs : List T} {mk : List Nat → List T} {cs : List (List T)} (bs : List Nat) (hw : want ops L g = some true) (hS : Sub L s) (hf : gE (get L) fo = some (.fn f [] [])) (ha : gEs (get L) as.toList = some xs)
    (hmk : mk bs = xs) (hH : Heap σ0 σ es) (hl : LentL σ bs cs) (hr : semLO P md X Sh f mk cs = some r)
    (k : ∀ hs σ' s', hs.length = Sh.n → Heap σ0 σ' (Sh.en hs r ++ es) → Sub (putL L d (Sh.tree hs r)) s' → opsX P (run P md X) ops (nxM m) l K ⟨s', σ'⟩) : opsX P (run P md X) ops m (⟨d, .call ⟨.value fo, as, tys⟩, ty, ps, af, g⟩ :: l) K ⟨s, σ⟩ := by
  obtain ⟨hs, σ1, m1, m2, m3, m4⟩ := semLO_spec hr σ bs hl
  have hH' : Heap σ0 σ1 (Sh.en hs r ++ es) := by
    refine Heap.step (es1 := []) (es2 := Sh.en hs r) (es := es) hH m3.grow.nx fun S' hS' _ _ => ?_
    obtain ⟨F, q1, q2, q3⟩ := m3.ex
    exact ⟨F, q1, q2, fun b hb => .inr (q3 b hb), fun b hb _ => m4 b hb⟩
  refine x_callC (f := f) (args := [] ++ xs ++ []) (r := Sh.tree hs r) hm rfl (want_sound hS hw) (fun kk σ' => by rw [a_call, gEs_sound hS ha, Option.bind_some, gE_sound hS hf]; rfl) (by simp only [List.nil_append, List.append_nil]; rw [← hmk]; exact m2) m3.grow.nx m4 ?_
  rw [put_eq]
  exact k _ _ _ m1 hH' (sub_putL hS d _ σ)
end

/-! ### structs that are compared -/
def eqB : List T → List T → Bool
  | .int _ a :: xs, .int _ b :: ys => decide (a = b) && eqB xs ys
  | .bool a :: xs, .bool b :: ys => (a == b) && eqB xs ys
  | .str a :: xs, .str b :: ys => decide (a = b) && eqB xs ys
  | _, _ => true
def leafOk (P : Program) (t : TypeId) : T → T → Bool
  | .int k _, .int k' _ => isIntT P t && decide (k = k')
  | .bool _, .bool _ => Nat.beq (kindT P t) 1
  | .str _, .str _ => Nat.beq (kindT P t) 3
  | _, _ => false
/-- Fields, one behind the other, of kinds that are compared at once, or structs of such (n: a bound on the steps; d: how deep). -/
def eqOk (P : Program) : Nat → Nat → Nat → List Field → List T → List T → Bool
  | _, _, _, [], [], [] => true
  | n + 1, d, i, f :: fs, xs, ys => (f.name != "_") && Nat.beq f.offset i && (match aggOf P f.type with
    | some false => match xs, ys with
      | x :: xs', y :: ys' => leafOk P f.type x y && eqOk P n d (i + 1) fs xs' ys'
      | _, _ => false
    | some true => match szOf P f.type, d with
      | some m, d' + 1 => Nat.beq (kindT P f.type) 7 && (!P.stoodInHeld f.type) && Nat.ble m xs.length && Nat.ble m ys.length && eqOk P n d' 0 (fieldsT P f.type) (xs.take m) (ys.take m) && eqOk P n (d' + 1) (i + m) fs (xs.drop m) (ys.drop m)
      | _, _ => false
    | none => false)
  | _, _, _, _, _, _ => false

theorem leaf_eqT {P : Program} {t : TypeId} {x y : T} {n : Nat} (h : leafOk P t x y = true) : eqT P (n + 1) t x y = some (eqB [x] [y]) := by
  unfold leafOk at h
  split at h
  · simp only [Bool.and_eq_true, decide_eq_true_eq] at h
    simp only [eqT, eqB]; rw [if_pos h]; simp
  · simp only [eqT, eqB]; rw [if_pos (Nat.eq_of_beq_eq_true h)]; simp
  · simp only [eqT, eqB]; rw [if_pos (Nat.eq_of_beq_eq_true h)]; simp
  · cases h
theorem leaf_eqB {P : Program} {t : TypeId} {x y : T} {xs ys : List T} (h : leafOk P t x y = true) : eqB (x :: xs) (y :: ys) = (eqB [x] [y] && eqB xs ys) := by
  unfold leafOk at h
  split at h <;> first | (simp [eqB]; done) | cases h

theorem eqOk_len {P : Program} : ∀ (n d i : Nat) (fs : List Field) (xs ys : List T), eqOk P n d i fs xs ys = true → xs.length = ys.length
  | _, _, _, [], [], [], _ => rfl
  | n, d, i, [], [], _ :: _, h => by cases n <;> simp [eqOk] at h
  | n, d, i, [], _ :: _, _, h => by cases n <;> simp [eqOk] at h
  | n + 1, d, i, f :: fs, xs, ys, h => by
    simp only [eqOk, Bool.and_eq_true] at h
    obtain ⟨_, h⟩ := h
    split at h
    · split at h
      · simp only [Bool.and_eq_true] at h
        simp [eqOk_len n d (i + 1) fs _ _ h.2]
      · cases h
    · split at h
      · rename_i d1 m d' _
        simp only [Bool.and_eq_true] at h
        have h1 := Nat.le_of_ble_eq_true h.1.1.2
        have h2 := Nat.le_of_ble_eq_true h.1.1.1.2
        have h3 := eqOk_len n (d' + 1) (i + m) fs _ _ h.2
        simp only [List.length_drop] at h3; omega
      · cases h
    · cases h

theorem eqB_split {P : Program} : ∀ (n d i : Nat) (fs : List Field) (xs ys xs' ys' : List T), eqOk P n d i fs xs ys = true → eqB (xs ++ xs') (ys ++ ys') = (eqB xs ys && eqB xs' ys')
  | _, _, _, [], [], [], xs', ys', _ => by simp [eqB]
  | n, d, i, [], [], _ :: _, _, _, h => by cases n <;> simp [eqOk] at h
  | n, d, i, [], _ :: _, _, _, _, h => by cases n <;> simp [eqOk] at h
  | n + 1, d, i, f :: fs, xs, ys, xs', ys', h => by
    simp only [eqOk, Bool.and_eq_true] at h
    obtain ⟨_, h⟩ := h
    split at h
    · split at h
      · simp only [Bool.and_eq_true] at h
        rename_i x xs y ys
        rw [List.cons_append, List.cons_append, leaf_eqB (xs := xs ++ xs') (ys := ys ++ ys') h.1, eqB_split n d (i + 1) fs _ _ xs' ys' h.2, leaf_eqB (xs := xs) (ys := ys) h.1, Bool.and_assoc]
      · cases h
    · split at h
      · rename_i d1 m d' _
        simp only [Bool.and_eq_true] at h
        have e1 := eqB_split n d' 0 (fieldsT P f.type) (xs.take m) (ys.take m) (xs.drop m) (ys.drop m) h.1.2
        have e2 := eqB_split n d' 0 (fieldsT P f.type) (xs.take m) (ys.take m) (xs.drop m ++ xs') (ys.drop m ++ ys') h.1.2
        have e3 := eqB_split n (d' + 1) (i + m) fs (xs.drop m) (ys.drop m) xs' ys' h.2
        rw [List.take_append_drop, List.take_append_drop] at e1
        rw [← List.append_assoc, ← List.append_assoc, List.take_append_drop, List.take_append_drop] at e2
        rw [e2, e3, e1, Bool.and_assoc]
      · cases h
    · cases h

theorem eqFs_ok {P : Program} : ∀ (n d i k : Nat) (fs : List Field) (xs ys px py : List T), d ≤ k → px.length = i → py.length = i → eqOk P n d i fs xs ys = true → eqFs P (eqT P (k + 1)) (px ++ xs) (py ++ ys) fs = some (eqB xs ys)
  | _, _, _, _, [], [], [], px, py, _, _, _, _ => rfl
  | n, d, i, _, [], [], _ :: _, _, _, _, _, _, h => by cases n <;> simp [eqOk] at h
  | n, d, i, _, [], _ :: _, _, _, _, _, _, _, h => by cases n <;> simp [eqOk] at h
  | n + 1, d, i, k, f :: fs, xs, ys, px, py, hk, hx, hy, h => by
    simp only [eqOk, Bool.and_eq_true, bne_iff_ne, ne_eq] at h
    obtain ⟨⟨h1, h2⟩, h⟩ := h
    have h2 := Nat.eq_of_beq_eq_true h2
    simp only [eqFs, if_pos h1, part_eq, h2]
    split at h
    · rename_i ha
      split at h
      · rename_i x xs y ys
        simp only [Bool.and_eq_true] at h
        have ih := eqFs_ok n d (i + 1) k fs xs ys (px ++ [x]) (py ++ [y]) hk (by simp [hx]) (by simp [hy]) h.2
        simp only [List.append_assoc, List.singleton_append] at ih
        simp only [ha, Option.bind_some, partA_false]
        have ex : (px ++ x :: xs)[i]? = some x := by rw [← hx, List.getElem?_append_right (Nat.le_refl _), Nat.sub_self]; rfl
        have ey : (py ++ y :: ys)[i]? = some y := by rw [← hy, List.getElem?_append_right (Nat.le_refl _), Nat.sub_self]; rfl
        rw [ex, ey, Option.bind_some, Option.bind_some, leaf_eqT h.1, Option.bind_some, leaf_eqB (xs := xs) (ys := ys) h.1]
        cases hb : eqB [x] [y] with
        | true => simp only [if_true, Bool.true_and]; exact ih
        | false => simp
      · cases h
    · rename_i ha
      split at h
      · rename_i d1 m d' hm
        simp only [Bool.and_eq_true, Bool.not_eq_true'] at h
        obtain ⟨⟨⟨⟨⟨c1, c2⟩, c3⟩, c4⟩, c5⟩, c6⟩ := h
        have c3 := Nat.le_of_ble_eq_true c3; have c4 := Nat.le_of_ble_eq_true c4
        obtain ⟨k, rfl⟩ : ∃ k', k = k' + 1 := ⟨k - 1, by omega⟩
        have ih1 := eqFs_ok n d' 0 k (fieldsT P f.type) (xs.take m) (ys.take m) [] [] (by omega) rfl rfl c5
        have ih2 := eqFs_ok n (d' + 1) (i + m) (k + 1) fs (xs.drop m) (ys.drop m) (px ++ xs.take m) (py ++ ys.take m) hk (by simp [hx]; omega) (by simp [hy]; omega) c6
        rw [List.append_assoc, List.append_assoc, List.take_append_drop, List.take_append_drop] at ih2
        have e1 := eqB_split n d' 0 (fieldsT P f.type) (xs.take m) (ys.take m) (xs.drop m) (ys.drop m) c5
        rw [List.take_append_drop, List.take_append_drop] at e1
        simp only [ha, Option.bind_some, partA_true, hm]
        rw [if_pos (by simp [hx]; omega), if_pos (by simp [hy]; omega), Option.bind_some, Option.bind_some]
        have ex : (px ++ xs).drop i = xs := by rw [← hx, List.drop_left]
        have ey : (py ++ ys).drop i = ys := by rw [← hy, List.drop_left]
        have et : eqT P (k + 1 + 1) f.type (.agg (xs.take m)) (.agg (ys.take m)) = some (eqB (xs.take m) (ys.take m)) := by
          rw [eqT, if_pos ⟨Nat.eq_of_beq_eq_true c1, c2⟩]; exact ih1
        rw [ex, ey, et, Option.bind_some, e1]
        cases hb : eqB (xs.take m) (ys.take m) with
        | true => simp only [if_true, Bool.true_and]; exact ih2
        | false => simp
      · cases h
    · cases h

def eqAll (P : Program) (t : TypeId) (xs ys : List T) : Bool := Nat.beq (kindT P t) 7 && (!P.stoodInHeld t) && (!P.eqGuardType P.depth t) && eqOk P 100 6 0 (fieldsT P t) xs ys
theorem eqA_flat {P : Program} {t : TypeId} {xs ys : List T} (h : eqAll P t xs ys = true) : eqA P t (.agg xs) (.agg ys) = some (eqB xs ys) := by
  simp only [eqAll, Bool.and_eq_true, Bool.not_eq_true'] at h
  obtain ⟨⟨⟨h1, h2⟩, h3⟩, h4⟩ := h
  simp only [eqA, h3, if_true]
  rw [eqT, if_pos ⟨Nat.eq_of_beq_eq_true h1, h2⟩]
  exact eqFs_ok 100 6 0 6 (fieldsT P t) xs ys [] [] (Nat.le_refl _) rfl rfl h4

section
variable {P : Program} {O : Oracle} {ops : Array Oper} {m : Mo} {l : List Oper} {K : Fr → Prop} {s : Nat → T} {σ : St} {L : List (Nat × T)}
variable {d : Option Nat} {ty : TypeId} {ps : String} {af : Array Edge} {g : Option (Nat × Bool)}
theorem q_eqS {x y : Operand} {t u : TypeId} {xs ys : List T} {v : Bool} (hw : want ops L g = some true) (hS : Sub L s) (hx : gE (get L) x = some (.agg xs)) (hy : gE (get L) y = some (.agg ys)) (h : eqAll P t xs ys = true) (hv : eqB xs ys = v)
    (k : ∀ s', Sub (putL L d (.bool v)) s' → opsX P O ops (nxM m) l K ⟨s', σ⟩) : opsX P O ops m (⟨d, .binOp .eql t x y u, ty, ps, af, g⟩ :: l) K ⟨s, σ⟩ :=
  q_val hw hS (fun kk σ' _ => by rw [a_binOp, gE_sound hS hx, Option.bind_some, gE_sound hS hy, Option.bind_some]; simp only [binA, eqA_flat h, hv]; rfl) k
theorem q_neS {x y : Operand} {t u : TypeId} {xs ys : List T} {v : Bool} (hw : want ops L g = some true) (hS : Sub L s) (hx : gE (get L) x = some (.agg xs)) (hy : gE (get L) y = some (.agg ys)) (h : eqAll P t xs ys = true) (hv : eqB xs ys = v)
    (k : ∀ s', Sub (putL L d (.bool (!v))) s' → opsX P O ops (nxM m) l K ⟨s', σ⟩) : opsX P O ops m (⟨d, .binOp .neq t x y u, ty, ps, af, g⟩ :: l) K ⟨s, σ⟩ :=
  q_val hw hS (fun kk σ' _ => by rw [a_binOp, gE_sound hS hx, Option.bind_some, gE_sound hS hy, Option.bind_some]; simp only [binA, eqA_flat h, hv]; rfl) k
end

/-! ### a region in an open order, where what changes the state is in order; new boxes may come early -/
def chgsOf (ops : Array Oper) : List Nat := (List.range ops.size).filter fun i => match ops[i]? with
  | some o => isChg o.op
  | none => false
def isFlt (o : Oper) : Bool := (match o.op with
  | .alloc _ => true
  | .box _ _ => true
  | .buildSlice _ _ _ => true
  | .makeSlice _ _ _ => true
  | _ => false) && o.guard.isNone
def fltAt (ops : Array Oper) (i : Nat) : Bool := match ops[i]? with
  | some o => isFlt o
  | none => false
/-- Is an operation ordered with whatever changes the state? -/
def cmpB (ops : Array Oper) (i : Nat) : Bool := (chgsOf ops).all fun k => bif Nat.blt k i then bitOf ((ancM ops).getD i 0) k else (Nat.beq k i || fltAt ops k || bitOf ((ancM ops).getD k 0) i)
def chainB (ops : Array Oper) : Bool := (chgsOf ops).all fun i => (chgsOf ops).all fun j => !Nat.blt i j || fltAt ops j || bitOf ((ancM ops).getD j 0) i
/-- Behind the last of the chain that is done. -/
def lastC (ch : List Nat) (c : Nat → Bool) : Nat := ch.foldr (fun k a => if c k then max (k + 1) a else a) 0
theorem lastC_le {ch : List Nat} {c : Nat → Bool} {n : Nat} : lastC ch c ≤ n ↔ ∀ k ∈ ch, c k = true → k + 1 ≤ n := by
  induction ch with
  | nil => simp [lastC]
  | cons a ch ih =>
    have e : lastC (a :: ch) c = if c a then max (a + 1) (lastC ch c) else lastC ch c := rfl
    rw [e]
    by_cases h : c a = true
    · rw [if_pos h]
      constructor
      · intro hle k hk hc
        rcases List.mem_cons.1 hk with rfl | hk
        · omega
        · exact ih.1 (by omega) k hk hc
      · intro hall
        have := hall a (by simp) h
        have := ih.2 fun k hk hc => hall k (by simp [hk]) hc
        omega
    · rw [if_neg h]
      exact ⟨fun hle k hk hc => by rcases List.mem_cons.1 hk with rfl | hk; exact absurd hc h; exact ih.1 hle k hk hc, fun hall => ih.2 fun k hk hc => hall k (by simp [hk]) hc⟩
theorem lastC_congr {ch : List Nat} {c c' : Nat → Bool} (h : ∀ k ∈ ch, c k = c' k) : lastC ch c = lastC ch c' := by
  apply Nat.le_antisymm
  · exact lastC_le.2 fun k hk hc => lastC_le.1 (Nat.le_refl _) k hk (by rw [← h k hk]; exact hc)
  · exact lastC_le.2 fun k hk hc => lastC_le.1 (Nat.le_refl _) k hk (by rw [h k hk]; exact hc)
theorem lastC_eq {ch : List Nat} {c : Nat → Bool} {i : Nat} (hi : i ∈ ch) (hc : c i = true) (h : ∀ k ∈ ch, c k = true → k ≤ i) : lastC ch c = i + 1 :=
  Nat.le_antisymm (lastC_le.2 fun k hk hck => by have := h k hk hck; omega) (lastC_le.1 (Nat.le_refl _) i hi hc)
theorem lastC_mem {ch : List Nat} {c : Nat → Bool} (h : lastC ch c ≠ 0) : ∃ k ∈ ch, c k = true ∧ lastC ch c = k + 1 := by
  induction ch with
  | nil => simp [lastC] at h
  | cons a ch ih =>
    have e : lastC (a :: ch) c = if c a then max (a + 1) (lastC ch c) else lastC ch c := rfl
    rw [e] at h ⊢
    by_cases hc : c a = true
    · rw [if_pos hc] at h ⊢
      by_cases hm : lastC ch c ≤ a + 1
      · exact ⟨a, by simp, hc, by omega⟩
      · obtain ⟨k, k1, k2, k3⟩ := ih (by omega)
        exact ⟨k, by simp [k1], k2, by omega⟩
    · rw [if_neg hc] at h ⊢
      obtain ⟨k, k1, k2, k3⟩ := ih h
      exact ⟨k, by simp [k1], k2, k3⟩

/-- A state with some new blocks more. -/
def St.over (σ : St) (p : Nat → Bool) (Bk : Nat → Blk) : St := ⟨σ.next, fun i => if p i = true then some (Bk i) else σ.blk i⟩
theorem over_none {σ : St} {p : Nat → Bool} {Bk : Nat → Blk} (h : ∀ i, p i = false) : σ.over p Bk = σ := St.ext' rfl fun i => by simp [St.over, h i]
theorem over_over {σ : St} {p q r : Nat → Bool} {Bk : Nat → Blk} (h : ∀ i, r i = (p i || q i)) : (σ.over p Bk).over q Bk = σ.over r Bk := St.ext' rfl fun i => by
  simp only [St.over, h i]
  cases hq : q i <;> cases hp : p i <;> simp
theorem over_set {σ : St} {p : Nat → Bool} {Bk : Nat → Blk} {x : Nat} : (σ.over p Bk).set x (Bk x) = σ.over (fun i => p i || decide (i = x)) Bk := St.ext' rfl fun i => by
  simp only [St.over, St.set]
  by_cases h : i = x
  · subst h; simp
  · simp [h]

section
variable {P : Program} {md : Nat → Md} {X : Ext} {O : Oracle} {ops : Array Oper} {K : Fr → Prop} {s : Nat → T} {b : Nat} {W : Nat → Prop} {σs : St} {cm : Nat → Bool}

theorem stepV_eq {i : Nat} {o : Oper} (ho : ops[i]? = some o) (s : Nat → T) (σ : St) : stepV P O ops b i s σ = stepO P O ops (b + i) o s σ := by
  unfold stepV stepO; rw [ho]; rfl

theorem step_fm (hX : ∀ f, X f = none) {k : Nat} {o : Oper} {s : Nat → T} {σ σ' : St} {v : T} {x : Nat} {B : Blk} (h : stepO P (run P md X) ops k o s σ = some (v, σ')) (hk : k ≠ x) (hx : σ.blk x = none) (hl : x < σ.next) :
    stepO P (run P md X) ops k o s (σ.set x B) = some (v, σ'.set x B) ∧ σ'.blk x = none ∧ x < σ'.next := by
  unfold stepO at h ⊢
  have hk' : some k ≠ some x := fun e => hk (by injection e)
  split at h
  · rename_i hw
    rw [if_pos hw]
    obtain ⟨r, h1, h2⟩ := Option.bind_eq_some_iff.1 h
    cases r with
    | val v' σ1 =>
      injection h2 with h2; injection h2 with e1 e2; subst e1; subst e2
      obtain ⟨a1, a2⟩ := aOp_val (fr := ⟨s, σ⟩) (B := B) hk' hx hl h1
      have a1 : aOp P (some k) ⟨s, σ.set x B⟩ o = _ := a1
      rw [a1]; exact ⟨rfl, a2⟩
    | skip σ1 =>
      injection h2 with h2; injection h2 with e1 e2; subst e1; subst e2
      obtain ⟨a1, a2⟩ := aOp_skip (fr := ⟨s, σ⟩) (B := B) hk' hx hl h1
      have a1 : aOp P (some k) ⟨s, σ.set x B⟩ o = _ := a1
      rw [a1]; exact ⟨rfl, a2⟩
    | call f args =>
      have a1 := aOp_call (fr := ⟨s, σ⟩) (B := B) hk' hx hl h1
      have a1 : aOp P (some k) ⟨s, σ.set x B⟩ o = _ := a1
      rw [a1]; exact run_fm hX h2 hx hl
  · rename_i hw
    rw [if_neg hw]
    injection h with h; injection h with e1 e2; subst e1; subst e2
    exact ⟨rfl, hx, hl⟩
theorem step_over (hX : ∀ f, X f = none) {k : Nat} {o : Oper} {s : Nat → T} {σ σ' : St} {v : T} {Bk : Nat → Blk} (h : stepO P (run P md X) ops k o s σ = some (v, σ')) : ∀ (l : List Nat), (∀ x ∈ l, k ≠ x ∧ σ.blk x = none ∧ x < σ.next) → l.Nodup →
    stepO P (run P md X) ops k o s (σ.over (fun i => l.contains i) Bk) = some (v, σ'.over (fun i => l.contains i) Bk) ∧ ∀ x, x ∉ l → σ.blk x = none → x < σ.next → k ≠ x → (σ'.over (fun i => l.contains i) Bk).blk x = none ∧ x < σ'.next
  | [], _, _ => by
    rw [over_none (fun i => by simp), over_none (fun i => by simp)]
    exact ⟨h, fun x _ h1 h2 h3 => by obtain ⟨_, a, b⟩ := step_fm (B := mkBlk [] 0) hX h h3 h1 h2; exact ⟨a, b⟩⟩
  | y :: l, hl, hn => by
    obtain ⟨n1, n2⟩ := List.nodup_cons.1 hn
    obtain ⟨y1, y2, y3⟩ := hl y (by simp)
    obtain ⟨k1, k2⟩ := step_over hX (Bk := Bk) h l (fun x hx => hl x (by simp [hx])) n2
    have e : ∀ σ : St, (σ.over (fun i => l.contains i) Bk).set y (Bk y) = σ.over (fun i => (y :: l).contains i) Bk := fun σ => by
      rw [over_set]; congr 1; funext i
      rw [Bool.eq_iff_iff]; simp [or_comm]
    have hfree : (σ.over (fun i => l.contains i) Bk).blk y = none := by simp [St.over, n1, y2]
    obtain ⟨a1, a2, a3⟩ := step_fm (B := Bk y) hX k1 y1 hfree y3
    rw [e, e] at a1
    refine ⟨a1, fun x hx h1 h2 h3 => ?_⟩
    obtain ⟨c1, c2⟩ := k2 x (fun h => hx (by simp [h])) h1 h2 h3
    rw [← e]
    have hxy : x ≠ y := fun e => hx (by simp [e])
    refine ⟨?_, c2⟩
    rw [set_blk, if_neg hxy]; exact c1
theorem flt_step {k : Nat} {o : Oper} {s : Nat → T} {σ σ' : St} {v : T} (hf : isFlt o = true) (h : stepO P O ops k o s σ = some (v, σ')) : ∃ C, σ' = σ.set k C ∧ ∀ σ2 : St, σ2.blk k = none → k < σ2.next → stepO P O ops k o s σ2 = some (v, σ2.set k C) := by
  obtain ⟨d, op, ty, ps, af, g⟩ := o
  simp only [isFlt, Bool.and_eq_true, Option.isNone_iff_eq_none] at hf
  obtain ⟨hf, rfl⟩ := hf
  have hw : wantedA ops (⟨d, op, ty, ps, af, none⟩ : Oper) s = true := rfl
  have hok : ∀ σ2 : St, σ2.blk k = none → k < σ2.next → σ2.okK (some k) = true := fun σ2 h1 h2 => by simp [St.okK, h1, h2]
  unfold stepO at h ⊢
  rw [if_pos hw] at h
  cases op with
  | alloc t =>
    have e : ∀ σ2 : St, aOp P (some k) ⟨s, σ2⟩ ⟨d, .alloc t, ty, ps, af, none⟩ = (zeroOf P t).bind fun z => if σ2.okK (some k) = true then some (ARes.val (T.ptr k 0 0 z.length) (σ2.set k (mkBlk z z.length))) else none := fun _ => rfl
    rw [e] at h
    cases hz : zeroOf P t with
    | none => rw [hz] at h; cases h
    | some z =>
      rw [hz, Option.bind_some] at h
      split at h
      · injection h with h; injection h with h1 h2
        subst h1; subst h2
        refine ⟨mkBlk z z.length, rfl, fun σ2 c1 c2 => ?_⟩
        rw [if_pos hw, e, hz, Option.bind_some, if_pos (hok σ2 c1 c2)]; rfl
      · cases h
  | box t x =>
    have e : ∀ σ2 : St, aOp P (some k) ⟨s, σ2⟩ ⟨d, .box t x, ty, ps, af, none⟩ = (evalO s x).bind fun x => if x.cells.all T.one = true ∧ σ2.okK (some k) = true then some (ARes.val (T.ptr k 0 0 x.cells.length) (σ2.set k (mkBlk x.cells x.cells.length))) else none := fun _ => rfl
    rw [e] at h
    cases hz : evalO s x with
    | none => rw [hz] at h; cases h
    | some z =>
      rw [hz, Option.bind_some] at h
      split at h
      · rename_i hc
        injection h with h; injection h with h1 h2
        subst h1; subst h2
        refine ⟨mkBlk z.cells z.cells.length, rfl, fun σ2 c1 c2 => ?_⟩
        rw [if_pos hw, e, hz, Option.bind_some, if_pos ⟨hc.1, hok σ2 c1 c2⟩]; rfl
      · cases h
  | buildSlice t len parts =>
    have e : ∀ σ2 : St, aOp P (some k) ⟨s, σ2⟩ ⟨d, .buildSlice t len parts, ty, ps, af, none⟩ = (elemOfSl P t).bind fun e => (szOf P e).bind fun sz => (zeroOf P e).bind fun z => (evalPs s parts.toList).bind fun ps =>
      if z.length = sz ∧ len * sz ≤ 2 ^ 24 ∧ sz ≠ 0 ∧ σ2.okK (some k) = true then (fillA (fun i => some (i * sz, sz)) ((List.replicate len z).flatten) ps).map fun cs => ARes.val (if len = 0 then .emp else .ref k 0 0 len) (σ2.set k (mkBlk cs sz)) else none := fun _ => rfl
    rw [e] at h
    obtain ⟨r, h, hr⟩ := Option.bind_eq_some_iff.1 h
    obtain ⟨x1, h1, h⟩ := Option.bind_eq_some_iff.1 h
    obtain ⟨x2, h2, h⟩ := Option.bind_eq_some_iff.1 h
    obtain ⟨x3, h3, h⟩ := Option.bind_eq_some_iff.1 h
    obtain ⟨x4, h4, h⟩ := Option.bind_eq_some_iff.1 h
    split at h
    · rename_i hc
      obtain ⟨cs, h5, h6⟩ := Option.map_eq_some_iff.1 h
      subst h6
      injection hr with hr; injection hr with hr1 hr2
      subst hr1; subst hr2
      refine ⟨mkBlk cs x2, rfl, fun σ2 c1 c2 => ?_⟩
      rw [if_pos hw, e, h1, Option.bind_some, h2, Option.bind_some, h3, Option.bind_some, h4, Option.bind_some, if_pos ⟨hc.1, hc.2.1, hc.2.2.1, hok σ2 c1 c2⟩, h5]; rfl
    · cases h
  | makeSlice t x y =>
    have e : ∀ σ2 : St, aOp P (some k) ⟨s, σ2⟩ ⟨d, .makeSlice t x y, ty, ps, af, none⟩ = (evalO s x).bind fun l => (evalO s y).bind fun c =>
      match l, c with
      | .int _ l, .int _ c => (elemOfSl P t).bind fun e => (szOf P e).bind fun sz => (bytesOf P e).bind fun by_ => (zeroOf P e).bind fun z =>
          if 0 ≤ l ∧ l ≤ c ∧ c * by_ ≤ 2 ^ 40 ∧ c ≤ 2 ^ 40 ∧ z.length = sz ∧ sz ≠ 0 ∧ σ2.okK (some k) = true then
            some (.val (if l = 0 ∧ c = 0 then .emp else .ref k 0 0 l.toNat) (σ2.set k (mkBlk ((List.replicate l.toNat z).flatten) sz))) else none
      | _, _ => none := fun _ => rfl
    rw [e] at h
    obtain ⟨r, h, hr⟩ := Option.bind_eq_some_iff.1 h
    obtain ⟨x1, h1, h⟩ := Option.bind_eq_some_iff.1 h
    obtain ⟨x2, h2, h⟩ := Option.bind_eq_some_iff.1 h
    split at h
    · obtain ⟨x3, h3, h⟩ := Option.bind_eq_some_iff.1 h
      obtain ⟨x4, h4, h⟩ := Option.bind_eq_some_iff.1 h
      obtain ⟨x5, h5, h⟩ := Option.bind_eq_some_iff.1 h
      obtain ⟨x6, h6, h⟩ := Option.bind_eq_some_iff.1 h
      split at h
      · rename_i hc
        injection h with h; subst h
        injection hr with hr; injection hr with hr1 hr2
        subst hr1; subst hr2
        refine ⟨_, rfl, fun σ2 c1 c2 => ?_⟩
        rw [if_pos hw, e, h1, Option.bind_some, h2, Option.bind_some]
        simp only
        rw [h3, Option.bind_some, h4, Option.bind_some, h5, Option.bind_some, h6, Option.bind_some, if_pos ⟨hc.1, hc.2.1, hc.2.2.1, hc.2.2.2.1, hc.2.2.2.2.1, hc.2.2.2.2.2.1, hok σ2 c1 c2⟩]; rfl
      · cases h
    · cases h
  | _ => cases hf

theorem opsC_vals (hf : DrawFacts ops) : ∀ n k (vals : Nat → T) (S : Nat → St), k + n = ops.size →
    (∀ i, i < k → stepV P O ops b i (sl ops vals s (fun j => decide (j < i))) (S i) = some (vals i, S (i + 1)) ∧ OldEq b W σs (S (i + 1)) ∧ Room b (i + 1) (ops.size - (i + 1)) (S (i + 1)) ∧ (i ∉ chgsOf ops → S (i + 1) = S i ∧ ∀ σ', (cm i = true → σ' = S i) → OldEq b W σs σ' → stepV P O ops b i (sl ops vals s (fun j => decide (j < i))) σ' = some (vals i, σ'))) →
    OldEq b W σs (S k) → Room b k (ops.size - k) (S k) → opsC P O ops b W σs cm k (ops.toList.drop k) K ⟨sl ops vals s (fun j => decide (j < k)), S k⟩ →
    ∃ (vals' : Nat → T) (S' : Nat → St), S' 0 = S 0 ∧ (∀ i, i < ops.size → stepV P O ops b i (sl ops vals' s (fun j => decide (j < i))) (S' i) = some (vals' i, S' (i + 1)) ∧ OldEq b W σs (S' (i + 1)) ∧ Room b (i + 1) (ops.size - (i + 1)) (S' (i + 1)) ∧ (i ∉ chgsOf ops → S' (i + 1) = S' i ∧ ∀ σ', (cm i = true → σ' = S' i) → OldEq b W σs σ' → stepV P O ops b i (sl ops vals' s (fun j => decide (j < i))) σ' = some (vals' i, σ'))) ∧
      K ⟨sl ops vals' s (fun j => decide (j < ops.size)), S' ops.size⟩ := by
  intro n
  induction n with
  | zero =>
    intro k vals S hk h1 hA hR h2
    have : k = ops.size := by omega
    subst this
    rw [List.drop_of_length_le (by simp)] at h2
    exact ⟨vals, S, rfl, h1, h2⟩
  | succ n ih =>
    intro k vals S hk h1 hA hR h2
    have hlt : k < ops.size := by omega
    have ho : ops[k]? = some ops[k] := by simp [hlt]
    have hd : ops.toList.drop k = ops[k] :: ops.toList.drop (k + 1) := by
      rw [List.drop_eq_getElem_cons (by simpa using hlt)]; simp
    have hlen : (ops.toList.drop (k + 1)).length = ops.size - (k + 1) := by simp
    rw [hd] at h2
    have hmem : k ∈ chgsOf ops ↔ isChg ops[k].op = true := by
      simp [chgsOf, hlt, ho]
    have hR1 : Room b (k + 1) (ops.size - (k + 1)) (S k) := Room.nxt (by rw [show ops.size - (k + 1) + 1 = ops.size - k by omega]; exact hR)
    -- the value and the state behind the operation
    have key : ∃ v σ', stepO P O ops (b + k) ops[k] (sl ops vals s (fun j => decide (j < k))) (S k) = some (v, σ') ∧ OldEq b W σs σ' ∧ Room b (k + 1) (ops.size - (k + 1)) σ' ∧ (k ∉ chgsOf ops → σ' = S k ∧ ∀ σ2, (cm k = true → σ2 = S k) → OldEq b W σs σ2 → stepO P O ops (b + k) ops[k] (sl ops vals s (fun j => decide (j < k))) σ2 = some (v, σ2)) ∧
        opsC P O ops b W σs cm (k + 1) (ops.toList.drop (k + 1)) K (Fr.put ⟨sl ops vals s (fun j => decide (j < k)), S k⟩ ops[k].dst v σ') := by
      unfold opsC at h2
      cases hc : isChg ops[k].op && wantedA ops ops[k] (sl ops vals s (fun j => decide (j < k))) with
      | true =>
        simp only [hc] at h2
        obtain ⟨v, σ', q1, q2, q2', q3⟩ := h2
        simp only [Bool.and_eq_true] at hc
        rw [hlen] at q2'
        exact ⟨v, σ', q1, q2, q2', fun hn => absurd (hmem.2 hc.1) hn, q3⟩
      | false =>
        simp only [hc] at h2
        obtain ⟨v, q1, q3⟩ := h2
        exact ⟨v, S k, q1 _ (fun _ => rfl) hA, hA, hR1, fun _ => ⟨rfl, q1⟩, q3⟩
    obtain ⟨v, σ', q1, q2, q2', q3, q4⟩ := key
    let vals' : Nat → T := fun j => if j = k then v else vals j
    let S' : Nat → St := fun j => if j = k + 1 then σ' else S j
    have e1 : ∀ i, i ≤ k → sl ops vals' s (fun j => decide (j < i)) = sl ops vals s (fun j => decide (j < i)) := fun i hi => sl_vals fun j hj => by
      simp at hj
      simp only [vals']; rw [if_neg (by omega)]
    have e2 : (fun j => decide (j < k) || decide (j = k)) = (fun j => decide (j < k + 1)) := by
      funext j
      rw [Bool.eq_iff_iff]; simp; omega
    have e3 : ∀ i, i ≤ k → S' i = S i := fun i hi => by simp only [S']; rw [if_neg (by omega)]
    have e4 : S' (k + 1) = σ' := by simp [S']
    have e5 : vals' k = v := by simp [vals']
    obtain ⟨vals2, S2, r1, r2, r3⟩ := ih (k + 1) vals' S' (by omega) (fun i hi => by
      by_cases hik : i = k
      · subst hik
        rw [e1 i (Nat.le_refl _), e3 i (Nat.le_refl _), e4, e5, stepV_eq ho]
        refine ⟨q1, q2, q2', fun hn => ⟨(q3 hn).1, fun σ2 h2' h2 => ?_⟩⟩
        rw [stepV_eq ho]; exact (q3 hn).2 σ2 h2' h2
      · rw [e1 i (by omega), e3 i (by omega), e3 (i + 1) (by omega), show vals' i = vals i from if_neg hik]
        exact h1 i (by omega)) (by rw [e4]; exact q2) (by rw [e4]; exact q2') (by
      have hp := sl_put (vals := vals') (s := s) hf ho (L := fun j => decide (j < k)) (by simp) (S k) σ'
      rw [e1 k (Nat.le_refl _), e2, e5] at hp
      rw [e4, ← hp]; exact q4)
    exact ⟨vals2, S2, by rw [r1, e3 0 (by omega)], r2, r3⟩

theorem drawQ_chain (hX : ∀ f, X f = none) (hst : drawOk ops = true) (hch : chainB ops = true) {fr : Fr} (h : opsC P (run P md X) ops fr.σ.next W (fr.σ.bump ops.size) (cmpB ops) 0 ops.toList K ⟨fr.s, fr.σ.bump ops.size⟩) : drawQ P (run P md X) ops K fr := by
  have hf := drawOk_facts hst
  obtain ⟨b, hb⟩ : ∃ b, b = fr.σ.next := ⟨_, rfl⟩
  obtain ⟨σs, hσs⟩ : ∃ σs, σs = fr.σ.bump ops.size := ⟨_, rfl⟩
  rw [← hb, ← hσs] at h
  have h0 : sl ops (fun _ => .tup []) fr.s (fun j => decide (j < 0)) = fr.s := by funext t; exact sl_none fun _ _ _ _ => by simp
  have hA0 : OldEq b W σs σs := ⟨by rw [hσs, bump_next]; omega, fun _ _ _ => rfl⟩
  have hR0 : Room b 0 ops.size σs := ⟨by rw [hσs, bump_next]; omega, fun j hj => by rw [hσs, bump_blk, if_neg (by omega)]⟩
  obtain ⟨vals, S, s0, h1, h2⟩ := opsC_vals (P := P) (O := run P md X) (K := K) (s := fr.s) (b := b) (W := W) (σs := σs) (cm := cmpB ops) hf ops.size 0 (fun _ => .tup []) (fun _ => σs) (by omega) (fun i hi => absurd hi (by omega)) hA0 (by simpa using hR0) (by rw [h0]; simpa using h)
  -- the chain and the new boxes
  obtain ⟨ch, hchd⟩ : ∃ ch, ch = (chgsOf ops).filter fun i => !fltAt ops i := ⟨_, rfl⟩
  have hmem : ∀ i, i ∈ chgsOf ops → i < ops.size := fun i hi => by
    simp only [chgsOf, List.mem_filter, List.mem_range] at hi; exact hi.1
  have hchm : ∀ i, i ∈ ch ↔ i ∈ chgsOf ops ∧ fltAt ops i = false := fun i => by rw [hchd]; simp
  have hanc : ∀ i ∈ chgsOf ops, ∀ j ∈ ch, i < j → i ∈ (ancs ops).getD j [] := fun i hi j hj hij => by
    have hj := (hchm j).1 hj
    have := List.all_eq_true.1 (List.all_eq_true.1 hch i hi) j hj.1
    simp only [Bool.or_eq_true, Bool.not_eq_true', hj.2] at this
    rcases this with (h | h) | h
    · have : Nat.blt i j = true := by simp [Nat.blt]; omega
      rw [this] at h; cases h
    · cases h
    · exact mem_ancs.2 ⟨hmem i hi, h⟩
  have hflt : ∀ i, fltAt ops i = true → i ∈ chgsOf ops := fun i hi => by
    unfold fltAt at hi
    split at hi
    · rename_i o ho
      have hlt : i < ops.size := (Array.getElem?_eq_some_iff.1 ho).1
      simp only [chgsOf, List.mem_filter, List.mem_range, ho]
      refine ⟨hlt, ?_⟩
      simp only [isFlt, Bool.and_eq_true] at hi
      revert hi
      cases o.op <;> simp [isChg]
    · cases hi
  obtain ⟨Bk, hBk⟩ : ∃ Bk : Nat → Blk, Bk = fun x => ((S (x - b + 1)).blk x).getD (mkBlk [] 0) := ⟨_, rfl⟩
  -- which new boxes are there beside the chain
  let pX : (Nat → Bool) → Nat → Nat → Bool := fun c L x => decide (b ≤ x) && fltAt ops (x - b) && c (x - b) && decide (L ≤ x - b)
  let Sg : (Nat → Bool) → St := fun c => (S (lastC ch c)).over (pX c (lastC ch c)) Bk
  have hroom : ∀ j, j ≤ ops.size → Room b j (ops.size - j) (S j) ∧ OldEq b W σs (S j) := fun j hj => by
    cases j with
    | zero => rw [s0]; exact ⟨hR0, hA0⟩
    | succ j => exact ⟨(h1 j (by omega)).2.2.1, (h1 j (by omega)).2.1⟩
  have hle : ∀ c : Nat → Bool, lastC ch c ≤ ops.size := fun c => lastC_le.2 fun k hk _ => hmem k ((hchm k).1 hk).1
  have hfl : ∀ i, i < ops.size → fltAt ops i = true → S (i + 1) = (S i).set (b + i) (Bk (b + i)) ∧ ∀ σ2 : St, σ2.blk (b + i) = none → b + i < σ2.next → stepV P (run P md X) ops b i (sl ops vals fr.s (fun j => decide (j < i))) σ2 = some (vals i, σ2.set (b + i) (Bk (b + i))) := fun i hi hfi => by
    unfold fltAt at hfi
    split at hfi
    · rename_i o ho
      have := (h1 i hi).1
      rw [stepV_eq ho] at this
      obtain ⟨C, c1, c2⟩ := flt_step hfi this
      have hC : Bk (b + i) = C := by
        rw [hBk]; simp only [Nat.add_sub_cancel_left, c1, set_blk, if_true, Option.getD_some]
      rw [hC]
      exact ⟨c1, fun σ2 h3 h4 => by rw [stepV_eq ho]; exact c2 σ2 h3 h4⟩
    · cases hfi
  -- the states of the first order
  have hS : ∀ j, j ≤ ops.size → S j = Sg (fun k => decide (k < j)) := by
    intro j
    induction j with
    | zero =>
      intro _
      have e : lastC ch (fun k => decide (k < 0)) = 0 := Nat.le_zero.1 (lastC_le.2 fun k _ hk => by simp at hk)
      simp only [Sg, e]
      rw [over_none fun i => by simp [pX]]
    | succ j ih =>
      intro hj
      have ih := ih (by omega)
      by_cases hc : j ∈ ch
      · have e : lastC ch (fun k => decide (k < j + 1)) = j + 1 := lastC_eq hc (by simp) fun k _ hk => by simp at hk; omega
        simp only [Sg, e]
        rw [over_none fun i => by simp only [pX, Bool.and_eq_false_iff, decide_eq_false_iff_not]; omega]
      · have e : lastC ch (fun k => decide (k < j + 1)) = lastC ch (fun k => decide (k < j)) := lastC_congr fun k hk => by
          have : k ≠ j := fun e => hc (e ▸ hk)
          rw [Bool.eq_iff_iff]; simp; omega
        have hL : lastC ch (fun k => decide (k < j)) ≤ j := lastC_le.2 fun k _ hk => by simp at hk; omega
        by_cases hfj : fltAt ops j = true
        · rw [(hfl j (by omega) hfj).1, ih]
          simp only [Sg, e]
          rw [over_set]
          congr 1
          funext x
          simp only [pX]
          rw [Bool.eq_iff_iff]
          simp only [Bool.or_eq_true, Bool.and_eq_true, decide_eq_true_eq]
          constructor
          · rintro (h | rfl)
            · exact ⟨⟨h.1.1, by omega⟩, h.2⟩
            · rw [Nat.add_sub_cancel_left]; exact ⟨⟨⟨by omega, hfj⟩, by omega⟩, hL⟩
          · rintro ⟨⟨⟨q1, q2⟩, q3⟩, q4⟩
            by_cases hx : x = b + j
            · exact .inr hx
            · exact .inl ⟨⟨⟨q1, q2⟩, by omega⟩, q4⟩
        · have hn : j ∉ chgsOf ops := fun hm => hc ((hchm j).2 ⟨hm, by simpa using hfj⟩)
          rw [((h1 j (by omega)).2.2.2 hn).1, ih]
          simp only [Sg, e]
          congr 1
          funext x
          simp only [pX]
          rw [Bool.eq_iff_iff]
          simp only [Bool.and_eq_true, decide_eq_true_eq]
          constructor
          · rintro ⟨⟨⟨q1, q2⟩, q3⟩, q4⟩; exact ⟨⟨⟨q1, q2⟩, by omega⟩, q4⟩
          · rintro ⟨⟨⟨q1, q2⟩, q3⟩, q4⟩
            have : x - b ≠ j := fun e => by rw [e] at q2; exact hfj q2
            exact ⟨⟨⟨q1, q2⟩, by omega⟩, q4⟩
  have hOld : ∀ c, OldEq b W σs (Sg c) := fun c => by
    obtain ⟨q1, q2⟩ := (hroom _ (hle c)).2
    refine ⟨q1, fun x hx hx' => ?_⟩
    simp only [Sg, St.over]
    rw [if_neg (by simp only [pX, Bool.and_eq_true, decide_eq_true_eq]; omega)]
    exact q2 x hx hx'
  have hcg : ∀ c c', (∀ j ∈ chgsOf ops, c j = c' j) → Sg c = Sg c' := fun c c' hcc => by
    have e : lastC ch c = lastC ch c' := lastC_congr fun k hk => hcc k ((hchm k).1 hk).1
    simp only [Sg, e]
    congr 1
    funext x
    simp only [pX]
    by_cases hfx : fltAt ops (x - b) = true
    · rw [hcc _ (hflt _ hfx)]
    · simp [hfx]
  refine ⟨⟨sl ops vals fr.s (fun j => decide (j < ops.size)), Sg (fun j => decide (j < ops.size))⟩, ?_, by rw [← hS ops.size (Nat.le_refl _)]; exact h2⟩
  refine draw_drawL (P := P) (O := run P md X) (vals := vals) (s := fr.s) (Sg := Sg) (ch := chgsOf ops) hst rfl ?_ ?_ hcg hmem
  · have e := hS 0 (Nat.zero_le _)
    rw [s0, hσs] at e
    rw [e]; exact hcg _ _ fun j _ => by simp
  · intro i hi c hc
    rw [← hb]
    obtain ⟨f1, f2, f3, f4⟩ := hc
    -- what is done, up to where
    have hlast : ∀ i, fltAt ops i = true → c i = false → lastC ch c ≤ i := fun i hfi hci => by
      by_cases hz : lastC ch c = 0
      · omega
      · obtain ⟨k, k1, k2, k3⟩ := lastC_mem hz
        rw [k3]
        have k4 := (hchm k).1 k1
        have : ¬ i < k := fun hik => by
          have := f4 k k4.1 i (hflt i hfi) (hanc i (hflt i hfi) k k1 hik) k2
          rw [this] at hci; cases hci
        have : k ≠ i := fun e => by rw [e] at k4; rw [k4.2] at hfi; cases hfi
        omega
    by_cases hcmp : i ∈ ch ∨ (i ∉ chgsOf ops ∧ cmpB ops i = true)
    · have hlo : ∀ k ∈ chgsOf ops, k < i → c k = true := fun k hk hki => f1 k hk (by
        rcases hcmp with hic | ⟨_, hcm⟩
        · exact hanc k hk i hic hki
        · have := List.all_eq_true.1 hcm k hk
          have e : Nat.blt k i = true := by simp [Nat.blt]; omega
          rw [e] at this
          exact mem_ancs.2 ⟨hmem k hk, this⟩)
      have hhi : ∀ k ∈ ch, i < k → c k = false := fun k hk hik => f2 k ((hchm k).1 hk).1 (by
        rcases hcmp with hic | ⟨_, hcm⟩
        · exact hanc i ((hchm i).1 hic).1 k hk hik
        · have := List.all_eq_true.1 hcm k ((hchm k).1 hk).1
          have e : Nat.blt k i = false := by cases hb3 : Nat.blt k i with
            | false => rfl
            | true => have := Nat.le_of_ble_eq_true hb3; omega
          have e2 : Nat.beq k i = false := by cases hb2 : Nat.beq k i with
            | false => rfl
            | true => have := Nat.eq_of_beq_eq_true hb2; omega
          rw [e, e2, ((hchm k).1 hk).2] at this
          exact mem_ancs.2 ⟨hi, by simpa using this⟩)
      have e1 : lastC ch c = lastC ch (fun k => decide (k < i)) := lastC_congr fun k hk => by
        rcases Nat.lt_trichotomy k i with h | h | h
        · rw [hlo k ((hchm k).1 hk).1 h]; simp [h]
        · subst h; rw [f3]; simp
        · rw [hhi k hk h]; simp; omega
      -- the boxes that have come early
      let l : List Nat := (((List.range ops.size).filter fun f => fltAt ops f && c f && decide (i < f)).map fun f => b + f)
      have hl : ∀ x, l.contains x = (decide (b ≤ x) && fltAt ops (x - b) && c (x - b) && decide (i < x - b)) := fun x => by
        rw [Bool.eq_iff_iff]
        simp only [l, List.contains_iff_mem, List.mem_map, List.mem_filter, List.mem_range, Bool.and_eq_true, decide_eq_true_eq]
        constructor
        · rintro ⟨f, ⟨a1, ⟨a2, a3⟩, a4⟩, rfl⟩; rw [Nat.add_sub_cancel_left]; exact ⟨⟨⟨by omega, a2⟩, a3⟩, a4⟩
        · rintro ⟨⟨⟨a1, a2⟩, a3⟩, a4⟩; exact ⟨x - b, ⟨hmem _ (hflt _ a2), ⟨a2, a3⟩, a4⟩, by omega⟩
      have hnd : l.Nodup := List.pairwise_map.2 (List.Pairwise.imp (fun h => by omega) (List.Pairwise.filter _ List.nodup_range))
      have hroom_i := (hroom i (by omega)).1
      have hlx : ∀ x ∈ l, b + i ≠ x ∧ (S i).blk x = none ∧ x < (S i).next := fun x hx => by
        have hx : l.contains x = true := by simpa using hx
        rw [hl] at hx
        simp only [Bool.and_eq_true, decide_eq_true_eq] at hx
        obtain ⟨⟨⟨a1, a2⟩, a3⟩, a4⟩ := hx
        have a5 := hmem _ (hflt _ a2)
        refine ⟨by omega, ?_, by have := hroom_i.1; omega⟩
        have := hroom_i.2 (x - b - i) (by omega)
        rwa [show b + i + (x - b - i) = x by omega] at this
      have ho : ops[i]? = some ops[i] := by simp [hi]
      have hstep := (h1 i hi).1
      rw [stepV_eq ho] at hstep ⊢
      have hrun := (step_over hX (Bk := Bk) hstep l hlx hnd).1
      have g1 : Sg c = (S i).over (fun x => l.contains x) Bk := by
        rw [hS i (by omega)]
        simp only [Sg, e1]
        rw [over_over (r := pX c (lastC ch (fun k => decide (k < i))))]
        intro x
        rw [hl]
        simp only [pX]
        rw [Bool.eq_iff_iff]
        simp only [Bool.or_eq_true, Bool.and_eq_true, decide_eq_true_eq]
        constructor
        · rintro ⟨⟨⟨a1, a2⟩, a3⟩, a4⟩
          by_cases hxi : x - b < i
          · exact .inl ⟨⟨⟨a1, a2⟩, hxi⟩, a4⟩
          · have : x - b ≠ i := fun e => by rw [e] at a3; rw [a3] at f3; cases f3
            exact .inr ⟨⟨⟨a1, a2⟩, a3⟩, by omega⟩
        · rintro (⟨⟨⟨a1, a2⟩, a3⟩, a4⟩ | ⟨⟨⟨a1, a2⟩, a3⟩, a4⟩)
          · exact ⟨⟨⟨a1, a2⟩, hlo _ (hflt _ a2) a3⟩, a4⟩
          · have : lastC ch (fun k => decide (k < i)) ≤ i := lastC_le.2 fun k _ hk => by simp at hk; omega
            exact ⟨⟨⟨a1, a2⟩, a3⟩, by omega⟩
      have g2 : Sg (fun j => c j || decide (j = i)) = (S (i + 1)).over (fun x => l.contains x) Bk := by
        rcases hcmp with hic | ⟨hn, _⟩
        · have e2 : lastC ch (fun j => c j || decide (j = i)) = i + 1 := lastC_eq hic (by simp) fun k hk hkc => by
            rcases Nat.lt_trichotomy k i with h | h | h
            · omega
            · omega
            · simp [hhi k hk h] at hkc; omega
          simp only [Sg, e2]
          congr 1
          funext x
          rw [hl]
          simp only [pX]
          rw [Bool.eq_iff_iff]
          simp only [Bool.or_eq_true, Bool.and_eq_true, decide_eq_true_eq]
          constructor
          · rintro ⟨⟨⟨a1, a2⟩, a3 | a3⟩, a4⟩
            · exact ⟨⟨⟨a1, a2⟩, a3⟩, by omega⟩
            · omega
          · rintro ⟨⟨⟨a1, a2⟩, a3⟩, a4⟩; exact ⟨⟨⟨a1, a2⟩, .inl a3⟩, by omega⟩
        · rw [((h1 i hi).2.2.2 hn).1, ← g1]
          exact hcg _ _ fun j hj => by
            have : j ≠ i := fun e => hn (e ▸ hj)
            simp [this]
      rw [g1, g2]; exact hrun
    · by_cases hfi : fltAt ops i = true
      · have hLi := hlast i hfi f3
        obtain ⟨_, h4⟩ := hfl i hi hfi
        have hr := (hroom _ (hle c)).1
        have hfree : (Sg c).blk (b + i) = none := by
          simp only [Sg, St.over]
          rw [if_neg (by simp only [pX, Nat.add_sub_cancel_left, f3]; simp)]
          have := hr.2 (i - lastC ch c) (by omega)
          rwa [show b + lastC ch c + (i - lastC ch c) = b + i by omega] at this
        rw [h4 (Sg c) hfree (by show b + i < (S (lastC ch c)).next; have := hr.1; omega)]
        congr 2
        have e : lastC ch (fun j => c j || decide (j = i)) = lastC ch c := lastC_congr fun k hk => by
          have : k ≠ i := fun e => hcmp (.inl (e ▸ hk))
          simp [this]
        simp only [Sg, e]
        rw [over_set]
        congr 1
        funext x
        simp only [pX]
        rw [Bool.eq_iff_iff]
        simp only [Bool.or_eq_true, Bool.and_eq_true, decide_eq_true_eq]
        constructor
        · rintro (h | rfl)
          · exact ⟨⟨h.1.1, .inl h.1.2⟩, h.2⟩
          · rw [Nat.add_sub_cancel_left]; exact ⟨⟨⟨by omega, hfi⟩, .inr rfl⟩, hLi⟩
        · rintro ⟨⟨⟨a1, a2⟩, a3 | a3⟩, a4⟩
          · exact .inl ⟨⟨⟨a1, a2⟩, a3⟩, a4⟩
          · exact .inr (by omega)
      · have hn : i ∉ chgsOf ops := fun hm => hcmp (.inl ((hchm i).2 ⟨hm, by simpa using hfi⟩))
        have e2 : Sg (fun j => c j || decide (j = i)) = Sg c := hcg _ _ fun j hj => by
          have : j ≠ i := fun e => hn (e ▸ hj)
          simp [this]
        rw [e2]
        exact ((h1 i hi).2.2.2 hn).2 _ (fun w => absurd (.inr ⟨hn, w⟩) hcmp) (hOld c)

theorem hold_ref_mem {z : Bool} {σ : St} {k b e o n : Nat} {v : T} {S : List Nat} (h : hold z σ k (.ref b e o n) = some (v, S)) : b ∈ S := by
  cases k with
  | zero => cases h
  | succ k =>
    simp only [hold] at h
    obtain ⟨B, hB, h⟩ := Option.bind_eq_some_iff.1 h
    split at h
    · obtain ⟨q, _, h⟩ := Option.map_eq_some_iff.1 h
      injection h with _ h; subst h; simp
    · cases h
theorem c_chain (W : Nat → Prop) {Q : AExit → Fr → Prop} {σ σ0 : St} {es : List Ent} {id : Nat} (hX : ∀ f, X f = none) (hst : drawOk ops = true) (hch : chainB ops = true) (hH : Heap σ0 σ es)
    (h : ∀ B σs σ', σ0.next ≤ B → (∀ x cells, Ent.box x cells ∈ es → x < B) → (∀ z w t v, Ent.own z w t v ∈ es → ∀ b e o n, t = .ref b e o n → b < B) → Heap σ0 σ' es → opsX P (run P md X) ops (.c B 0 W σs (cmpB ops)) ops.toList (Q .normal) ⟨s, σ'⟩) : codeQ P (run P md X) (.region id ops true) Q ⟨s, σ⟩ := by
  refine drawQ_chain hX hst hch (W := W) ?_
  refine h σ.next (σ.bump ops.size) (σ.bump ops.size) hH.grow.nx (fun x cells hx => ?_) (fun z w t v hx b e o n ht => ?_) hH.bump ⟨by simp, fun _ _ _ => rfl⟩ ⟨by simp, fun j hj => by rw [bump_blk, if_neg (by omega)]⟩
  · obtain ⟨n, hn, e⟩ := List.getElem_of_mem hx
    obtain ⟨F, h1, h2, h3⟩ := hH.ex
    obtain ⟨l1, l2, rfl⟩ := List.append_of_mem hx
    obtain ⟨F1, F2, rfl, h4, h5⟩ := h1.split
    obtain ⟨S, F', rfl, ⟨rfl, _⟩, _⟩ := h5
    exact (h3 x (by simp)).2
  · obtain ⟨F, h1, h2, h3⟩ := hH.ex
    obtain ⟨l1, l2, rfl⟩ := List.append_of_mem hx
    obtain ⟨F1, F2, rfl, h4, h5⟩ := h1.split
    obtain ⟨S, F', rfl, ⟨_, _, k, h6⟩, _⟩ := h5
    subst ht
    exact (h3 b (by simp [hold_ref_mem h6])).2
end
/-- A held slice's block is no box. -/
theorem Heap.neO {σ0 σ : St} {es : List Ent} {b b' w e o n : Nat} {z : Bool} {v : T} {c' : List T} (h : Heap σ0 σ es) (i j : Nat) (hij : i ≠ j) (hi : es[i]? = some (.own z w (.ref b e o n) v)) (hj : es[j]? = some (.box b' c')) : b ≠ b' := by
  have h1 := h.at i hi
  have hm : Ent.box b' c' ∈ es.eraseIdx i := List.mem_eraseIdx_iff_getElem?.2 ⟨j, Ne.symm hij, hj⟩
  obtain ⟨F, ⟨S, F', rfl, ⟨_, _, k, h6⟩, h2⟩, h3, _⟩ := h1.ex
  obtain ⟨l1, l2, e2⟩ := List.append_of_mem hm
  rw [e2] at h2
  obtain ⟨F1, F2, rfl, _, S2, F3, rfl, ⟨rfl, _⟩, _⟩ := h2.split
  rintro rfl
  have := hold_ref_mem h6
  exact (List.nodup_append.1 h3).2.2 b this b (by simp) rfl
/-- What is kept is no box. -/
theorem Heap.neK {σ0 σ σk : St} {es : List Ent} {b b' : Nat} {F : List Nat} {c' : List T} (h : Heap σ0 σ es) (i j : Nat) (hij : i ≠ j) (hi : es[i]? = some (.keep F σk)) (hb : b ∈ F) (hj : es[j]? = some (.box b' c')) : b ≠ b' := by
  have h1 := h.at i hi
  have hm : Ent.box b' c' ∈ es.eraseIdx i := List.mem_eraseIdx_iff_getElem?.2 ⟨j, Ne.symm hij, hj⟩
  obtain ⟨F0, ⟨S, F', rfl, ⟨rfl, _⟩, h2⟩, h3, _⟩ := h1.ex
  obtain ⟨l1, l2, e2⟩ := List.append_of_mem hm
  rw [e2] at h2
  obtain ⟨F1, F2, rfl, _, S2, F3, rfl, ⟨rfl, _⟩, _⟩ := h2.split
  rintro rfl
  exact (List.nodup_append.1 h3).2.2 b hb b (by simp) rfl
theorem Heap.neOL {σ0 σ : St} {es : List Ent} {b b' w e o n : Nat} {z : Bool} {v : T} {c : List T} (h : Heap σ0 σ es) (i : Nat) (hi : es[i]? = some (.own z w (.ref b e o n) v)) (hL : Lent σ0 b' c) : b ≠ b' := by
  obtain ⟨S, ⟨_, _, k, h6⟩, _, h2⟩ := (h.at i hi).head
  have := (h2 b (by simp [hold_ref_mem h6])).1
  have := hL.1
  omega
/-- Two boxes are two. -/
theorem Heap.ne {σ0 σ : St} {es : List Ent} {b b' : Nat} {c c' : List T} (h : Heap σ0 σ es) (i j : Nat) (hij : j < i) (hi : es[i]? = some (.box b c)) (hj : es[j]? = some (.box b' c')) : b ≠ b' := by
  have h1 := h.at i hi
  have e : (es.eraseIdx i)[j]? = some (.box b' c') := by rw [List.getElem?_eraseIdx, if_pos hij, hj]
  obtain ⟨F, ⟨S, F', rfl, ⟨rfl, _⟩, h2⟩, h3, _⟩ := h1.ex
  have hm := List.mem_of_getElem? e
  obtain ⟨l1, l2, e2⟩ := List.append_of_mem hm
  rw [e2] at h2
  obtain ⟨F1, F2, rfl, _, S2, F3, rfl, ⟨rfl, _⟩, _⟩ := h2.split
  rintro rfl
  simp at h3
theorem Heap.neL {σ0 σ : St} {es : List Ent} {b b' : Nat} {c c' : List T} (h : Heap σ0 σ es) (j : Nat) (hj : es[j]? = some (.box b' c')) (hL : Lent σ0 b c) : b ≠ b' := by
  obtain ⟨S, ⟨rfl, _⟩, _, h2⟩ := (h.at j hj).head
  have := (h2 b' (by simp)).1
  have := hL.1
  omega
theorem bl1 {bs : List Nat} {c : List T} (h : bs.length = [c].length) : ∃ b, bs = [b] := by
  rcases bs with _ | ⟨b, _ | ⟨x, l⟩⟩ <;> simp at h
  exact ⟨b, rfl⟩
theorem bl2 {bs : List Nat} {c c' : List T} (h : bs.length = [c, c'].length) : ∃ b b', bs = [b, b'] := by
  rcases bs with _ | ⟨b, _ | ⟨b', _ | ⟨x, l⟩⟩⟩ <;> simp at h
  exact ⟨b, b', rfl⟩
end Go.Am
end
section
set_option linter.unusedVariables false
set_option linter.unusedSimpArgs false
namespace Go.Am
open Classical

/-- Other entries, as blocks that stay. -/
theorem Heap.wrap {σ0 σ : St} {ents E : List Ent} (h : Heap σ0 σ (ents ++ E)) : ∃ F, Heap σ0 σ (ents ++ [.keep F σ]) ∧ ∀ σ' ents', Heap σ0 σ' (ents' ++ [.keep F σ]) → Heap σ0 σ' (ents' ++ E) := by
  obtain ⟨F, h1, h2, h3⟩ := h.ex
  obtain ⟨F1, F2, rfl, h4, h5⟩ := h1.split
  refine ⟨F2, ⟨h.grow, F1 ++ F2, h4.join ⟨F2, [], by simp, ⟨rfl, fun b hb => ⟨rfl, h5.some b hb⟩⟩, rfl⟩, h2, h3⟩, fun σ' ents' k => ?_⟩
  obtain ⟨G, k1, k2, k3⟩ := k.ex
  obtain ⟨G1, G2, rfl, k4, k5⟩ := k1.split
  obtain ⟨S, F', rfl, ⟨rfl, k6⟩, k7⟩ := k5
  cases k7
  simp only [List.append_nil] at k2 k3
  exact ⟨k.grow, G1 ++ S, k4.join (h5.same fun b hb => (k6 b hb).1), k2, k3⟩

section
variable {P : Program} {md : Nat → Md} {X : Ext} {f : Nat}
variable {ops : Array Oper} {m : Mo} {l : List Oper} {K : Fr → Prop} {s : Nat → T} {σ σ0 : St} {L : List (Nat × T)} {es ents : List Ent}
variable {d : Option Nat} {ty : TypeId} {ps : String} {af : Array Edge} {g : Option (Nat × Bool)}

/-- What a call does to the entries that it is handed. -/
def RawS (P : Program) (md : Nat → Md) (X : Ext) (f : Nat) (args : List T) (n : Nat) (tree : List T → T) (ents : List Ent) (ents' : List T → List Ent) : Prop :=
  ∀ σ0 σ E, Heap σ0 σ (ents ++ E) → ∃ hs σ', hs.length = n ∧ run P md X f args σ = some (tree hs, σ') ∧ Heap σ0 σ' (ents' hs ++ E)

def endM (P : Program) (rs : List ResultVar) (σ0 : St) (n : Nat) (tree : List T → T) (ents' : List T → List Ent) : AExit → Fr → Prop
  | .exit _, _ => False
  | .normal, fr => ∃ l hs, resL P fr rs = some l ∧ tupOf l = tree hs ∧ hs.length = n ∧ Heap σ0 fr.σ (ents' hs)
  | .ret, fr => ∃ l hs, resL P fr rs = some l ∧ tupOf l = tree hs ∧ hs.length = n ∧ Heap σ0 fr.σ (ents' hs)
theorem end_M {rs : List ResultVar} {l : List T} {n : Nat} {tree : List T → T} {ents' : List T → List Ent} (hs : List T) (hl : resL P ⟨s, σ⟩ rs = some l) (ht : tupOf l = tree hs) (hn : hs.length = n) (hH : Heap σ0 σ (ents' hs)) : endM P rs σ0 n tree ents' .ret ⟨s, σ⟩ := ⟨l, hs, hl, ht, hn, hH⟩
theorem end_Mn {rs : List ResultVar} {n : Nat} {tree : List T → T} {ents' : List T → List Ent} {fr : Fr} (h : endM P rs σ0 n tree ents' .ret fr) : endM P rs σ0 n tree ents' .normal fr := h

theorem rawS_of {c : Code} {n0 n : Nat} {rs : List ResultVar} {args : List T} {tree : List T → T} {ents' : List T → List Ent} (hv : md f = .raw) (hX : X f = none) (hok : Ok P f c n0 rs) (hlen : Nat.ble args.length n0 = true)
    (h : ∀ σ0 σ F σk s, Sub (nums 0 args) s → Heap σ0 σ (ents ++ [.keep F σk]) → codeQ P (run P md X) c (endM P rs σ0 n tree (fun hs => ents' hs ++ [.keep F σk])) ⟨s, σ⟩) : RawS P md X f args n tree ents ents' := fun σ0 σ E hH => by
  obtain ⟨F, h1, h2⟩ := hH.wrap
  obtain ⟨fn, k1, k2, k3, k4, k5, k6⟩ := hok
  obtain ⟨x, fr, m1, m2⟩ := codeQ_sound (h σ0 σ F σ _ (sub_enter args) h1)
  have hx : (x = .normal ∨ x = .ret) ∧ ∃ l hs, resL P fr rs = some l ∧ tupOf l = tree hs ∧ hs.length = n ∧ Heap σ0 fr.σ (ents' hs ++ [.keep F σ]) := by
    cases x with
    | normal => exact ⟨.inl rfl, m2⟩
    | ret => exact ⟨.inr rfl, m2⟩
    | exit i => exact m2.elim
  obtain ⟨hx, l, hs, q1, q2, q3, q4⟩ := hx
  refine ⟨hs, fr.σ, q3, ?_, h2 _ _ q4⟩
  rw [run_raw (P := P) (vm := md) (X := X) (σ := σ) hv hX k1 k2 k3 k4 (by rw [k5]; exact Nat.le_of_ble_eq_true hlen) m1 hx (by rw [resA, k6, q1]; rfl), q2]

/-- A call that changes what it is handed. -/
theorem q_callR {fo : Operand} {as : Array Operand} {tys : Array TypeId} {a b xs : List T} {n : Nat} {tree : List T → T} {ents' : List T → List Ent} (hw : want ops L g = some true) (hS : Sub L s) (hf : gE (get L) fo = some (.fn f a b)) (ha : gEs (get L) as.toList = some xs)
    (hH : Heap σ0 σ (ents ++ es)) (hr : RawS P md X f (a ++ xs ++ b) n tree ents ents')
    (k : ∀ hs σ' s', hs.length = n → Heap σ0 σ' (ents' hs ++ es) → Sub (putL L d (tree hs)) s' → opsX P (run P md X) ops .q l K ⟨s', σ'⟩) : opsX P (run P md X) ops .q (⟨d, .call ⟨.value fo, as, tys⟩, ty, ps, af, g⟩ :: l) K ⟨s, σ⟩ := by
  obtain ⟨hs, σ', h1, h2, h3⟩ := hr σ0 σ es hH
  refine x_callS (f := f) (args := a ++ xs ++ b) (want_sound hS hw) (by rw [a_call, gEs_sound hS ha, Option.bind_some, gE_sound hS hf]; rfl) h2 ?_
  rw [put_eq]
  exact k _ _ _ h1 h3 (sub_putL hS d _ σ)

/-- What must hold at the end of a callee that is walked in its caller. -/
def endI (P : Program) (rs : List ResultVar) (K : T → St → Prop) : AExit → Fr → Prop
  | .exit _, _ => False
  | .normal, fr => ∃ l, resL P fr rs = some l ∧ K (tupOf l) fr.σ
  | .ret, fr => ∃ l, resL P fr rs = some l ∧ K (tupOf l) fr.σ
theorem end_I {rs : List ResultVar} {l : List T} {K : T → St → Prop} {v : T} (hl : resL P ⟨s, σ⟩ rs = some l) (ht : tupOf l = v) (h : K v σ) : endI P rs K .ret ⟨s, σ⟩ := ⟨l, hl, ht ▸ h⟩
theorem end_In {rs : List ResultVar} {K : T → St → Prop} {fr : Fr} (h : endI P rs K .ret fr) : endI P rs K .normal fr := h
/-- A call whose code is walked here. -/
theorem q_inl {fo : Operand} {as : Array Operand} {tys : Array TypeId} {a b xs : List T} {c : Code} {n0 : Nat} {rs : List ResultVar} (args : List T) (hw : want ops L g = some true) (hS : Sub L s) (hf : gE (get L) fo = some (.fn f a b)) (ha : gEs (get L) as.toList = some xs)
    (hab : a ++ xs ++ b = args) (hv : md f = .raw) (hX : X f = none) (hok : Ok P f c n0 rs) (hlen : Nat.ble args.length n0 = true)
    (h : ∀ s1, Sub (nums 0 args) s1 → codeQ P (run P md X) c (endI P rs fun v σ' => ∀ s', Sub (putL L d v) s' → opsX P (run P md X) ops .q l K ⟨s', σ'⟩) ⟨s1, σ⟩) : opsX P (run P md X) ops .q (⟨d, .call ⟨.value fo, as, tys⟩, ty, ps, af, g⟩ :: l) K ⟨s, σ⟩ := by
  subst hab
  obtain ⟨fn, k1, k2, k3, k4, k5, k6⟩ := hok
  obtain ⟨x, fr, m1, m2⟩ := codeQ_sound (h _ (sub_enter _))
  have hx : (x = .normal ∨ x = .ret) ∧ ∃ l1, resL P fr rs = some l1 ∧ ∀ s', Sub (putL L d (tupOf l1)) s' → opsX P (run P md X) ops .q l K ⟨s', fr.σ⟩ := by
    cases x with
    | normal => exact ⟨.inl rfl, m2⟩
    | ret => exact ⟨.inr rfl, m2⟩
    | exit i => exact m2.elim
  obtain ⟨hx, l1, q1, q2⟩ := hx
  refine x_callS (f := f) (args := a ++ xs ++ b) (v := tupOf l1) (σ' := fr.σ) (want_sound hS hw) (by rw [a_call, gEs_sound hS ha, Option.bind_some, gE_sound hS hf]; rfl)
    (run_raw (P := P) (vm := md) (X := X) (σ := σ) hv hX k1 k2 k3 k4 (by rw [k5]; exact Nat.le_of_ble_eq_true hlen) m1 hx (by rw [resA, k6, q1]; rfl)) ?_
  rw [put_eq]
  exact q2 _ (sub_putL hS d _ σ)
theorem q_inlC {HF : (Nat → T) → St → Prop} {fo : Operand} {as : Array Operand} {tys : Array TypeId} {a b xs : List T} {c : Code} {n0 : Nat} {rs : List ResultVar} (args : List T) (hw : want ops L g = some true) (hS : Sub L s) (hf : gE (get L) fo = some (.fn f a b)) (ha : gEs (get L) as.toList = some xs)
    (hab : a ++ xs ++ b = args) (hv : md f = .raw) (hX : X f = none) (hok : Ok P f c n0 rs) (hlen : Nat.ble args.length n0 = true)
    (h : ∀ s1, Sub (nums 0 args) s1 → codeQ P (run P md X) c (endI P rs fun v σ' => ∀ s', Sub (putL L d v) s' → HF s' σ') ⟨s1, σ⟩)
    (k : ∀ s' σ', HF s' σ' → opsX P (run P md X) ops .q l K ⟨s', σ'⟩) : opsX P (run P md X) ops .q (⟨d, .call ⟨.value fo, as, tys⟩, ty, ps, af, g⟩ :: l) K ⟨s, σ⟩ :=
  q_inl args hw hS hf ha hab hv hX hok hlen fun s1 h1 => codeQ_mono (fun x fr hx => by
    cases x with
    | exit i => exact hx
    | normal => obtain ⟨l, e1, e2⟩ := hx; exact ⟨l, e1, fun s' hs => k _ _ (e2 s' hs)⟩
    | ret => obtain ⟨l, e1, e2⟩ := hx; exact ⟨l, e1, fun s' hs => k _ _ (e2 s' hs)⟩) (h s1 h1)
end

/-! ### texts as bytes -/
def bytesS (s : ByteArray) : Option (Sl (Iv .u8)) := if 1 ≤ s.size ∧ s.size ≤ 1099511627776 then some ⟨false, s.data.toList.map fun b => ⟨b.toNat⟩⟩ else none
def ofIv : List (Iv .u8) → Option (List UInt8)
  | [] => some []
  | x :: l => if 0 ≤ x.v ∧ x.v < 256 then (ofIv l).map (UInt8.ofNat x.v.toNat :: ·) else none
def strS (a : Sl (Iv .u8)) : Option ByteArray := (ofIv a.l).map fun l => ⟨l.toArray⟩
theorem ofIv_cells : ∀ l : List (Iv .u8), ofBytes (cellsL l) = ofIv l
  | [] => rfl
  | x :: l => by
    show ofBytes (.int .u8 x.v :: cellsL l) = _
    simp only [ofBytes, ofIv, ofIv_cells l]
theorem bytesT_cells (s : ByteArray) : bytesT s = cellsL (s.data.toList.map fun b => (⟨b.toNat⟩ : Iv .u8)) := by
  unfold bytesT
  generalize s.data.toList = l
  induction l with
  | nil => rfl
  | cons b l ih => simp only [List.map_cons, cellsL]; rw [ih]; rfl

section
variable {P : Program} {O : Oracle}
variable {ops : Array Oper} {m : Mo} {l : List Oper} {K : Fr → Prop} {s : Nat → T} {σ σ0 : St} {L : List (Nat × T)} {es ents : List Ent}
variable {d : Option Nat} {ty : TypeId} {ps : String} {af : Array Edge} {g : Option (Nat × Bool)}
theorem convA_str' {σ : St} {src dst : TypeId} {w : ByteArray} : convA P none σ src dst (.str w) = if kindT P src = 3 then if kindT P dst = 3 then some (.str w, σ) else (elemOfSl P dst).bind fun e => if kindT P e = 10 ∧ w.size ≤ 2 ^ 40 ∧ σ.okK none = true then some (.ref (σ.nid none) 0 0 w.size, σ.pushK none (mkBlk (bytesT w) 1)) else none else none := rfl
theorem convA_to {σ : St} {src dst e : TypeId} {x : T} {n : Nat} {cs : List T} {l : List UInt8} (hx : isTop x = true) (h1 : kindT P dst = 3) (he : elemOfSl P src = some e) (h3 : kindT P e = 10) (hc : cellsOf σ x = some (n, cs)) (hn : cs.length = n) (hb : ofBytes cs = some l) : convA P none σ src dst x = some (.str ⟨l.toArray⟩, σ) := by
  have key : convA P none σ src dst x = if kindT P dst = 3 then (elemOfSl P src).bind fun e => if kindT P e = 10 then (cellsOf σ x).bind fun (n, cs) => if cs.length = n then (ofBytes cs).map fun l => (.str ⟨l.toArray⟩, σ) else none else none else none := by
    cases x <;> first | rfl | (simp [isTop] at hx; done)
  rw [key, if_pos h1, he, Option.bind_some, if_pos h3, hc, Option.bind_some]
  simp only
  rw [if_pos hn, hb]; rfl
theorem q_s2b {x : Operand} {src dst e : TypeId} {w : ByteArray} {r : Sl (Iv .u8)} (hw : want ops L g = some true) (hS : Sub L s) (hH : Heap σ0 σ es) (hx : gE (get L) x = some (.str w)) (hk : (Nat.beq (kindT P src) 3 && !Nat.beq (kindT P dst) 3) = true) (he : elemOfSl P dst = some e) (hke : Nat.beq (kindT P e) 10 = true) (hr : bytesS w = some r)
    (k : ∀ t' σ' s', IsOne t' → Heap σ0 σ' (.own true 1 t' r.t :: es) → Sub (putL L d t') s' → opsX P O ops .q l K ⟨s', σ'⟩) : opsX P O ops .q (⟨d, .convert src dst x, ty, ps, af, g⟩ :: l) K ⟨s, σ⟩ := by
  unfold bytesS at hr
  split at hr
  · rename_i hb
    injection hr with hr; subst hr
    simp only [Bool.and_eq_true, Bool.not_eq_true'] at hk
    have h1 := Nat.eq_of_beq_eq_true hk.1; have h2 := Nat.ne_of_beq_eq_false hk.2; have h3 := Nat.eq_of_beq_eq_true hke
    refine x_new (v := .ref σ.next 0 0 w.size) (σ' := σ.pushK none (mkBlk (bytesT w) 1)) (want_sound hS hw) ?_ ?_
    · rw [a_convert, gE_sound hS hx, Option.bind_some]
      rw [convA_str', if_pos h1, if_neg h2, he, Option.bind_some, if_pos ⟨h3, by omega, rfl⟩]; rfl
    · rw [put_eq]
      refine k _ _ _ ⟨rfl, rfl⟩ ?_ (sub_putL hS d _ σ)
      have hl : (w.data.toList.map fun b => (⟨b.toNat⟩ : Iv .u8)).length = w.size := by rw [List.length_map, Array.length_toList]; rfl
      have hrow : Sl.t (⟨false, w.data.toList.map fun b => ⟨b.toNat⟩⟩ : Sl (Iv .u8)) = .row false w.size (cellsL (w.data.toList.map fun b => (⟨b.toNat⟩ : Iv .u8))) := by
        show T.row false (List.length _) _ = _; rw [hl]
      rw [hrow, bytesT_cells]
      refine Heap.mkRow (ents := []) hH (by decide) (by omega) (by rw [cellsL_len, hl]; rfl) (cellsL_one _) ?_
      generalize w.data.toList = l
      induction l with
      | nil => exact .nil
      | cons b l ih => exact .leaf (fun σ d => by cases d <;> rfl) ih
  · cases hr

theorem q_b2s {z : Bool} {wd : Nat} {x : Operand} {src dst e : TypeId} {t1 : T} {a : Sl (Iv .u8)} {r : ByteArray} (hw : want ops L g = some true) (hS : Sub L s) (hH : Heap σ0 σ (.own z wd t1 a.t :: es)) (hx : gE (get L) x = some t1) (hk : Nat.beq (kindT P dst) 3 = true) (he : elemOfSl P src = some e) (hke : Nat.beq (kindT P e) 10 = true) (hr : strS a = some r)
    (k : ∀ s', Sub (putL L d (.str r)) s' → opsX P O ops .q l K ⟨s', σ⟩) : opsX P O ops .q (⟨d, .convert src dst x, ty, ps, af, g⟩ :: l) K ⟨s, σ⟩ := by
  obtain ⟨S, ⟨ht, hwd, k', h2⟩, _, _⟩ := hH.head
  have ea : a.t = .row a.z a.l.length (cellsL a.l) := rfl
  rw [ea] at h2
  have hone : Enc.w (Iv .u8) = 1 := rfl
  obtain ⟨l0, h4, h5⟩ := Option.map_eq_some_iff.1 hr
  have h1 := Nat.eq_of_beq_eq_true hk; have h3 := Nat.eq_of_beq_eq_true hke
  have hof : ∀ cs, cs = cellsL a.l → ofBytes cs = some l0 := fun cs h => by rw [h, ofIv_cells, h4]
  have leaf : ∀ {k : Nat} (as : List (Iv .u8)) (ts : List T) (S : List Nat), frzL (hold z σ k) ts = some (cellsL as, S) → ts = cellsL as := by
    intro k as
    induction as with
    | nil => intro ts S h; have := frzL_length h; exact List.length_eq_zero_iff.1 (by simpa [cellsL] using this.symm)
    | cons x as ih =>
      intro ts S h
      have h : frzL (hold z σ k) ts = some (.int .u8 x.v :: cellsL as, S) := h
      cases ts with
      | nil => simp [frzL] at h
      | cons t ts =>
        simp only [frzL] at h
        obtain ⟨⟨p1, p2⟩, q1, q2⟩ := Option.bind_eq_some_iff.1 h
        obtain ⟨⟨r1, r2⟩, q3, q4⟩ := Option.map_eq_some_iff.1 q2
        injection q4 with q4 _
        injection q4 with e1 e2
        subst e1; subst e2
        have := leaf_int (z := z) (k := .u8) (n := x.v) σ k t p2 q1
        rw [this, ih ts r2 q3]; rfl
  have hconv : convA P none σ src dst t1 = some (.str r, σ) := by
    subst h5
    rcases hold_top ht h2 with ⟨rfl, hz, hn0, hcs, rfl⟩ | ⟨rfl, hz, hn0, hcs, rfl⟩ | ⟨hzz, x', B, S', k'', rfl, hB, c1, c3, c5, c6, c7, h3', rfl⟩
    · exact convA_to ht h1 he h3 (n := 0) (cs := []) rfl rfl (hof _ hcs.symm)
    · exact convA_to ht h1 he h3 (n := 0) (cs := []) rfl rfl (hof _ hcs.symm)
    · have e1 : (B.cells.drop 0).take (a.l.length * B.esz) = B.cells := by rw [List.drop_zero, ← c5, List.take_length]
      have e2 : B.cells = cellsL a.l := leaf _ _ _ h3'
      refine convA_to ht h1 he h3 (n := a.l.length) (cs := B.cells) ?_ (by rw [e2, cellsL_len, hone, Nat.mul_one]) (hof _ e2)
      simp only [cellsOf, hB, Option.bind_some, if_pos c3, e1]
  refine x_new (v := .str r) (σ' := σ) (want_sound hS hw) (by rw [a_convert, gE_sound hS hx, Option.bind_some, hconv]; rfl) ?_
  rw [put_eq]
  exact k _ (sub_putL hS d _ σ)
end

/-! ### a slice inside of a held slice, on its own -/
theorem hold_isTop {σ : St} {k : Nat} {t : T} {z : Bool} {n : Nat} {cs : List T} {S : List Nat} (h : hold true σ k t = some (.row z n cs, S)) : isTop t = true := by
  cases t with
  | row zz m us => cases zz <;> cases m <;> cases us <;> first | rfl | (cases k <;> simp [hold] at h)
  | agg us => cases k <;> simp [hold] at h
  | tup us => cases k <;> simp [hold] at h
  | ref b e off n => rfl
  | emp => rfl
  | _ => cases k <;> simp [hold] at h
section
variable {P : Program} {O : Oracle}
variable {ops : Array Oper} {m : Mo} {l : List Oper} {K : Fr → Prop} {s : Nat → T} {σ σ0 : St} {L : List (Nat × T)} {es ents : List Ent}
variable {d : Option Nat} {ty : TypeId} {ps : String} {af : Array Edge} {g : Option (Nat × Bool)}
/-- A slice inside of a held slice as an entry of its own, while the other blocks stay. -/
theorem Heap.lens {α β : Type} [Enc α] [Enc β] {w : Nat} {t1 : T} {a : Sl α} {j : Int} {y : α} {b ep off : Nat} {c : List T} {q : Sl β} (hH : Heap σ0 σ (.own true w t1 a.t :: es)) (hr : t1 = .ref b ep 0 a.l.length)
    (hy : elt a j = some y) (hc : Enc.cells y = c) (hv : c[off]? = some q.t) :
    ∃ F t' B S', IsOne t' ∧ Heap σ0 σ (.own true 0 t' q.t :: .keep F σ :: es) ∧
      (∀ (σ1 : St) (es1 : List Ent) (q' : Sl β) (y' : α), Enc.cells y' = c.take off ++ q'.t :: c.drop (off + 1) → Heap σ0 σ1 (.own true 0 t' q'.t :: .keep F σ :: es1) → Heap σ0 σ1 (.own true w t1 (setS a j y').t :: es1)) ∧
      (∀ (σ1 : St) (es1 : List Ent), Heap σ0 σ1 (.own true 0 t' q.t :: .keep F σ :: es1) → Heap σ0 σ1 (.own true w t1 a.t :: es1)) ∧
      (∀ (σ1 : St) (es1 : List Ent) (w2 : Nat) (t2 : T) (q2 : Sl β) (y' : α), Enc.cells y' = c.take off ++ q2.t :: c.drop (off + 1) → Heap σ0 σ1 (.own true w2 t2 q2.t :: .keep F σ :: es1) → ∃ B1, σ1.blk b = some B1 ∧ B1.st = true ∧ ep = B1.ep ∧ j.toNat * Enc.w α + off + 1 ≤ B1.cells.length ∧ Heap σ0 (σ1.set b { B1 with cells := splice B1.cells (j.toNat * Enc.w α + off) [t2], low := B1.ep, ver := B1.ver + 1 }) (.own true w t1 (setS a j y').t :: es1)) ∧
      b ∈ F ∧ σ.blk b = some B ∧ ep = B.ep ∧ B.low ≤ B.ep ∧ B.cells.drop (j.toNat * Enc.w α + off) = t' :: B.cells.drop (j.toNat * Enc.w α + off + 1) ∧ B.cells.all T.one = true ∧ ∃ k, frzL (hold true σ k) B.cells = some (cellsL a.l, S') := by
  obtain ⟨q1, q2, q3⟩ := elt_some hy
  obtain ⟨S, ⟨ht, hwd, k', h2⟩, hnd0, _⟩ := hH.head
  have ea : a.t = .row a.z a.l.length (cellsL a.l) := rfl
  rw [ea] at h2
  rcases hold_top ht h2 with ⟨rfl, hz, hn0, hcs, rfl⟩ | ⟨rfl, hz, hn0, hcs, rfl⟩ | ⟨hzz, x', B, S', k'', rfl, hB, c1, c3, c5, c6, c7, h3, rfl⟩
  · cases hr
  · cases hr
  injection hr with e1 e2 _ _
  subst e1; subst e2
  obtain ⟨pos, hpos⟩ : ∃ pos, pos = j.toNat * Enc.w α + off := ⟨_, rfl⟩
  have hoff : off < c.length := (List.getElem?_eq_some_iff.1 hv).1
  have hcl : c.length = Enc.w α := by rw [← hc, Enc.len]
  have hdrop : (cellsL a.l).drop pos = q.t :: (cellsL a.l).drop (pos + 1) := by
    have hd := cellsL_at a.l j.toNat y q3
    rw [hc] at hd
    have e : ∀ m, (cellsL a.l).drop (j.toNat * Enc.w α + m) = (c ++ cellsL (a.l.drop (j.toNat + 1))).drop m := fun m => by rw [← List.drop_drop, hd]
    rw [hpos, e off, Nat.add_assoc, e (off + 1), List.drop_eq_getElem_cons (by simp; omega)]
    congr 1
    rw [List.getElem_append_left hoff]
    exact (List.getElem?_eq_some_iff.1 hv).2
  obtain ⟨G1, G2, rfl, h4, h5⟩ := frzL_split pos h3
  rw [hdrop] at h5
  have hlen : B.cells.drop pos ≠ [] := fun h => by rw [h] at h5; simp [frzL] at h5
  obtain ⟨t', cr, hcr⟩ := List.exists_cons_of_ne_nil hlen
  have hcr2 : cr = B.cells.drop (pos + 1) := by rw [← List.drop_drop, hcr]; rfl
  rw [hcr] at h5
  simp only [frzL] at h5
  obtain ⟨⟨v0, G3⟩, h6, h7⟩ := Option.bind_eq_some_iff.1 h5
  obtain ⟨⟨vs, G4⟩, h8, h9⟩ := Option.map_eq_some_iff.1 h7
  injection h9 with h9 h10; injection h9 with h9 h11
  subst h9; subst h10; subst h11
  have htop : isTop t' = true := hold_isTop h6
  have hperm : ∀ X : List Nat, (X ++ (x' :: (G1 ++ G4))).Perm (x' :: (G1 ++ (X ++ G4))) := fun X =>
    List.perm_middle.trans (List.Perm.cons _ (by rw [← List.append_assoc, ← List.append_assoc]; exact List.perm_append_comm.append_right _))
  have hcells : ∀ (q' : Sl β) (y' : α), Enc.cells y' = c.take off ++ q'.t :: c.drop (off + 1) → cellsL (setS a j y').l = (cellsL a.l).take pos ++ ([q'.t] ++ (cellsL a.l).drop (pos + 1)) := fun q' y' hy' => by
    simp only [setS]
    rw [cellsL_set a.l j.toNat y y' q3, hy', hpos]
    have hd := cellsL_at a.l j.toNat y q3
    rw [hc] at hd
    have hsplit : cellsL a.l = (cellsL a.l).take (j.toNat * Enc.w α) ++ (c ++ cellsL (a.l.drop (j.toNat + 1))) := by rw [← hd, List.take_append_drop]
    have hl0 : ((cellsL a.l).take (j.toNat * Enc.w α)).length = j.toNat * Enc.w α := by
      rw [List.length_take, cellsL_len]
      have : (j.toNat + 1) * Enc.w α ≤ a.l.length * Enc.w α := Nat.mul_le_mul_right _ (by omega)
      rw [Nat.succ_mul] at this; omega
    generalize (cellsL a.l).take (j.toNat * Enc.w α) = A at hsplit hl0
    generalize cellsL (a.l.drop (j.toNat + 1)) = R at hsplit
    rw [hsplit]
    have := splice_row A c R [q'.t] (j.toNat * Enc.w α) off 1 (Enc.w α) hl0 hcl (by omega)
    simp only [List.append_assoc, List.singleton_append, List.cons_append, List.nil_append, List.drop_drop] at this ⊢
    rw [this]
  have hclose : ∀ (σ1 : St) (es1 : List Ent) (q' : Sl β) (y' : α), Enc.cells y' = c.take off ++ q'.t :: c.drop (off + 1) → Heap σ0 σ1 (.own true 0 t' q'.t :: .keep (x' :: (G1 ++ G4)) σ :: es1) → Heap σ0 σ1 (.own true w (.ref x' B.ep 0 a.l.length) (setS a j y').t :: es1) := by
    intro σ1 es1 q' y' hy' hH1
    refine Heap.step (es1 := [.own true 0 t' q'.t, .keep (x' :: (G1 ++ G4)) σ]) (es2 := [.own true w (.ref x' B.ep 0 a.l.length) (setS a j y').t]) (es := es1) hH1 (Nat.le_refl _) fun F hF hnd hbd => ?_
    obtain ⟨S1, F1, rfl, ⟨_, _, k5, h12⟩, S2, F2, rfl, ⟨rfl, hkeep⟩, hnil⟩ := hF
    cases hnil
    rw [List.append_nil] at hnd
    have hkeep := fun b hb => (hkeep b hb).1
    have cg : ∀ {ts ws : List T} {G : List Nat}, (∀ x ∈ G, x ∈ G1 ++ G4) → frzL (hold true σ k'') ts = some (ws, G) → frzL (hold true σ1 k'') ts = some (ws, G) := fun hG h =>
      frzL_congr (fun t v S'' _ hq hq2 => hold_same k'' t v S'' (fun x hx => hkeep x (by simp only [List.mem_cons]; exact .inr (hG _ (hq2 _ hx)))) hq) h
    have r1 := cg (fun x hx => by simp [hx]) h4
    have r2 := cg (fun x hx => by simp [hx]) h8
    have r0 : frzL (hold true σ1 k5) [t'] = some ([q'.t], S1) := by simp [frzL, h12]
    have r3 := frzL_append (frzLh_mono (Nat.le_max_left k'' k5) r1) (frzL_append (frzLh_mono (Nat.le_max_right k'' k5) r0) (frzLh_mono (Nat.le_max_left k'' k5) r2))
    have hB1 : σ1.blk x' = some B := by rw [hkeep x' (by simp), hB]
    refine ⟨x' :: (G1 ++ (S1 ++ G4)), ⟨x' :: (G1 ++ (S1 ++ G4)), [], by simp, ⟨rfl, fun b e o n B' h hB' hw0 => ?_, max k'' k5 + 1, ?_⟩, rfl⟩, (hperm S1).nodup_iff.1 hnd, fun b hb => .inl ?_, fun _ _ _ => rfl⟩
    · injection h with h; subst h
      rw [hB1] at hB'; injection hB' with hB'; subst hB'
      exact hwd _ _ _ _ _ rfl hB hw0
    · have hll : (setS a j y').l.length = a.l.length := by simp [setS]
      have e3 : List.take pos B.cells ++ ([t'] ++ cr) = B.cells := by
        rw [List.singleton_append, ← hcr, List.take_append_drop]
      rw [e3] at r3
      have hz : (setS a j y').z = false := hzz
      simp only [hold, hB1, Option.bind_some, Sl.t, hll, hcells q' y' hy', hz]
      rw [if_pos ⟨fun _ => c1 rfl, trivial, c3, trivial, c5, c6, c7, by omega⟩, r3]; rfl
    · rw [List.append_nil]; exact (hperm S1).mem_iff.2 hb
  have hput : ∀ (σ1 : St) (es1 : List Ent) (w2 : Nat) (t2 : T) (q2 : Sl β) (y' : α), Enc.cells y' = c.take off ++ q2.t :: c.drop (off + 1) → Heap σ0 σ1 (.own true w2 t2 q2.t :: .keep (x' :: (G1 ++ G4)) σ :: es1) → ∃ B1, σ1.blk x' = some B1 ∧ B1.st = true ∧ B.ep = B1.ep ∧ j.toNat * Enc.w α + off + 1 ≤ B1.cells.length ∧ Heap σ0 (σ1.set x' { B1 with cells := splice B1.cells (j.toNat * Enc.w α + off) [t2], low := B1.ep, ver := B1.ver + 1 }) (.own true w (.ref x' B.ep 0 a.l.length) (setS a j y').t :: es1) := by
    intro σ1 es1 w2 t2 q2 y' hy' hH1
    have hB1 : σ1.blk x' = some B := by
      obtain ⟨Sk, ⟨rfl, hkp⟩, _⟩ := (hH1.at 1 rfl).head
      rw [(hkp x' (by simp)).1, hB]
    have hplen : pos + 1 ≤ B.cells.length := by
      have := congrArg List.length hcr
      simp only [List.length_drop, List.length_cons] at this; omega
    refine ⟨B, hB1, c1 rfl, rfl, by rw [← hpos]; exact hplen, ?_⟩
    rw [← hpos]
    refine Heap.step (es1 := [.own true w2 t2 q2.t, .keep (x' :: (G1 ++ G4)) σ]) (es2 := [.own true w (.ref x' B.ep 0 a.l.length) (setS a j y').t]) (es := es1) hH1 (by simp) fun F hF hnd hbd => ?_
    obtain ⟨S1, F1, rfl, ⟨htop2, _, k5, h12⟩, S2, F2, rfl, ⟨rfl, hkeep⟩, hnil⟩ := hF
    cases hnil
    rw [List.append_nil] at hnd
    have hkeep := fun b hb => (hkeep b hb).1
    obtain ⟨n1, n2, n3⟩ := List.nodup_append.1 hnd
    have hx1 : x' ∉ S1 := fun h => n3 x' h x' (by simp) rfl
    have hx2 : x' ∉ G1 ++ G4 := (List.nodup_cons.1 n2).1
    have hs : ∀ b, b ≠ x' → (σ1.set x' { B with cells := splice B.cells pos [t2], low := B.ep, ver := B.ver + 1 }).blk b = σ1.blk b := fun b hb => by rw [set_blk, if_neg hb]
    have cg : ∀ {ts ws : List T} {G : List Nat}, (∀ x ∈ G, x ∈ G1 ++ G4) → frzL (hold true σ k'') ts = some (ws, G) → frzL (hold true (σ1.set x' { B with cells := splice B.cells pos [t2], low := B.ep, ver := B.ver + 1 }) k'') ts = some (ws, G) := fun hG h =>
      frzL_congr (fun t v S'' _ hq hq2 => hold_same k'' t v S'' (fun x hx => by
        have hxG := hG _ (hq2 _ hx)
        rw [hs x fun e => by subst e; exact hx2 hxG]
        exact hkeep x (by simp only [List.mem_cons]; exact .inr hxG)) hq) h
    have r1 := cg (fun x hx => by simp [hx]) h4
    have r2 := cg (fun x hx => by simp [hx]) h8
    have h13 : hold true (σ1.set x' { B with cells := splice B.cells pos [t2], low := B.ep, ver := B.ver + 1 }) k5 t2 = some (q2.t, S1) := hold_same k5 t2 q2.t S1 (fun x hx => hs x fun e => by subst e; exact hx1 hx) h12
    have r0 : frzL (hold true (σ1.set x' { B with cells := splice B.cells pos [t2], low := B.ep, ver := B.ver + 1 }) k5) [t2] = some ([q2.t], S1) := by
      simp only [frzL, h13, Option.bind_some, Option.map_some, List.append_nil]
    have r3 := frzL_append (frzLh_mono (Nat.le_max_left k'' k5) r1) (frzL_append (frzLh_mono (Nat.le_max_right k'' k5) r0) (frzLh_mono (Nat.le_max_left k'' k5) r2))
    refine ⟨x' :: (G1 ++ (S1 ++ G4)), ⟨x' :: (G1 ++ (S1 ++ G4)), [], by simp, ⟨rfl, fun b e o n B' h hB' hw0 => ?_, max k'' k5 + 1, ?_⟩, rfl⟩, (hperm S1).nodup_iff.1 hnd, fun b hb => .inl ?_, fun b hb hm => hs b fun e => hm (by simp [e])⟩
    · injection h with h; subst h
      rw [set_blk_self] at hB'; injection hB' with hB'; subst hB'
      exact hwd _ _ _ _ B rfl hB hw0
    · have hll : (setS a j y').l.length = a.l.length := by simp [setS]
      have e3 : splice B.cells pos [t2] = List.take pos B.cells ++ ([t2] ++ cr) := by
        unfold splice; rw [hcr2, List.append_assoc]; rfl
      have hz : (setS a j y').z = false := hzz
      have hone := (isTop_one htop2).2
      have hall : (List.take pos B.cells ++ ([t2] ++ cr)).all T.one = true := by
        rw [List.all_eq_true] at c7
        rw [List.all_eq_true]
        intro x hx
        rcases List.mem_append.1 hx with hx | hx
        · exact c7 x (List.mem_of_mem_take hx)
        · rcases List.mem_cons.1 (show x ∈ t2 :: cr from hx) with rfl | hx
          · exact hone
          · rw [hcr2] at hx; exact c7 x (List.mem_of_mem_drop hx)
      have hlen2 : (List.take pos B.cells ++ ([t2] ++ cr)).length = a.l.length * B.esz := by
        rw [← c5, hcr2]; simp only [List.length_append, List.length_take, List.length_drop, List.length_singleton]; omega
      simp only [hold, set_blk_self, Option.bind_some, Sl.t, hll, hcells q2 y' hy', hz]
      rw [e3] at r3 ⊢
      rw [if_pos ⟨fun _ => c1 rfl, trivial, Nat.le_refl _, trivial, hlen2, c6, hall, by omega⟩, r3]; rfl
    · rw [List.append_nil]; exact (hperm S1).mem_iff.2 hb
  have hsame : setS a j y = a := by
    obtain ⟨z, l⟩ := a
    simp only [setS]
    congr 1
    obtain ⟨hi, hy'⟩ := List.getElem?_eq_some_iff.1 q3
    rw [← hy']; exact List.set_getElem_self hi
  have hcy : Enc.cells y = c.take off ++ q.t :: c.drop (off + 1) := by
    obtain ⟨ho, hv'⟩ := List.getElem?_eq_some_iff.1 hv
    rw [hc, ← hv', List.getElem_cons_drop, List.take_append_drop]
  refine ⟨x' :: (G1 ++ G4), t', B, G1 ++ (G3 ++ G4), isTop_one htop, ?_, hclose, fun σ1 es1 hh => by have := hclose σ1 es1 q y hcy hh; rwa [hsame] at this, hput, by simp, hB, rfl, c3, ?_, c7, k'', h3⟩
  · refine Heap.step (es1 := [.own true w (.ref x' B.ep 0 a.l.length) a.t]) (es2 := [.own true 0 t' q.t, .keep (x' :: (G1 ++ G4)) σ]) (es := es) hH (Nat.le_refl _) fun F hF hnd hbd => ?_
    obtain ⟨S1, F1, rfl, ⟨_, _, k5, h12⟩, hnil⟩ := hF
    cases hnil
    have : S1 = x' :: (G1 ++ (G3 ++ G4)) := by
      have e1 := hold_mono k' _ _ _ h2 (max k' k5) (Nat.le_max_left _ _)
      have e2 := hold_mono k5 _ _ _ h12 (max k' k5) (Nat.le_max_right _ _)
      rw [ea, e1] at e2; injection e2 with e2; injection e2 with _ e2; exact e2.symm
    subst this
    rw [List.append_nil] at hnd
    have hsome : ∀ b ∈ x' :: (G1 ++ G4), (σ.blk b).isSome = true := fun b hb => hold_some h12 b (by simp only [List.mem_cons, List.mem_append] at hb ⊢; rcases hb with h | h | h <;> simp [h])
    refine ⟨G3 ++ ((x' :: (G1 ++ G4)) ++ []), ⟨G3, _, rfl, ⟨htop, fun _ _ _ _ _ _ _ h => absurd rfl h, k'', h6⟩, _, [], rfl, ⟨rfl, fun b hb => ⟨rfl, hsome b hb⟩⟩, rfl⟩, ?_, fun b hb => .inl ?_, fun _ _ _ => rfl⟩
    · rw [List.append_nil]; exact (hperm G3).nodup_iff.2 hnd
    · rw [List.append_nil] at hb; rw [List.append_nil]; exact (hperm G3).mem_iff.1 hb
  · rw [← hpos, hcr, hcr2]
/-- An element's field that is a slice. -/
theorem q_hlens {α β : Type} [Enc α] [Enc β] {w : Nat} {m : Mo} {ad : Operand} {t : TypeId} {t1 : T} {a : Sl α} {j : Int} {y : α} {b ep off n : Nat} {c : List T} {q : Sl β} (hm : ∀ b e o n, t1 = .ref b e o n → m.lt b) (hw : want ops L g = some true) (hS : Sub L s) (hH : Heap σ0 σ (.own true w t1 a.t :: es)) (hr : t1 = .ref b ep 0 a.l.length)
    (ha : gE (get L) ad = some (.ptr b ep (j.toNat * Enc.w α + off) n)) (hy : elt a j = some y) (hc : Enc.cells y = c) (hag : aggOf P t = some false) (hv : c[off]? = some q.t) (hn : Nat.ble 1 n = true)
    (k : ∀ F σk t' s', IsOne t' → Heap σ0 σ (.own true 0 t' q.t :: .keep F σk :: es) →
      (∀ (σ1 : St) (es1 : List Ent) (q' : Sl β) (y' : α), Enc.cells y' = c.take off ++ q'.t :: c.drop (off + 1) → Heap σ0 σ1 (.own true 0 t' q'.t :: .keep F σk :: es1) → Heap σ0 σ1 (.own true w t1 (setS a j y').t :: es1)) →
      (∀ (σ1 : St) (es1 : List Ent), Heap σ0 σ1 (.own true 0 t' q.t :: .keep F σk :: es1) → Heap σ0 σ1 (.own true w t1 a.t :: es1)) →
      (∀ (σ1 : St) (es1 : List Ent) (w2 : Nat) (t2 : T) (q2 : Sl β) (y' : α), Enc.cells y' = c.take off ++ q2.t :: c.drop (off + 1) → Heap σ0 σ1 (.own true w2 t2 q2.t :: .keep F σk :: es1) → ∃ B1, σ1.blk b = some B1 ∧ B1.st = true ∧ ep = B1.ep ∧ j.toNat * Enc.w α + off + 1 ≤ B1.cells.length ∧ Heap σ0 (σ1.set b { B1 with cells := splice B1.cells (j.toNat * Enc.w α + off) [t2], low := B1.ep, ver := B1.ver + 1 }) (.own true w t1 (setS a j y').t :: es1)) →
      Heap σ0 σk (.own true w t1 a.t :: es) → b ∈ F →
      Sub (putL L d t') s' → opsX P O ops (nxM m) l K ⟨s', σ⟩) : opsX P O ops m (⟨d, .load t ad, ty, ps, af, g⟩ :: l) K ⟨s, σ⟩ := by
  obtain ⟨F, t', B, S', h1, h2, h3, h4, hput, hbF, h5, rfl, h7, h8, _⟩ := Heap.lens hH hr hy hc hv
  refine q_val hw hS (fun kk σ' ha' => ?_) (fun s' => k F σ t' s' h1 h2 h3 h4 hput hH hbF)
  subst hr
  rw [a_load, gE_sound hS ha, Option.bind_some, loadA_ptr, Mo.al_blk ha' (hm _ _ _ _ rfl), h5, Option.bind_some, if_pos h7, part_eq, hag, Option.bind_some, partA_false, h8]
  have := Nat.le_of_ble_eq_true hn
  obtain ⟨n, rfl⟩ : ∃ k, n = k + 1 := ⟨n - 1, by omega⟩
  simp
/-- The slice inside of the slice is put back, as it is now. -/
theorem q_hlstore {α β : Type} [Enc α] [Enc β] {w w2 : Nat} {m : Mo} (hm : m.chg = true) {ad x : Operand} {t : TypeId} {t1 t2 : T} {a : Sl α} {j : Int} {b ep off n : Nat} {c : List T} {q2 : Sl β} {F : List Nat} {σk : St} (y' : α) (hwr : m.wr b) (hw : want ops L g = some true) (hS : Sub L s)
    (hput : ∀ (σ1 : St) (es1 : List Ent) (w2 : Nat) (t2 : T) (q2 : Sl β) (y' : α), Enc.cells y' = c.take off ++ q2.t :: c.drop (off + 1) → Heap σ0 σ1 (.own true w2 t2 q2.t :: .keep F σk :: es1) → ∃ B1, σ1.blk b = some B1 ∧ B1.st = true ∧ ep = B1.ep ∧ j.toNat * Enc.w α + off + 1 ≤ B1.cells.length ∧ Heap σ0 (σ1.set b { B1 with cells := splice B1.cells (j.toNat * Enc.w α + off) [t2], low := B1.ep, ver := B1.ver + 1 }) (.own true w t1 (setS a j y').t :: es1))
    (hH : Heap σ0 σ (.own true w2 t2 q2.t :: .keep F σk :: es)) (ha : gE (get L) ad = some (.ptr b ep (j.toNat * Enc.w α + off) n)) (hx : gE (get L) x = some t2) (hone : IsOne t2) (hsz : szOf P t = some 1) (hn : Nat.ble 1 n = true) (hy' : Enc.cells y' = c.take off ++ q2.t :: c.drop (off + 1))
    (k : ∀ σ' s', Heap σ0 σ' (.own true w t1 (setS a j y').t :: es) → Sub (putL L d (.tup [])) s' → opsX P O ops (nxM m) l K ⟨s', σ'⟩) : opsX P O ops m (⟨d, .store t ad x, ty, ps, af, g⟩ :: l) K ⟨s, σ⟩ := by
  obtain ⟨B1, p1, p2, rfl, p4, p5⟩ := hput σ es w2 t2 q2 y' hy' hH
  refine x_skipC (σ' := σ.set b { B1 with cells := splice B1.cells (j.toNat * Enc.w α + off) [t2], low := B1.ep, ver := B1.ver + 1 }) hm rfl (want_sound hS hw) (fun kk => ?_) (fun kk => ⟨Nat.le_refl _, fun y _ _ => ?_⟩) ?_
  · rw [a_store, gE_sound hS ha, Option.bind_some, gE_sound hS hx, Option.bind_some, storeA_ptr, p1, Option.bind_some, hsz, Option.bind_some, hone.1, if_pos ⟨p2, rfl, rfl, Nat.le_of_ble_eq_true hn, p4, by simp [hone.2]⟩]; rfl
  · rw [set_blk]; split
    · rename_i e; subst e; exact .inr ⟨hwr, by rw [p1]; rfl⟩
    · exact .inl rfl
  · rw [put_eq]; exact k _ _ p5 (sub_putL hS d _ σ)
/-- A held slice's width, by what it shows. -/
theorem Heap.width {α : Type} [Enc α] {z : Bool} {w : Nat} {t1 : T} {a : Sl α} (h : Heap σ0 σ (.own z w t1 a.t :: es)) : Heap σ0 σ (.own z (Enc.w α) t1 a.t :: es) :=
  Heap.step (es1 := [.own z w t1 a.t]) (es2 := [.own z (Enc.w α) t1 a.t]) (es := es) h (Nat.le_refl _) fun S hS hnd hbd => by
    obtain ⟨S1, F1, rfl, ⟨ht, hwd, k, h2⟩, hnil⟩ := hS
    refine ⟨S1 ++ F1, ⟨S1, F1, rfl, ⟨ht, fun b e o n B hr hB hw0 => ?_, k, h2⟩, hnil⟩, hnd, fun b hb => .inl hb, fun _ _ _ => rfl⟩
    subst hr
    cases k with
    | zero => cases h2
    | succ k =>
      have h2 : hold z σ (k + 1) (.ref b e o n) = some (.row a.z a.l.length (cellsL a.l), S1) := h2
      simp only [hold, hB, Option.bind_some] at h2
      split at h2
      · rename_i hc
        obtain ⟨⟨us, S2⟩, h3, h4⟩ := Option.map_eq_some_iff.1 h2
        injection h4 with h4 _; injection h4 with _ e2 e3
        subst e2; subst e3
        exact hold_esz hc.2.2.2.2.1 h3 (by have := hc.2.2.2.2.2.2.2; omega)
      · cases h2
/-- A part of an element, while a slice of it is an entry of its own. -/
theorem q_hloadK {α : Type} [Enc α] {w : Nat} {m : Mo} {ad : Operand} {t : TypeId} {t1 : T} {a : Sl α} {j : Int} {y : α} {b ep off n : Nat} {c : List T} {v : T} {F : List Nat} {σk : St} {es0 : List Ent} (hm : ∀ b e o n, t1 = .ref b e o n → m.lt b) (i : Nat) (hw : want ops L g = some true) (hS : Sub L s) (hH0 : Heap σ0 σk (.own true w t1 a.t :: es0)) (hbF : b ∈ F)
    (hH : Heap σ0 σ es) (hi : es[i]? = some (.keep F σk)) (hr : t1 = .ref b ep 0 a.l.length)
    (ha : gE (get L) ad = some (.ptr b ep (j.toNat * Enc.w α + off) n)) (hy : elt a j = some y) (hc : Enc.cells y = c) (hag : aggOf P t = some false) (hv : c[off]? = some v) (hn : Nat.ble 1 n = true) (hlf : ∀ σ d t S, hold true σ d t = some (v, S) → t = v)
    (k : ∀ s', Sub (putL L d v) s' → opsX P O ops (nxM m) l K ⟨s', σ⟩) : opsX P O ops m (⟨d, .load t ad, ty, ps, af, g⟩ :: l) K ⟨s, σ⟩ := by
  obtain ⟨q1, q2, q3⟩ := elt_some hy
  obtain ⟨S, ⟨ht, hwd, k', h2⟩, _, _⟩ := hH0.head
  obtain ⟨Sk, ⟨rfl, hkeep⟩, _⟩ := (hH.at i hi).head
  have ea : a.t = .row a.z a.l.length (cellsL a.l) := rfl
  rw [ea] at h2
  rcases hold_top ht h2 with ⟨rfl, hz, hn0, hcs, rfl⟩ | ⟨rfl, hz, hn0, hcs, rfl⟩ | ⟨hzz, x', B, S', k'', rfl, hB, c1, c3, c5, c6, c7, h3, rfl⟩
  · cases hr
  · cases hr
  · injection hr with e1 e2 _ _
    subst e1; subst e2
    obtain ⟨F1, F2, _, _, h5⟩ := frzL_split (j.toNat * Enc.w α) h3
    rw [cellsL_at a.l j.toNat y q3, hc] at h5
    obtain ⟨F3, F4, _, _, h6⟩ := frzL_split off h5
    have hoff : off < c.length := (List.getElem?_eq_some_iff.1 hv).1
    have e1 : (c ++ cellsL (a.l.drop (j.toNat + 1))).drop off = v :: ((c ++ cellsL (a.l.drop (j.toNat + 1))).drop (off + 1)) := by
      rw [List.drop_eq_getElem_cons (by simp; omega)]
      congr 1
      rw [List.getElem_append_left hoff]
      exact (List.getElem?_eq_some_iff.1 hv).2
    rw [e1, List.drop_drop] at h6
    have hlen : (B.cells.drop (j.toNat * Enc.w α + off)) ≠ [] := fun h => by rw [h] at h6; simp [frzL] at h6
    obtain ⟨c0, cr, hcr⟩ := List.exists_cons_of_ne_nil hlen
    rw [hcr] at h6
    simp only [frzL] at h6
    obtain ⟨p, h7, h8⟩ := Option.bind_eq_some_iff.1 h6
    obtain ⟨q, h9, h10⟩ := Option.map_eq_some_iff.1 h8
    injection h10 with h10 _
    injection h10 with h10 _
    have hcv : c0 = v := hlf σk k'' c0 p.2 (by rw [h7, ← h10])
    refine q_val hw hS (fun kk σ' ha' => ?_) k
    rw [a_load, gE_sound hS ha, Option.bind_some, loadA_ptr, Mo.al_blk ha' (hm _ _ _ _ rfl), (hkeep x' hbF).1, hB, Option.bind_some, if_pos c3, part_eq, hag, Option.bind_some, partA_false, hcr, hcv]
    have := Nat.le_of_ble_eq_true hn
    obtain ⟨n, rfl⟩ : ∃ k, n = k + 1 := ⟨n - 1, by omega⟩
    simp
/-- An element's address, beside a slice that was taken out of the row. -/
theorem q_hidxK {α : Type} [Enc α] {w : Nat} {m : Mo} {x ix : Operand} {t e : TypeId} {t1 : T} {a : Sl α} {kk : IntKind} {j : Int} {y : α} {b ep : Nat} {F : List Nat} {σk : St} {es0 : List Ent} (hm : ∀ b e o n, t1 = .ref b e o n → m.lt b) (i : Nat) (hw : want ops L g = some true) (hS : Sub L s) (hH0 : Heap σ0 σk (.own true w t1 a.t :: es0)) (hbF : b ∈ F)
    (hH : Heap σ0 σ es) (hi : es[i]? = some (.keep F σk)) (hr : t1 = .ref b ep 0 a.l.length) (hx : gE (get L) x = some t1) (hix : gE (get L) ix = some (.int kk j))
    (he : elemOfSl P t = some e) (hz : szOf P e = some (Enc.w α)) (hy : elt a j = some y)
    (k : ∀ s', Sub (putL L d (.ptr b ep (j.toNat * Enc.w α) (Enc.w α))) s' → opsX P O ops (nxM m) l K ⟨s', σ⟩) : opsX P O ops m (⟨d, .indexAddr t x ix, ty, ps, af, g⟩ :: l) K ⟨s, σ⟩ := by
  obtain ⟨q1, q2, q3⟩ := elt_some hy
  obtain ⟨S, ⟨ht, hwd, k', h2⟩, _, _⟩ := hH0.head
  obtain ⟨Sk, ⟨rfl, hkeep⟩, _⟩ := (hH.at i hi).head
  have ea : a.t = .row a.z a.l.length (cellsL a.l) := rfl
  rw [ea] at h2
  rcases hold_top ht h2 with ⟨rfl, hz, hn0, hcs, rfl⟩ | ⟨rfl, hz, hn0, hcs, rfl⟩ | ⟨hzz, x', B, S', k'', rfl, hB, c1, c3, c5, c6, c7, h3, rfl⟩
  · cases hr
  · cases hr
  · injection hr with e1 e2 _ _
    subst e1; subst e2
    refine q_val hw hS (fun kk σ' ha' => ?_) k
    rw [a_indexAddr, gE_sound hS hx, Option.bind_some, gE_sound hS hix, Option.bind_some, iA_ref, he, Option.bind_some, hz, Option.bind_some, Mo.al_blk ha' (hm _ _ _ _ rfl), (hkeep x' hbF).1, hB, Option.bind_some, if_pos ⟨q1, q2, hold_esz c5 h3 (by omega)⟩, Nat.zero_add]; rfl
theorem Heap.width0 {z : Bool} {w : Nat} {t v : T} (h : Heap σ0 σ (.own z w t v :: es)) : Heap σ0 σ (.own z 0 t v :: es) :=
  Heap.step (es1 := [.own z w t v]) (es2 := [.own z 0 t v]) (es := es) h (Nat.le_refl _) fun S hS hnd hbd => by
    obtain ⟨S1, F1, rfl, ⟨ht, hwd, k, h2⟩, hnil⟩ := hS
    exact ⟨S1 ++ F1, ⟨S1, F1, rfl, ⟨ht, fun b e o n B hr hB hw0 => absurd rfl hw0, k, h2⟩, hnil⟩, hnd, fun b hb => .inl hb, fun _ _ _ => rfl⟩
/-- What holds leaves leaves them as they are. -/
def isLeafT : T → Bool
  | .int .. | .bool _ | .str _ => true
  | _ => false
theorem leaf_hold {z : Bool} {σ : St} {d : Nat} {t v : T} {S : List Nat} (hv : isLeafT v = true) (h : hold z σ d t = some (v, S)) : t = v := by
  cases v with
  | int k n => exact leaf_int σ d t S h
  | bool n => exact leaf_bool σ d t S h
  | str n => exact leaf_str σ d t S h
  | _ => cases hv
theorem leaf_holdL {z : Bool} {σ : St} {d : Nat} : ∀ {ts vs : List T} {S : List Nat}, vs.all isLeafT = true → frzL (hold z σ d) ts = some (vs, S) → ts = vs
  | [], vs, S, _, h => by simp only [frzL] at h; injection h with h; injection h
  | t :: ts, vs, S, hv, h => by
    simp only [frzL] at h
    obtain ⟨⟨v, S1⟩, h1, h2⟩ := Option.bind_eq_some_iff.1 h
    obtain ⟨⟨us, S2⟩, h3, h4⟩ := Option.map_eq_some_iff.1 h2
    injection h4 with h4 _; subst h4
    simp only [List.all_cons, Bool.and_eq_true] at hv
    rw [leaf_hold hv.1 h1, leaf_holdL hv.2 h3]
/-- A whole element that has one slice. -/
theorem q_hlensS {α β : Type} [Enc α] [Enc β] {w : Nat} {m : Mo} {ad : Operand} {t : TypeId} {t1 : T} {a : Sl α} {j : Int} {y : α} {b ep off n : Nat} {c : List T} {q : Sl β} (hm : ∀ b e o n, t1 = .ref b e o n → m.lt b) (hw : want ops L g = some true) (hS : Sub L s) (hH : Heap σ0 σ (.own true w t1 a.t :: es)) (hr : t1 = .ref b ep 0 a.l.length)
    (ha : gE (get L) ad = some (.ptr b ep (j.toNat * Enc.w α) n)) (hy : elt a j = some y) (hc : Enc.cells y = c) (hag : aggOf P t = some true) (hsz : szOf P t = some (Enc.w α)) (hv : c[off]? = some q.t) (hn : Nat.ble (Enc.w α) n = true)
    (hl1 : (c.take off).all isLeafT = true) (hl2 : (c.drop (off + 1)).all isLeafT = true)
    (k : ∀ F σk t' s', IsOne t' → Heap σ0 σ (.own true 0 t' q.t :: .keep F σk :: es) →
      (∀ (σ1 : St) (es1 : List Ent) (q' : Sl β) (y' : α), Enc.cells y' = c.take off ++ q'.t :: c.drop (off + 1) → Heap σ0 σ1 (.own true 0 t' q'.t :: .keep F σk :: es1) → Heap σ0 σ1 (.own true w t1 (setS a j y').t :: es1)) →
      (∀ (σ1 : St) (es1 : List Ent), Heap σ0 σ1 (.own true 0 t' q.t :: .keep F σk :: es1) → Heap σ0 σ1 (.own true w t1 a.t :: es1)) →
      (∀ (σ1 : St) (es1 : List Ent) (w2 : Nat) (t2 : T) (q2 : Sl β) (y' : α), Enc.cells y' = c.take off ++ q2.t :: c.drop (off + 1) → Heap σ0 σ1 (.own true w2 t2 q2.t :: .keep F σk :: es1) → ∃ B1, σ1.blk b = some B1 ∧ B1.st = true ∧ ep = B1.ep ∧ j.toNat * Enc.w α + off + 1 ≤ B1.cells.length ∧ Heap σ0 (σ1.set b { B1 with cells := splice B1.cells (j.toNat * Enc.w α + off) [t2], low := B1.ep, ver := B1.ver + 1 }) (.own true w t1 (setS a j y').t :: es1)) →
      Heap σ0 σk (.own true w t1 a.t :: es) → b ∈ F →
      Sub (putL L d (.agg (c.take off ++ t' :: c.drop (off + 1)))) s' → opsX P O ops (nxM m) l K ⟨s', σ⟩) : opsX P O ops m (⟨d, .load t ad, ty, ps, af, g⟩ :: l) K ⟨s, σ⟩ := by
  obtain ⟨F, t', B, S', h1, h2, h3, h4, hput, hbF, h5, rfl, h7, h8, h9, kk0, h10⟩ := Heap.lens hH hr hy hc hv
  obtain ⟨q1, q2, q3⟩ := elt_some hy
  obtain ⟨p, hp⟩ : ∃ p, p = j.toNat * Enc.w α := ⟨_, rfl⟩
  have hoff : off < c.length := (List.getElem?_eq_some_iff.1 hv).1
  have hcl : c.length = Enc.w α := by rw [← hc, Enc.len]
  have hcell : (B.cells.drop p).take (Enc.w α) = c.take off ++ t' :: c.drop (off + 1) := by
    obtain ⟨G1, G2, _, _, e2⟩ := frzL_split p h10
    have hd := cellsL_at a.l j.toNat y q3
    rw [hp, hd, hc] at e2
    obtain ⟨G3, G4, _, e4, e5⟩ := frzL_split (Enc.w α) e2
    have e4' : (c ++ cellsL (a.l.drop (j.toNat + 1))).take (Enc.w α) = c := by rw [← hcl, List.take_left]
    rw [e4'] at e4
    obtain ⟨G5, G6, _, e6, e7⟩ := frzL_split off e4
    have f1 := leaf_holdL hl1 e6
    obtain ⟨G7, G8, _, e8, e9⟩ := frzL_split 1 e7
    rw [List.drop_drop, List.drop_drop] at e9
    have f2 := leaf_holdL hl2 e9
    rw [hp]
    have f3 : ((B.cells.drop (j.toNat * Enc.w α)).take (Enc.w α)).drop off = t' :: ((B.cells.drop (j.toNat * Enc.w α)).take (Enc.w α)).drop (off + 1) := by
      rw [List.drop_take, List.drop_take, List.drop_drop, List.drop_drop, h8, show Enc.w α - off = (Enc.w α - (off + 1)) + 1 by omega, List.take_succ_cons, Nat.add_assoc]
    have f4 := List.take_append_drop off ((B.cells.drop (j.toNat * Enc.w α)).take (Enc.w α))
    rw [f1, f3, f2] at f4
    exact f4.symm
  refine q_val hw hS (fun kk σ' ha' => ?_) (fun s' => k F σ t' s' h1 h2 h3 h4 hput hH hbF)
  have hn := Nat.le_of_ble_eq_true hn
  have hlen : Enc.w α ≤ (B.cells.drop p).length := by
    have e := congrArg List.length hcell
    simp only [List.length_take, List.length_append, List.length_cons, List.length_drop] at e ⊢
    omega
  rw [← hp] at ha
  have hpart : part P t ((B.cells.drop p).take n) 0 = some (.agg (c.take off ++ t' :: c.drop (off + 1))) := by
    unfold part
    rw [hag, Option.bind_some, if_pos rfl, hsz, Option.bind_some, if_pos (by rw [List.length_take]; omega), List.drop_zero, List.take_take, Nat.min_eq_left hn, hcell]
  rw [a_load, gE_sound hS ha, Option.bind_some, loadA_ptr, Mo.al_blk ha' (hm _ _ _ _ hr), h5, Option.bind_some, if_pos h7, hpart]; rfl
end
/-! ### structs that are built of held slices -/
def okPs : List (Nat × T) → List (List T) → Prop
  | [], [] => True
  | (_, v) :: ps, c :: cs => v.cells = c ∧ c.all T.one = true ∧ okPs ps cs
  | _, _ => False
def fillL (place : Nat → Option (Nat × Nat)) (cells : List T) : List (Nat × T) → List (List T) → Option (List T)
  | [], _ => some cells
  | (i, _) :: rest, c :: cs => match place i with
    | some (off, size) => bif Nat.beq c.length size && Nat.ble (off + size) cells.length then fillL place (splice cells off c) rest cs else none
    | none => none
  | _, _ => none
theorem fillA_L {place : Nat → Option (Nat × Nat)} : ∀ {ps : List (Nat × T)} {cs : List (List T)} {cells r : List T}, okPs ps cs → fillL place cells ps cs = some r → fillA place cells ps = some r
  | [], [], cells, r, _, h => h
  | (i, v) :: ps, c :: cs, cells, r, hp, h => by
    obtain ⟨h1, h2, h3⟩ := hp
    simp only [fillL] at h
    split at h
    · rename_i off size hpl
      simp only [fillA, hpl, Option.bind_some, h1]
      cases hb : Nat.beq c.length size && Nat.ble (off + size) cells.length with
      | true =>
        rw [hb] at h
        simp only [Bool.and_eq_true] at hb
        rw [if_pos ⟨Nat.eq_of_beq_eq_true hb.1, Nat.le_of_ble_eq_true hb.2, h2⟩]
        exact fillA_L h3 h
      | false => rw [hb] at h; cases h
    · cases h
  | [], _ :: _, _, _, hp, _ => hp.elim
  | _ :: _, [], _, _, hp, _ => by exact hp.elim
section
variable {P : Program} {O : Oracle}
variable {ops : Array Oper} {m : Mo} {l : List Oper} {K : Fr → Prop} {s : Nat → T} {σ σ0 : St} {L : List (Nat × T)}
variable {d : Option Nat} {ty : TypeId} {ps : String} {af : Array Edge} {g : Option (Nat × Bool)}
theorem q_build {t : TypeId} {parts : Array (Nat × Operand)} {qs : List (Nat × T)} {z r : List T} (cs : List (List T)) (hw : want ops L g = some true) (hS : Sub L s) (hg : gPs (get L) parts.toList = some qs) (hz : zeroOf P t = some z)
    (hk : (Nat.beq (kindT P t) 7 && (fieldsT P t).all (fun f => (szOf P f.type).isSome)) = true) (ho : okPs qs cs) (hf : fillL (fun i => (fieldOf P t i).map fun (o, _, n) => (o, n)) z qs cs = some r)
    (k : ∀ s', Sub (putL L d (.agg r)) s' → opsX P O ops (nxM m) l K ⟨s', σ⟩) : opsX P O ops m (⟨d, .build t parts, ty, ps, af, g⟩ :: l) K ⟨s, σ⟩ := by
  simp only [Bool.and_eq_true] at hk
  refine q_val hw hS (fun kk σ' _ => ?_) k
  show ((zeroOf P t).bind fun z => (evalPs s parts.toList).bind fun ps => if kindT P t = 7 ∧ (fieldsT P t).all (fun f => (szOf P f.type).isSome) = true then ((fillA (fun i => (fieldOf P t i).map fun (o, _, n) => (o, n)) z ps).map .agg).map (fun x => ARes.val x σ') else none) = _
  rw [hz, Option.bind_some, gPs_sound hS hg, Option.bind_some, if_pos ⟨Nat.eq_of_beq_eq_true hk.1, hk.2⟩, fillA_L ho hf]; rfl
end

/-! ### division by a variable -/
def remI (a b : Int) : Option Int := if b = 0 then none else some (a.tmod b)
def quoI (k : IntKind) (a b : Int) : Option Int := if b = 0 then none else some (k.wrap (a.tdiv b))
section
variable {P : Program} {O : Oracle}
variable {ops : Array Oper} {m : Mo} {l : List Oper} {K : Fr → Prop} {s : Nat → T} {σ : St} {L : List (Nat × T)}
variable {d : Option Nat} {ty : TypeId} {ps : String} {af : Array Edge} {g : Option (Nat × Bool)}
theorem q_remO {x y : Operand} {t u : TypeId} {kk : IntKind} {a b r : Int} (hw : want ops L g = some true) (hS : Sub L s) (hx : gE (get L) x = some (.int kk a)) (hy : gE (get L) y = some (.int kk b)) (h : remI a b = some r)
    (k : ∀ s', Sub (putL L d (.int kk r)) s' → opsX P O ops (nxM m) l K ⟨s', σ⟩) : opsX P O ops m (⟨d, .binOp .rem t x y u, ty, ps, af, g⟩ :: l) K ⟨s, σ⟩ := by
  unfold remI at h
  split at h
  · cases h
  · rename_i hb
    injection h with h; subst h
    exact q_val hw hS (fun k' σ' _ => by rw [a_binOp, gE_sound hS hx, Option.bind_some, gE_sound hS hy, Option.bind_some, binA_int, ib_rem, if_neg hb]; rfl) k
theorem q_quoO {x y : Operand} {t u : TypeId} {kk : IntKind} {a b r : Int} (hw : want ops L g = some true) (hS : Sub L s) (hx : gE (get L) x = some (.int kk a)) (hy : gE (get L) y = some (.int kk b)) (h : quoI kk a b = some r)
    (k : ∀ s', Sub (putL L d (.int kk r)) s' → opsX P O ops (nxM m) l K ⟨s', σ⟩) : opsX P O ops m (⟨d, .binOp .quo t x y u, ty, ps, af, g⟩ :: l) K ⟨s, σ⟩ := by
  unfold quoI at h
  split at h
  · cases h
  · rename_i hb
    injection h with h; subst h
    exact q_val hw hS (fun k' σ' _ => by rw [a_binOp, gE_sound hS hx, Option.bind_some, gE_sound hS hy, Option.bind_some, binA_int, ib_quo, if_neg hb]; rfl) k
end
end Go.Am
end
section
set_option linter.unusedVariables false
set_option linter.unusedSimpArgs false
namespace Go.Am


noncomputable def tell (p : Prop) : Option Bool := some (@decide p (Classical.propDecidable p))
theorem tell_t {p : Prop} (h : p) : tell p = some true := by simp [tell, h]
theorem tell_f {p : Prop} (h : ¬ p) : tell p = some false := by simp [tell, h]
def A2 {α : Type} (R : α → α → Prop) : List α → List α → Prop
  | [], [] => True
  | x :: xs, y :: ys => R x y ∧ A2 R xs ys
  | _, _ => False
theorem A2.refl {α : Type} {R : α → α → Prop} : ∀ {l : List α}, (∀ x ∈ l, R x x) → A2 R l l
  | [], _ => trivial
  | x :: xs, h => ⟨h x (by simp), A2.refl (fun y hy => h y (by simp [hy]))⟩
theorem A2.len {α : Type} {R : α → α → Prop} : ∀ {l m : List α}, A2 R l m → l.length = m.length
  | [], [], _ => rfl
  | _ :: xs, _ :: ys, h => by simp [A2.len h.2]
  | [], _ :: _, h => h.elim
  | _ :: _, [], h => h.elim
theorem A2.drop {α : Type} {R : α → α → Prop} {l m : List α} {i : Nat} {x y : α} (hx : l[i]? = some x) (hy : m[i]? = some y) : A2 R (l.drop i) (m.drop i) ↔ R x y ∧ A2 R (l.drop (i + 1)) (m.drop (i + 1)) := by
  obtain ⟨h1, rfl⟩ := List.getElem?_eq_some_iff.1 hx
  obtain ⟨h2, rfl⟩ := List.getElem?_eq_some_iff.1 hy
  rw [List.drop_eq_getElem_cons h1, List.drop_eq_getElem_cons h2]
  exact Iff.rfl
theorem wrap_id {n : Int} (h0 : -9223372036854775808 ≤ n) (h1 : n < 9223372036854775808) : IntKind.i64.wrap n = n := by
  simp only [IntKind.wrap, IntKind.signed, IntKind.bits]
  simp
  omega
theorem elt_nat {α : Type} {s : Sl α} {i : Nat} {x : α} (h : s.l[i]? = some x) : elt s (i : Int) = some x := by
  simp [elt, h]

theorem loop_eq {α : Type} {R : α → α → Prop} {a b : Sl α} {body : Int → Option (Int ⊕ (Unit ⊕ Bool))} (hl : a.l.length = b.l.length)
    (h1 : ∀ (i : Nat) x y, a.l[i]? = some x → b.l[i]? = some y → (R x y → body i = some (.inl ((i : Int) + 1))) ∧ (¬ R x y → body i = some (.inr (.inr false))))
    (h2 : body (a.l.length : Int) = some (.inr (.inl ()))) :
    (A2 R a.l b.l → loopO body 0 = some (.inl ())) ∧ (¬ A2 R a.l b.l → loopO body 0 = some (.inr false)) := by
  suffices H : ∀ (k i : Nat), i + k = a.l.length → (A2 R (a.l.drop i) (b.l.drop i) → loopO body (i : Int) = some (.inl ())) ∧ (¬ A2 R (a.l.drop i) (b.l.drop i) → loopO body (i : Int) = some (.inr false)) by
    have := H a.l.length 0 (by simp)
    simpa using this
  intro k
  induction k with
  | zero =>
    intro i hi
    have : i = a.l.length := by omega
    subst this
    refine ⟨fun _ => loopO_stop h2, fun h => ?_⟩
    refine absurd ?_ h
    rw [List.drop_length]
    rw [hl, List.drop_length]
    trivial
  | succ k ih =>
    intro i hi
    have ha : i < a.l.length := by omega
    have hb : i < b.l.length := by omega
    have ea : a.l[i]? = some a.l[i] := List.getElem?_eq_getElem ha
    have eb : b.l[i]? = some b.l[i] := List.getElem?_eq_getElem hb
    have hh := h1 i _ _ ea eb
    have ihh := ih (i + 1) (by omega)
    rw [A2.drop ea eb]
    have hc : ((i + 1 : Nat) : Int) = (i : Int) + 1 := by simp
    rw [hc] at ihh
    by_cases hR : R a.l[i] b.l[i]
    · refine ⟨fun h => loopO_go (hh.1 hR) (ihh.1 h.2), fun h => loopO_go (hh.1 hR) (ihh.2 (fun q => h ⟨hR, q⟩))⟩
    · exact ⟨fun h => absurd h.1 hR, fun _ => loopO_stop (hh.2 hR)⟩

/- sizes -/
def SzOk (o : Option Int) (l : Int) (P : Prop) : Prop := o = some (-1) ∨ ∃ l', o = some l' ∧ 0 ≤ l' ∧ l' ≤ l ∧ P
theorem SzOk.imp {o : Option Int} {l m : Int} {P Q : Prop} (h : SzOk o l P) (hm : l ≤ m) (f : P → Q) : SzOk o m Q := by
  rcases h with h | ⟨l', h1, h2, h3, h4⟩
  · exact .inl h
  · exact .inr ⟨l', h1, h2, by omega, f h4⟩
theorem sz_u {B F : Option Int} {l : Int} {P : Prop} (u : ∀ r, B = some r → F = some r) (h : SzOk B l P) : SzOk F l P := by
  rcases h with h | ⟨l', h1, h2⟩
  · exact .inl (u _ h)
  · exact .inr ⟨l', u _ h1, h2⟩
theorem sz_end {l : Int} {Q : Prop} (h : 0 ≤ l) (q : Q) : SzOk (some l) l Q := .inr ⟨l, rfl, h, by omega, q⟩
theorem sz_if {l l' : Int} {K : Option Int} {Q : Prop} (hl : l' ≤ l) (h : 0 ≤ l' → SzOk K l' Q) : SzOk (if decide (l' < 0) = true then some (-1) else K) l Q := by
  by_cases hn : l' < 0
  · exact .inl (by simp [hn])
  · rw [if_neg (by simpa using hn)]
    exact (h (by omega)).imp hl (fun q => q)
theorem sz_bind {o : Option Int} {l : Int} {P Q : Prop} {k : Int → Option Int} (h : SzOk o l P) (hk : ∀ l', 0 ≤ l' → l' ≤ l → P → SzOk (k l') l' Q) : SzOk (o.bind fun y => if decide (y < 0) = true then some (-1) else k y) l Q := by
  rcases h with h | ⟨l', h1, h2, h3, h4⟩
  · subst h; exact .inl (by simp)
  · subst h1
    show SzOk (if decide (l' < 0) = true then some (-1) else k l') l Q
    rw [if_neg (by simp; omega)]
    exact (hk l' h2 h3 h4).imp h3 (fun q => q)
theorem loop_sz {α : Type} {P : α → Prop} {a : Sl α} {body : Int × Int → Option ((Int × Int) ⊕ (Int ⊕ Int))} {l : Int} (h0 : 0 ≤ l)
    (h1 : ∀ (i : Nat) x l', a.l[i]? = some x → 0 ≤ l' → l' ≤ l → body (l', i) = some (.inr (.inr (-1))) ∨ ∃ l'', body (l', i) = some (.inl (l'', (i : Int) + 1)) ∧ 0 ≤ l'' ∧ l'' ≤ l' ∧ P x)
    (h2 : ∀ l', body (l', (a.l.length : Int)) = some (.inr (.inl l'))) :
    SzOk ((loopO body (l, 0)).bind fun y => Sum.elim (fun y => some y) (fun y => some y) y) l (∀ x ∈ a.l, P x) := by
  suffices H : ∀ (k i : Nat), i + k = a.l.length → ∀ l', 0 ≤ l' → l' ≤ l → (loopO body (l', (i : Int)) = some (.inr (-1))) ∨ ∃ l'', loopO body (l', (i : Int)) = some (.inl l'') ∧ 0 ≤ l'' ∧ l'' ≤ l' ∧ ∀ x ∈ a.l.drop i, P x by
    rcases H a.l.length 0 (by simp) l h0 (by omega) with h | ⟨l', h, h3⟩
    · have h : loopO body (l, 0) = some (.inr (-1)) := h
      rw [h]; exact .inl rfl
    · have h : loopO body (l, 0) = some (.inl l') := h
      rw [h]; exact .inr ⟨l', rfl, by simpa using h3⟩
  intro k
  induction k with
  | zero =>
    intro i hi l' hl0 hl
    have : i = a.l.length := by omega
    subst this
    exact .inr ⟨l', loopO_stop (h2 l'), hl0, by omega, by simp⟩
  | succ k ih =>
    intro i hi l' hl0 hl
    have ha : i < a.l.length := by omega
    have ea : a.l[i]? = some a.l[i] := List.getElem?_eq_getElem ha
    rcases h1 i _ l' ea hl0 hl with h | ⟨l2, h, h3, h4, h5⟩
    · exact .inl (loopO_stop h)
    · have hc : ((i + 1 : Nat) : Int) = (i : Int) + 1 := by simp
      rcases ih (i + 1) (by omega) l2 h3 (by omega) with q | ⟨l3, q, q1, q2, q3⟩
      · rw [hc] at q
        exact .inl (loopO_go h q)
      · rw [hc] at q
        refine .inr ⟨l3, loopO_go h q, q1, by omega, ?_⟩
        rw [List.drop_eq_getElem_cons ha]
        intro x hx
        rcases List.mem_cons.1 hx with rfl | hx
        · exact h5
        · exact q3 x hx

/- copies -/
def ToOk {α : Type} (o : Option α) (P : α → Prop) : Prop := ∃ y, o = some y ∧ P y
theorem to_u {α : Type} {B F : Option α} {P : α → Prop} (u : ∀ r, B = some r → F = some r) (h : ToOk B P) : ToOk F P := by
  obtain ⟨y, h1, h2⟩ := h
  exact ⟨y, u _ h1, h2⟩
theorem to_bind {α β : Type} {o : Option α} {P : α → Prop} {k : α → Option β} {Q : β → Prop} (h : ToOk o P) (hk : ∀ y, P y → ToOk (k y) Q) : ToOk (o.bind k) Q := by
  obtain ⟨y, rfl, h2⟩ := h
  exact hk y h2
theorem to_end {α : Type} {x : α} {P : α → Prop} (h : P x) : ToOk (some x) P := ⟨x, rfl, h⟩
theorem loop_to {α : Type} {P : α → Prop} {n : Nat} {a : Sl α} {by_ : Nat} {z : α} {body : Int × Sl α → Option ((Int × Sl α) ⊕ Sl α)} (hn : a.l.length ≤ n) (hb : n * by_ ≤ 1099511627776) (hb2 : n ≤ 1099511627776)
    (h1 : ∀ (i : Nat) x (s : Sl α) w, a.l[i]? = some x → s.l[i]? = some w → ∃ y, body (i, s) = some (.inl ((i : Int) + 1, setS s i y)) ∧ P y)
    (h2 : ∀ s, body ((a.l.length : Int), s) = some (.inr s)) :
    ToOk ((mkS by_ z (a.l.length : Int) (a.l.length : Int)).bind fun y1 => (loopO body (0, y1)).bind fun y2 => some y2) (fun r => r.l.length ≤ n ∧ ∀ x ∈ r.l, P x) := by
  have hm : mkS by_ z (a.l.length : Int) (a.l.length : Int) = some ⟨false, List.replicate a.l.length z⟩ := by
    have : a.l.length * by_ ≤ n * by_ := Nat.mul_le_mul_right _ hn
    unfold mkS
    rw [if_pos]
    · simp
    · refine ⟨by omega, by omega, ?_, by omega, fun h => h⟩
      have : ((a.l.length * by_ : Nat) : Int) ≤ 1099511627776 := by omega
      simpa using this
  rw [hm]
  suffices H : ∀ (k i : Nat), i + k = a.l.length → ∀ s : Sl α, s.l.length = a.l.length → (∀ j x, j < i → s.l[j]? = some x → P x) → ∃ r, loopO body ((i : Int), s) = some r ∧ r.l.length = a.l.length ∧ ∀ x ∈ r.l, P x by
    obtain ⟨r, q1, q2, q3⟩ := H a.l.length 0 (by simp) ⟨false, List.replicate a.l.length z⟩ (by simp) (by intro j x h; omega)
    have q1 : loopO body (0, ⟨false, List.replicate a.l.length z⟩) = some r := q1
    refine ⟨r, ?_, by omega, q3⟩
    show (loopO body (0, ⟨false, List.replicate a.l.length z⟩)).bind _ = _
    rw [q1]; rfl
  intro k
  induction k with
  | zero =>
    intro i hi s hs hP
    have : i = a.l.length := by omega
    subst this
    refine ⟨s, loopO_stop (h2 s), hs, fun x hx => ?_⟩
    obtain ⟨j, hj, rfl⟩ := List.getElem_of_mem hx
    exact hP j _ (by omega) (List.getElem?_eq_getElem hj)
  | succ k ih =>
    intro i hi s hs hP
    have ha : i < a.l.length := by omega
    have hi' : i < s.l.length := by omega
    obtain ⟨y, q1, q2⟩ := h1 i _ s _ (List.getElem?_eq_getElem ha) (List.getElem?_eq_getElem hi')
    obtain ⟨r, p1, p2, p3⟩ := ih (i + 1) (by omega) (setS s i y) (by simp [setS, hs]) (by
      intro j x hj hx
      simp only [setS, Int.toNat_natCast, List.getElem?_set] at hx
      by_cases hij : i = j
      · subst hij
        simp [hi'] at hx
        exact hx ▸ q2
      · rw [if_neg hij] at hx
        exact hP j x (by omega) hx)
    have hc : ((i + 1 : Nat) : Int) = (i : Int) + 1 := by simp
    rw [hc] at p1
    exact ⟨r, loopO_go q1 p1, p2, p3⟩

theorem slice_eq {α : Type} {R : α → α → Prop} {a b : Sl α} {body : Int → Option (Int ⊕ (Unit ⊕ Bool))}
    (h1 : ∀ (i : Nat) x y, x ∈ a.l → y ∈ b.l → i < a.l.length → elt a (i : Int) = some x → elt b (i : Int) = some y → (R x y → body i = some (.inl ((i : Int) + 1))) ∧ (¬ R x y → body i = some (.inr (.inr false))))
    (h2 : body (a.l.length : Int) = some (.inr (.inl ()))) :
    (if (!decide ((a.l.length : Int) = (b.l.length : Int))) = true then some false else ((loopO body 0).bind fun y => Sum.elim (fun y => some true) (fun y => some y) y)) = tell (A2 R a.l b.l) := by
  by_cases hl : a.l.length = b.l.length
  · have := loop_eq (R := R) hl (fun i x y hx hy => h1 i x y (List.mem_of_getElem? hx) (List.mem_of_getElem? hy) (List.getElem?_eq_some_iff.1 hx).1 (elt_nat hx) (elt_nat hy)) h2
    rw [if_neg (by simp [hl])]
    by_cases hA : A2 R a.l b.l
    · rw [this.1 hA, tell_t hA]; rfl
    · rw [this.2 hA, tell_f hA]; rfl
  · rw [if_pos (by simp; omega), tell_f (fun h => hl h.len)]
/-- The body of a comparison, of what its test gives. -/
theorem eq_step {α : Type} {p : Prop} {a b : Sl α} {x y : α} {i : Nat} {n : Int} {o : Option Bool} {e : Option (Int ⊕ (Unit ⊕ Bool))} {k : α → α → Option (Int ⊕ (Unit ⊕ Bool))} (hi : (i : Int) < n) (hx : elt a (i : Int) = some x) (hy : elt b (i : Int) = some y)
    (hk : (p → k x y = some (.inl (IntKind.i64.wrap ((i : Int) + 1)))) ∧ (¬ p → k x y = some (.inr (.inr false)))) (hn : n < 9223372036854775808) :
    (p → (if decide ((i : Int) < n) = true then (elt a (i : Int)).bind fun y2 => (elt b (i : Int)).bind fun y3 => k y2 y3 else e) = some (.inl ((i : Int) + 1))) ∧ (¬ p → (if decide ((i : Int) < n) = true then (elt a (i : Int)).bind fun y2 => (elt b (i : Int)).bind fun y3 => k y2 y3 else e) = some (.inr (.inr false))) := by
  rw [if_pos (by simpa using hi), hx, hy]
  simp only [Option.bind_some]
  rw [wrap_id (by omega) (by omega)] at hk
  exact hk
theorem tell_step {p : Prop} {o : Option Bool} {A B : Option (Int ⊕ (Unit ⊕ Bool))} (h : o = tell p) : (p → (o.bind fun y => if (!y) = true then B else A) = A) ∧ (¬ p → (o.bind fun y => if (!y) = true then B else A) = B) := by
  subst h
  refine ⟨fun q => ?_, fun q => ?_⟩
  · rw [tell_t q]; rfl
  · rw [tell_f q]; rfl
theorem tell_bind {p : Prop} {β : Type} {k : Bool → Option β} : (tell p).bind k = @ite _ p (Classical.propDecidable p) (k true) (k false) := by
  by_cases h : p
  · rw [tell_t h, if_pos h]; rfl
  · rw [tell_f h, if_neg h]; rfl
def FitS {α : Type} (n : Nat) (F : α → Prop) (s : Sl α) : Prop := s.l.length ≤ n ∧ ∀ x ∈ s.l, F x
theorem slice_sz {α : Type} {P : α → Prop} {a : Sl α} {body : Int × Int → Option ((Int × Int) ⊕ (Int ⊕ Int))} {l : Int} (h0 : 0 ≤ l) (h20 : l ≤ 1048576) (hb : a.l.length ≤ maxLen)
    (h1 : ∀ (i : Nat) x l', x ∈ a.l → i < a.l.length → elt a (i : Int) = some x → 0 ≤ l' → l' ≤ l → body (l', i) = some (.inr (.inr (-1))) ∨ ∃ l'', body (l', i) = some (.inl (l'', (i : Int) + 1)) ∧ 0 ≤ l'' ∧ l'' ≤ l' ∧ P x)
    (h2 : ∀ l', body (l', (a.l.length : Int)) = some (.inr (.inl l'))) :
    SzOk (if decide (IntKind.i64.wrap (l - (a.l.length : Int)) < 0) = true then some (-1) else (loopO body (IntKind.i64.wrap (l - (a.l.length : Int)), 0)).bind fun y => Sum.elim (fun y => some y) (fun y => some y) y) l (FitS 1048576 P a) := by
  have hm : maxLen = 9223372036854775807 := by decide
  rw [hm] at hb
  rw [wrap_id (by omega) (by omega)]
  refine sz_if (by omega) (fun hn => ?_)
  exact (loop_sz hn (fun i x l' hx q1 q2 => h1 i x l' (List.mem_of_getElem? hx) (List.getElem?_eq_some_iff.1 hx).1 (elt_nat hx) q1 (by omega)) h2).imp (Int.le_refl _) (fun q => ⟨by omega, q⟩)
theorem sz_step {α : Type} {p : Prop} {a : Sl α} {x : α} {i : Nat} {n l : Int} {e : Option ((Int × Int) ⊕ (Int ⊕ Int))} {G : α → Option Int} (hi : (i : Int) < n) (hx : elt a (i : Int) = some x) (hG : SzOk (G x) l p) (hn : n < 9223372036854775808) :
    (if decide ((i : Int) < n) = true then (elt a (i : Int)).bind fun y2 => (G y2).bind fun y3 => if decide (y3 < 0) = true then some (.inr (.inr (-1))) else some (.inl (y3, IntKind.i64.wrap ((i : Int) + 1))) else e) = some (.inr (.inr (-1))) ∨
    ∃ l'', (if decide ((i : Int) < n) = true then (elt a (i : Int)).bind fun y2 => (G y2).bind fun y3 => if decide (y3 < 0) = true then some (.inr (.inr (-1))) else some (.inl (y3, IntKind.i64.wrap ((i : Int) + 1))) else e) = some (.inl (l'', (i : Int) + 1)) ∧ 0 ≤ l'' ∧ l'' ≤ l ∧ p := by
  rw [if_pos (by simpa using hi), hx, wrap_id (by omega) (by omega)]
  rcases hG with h | ⟨l', h, h2, h3, h4⟩
  · left; simp [h]
  · right
    refine ⟨l', ?_, h2, h3, h4⟩
    simp only [Option.bind_some, h]
    rw [if_neg (by simp; omega)]
theorem to_step {α : Type} {P : α → Prop} {a s : Sl α} {x w : α} {i : Nat} {n : Int} {e : Option ((Int × Sl α) ⊕ Sl α)} {G : α → Option α} (hi : (i : Int) < n) (hx : elt a (i : Int) = some x) (hw : elt s (i : Int) = some w) (hG : ToOk (G x) P) (hn : n < 9223372036854775808) :
    ∃ y, (if decide ((i : Int) < n) = true then (elt a (i : Int)).bind fun y3 => (G y3).bind fun y4 => (elt s (i : Int)).bind fun y5 => some (.inl (IntKind.i64.wrap ((i : Int) + 1), setS s (i : Int) y4)) else e) = some (.inl ((i : Int) + 1, setS s i y)) ∧ P y := by
  rw [if_pos (by simpa using hi), hx, hw, wrap_id (by omega) (by omega)]
  obtain ⟨y, h, h2⟩ := hG
  exact ⟨y, by simp [h], h2⟩
theorem slice_to {α : Type} {P : α → Prop} {a : Sl α} {by_ : Nat} {z : α} {body : Int × Sl α → Option ((Int × Sl α) ⊕ Sl α)} (hn : a.l.length ≤ 1048576) (hb : 1048576 * by_ ≤ 1099511627776)
    (h1 : ∀ (i : Nat) x (s : Sl α) w, x ∈ a.l → i < a.l.length → elt a (i : Int) = some x → elt s (i : Int) = some w → ∃ y, body (i, s) = some (.inl ((i : Int) + 1, setS s i y)) ∧ P y)
    (h2 : ∀ s, body ((a.l.length : Int), s) = some (.inr s)) :
    ToOk ((mkS by_ z (a.l.length : Int) (a.l.length : Int)).bind fun y1 => (loopO body (0, y1)).bind fun y2 => some y2) (FitS 1048576 P) :=
  loop_to hn hb (by omega) (fun i x s w hx hw => h1 i x s w (List.mem_of_getElem? hx) (List.getElem?_eq_some_iff.1 hx).1 (elt_nat hx) (elt_nat hw)) h2

/- comparisons, put together -/
theorem says_iff {o : Option Bool} {p q : Prop} (h : o = tell p) (hi : p ↔ q) : o = tell q := by rw [h, propext hi]
theorem says_ifn {c q : Prop} [Decidable c] {K : Option Bool} (h : c → K = tell q) : (if (!decide c) = true then some false else K) = tell (c ∧ q) := by
  by_cases hc : c
  · rw [if_neg (by simp [hc]), h hc]; congr 1; simp [hc]
  · rw [if_pos (by simp [hc]), tell_f (fun w => hc w.1)]
theorem says_if {c q : Prop} [Decidable c] {K : Option Bool} (h : c → K = tell q) : (if decide c = true then K else some false) = tell (c ∧ q) := by
  by_cases hc : c
  · rw [if_pos (by simp [hc]), h hc]; congr 1; simp [hc]
  · rw [if_neg (by simp [hc]), tell_f (fun w => hc w.1)]
theorem says_bindn {p q : Prop} {o K : Option Bool} (ho : o = tell p) (h : p → K = tell q) : (o.bind fun y => if (!y) = true then some false else K) = tell (p ∧ q) := by
  subst ho
  by_cases hc : p
  · rw [tell_t hc, h hc]; show tell q = _; congr 1; simp [hc]
  · rw [tell_f hc, tell_f (fun w => hc w.1)]; rfl
theorem says_bind {p q : Prop} {o K : Option Bool} (ho : o = tell p) (h : p → K = tell q) : (o.bind fun y => if y = true then K else some false) = tell (p ∧ q) := by
  subst ho
  by_cases hc : p
  · rw [tell_t hc, h hc]; show tell q = _; congr 1; simp [hc]
  · rw [tell_f hc, tell_f (fun w => hc w.1)]; rfl
theorem says_last {p : Prop} {o : Option Bool} (ho : o = tell p) : (o.bind fun y => some y) = tell p := by
  rw [ho]; rfl
theorem says_dec {c : Prop} [Decidable c] : some (decide c) = tell c := by
  by_cases hc : c
  · rw [tell_t hc]; simp [hc]
  · rw [tell_f hc]; simp [hc]
theorem says_true : some true = tell True := by rw [tell_t trivial]
theorem says_ifb {c : Prop} {q : Prop} {b : Bool} {K : Option Bool} (hb : b = true ↔ c) (h : c → K = tell q) : (if b = true then K else some false) = tell (c ∧ q) := by
  by_cases hc : c
  · rw [if_pos (hb.2 hc), h hc]; congr 1; simp [hc]
  · rw [if_neg (fun w => hc (hb.1 w)), tell_f (fun w => hc w.1)]
theorem says_b {c : Prop} {b : Bool} (hb : b = true ↔ c) : some b = tell c := by
  cases b with
  | true => rw [tell_t (hb.1 rfl)]
  | false => rw [tell_f (fun h => by simp at hb; exact hb h)]

def Steps (o : Option (Int ⊕ (Unit ⊕ Bool))) (i : Nat) (p : Prop) : Prop := (p → o = some (.inl (IntKind.i64.wrap ((i : Int) + 1)))) ∧ (¬ p → o = some (.inr (.inr false)))
theorem st_end {i : Nat} : Steps (some (.inl (IntKind.i64.wrap ((i : Int) + 1)))) i True := ⟨fun _ => rfl, fun h => absurd trivial h⟩
theorem st_ifn {i : Nat} {c q : Prop} [Decidable c] {K : Option (Int ⊕ (Unit ⊕ Bool))} (h : c → Steps K i q) : Steps (if (!decide c) = true then some (.inr (.inr false)) else K) i (c ∧ q) := by
  by_cases hc : c
  · rw [if_neg (by simp [hc])]; exact ⟨fun w => (h hc).1 w.2, fun w => (h hc).2 (fun q => w ⟨hc, q⟩)⟩
  · rw [if_pos (by simp [hc])]; exact ⟨fun w => absurd w.1 hc, fun _ => rfl⟩
theorem st_ifnb {i : Nat} {c q : Prop} {b : Bool} {K : Option (Int ⊕ (Unit ⊕ Bool))} (hb : b = true ↔ c) (h : c → Steps K i q) : Steps (if (!b) = true then some (.inr (.inr false)) else K) i (c ∧ q) := by
  by_cases hc : c
  · rw [if_neg (by simp [hb.2 hc])]; exact ⟨fun w => (h hc).1 w.2, fun w => (h hc).2 (fun q => w ⟨hc, q⟩)⟩
  · rw [if_pos (by cases b with | true => exact absurd (hb.1 rfl) hc | false => rfl)]; exact ⟨fun w => absurd w.1 hc, fun _ => rfl⟩
theorem st_bindn {i : Nat} {p q : Prop} {o : Option Bool} {K : Option (Int ⊕ (Unit ⊕ Bool))} (ho : o = tell p) (h : p → Steps K i q) : Steps (o.bind fun y => if (!y) = true then some (.inr (.inr false)) else K) i (p ∧ q) := by
  subst ho
  by_cases hc : p
  · rw [tell_t hc]; exact ⟨fun w => (h hc).1 w.2, fun w => (h hc).2 (fun q => w ⟨hc, q⟩)⟩
  · rw [tell_f hc]; exact ⟨fun w => absurd w.1 hc, fun _ => rfl⟩
theorem st_elt {α : Type} {i : Nat} {p : Prop} {a : Sl α} {x : α} {k : α → Option (Int ⊕ (Unit ⊕ Bool))} (hx : elt a (i : Int) = some x) (h : Steps (k x) i p) : Steps ((elt a (i : Int)).bind k) i p := by
  rw [hx]; exact h
/-- A loop that compares two slices, and what comes behind. -/
theorem says_loop {α : Type} {R : α → α → Prop} {a b : Sl α} {q : Prop} {K : Option Bool} {bd : Int → Option (Int ⊕ (Unit ⊕ Bool))} (hl : (a.l.length : Int) = (b.l.length : Int)) (hn : a.l.length ≤ maxLen)
    (h1 : ∀ (i : Nat) x y, x ∈ a.l → y ∈ b.l → elt a (i : Int) = some x → elt b (i : Int) = some y → ∃ p, (p ↔ R x y) ∧ Steps (bd i) i p) (hK : K = tell q) :
    ((loopO (S := Int) (R := Unit ⊕ Bool) (fun st1 => if decide (st1 < (a.l.length : Int)) = true then bd st1 else some (.inr (.inl ()))) 0).bind fun y => Sum.elim (fun _ => K) (fun y => some y) y) = tell (A2 R a.l b.l ∧ q) := by
  have hm : maxLen = 9223372036854775807 := by decide
  rw [hm] at hn
  have := loop_eq (R := R) (a := a) (b := b) (body := fun st1 => if decide (st1 < (a.l.length : Int)) = true then bd st1 else some (.inr (.inl ()))) (by omega) (fun i x y hx hy => by
    have hi := (List.getElem?_eq_some_iff.1 hx).1
    obtain ⟨p, hp, hs⟩ := h1 i x y (List.mem_of_getElem? hx) (List.mem_of_getElem? hy) (elt_nat hx) (elt_nat hy)
    have hs : (p → bd i = some (.inl (IntKind.i64.wrap ((i : Int) + 1)))) ∧ (¬ p → bd i = some (.inr (.inr false))) := hs
    rw [wrap_id (by omega) (by omega), propext hp] at hs
    show (R x y → (if decide ((i : Int) < (a.l.length : Int)) = true then bd i else some (.inr (.inl ()))) = _) ∧ (¬ R x y → (if decide ((i : Int) < (a.l.length : Int)) = true then bd i else some (.inr (.inl ()))) = _)
    rw [if_pos (by simpa using hi)]
    exact hs) (by simp)
  by_cases hA : A2 R a.l b.l
  · rw [this.1 hA]; show K = _; rw [hK]; congr 1; simp [hA]
  · rw [this.2 hA, tell_f (fun w => hA w.1)]; rfl
theorem says_len {α : Type} {R : α → α → Prop} {a b : Sl α} {o : Option Bool} (h : o = tell ((a.l.length : Int) = (b.l.length : Int) ∧ A2 R a.l b.l ∧ True)) : o = tell (A2 R a.l b.l) :=
  says_iff h ⟨fun w => w.2.1, fun w => ⟨by rw [A2.len w], w, trivial⟩⟩
end Go.Am
end
section
set_option linter.unusedVariables false
set_option linter.unusedSimpArgs false
namespace Go.Am
section
variable {P : Program} {t : TypeId} {d : Nat} {ts : List T}
theorem shp_struct (kt : kindT P t = 7) (h : Shp P d t ts) : ∃ d', ShpF P (Shp P d') ((fieldsT P t).map (·.type)) ts := by
  cases d with
  | zero => exact h.elim
  | succ d =>
    rcases h with h | h | h | h | h
    · rw [kt] at h; exact absurd h.1 (by decide)
    · simp [isIntT, kt] at h
    · rw [kt] at h; exact absurd h.1 (by decide)
    · rw [kt] at h; exact absurd h.1 (by decide)
    · exact ⟨d, h.2⟩
theorem shp_str (kt : kindT P t = 3) (h : Shp P d t ts) : ∃ s : ByteArray, ts = [.str s] ∧ s.size ≤ maxLen := by
  cases d with
  | zero => exact h.elim
  | succ d =>
    rcases h with h | h | h | h | h
    · rw [kt] at h; exact absurd h.1 (by decide)
    · simp [isIntT, kt] at h
    · exact h.2
    · rw [kt] at h; exact absurd h.1 (by decide)
    · rw [kt] at h; exact absurd h.1 (by decide)
theorem shp_int {k : IntKind} (hu : P.underlying t = some (.int k)) (kt : kindT P t = 2) (h : Shp P d t ts) : ∃ n : Int, ts = [.int k n] := by
  cases d with
  | zero => exact h.elim
  | succ d =>
    rcases h with h | h | h | h | h
    · rw [kt] at h; exact absurd h.1 (by decide)
    · obtain ⟨_, k', n, h1, h2, _⟩ := h
      rw [hu] at h1
      injection h1 with h1; injection h1 with h1; subst h1
      exact ⟨n, h2⟩
    · rw [kt] at h; exact absurd h.1 (by decide)
    · rw [kt] at h; exact absurd h.1 (by decide)
    · rw [kt] at h; exact absurd h.1 (by decide)
theorem decAll {α : Type} [Enc α] {B : α → Prop} : ∀ (els : List (List T)), (∀ el ∈ els, ∃ x : α, el = Enc.cells x ∧ B x) → ∃ l : List α, els.flatten = cellsL l ∧ l.length = els.length ∧ ∀ x ∈ l, B x
  | [], _ => ⟨[], rfl, rfl, fun _ h => absurd h (by simp)⟩
  | el :: els, h => by
    obtain ⟨x, rfl, hx⟩ := h el (by simp)
    obtain ⟨l, h1, h2, h3⟩ := decAll els (fun e he => h e (by simp [he]))
    refine ⟨x :: l, by simp [cellsL, h1], by simp [h2], fun y hy => ?_⟩
    rcases List.mem_cons.1 hy with rfl | hy
    · exact hx
    · exact h3 y hy
theorem shp_sl {α : Type} [Enc α] {B : α → Prop} {e : TypeId} (kt : kindT P t = 4) (he : elemOfSl P t = some e) (hd : ∀ d ts, Shp P d e ts → ∃ x : α, ts = Enc.cells x ∧ B x) (h : Shp P d t ts) : ∃ x : Sl α, ts = [Sl.t x] ∧ FitS maxLen B x := by
  cases d with
  | zero => exact h.elim
  | succ d =>
    rcases h with h | h | h | h | h
    · rw [kt] at h; exact absurd h.1 (by decide)
    · simp [isIntT, kt] at h
    · rw [kt] at h; exact absurd h.1 (by decide)
    · obtain ⟨_, e', h1, h2⟩ := h
      rw [he] at h1
      injection h1 with h1; subst h1
      rcases h2 with rfl | ⟨els, rfl, h2, h3⟩
      · exact ⟨⟨true, []⟩, rfl, ⟨by simp, by simp⟩⟩
      · obtain ⟨l, q1, q2, q3⟩ := decAll (B := B) els (fun el hel => hd d el (h3 el hel).2)
        exact ⟨⟨false, l⟩, by simp [Sl.t, q1, q2], ⟨by show l.length ≤ maxLen; omega, q3⟩⟩
    · rw [kt] at h; exact absurd h.1 (by decide)
end
end Go.Am
end
