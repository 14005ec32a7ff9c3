/- The abstract machine. -/
import Derived.Test.YtohkcdkmpencnaaGreatDoorAm4
import Derived.Laws.Externs
import Derived.Test.YtohkcdkmpencnaaGreatDoorAm2
section
set_option linter.unusedVariables false
set_option linter.unusedSimpArgs false
namespace Go.Am
open Classical
theorem Heap.wrap {σ0 σ : St} {ents E : List Ent} (h : Heap σ0 σ (ents ++ E)) : ∃ F, Heap σ0 σ (ents ++ [.keep F σ]) ∧ ∀ σ' ents', Heap σ0 σ' (ents' ++ [.keep F σ]) → Heap σ0 σ' (ents' ++ E) := by
  obtain ⟨F, h1, h2, h3⟩ := h.ex
  obtain ⟨F1, F2, rfl, h4, h5⟩ := h1.split
  refine ⟨F2, ⟨h.grow, F1 ++ F2, h4.join ⟨F2, [], by simp, ⟨rfl, fun b hb => ⟨rfl, h5.some b hb⟩⟩, rfl⟩, h2, h3⟩, fun σ' ents' k => ?_⟩
  obtain ⟨G, k1, k2, k3⟩ := k.ex
  obtain ⟨G1, G2, rfl, k4, k5⟩ := k1.split
  obtain ⟨S, F', rfl, ⟨rfl, k6⟩, k7⟩ := k5
  cases k7
  simp only [List.append_nil] at k2 k3
  exact ⟨k.grow, G1 ++ S, k4.join (h5.same fun b hb => (k6 b hb).1), k2, k3⟩
section
variable {P : Program} {md : Nat → Md} {X : Ext} {f : Nat}
variable {ops : Array Oper} {m : Mo} {l : List Oper} {K : Fr → Prop} {s : Nat → T} {σ σ0 : St} {L : List (Nat × T)} {es ents : List Ent}
variable {d : Option Nat} {ty : TypeId} {ps : String} {af : Array Edge} {g : Option (Nat × Bool)}
def RawS (P : Program) (md : Nat → Md) (X : Ext) (f : Nat) (args : List T) (n : Nat) (tree : List T → T) (ents : List Ent) (ents' : List T → List Ent) : Prop :=
  ∀ σ0 σ E, Heap σ0 σ (ents ++ E) → ∃ hs σ', hs.length = n ∧ run P md X f args σ = some (tree hs, σ') ∧ Heap σ0 σ' (ents' hs ++ E)
def endM (P : Program) (rs : List ResultVar) (σ0 : St) (n : Nat) (tree : List T → T) (ents' : List T → List Ent) : AExit → Fr → Prop
  | .exit _, _ => False
  | .normal, fr => ∃ l hs, resL P fr rs = some l ∧ tupOf l = tree hs ∧ hs.length = n ∧ Heap σ0 fr.σ (ents' hs)
  | .ret, fr => ∃ l hs, resL P fr rs = some l ∧ tupOf l = tree hs ∧ hs.length = n ∧ Heap σ0 fr.σ (ents' hs)
theorem end_M {rs : List ResultVar} {l : List T} {n : Nat} {tree : List T → T} {ents' : List T → List Ent} (hs : List T) (hl : resL P ⟨s, σ⟩ rs = some l) (ht : tupOf l = tree hs) (hn : hs.length = n) (hH : Heap σ0 σ (ents' hs)) : endM P rs σ0 n tree ents' .ret ⟨s, σ⟩ := ⟨l, hs, hl, ht, hn, hH⟩
theorem rawS_of {c : Code} {n0 n : Nat} {rs : List ResultVar} {args : List T} {tree : List T → T} {ents' : List T → List Ent} (hv : md f = .raw) (hX : X f = none) (hok : Ok P f c n0 rs) (hlen : Nat.ble args.length n0 = true)
    (h : ∀ σ0 σ F σk s, Sub (nums 0 args) s → Heap σ0 σ (ents ++ [.keep F σk]) → codeQ P (run P md X) c (endM P rs σ0 n tree (fun hs => ents' hs ++ [.keep F σk])) ⟨s, σ⟩) : RawS P md X f args n tree ents ents' := fun σ0 σ E hH => by
  obtain ⟨F, h1, h2⟩ := hH.wrap
  obtain ⟨fn, k1, k2, k3, k4, k5, k6⟩ := hok
  obtain ⟨x, fr, m1, m2⟩ := codeQ_sound (h σ0 σ F σ _ (sub_enter args) h1)
  have hx : (x = .normal ∨ x = .ret) ∧ ∃ l hs, resL P fr rs = some l ∧ tupOf l = tree hs ∧ hs.length = n ∧ Heap σ0 fr.σ (ents' hs ++ [.keep F σ]) := by
    cases x with
    | normal => exact ⟨.inl rfl, m2⟩
    | ret => exact ⟨.inr rfl, m2⟩
    | exit i => exact m2.elim
  obtain ⟨hx, l, hs, q1, q2, q3, q4⟩ := hx
  refine ⟨hs, fr.σ, q3, ?_, h2 _ _ q4⟩
  rw [run_raw (P := P) (vm := md) (X := X) (σ := σ) hv hX k1 k2 k3 k4 (by rw [k5]; exact Nat.le_of_ble_eq_true hlen) m1 hx (by rw [resA, k6, q1]; rfl), q2]
theorem q_callR {fo : Operand} {as : Array Operand} {tys : Array TypeId} {a b xs : List T} {n : Nat} {tree : List T → T} {ents' : List T → List Ent} (hw : want ops L g = some true) (hS : Sub L s) (hf : gE (get L) fo = some (.fn f a b)) (ha : gEs (get L) as.toList = some xs)
    (hH : Heap σ0 σ (ents ++ es)) (hr : RawS P md X f (a ++ xs ++ b) n tree ents ents')
    (k : ∀ hs σ' s', hs.length = n → Heap σ0 σ' (ents' hs ++ es) → Sub (putL L d (tree hs)) s' → opsX P (run P md X) ops .q l K ⟨s', σ'⟩) : opsX P (run P md X) ops .q (⟨d, .call ⟨.value fo, as, tys⟩, ty, ps, af, g⟩ :: l) K ⟨s, σ⟩ := by
  obtain ⟨hs, σ', h1, h2, h3⟩ := hr σ0 σ es hH
  refine x_callS (f := f) (args := a ++ xs ++ b) (want_sound hS hw) (by rw [a_call, gEs_sound hS ha, Option.bind_some, gE_sound hS hf]; rfl) h2 ?_
  rw [put_eq]
  exact k _ _ _ h1 h3 (sub_putL hS d _ σ)
def endI (P : Program) (rs : List ResultVar) (K : T → St → Prop) : AExit → Fr → Prop
  | .exit _, _ => False
  | .normal, fr => ∃ l, resL P fr rs = some l ∧ K (tupOf l) fr.σ
  | .ret, fr => ∃ l, resL P fr rs = some l ∧ K (tupOf l) fr.σ
theorem end_I {rs : List ResultVar} {l : List T} {K : T → St → Prop} {v : T} (hl : resL P ⟨s, σ⟩ rs = some l) (ht : tupOf l = v) (h : K v σ) : endI P rs K .ret ⟨s, σ⟩ := ⟨l, hl, ht ▸ h⟩
theorem q_inl {fo : Operand} {as : Array Operand} {tys : Array TypeId} {a b xs : List T} {c : Code} {n0 : Nat} {rs : List ResultVar} (args : List T) (hw : want ops L g = some true) (hS : Sub L s) (hf : gE (get L) fo = some (.fn f a b)) (ha : gEs (get L) as.toList = some xs)
    (hab : a ++ xs ++ b = args) (hv : md f = .raw) (hX : X f = none) (hok : Ok P f c n0 rs) (hlen : Nat.ble args.length n0 = true)
    (h : ∀ s1, Sub (nums 0 args) s1 → codeQ P (run P md X) c (endI P rs fun v σ' => ∀ s', Sub (putL L d v) s' → opsX P (run P md X) ops .q l K ⟨s', σ'⟩) ⟨s1, σ⟩) : opsX P (run P md X) ops .q (⟨d, .call ⟨.value fo, as, tys⟩, ty, ps, af, g⟩ :: l) K ⟨s, σ⟩ := by
  subst hab
  obtain ⟨fn, k1, k2, k3, k4, k5, k6⟩ := hok
  obtain ⟨x, fr, m1, m2⟩ := codeQ_sound (h _ (sub_enter _))
  have hx : (x = .normal ∨ x = .ret) ∧ ∃ l1, resL P fr rs = some l1 ∧ ∀ s', Sub (putL L d (tupOf l1)) s' → opsX P (run P md X) ops .q l K ⟨s', fr.σ⟩ := by
    cases x with
    | normal => exact ⟨.inl rfl, m2⟩
    | ret => exact ⟨.inr rfl, m2⟩
    | exit i => exact m2.elim
  obtain ⟨hx, l1, q1, q2⟩ := hx
  refine x_callS (f := f) (args := a ++ xs ++ b) (v := tupOf l1) (σ' := fr.σ) (want_sound hS hw) (by rw [a_call, gEs_sound hS ha, Option.bind_some, gE_sound hS hf]; rfl)
    (run_raw (P := P) (vm := md) (X := X) (σ := σ) hv hX k1 k2 k3 k4 (by rw [k5]; exact Nat.le_of_ble_eq_true hlen) m1 hx (by rw [resA, k6, q1]; rfl)) ?_
  rw [put_eq]
  exact q2 _ (sub_putL hS d _ σ)
theorem q_inlC {HF : (Nat → T) → St → Prop} {fo : Operand} {as : Array Operand} {tys : Array TypeId} {a b xs : List T} {c : Code} {n0 : Nat} {rs : List ResultVar} (args : List T) (hw : want ops L g = some true) (hS : Sub L s) (hf : gE (get L) fo = some (.fn f a b)) (ha : gEs (get L) as.toList = some xs)
    (hab : a ++ xs ++ b = args) (hv : md f = .raw) (hX : X f = none) (hok : Ok P f c n0 rs) (hlen : Nat.ble args.length n0 = true)
    (h : ∀ s1, Sub (nums 0 args) s1 → codeQ P (run P md X) c (endI P rs fun v σ' => ∀ s', Sub (putL L d v) s' → HF s' σ') ⟨s1, σ⟩)
    (k : ∀ s' σ', HF s' σ' → opsX P (run P md X) ops .q l K ⟨s', σ'⟩) : opsX P (run P md X) ops .q (⟨d, .call ⟨.value fo, as, tys⟩, ty, ps, af, g⟩ :: l) K ⟨s, σ⟩ :=
  q_inl args hw hS hf ha hab hv hX hok hlen fun s1 h1 => codeQ_mono (fun x fr hx => by
    cases x with
    | exit i => exact hx
    | normal => obtain ⟨l, e1, e2⟩ := hx; exact ⟨l, e1, fun s' hs => k _ _ (e2 s' hs)⟩
    | ret => obtain ⟨l, e1, e2⟩ := hx; exact ⟨l, e1, fun s' hs => k _ _ (e2 s' hs)⟩) (h s1 h1)
end
def bytesS (s : ByteArray) : Option (Sl (Iv .u8)) := if 1 ≤ s.size ∧ s.size ≤ 1099511627776 then some ⟨false, s.data.toList.map fun b => ⟨b.toNat⟩⟩ else none
def ofIv : List (Iv .u8) → Option (List UInt8)
  | [] => some []
  | x :: l => if 0 ≤ x.v ∧ x.v < 256 then (ofIv l).map (UInt8.ofNat x.v.toNat :: ·) else none
def strS (a : Sl (Iv .u8)) : Option ByteArray := (ofIv a.l).map fun l => ⟨l.toArray⟩
theorem ofIv_cells : ∀ l : List (Iv .u8), ofBytes (cellsL l) = ofIv l
  | [] => rfl
  | x :: l => by
    show ofBytes (.int .u8 x.v :: cellsL l) = _
    simp only [ofBytes, ofIv, ofIv_cells l]
theorem bytesT_cells (s : ByteArray) : bytesT s = cellsL (s.data.toList.map fun b => (⟨b.toNat⟩ : Iv .u8)) := by
  unfold bytesT
  generalize s.data.toList = l
  induction l with
  | nil => rfl
  | cons b l ih => simp only [List.map_cons, cellsL]; rw [ih]; rfl
section
variable {P : Program} {O : Oracle}
variable {ops : Array Oper} {m : Mo} {l : List Oper} {K : Fr → Prop} {s : Nat → T} {σ σ0 : St} {L : List (Nat × T)} {es ents : List Ent}
variable {d : Option Nat} {ty : TypeId} {ps : String} {af : Array Edge} {g : Option (Nat × Bool)}
theorem convA_str' {σ : St} {src dst : TypeId} {w : ByteArray} : convA P none σ src dst (.str w) = if kindT P src = 3 then if kindT P dst = 3 then some (.str w, σ) else (elemOfSl P dst).bind fun e => if kindT P e = 10 ∧ w.size ≤ 2 ^ 40 ∧ σ.okK none = true then some (.ref (σ.nid none) 0 0 w.size, σ.pushK none (mkBlk (bytesT w) 1)) else none else none := rfl
theorem q_s2b {x : Operand} {src dst e : TypeId} {w : ByteArray} {r : Sl (Iv .u8)} (hw : want ops L g = some true) (hS : Sub L s) (hH : Heap σ0 σ es) (hx : gE (get L) x = some (.str w)) (hk : (Nat.beq (kindT P src) 3 && !Nat.beq (kindT P dst) 3) = true) (he : elemOfSl P dst = some e) (hke : Nat.beq (kindT P e) 10 = true) (hr : bytesS w = some r)
    (k : ∀ t' σ' s', IsOne t' → Heap σ0 σ' (.own true 1 t' r.t :: es) → Sub (putL L d t') s' → opsX P O ops .q l K ⟨s', σ'⟩) : opsX P O ops .q (⟨d, .convert src dst x, ty, ps, af, g⟩ :: l) K ⟨s, σ⟩ := by
  unfold bytesS at hr
  split at hr
  · rename_i hb
    injection hr with hr; subst hr
    simp only [Bool.and_eq_true, Bool.not_eq_true'] at hk
    have h1 := Nat.eq_of_beq_eq_true hk.1; have h2 := Nat.ne_of_beq_eq_false hk.2; have h3 := Nat.eq_of_beq_eq_true hke
    refine x_new (v := .ref σ.next 0 0 w.size) (σ' := σ.pushK none (mkBlk (bytesT w) 1)) (want_sound hS hw) ?_ ?_
    · rw [a_convert, gE_sound hS hx, Option.bind_some]
      rw [convA_str', if_pos h1, if_neg h2, he, Option.bind_some, if_pos ⟨h3, by omega, rfl⟩]; rfl
    · rw [put_eq]
      refine k _ _ _ ⟨rfl, rfl⟩ ?_ (sub_putL hS d _ σ)
      have hl : (w.data.toList.map fun b => (⟨b.toNat⟩ : Iv .u8)).length = w.size := by rw [List.length_map, Array.length_toList]; rfl
      have hrow : Sl.t (⟨false, w.data.toList.map fun b => ⟨b.toNat⟩⟩ : Sl (Iv .u8)) = .row false w.size (cellsL (w.data.toList.map fun b => (⟨b.toNat⟩ : Iv .u8))) := by
        show T.row false (List.length _) _ = _; rw [hl]
      rw [hrow, bytesT_cells]
      refine Heap.mkRow (ents := []) hH (by decide) (by omega) (by rw [cellsL_len, hl]; rfl) (cellsL_one _) ?_
      generalize w.data.toList = l
      induction l with
      | nil => exact .nil
      | cons b l ih => exact .leaf (fun σ d => by cases d <;> rfl) ih
  · cases hr
end
theorem hold_isTop {σ : St} {k : Nat} {t : T} {z : Bool} {n : Nat} {cs : List T} {S : List Nat} (h : hold true σ k t = some (.row z n cs, S)) : isTop t = true := by
  cases t with
  | row zz m us => cases zz <;> cases m <;> cases us <;> first | rfl | (cases k <;> simp [hold] at h)
  | agg us => cases k <;> simp [hold] at h
  | tup us => cases k <;> simp [hold] at h
  | ref b e off n => rfl
  | emp => rfl
  | _ => cases k <;> simp [hold] at h
section
variable {P : Program} {O : Oracle}
variable {ops : Array Oper} {m : Mo} {l : List Oper} {K : Fr → Prop} {s : Nat → T} {σ σ0 : St} {L : List (Nat × T)} {es ents : List Ent}
variable {d : Option Nat} {ty : TypeId} {ps : String} {af : Array Edge} {g : Option (Nat × Bool)}
theorem Heap.lens {α β : Type} [Enc α] [Enc β] {w : Nat} {t1 : T} {a : Sl α} {j : Int} {y : α} {b ep off : Nat} {c : List T} {q : Sl β} (hH : Heap σ0 σ (.own true w t1 a.t :: es)) (hr : t1 = .ref b ep 0 a.l.length)
    (hy : elt a j = some y) (hc : Enc.cells y = c) (hv : c[off]? = some q.t) :
    ∃ F t' B S', IsOne t' ∧ Heap σ0 σ (.own true 0 t' q.t :: .keep F σ :: es) ∧
      (∀ (σ1 : St) (es1 : List Ent) (q' : Sl β) (y' : α), Enc.cells y' = c.take off ++ q'.t :: c.drop (off + 1) → Heap σ0 σ1 (.own true 0 t' q'.t :: .keep F σ :: es1) → Heap σ0 σ1 (.own true w t1 (setS a j y').t :: es1)) ∧
      (∀ (σ1 : St) (es1 : List Ent), Heap σ0 σ1 (.own true 0 t' q.t :: .keep F σ :: es1) → Heap σ0 σ1 (.own true w t1 a.t :: es1)) ∧
      (∀ (σ1 : St) (es1 : List Ent) (w2 : Nat) (t2 : T) (q2 : Sl β) (y' : α), Enc.cells y' = c.take off ++ q2.t :: c.drop (off + 1) → Heap σ0 σ1 (.own true w2 t2 q2.t :: .keep F σ :: es1) → ∃ B1, σ1.blk b = some B1 ∧ B1.st = true ∧ ep = B1.ep ∧ j.toNat * Enc.w α + off + 1 ≤ B1.cells.length ∧ Heap σ0 (σ1.set b { B1 with cells := splice B1.cells (j.toNat * Enc.w α + off) [t2], low := B1.ep, ver := B1.ver + 1 }) (.own true w t1 (setS a j y').t :: es1)) ∧
      b ∈ F ∧ σ.blk b = some B ∧ ep = B.ep ∧ B.low ≤ B.ep ∧ B.cells.drop (j.toNat * Enc.w α + off) = t' :: B.cells.drop (j.toNat * Enc.w α + off + 1) ∧ B.cells.all T.one = true ∧ ∃ k, frzL (hold true σ k) B.cells = some (cellsL a.l, S') := by
  obtain ⟨q1, q2, q3⟩ := elt_some hy
  obtain ⟨S, ⟨ht, hwd, k', h2⟩, hnd0, _⟩ := hH.head
  have ea : a.t = .row a.z a.l.length (cellsL a.l) := rfl
  rw [ea] at h2
  rcases hold_top ht h2 with ⟨rfl, hz, hn0, hcs, rfl⟩ | ⟨rfl, hz, hn0, hcs, rfl⟩ | ⟨hzz, x', B, S', k'', rfl, hB, c1, c3, c5, c6, c7, h3, rfl⟩
  · cases hr
  · cases hr
  injection hr with e1 e2 _ _
  subst e1; subst e2
  obtain ⟨pos, hpos⟩ : ∃ pos, pos = j.toNat * Enc.w α + off := ⟨_, rfl⟩
  have hoff : off < c.length := (List.getElem?_eq_some_iff.1 hv).1
  have hcl : c.length = Enc.w α := by rw [← hc, Enc.len]
  have hdrop : (cellsL a.l).drop pos = q.t :: (cellsL a.l).drop (pos + 1) := by
    have hd := cellsL_at a.l j.toNat y q3
    rw [hc] at hd
    have e : ∀ m, (cellsL a.l).drop (j.toNat * Enc.w α + m) = (c ++ cellsL (a.l.drop (j.toNat + 1))).drop m := fun m => by rw [← List.drop_drop, hd]
    rw [hpos, e off, Nat.add_assoc, e (off + 1), List.drop_eq_getElem_cons (by simp; omega)]
    congr 1
    rw [List.getElem_append_left hoff]
    exact (List.getElem?_eq_some_iff.1 hv).2
  obtain ⟨G1, G2, rfl, h4, h5⟩ := frzL_split pos h3
  rw [hdrop] at h5
  have hlen : B.cells.drop pos ≠ [] := fun h => by rw [h] at h5; simp [frzL] at h5
  obtain ⟨t', cr, hcr⟩ := List.exists_cons_of_ne_nil hlen
  have hcr2 : cr = B.cells.drop (pos + 1) := by rw [← List.drop_drop, hcr]; rfl
  rw [hcr] at h5
  simp only [frzL] at h5
  obtain ⟨⟨v0, G3⟩, h6, h7⟩ := Option.bind_eq_some_iff.1 h5
  obtain ⟨⟨vs, G4⟩, h8, h9⟩ := Option.map_eq_some_iff.1 h7
  injection h9 with h9 h10; injection h9 with h9 h11
  subst h9; subst h10; subst h11
  have htop : isTop t' = true := hold_isTop h6
  have hperm : ∀ X : List Nat, (X ++ (x' :: (G1 ++ G4))).Perm (x' :: (G1 ++ (X ++ G4))) := fun X =>
    List.perm_middle.trans (List.Perm.cons _ (by rw [← List.append_assoc, ← List.append_assoc]; exact List.perm_append_comm.append_right _))
  have hcells : ∀ (q' : Sl β) (y' : α), Enc.cells y' = c.take off ++ q'.t :: c.drop (off + 1) → cellsL (setS a j y').l = (cellsL a.l).take pos ++ ([q'.t] ++ (cellsL a.l).drop (pos + 1)) := fun q' y' hy' => by
    simp only [setS]
    rw [cellsL_set a.l j.toNat y y' q3, hy', hpos]
    have hd := cellsL_at a.l j.toNat y q3
    rw [hc] at hd
    have hsplit : cellsL a.l = (cellsL a.l).take (j.toNat * Enc.w α) ++ (c ++ cellsL (a.l.drop (j.toNat + 1))) := by rw [← hd, List.take_append_drop]
    have hl0 : ((cellsL a.l).take (j.toNat * Enc.w α)).length = j.toNat * Enc.w α := by
      rw [List.length_take, cellsL_len]
      have : (j.toNat + 1) * Enc.w α ≤ a.l.length * Enc.w α := Nat.mul_le_mul_right _ (by omega)
      rw [Nat.succ_mul] at this; omega
    generalize (cellsL a.l).take (j.toNat * Enc.w α) = A at hsplit hl0
    generalize cellsL (a.l.drop (j.toNat + 1)) = R at hsplit
    rw [hsplit]
    have := splice_row A c R [q'.t] (j.toNat * Enc.w α) off 1 (Enc.w α) hl0 hcl (by omega)
    simp only [List.append_assoc, List.singleton_append, List.cons_append, List.nil_append, List.drop_drop] at this ⊢
    rw [this]
  have hclose : ∀ (σ1 : St) (es1 : List Ent) (q' : Sl β) (y' : α), Enc.cells y' = c.take off ++ q'.t :: c.drop (off + 1) → Heap σ0 σ1 (.own true 0 t' q'.t :: .keep (x' :: (G1 ++ G4)) σ :: es1) → Heap σ0 σ1 (.own true w (.ref x' B.ep 0 a.l.length) (setS a j y').t :: es1) := by
    intro σ1 es1 q' y' hy' hH1
    refine Heap.step (es1 := [.own true 0 t' q'.t, .keep (x' :: (G1 ++ G4)) σ]) (es2 := [.own true w (.ref x' B.ep 0 a.l.length) (setS a j y').t]) (es := es1) hH1 (Nat.le_refl _) fun F hF hnd hbd => ?_
    obtain ⟨S1, F1, rfl, ⟨_, _, k5, h12⟩, S2, F2, rfl, ⟨rfl, hkeep⟩, hnil⟩ := hF
    cases hnil
    rw [List.append_nil] at hnd
    have hkeep := fun b hb => (hkeep b hb).1
    have cg : ∀ {ts ws : List T} {G : List Nat}, (∀ x ∈ G, x ∈ G1 ++ G4) → frzL (hold true σ k'') ts = some (ws, G) → frzL (hold true σ1 k'') ts = some (ws, G) := fun hG h =>
      frzL_congr (fun t v S'' _ hq hq2 => hold_same k'' t v S'' (fun x hx => hkeep x (by simp only [List.mem_cons]; exact .inr (hG _ (hq2 _ hx)))) hq) h
    have r1 := cg (fun x hx => by simp [hx]) h4
    have r2 := cg (fun x hx => by simp [hx]) h8
    have r0 : frzL (hold true σ1 k5) [t'] = some ([q'.t], S1) := by simp [frzL, h12]
    have r3 := frzL_append (frzLh_mono (Nat.le_max_left k'' k5) r1) (frzL_append (frzLh_mono (Nat.le_max_right k'' k5) r0) (frzLh_mono (Nat.le_max_left k'' k5) r2))
    have hB1 : σ1.blk x' = some B := by rw [hkeep x' (by simp), hB]
    refine ⟨x' :: (G1 ++ (S1 ++ G4)), ⟨x' :: (G1 ++ (S1 ++ G4)), [], by simp, ⟨rfl, fun b e o n B' h hB' hw0 => ?_, max k'' k5 + 1, ?_⟩, rfl⟩, (hperm S1).nodup_iff.1 hnd, fun b hb => .inl ?_, fun _ _ _ => rfl⟩
    · injection h with h; subst h
      rw [hB1] at hB'; injection hB' with hB'; subst hB'
      exact hwd _ _ _ _ _ rfl hB hw0
    · have hll : (setS a j y').l.length = a.l.length := by simp [setS]
      have e3 : List.take pos B.cells ++ ([t'] ++ cr) = B.cells := by
        rw [List.singleton_append, ← hcr, List.take_append_drop]
      rw [e3] at r3
      have hz : (setS a j y').z = false := hzz
      simp only [hold, hB1, Option.bind_some, Sl.t, hll, hcells q' y' hy', hz]
      rw [if_pos ⟨fun _ => c1 rfl, trivial, c3, trivial, c5, c6, c7, by omega⟩, r3]; rfl
    · rw [List.append_nil]; exact (hperm S1).mem_iff.2 hb
  have hput : ∀ (σ1 : St) (es1 : List Ent) (w2 : Nat) (t2 : T) (q2 : Sl β) (y' : α), Enc.cells y' = c.take off ++ q2.t :: c.drop (off + 1) → Heap σ0 σ1 (.own true w2 t2 q2.t :: .keep (x' :: (G1 ++ G4)) σ :: es1) → ∃ B1, σ1.blk x' = some B1 ∧ B1.st = true ∧ B.ep = B1.ep ∧ j.toNat * Enc.w α + off + 1 ≤ B1.cells.length ∧ Heap σ0 (σ1.set x' { B1 with cells := splice B1.cells (j.toNat * Enc.w α + off) [t2], low := B1.ep, ver := B1.ver + 1 }) (.own true w (.ref x' B.ep 0 a.l.length) (setS a j y').t :: es1) := by
    intro σ1 es1 w2 t2 q2 y' hy' hH1
    have hB1 : σ1.blk x' = some B := by
      obtain ⟨Sk, ⟨rfl, hkp⟩, _⟩ := (hH1.at 1 rfl).head
      rw [(hkp x' (by simp)).1, hB]
    have hplen : pos + 1 ≤ B.cells.length := by
      have := congrArg List.length hcr
      simp only [List.length_drop, List.length_cons] at this; omega
    refine ⟨B, hB1, c1 rfl, rfl, by rw [← hpos]; exact hplen, ?_⟩
    rw [← hpos]
    refine Heap.step (es1 := [.own true w2 t2 q2.t, .keep (x' :: (G1 ++ G4)) σ]) (es2 := [.own true w (.ref x' B.ep 0 a.l.length) (setS a j y').t]) (es := es1) hH1 (by simp) fun F hF hnd hbd => ?_
    obtain ⟨S1, F1, rfl, ⟨htop2, _, k5, h12⟩, S2, F2, rfl, ⟨rfl, hkeep⟩, hnil⟩ := hF
    cases hnil
    rw [List.append_nil] at hnd
    have hkeep := fun b hb => (hkeep b hb).1
    obtain ⟨n1, n2, n3⟩ := List.nodup_append.1 hnd
    have hx1 : x' ∉ S1 := fun h => n3 x' h x' (by simp) rfl
    have hx2 : x' ∉ G1 ++ G4 := (List.nodup_cons.1 n2).1
    have hs : ∀ b, b ≠ x' → (σ1.set x' { B with cells := splice B.cells pos [t2], low := B.ep, ver := B.ver + 1 }).blk b = σ1.blk b := fun b hb => by rw [set_blk, if_neg hb]
    have cg : ∀ {ts ws : List T} {G : List Nat}, (∀ x ∈ G, x ∈ G1 ++ G4) → frzL (hold true σ k'') ts = some (ws, G) → frzL (hold true (σ1.set x' { B with cells := splice B.cells pos [t2], low := B.ep, ver := B.ver + 1 }) k'') ts = some (ws, G) := fun hG h =>
      frzL_congr (fun t v S'' _ hq hq2 => hold_same k'' t v S'' (fun x hx => by
        have hxG := hG _ (hq2 _ hx)
        rw [hs x fun e => by subst e; exact hx2 hxG]
        exact hkeep x (by simp only [List.mem_cons]; exact .inr hxG)) hq) h
    have r1 := cg (fun x hx => by simp [hx]) h4
    have r2 := cg (fun x hx => by simp [hx]) h8
    have h13 : hold true (σ1.set x' { B with cells := splice B.cells pos [t2], low := B.ep, ver := B.ver + 1 }) k5 t2 = some (q2.t, S1) := hold_same k5 t2 q2.t S1 (fun x hx => hs x fun e => by subst e; exact hx1 hx) h12
    have r0 : frzL (hold true (σ1.set x' { B with cells := splice B.cells pos [t2], low := B.ep, ver := B.ver + 1 }) k5) [t2] = some ([q2.t], S1) := by
      simp only [frzL, h13, Option.bind_some, Option.map_some, List.append_nil]
    have r3 := frzL_append (frzLh_mono (Nat.le_max_left k'' k5) r1) (frzL_append (frzLh_mono (Nat.le_max_right k'' k5) r0) (frzLh_mono (Nat.le_max_left k'' k5) r2))
    refine ⟨x' :: (G1 ++ (S1 ++ G4)), ⟨x' :: (G1 ++ (S1 ++ G4)), [], by simp, ⟨rfl, fun b e o n B' h hB' hw0 => ?_, max k'' k5 + 1, ?_⟩, rfl⟩, (hperm S1).nodup_iff.1 hnd, fun b hb => .inl ?_, fun b hb hm => hs b fun e => hm (by simp [e])⟩
    · injection h with h; subst h
      rw [set_blk_self] at hB'; injection hB' with hB'; subst hB'
      exact hwd _ _ _ _ B rfl hB hw0
    · have hll : (setS a j y').l.length = a.l.length := by simp [setS]
      have e3 : splice B.cells pos [t2] = List.take pos B.cells ++ ([t2] ++ cr) := by
        unfold splice; rw [hcr2, List.append_assoc]; rfl
      have hz : (setS a j y').z = false := hzz
      have hone := (isTop_one htop2).2
      have hall : (List.take pos B.cells ++ ([t2] ++ cr)).all T.one = true := by
        rw [List.all_eq_true] at c7
        rw [List.all_eq_true]
        intro x hx
        rcases List.mem_append.1 hx with hx | hx
        · exact c7 x (List.mem_of_mem_take hx)
        · rcases List.mem_cons.1 (show x ∈ t2 :: cr from hx) with rfl | hx
          · exact hone
          · rw [hcr2] at hx; exact c7 x (List.mem_of_mem_drop hx)
      have hlen2 : (List.take pos B.cells ++ ([t2] ++ cr)).length = a.l.length * B.esz := by
        rw [← c5, hcr2]; simp only [List.length_append, List.length_take, List.length_drop, List.length_singleton]; omega
      simp only [hold, set_blk_self, Option.bind_some, Sl.t, hll, hcells q2 y' hy', hz]
      rw [e3] at r3 ⊢
      rw [if_pos ⟨fun _ => c1 rfl, trivial, Nat.le_refl _, trivial, hlen2, c6, hall, by omega⟩, r3]; rfl
    · rw [List.append_nil]; exact (hperm S1).mem_iff.2 hb
  have hsame : setS a j y = a := by
    obtain ⟨z, l⟩ := a
    simp only [setS]
    congr 1
    obtain ⟨hi, hy'⟩ := List.getElem?_eq_some_iff.1 q3
    rw [← hy']; exact List.set_getElem_self hi
  have hcy : Enc.cells y = c.take off ++ q.t :: c.drop (off + 1) := by
    obtain ⟨ho, hv'⟩ := List.getElem?_eq_some_iff.1 hv
    rw [hc, ← hv', List.getElem_cons_drop, List.take_append_drop]
  refine ⟨x' :: (G1 ++ G4), t', B, G1 ++ (G3 ++ G4), isTop_one htop, ?_, hclose, fun σ1 es1 hh => by have := hclose σ1 es1 q y hcy hh; rwa [hsame] at this, hput, by simp, hB, rfl, c3, ?_, c7, k'', h3⟩
  · refine Heap.step (es1 := [.own true w (.ref x' B.ep 0 a.l.length) a.t]) (es2 := [.own true 0 t' q.t, .keep (x' :: (G1 ++ G4)) σ]) (es := es) hH (Nat.le_refl _) fun F hF hnd hbd => ?_
    obtain ⟨S1, F1, rfl, ⟨_, _, k5, h12⟩, hnil⟩ := hF
    cases hnil
    have : S1 = x' :: (G1 ++ (G3 ++ G4)) := by
      have e1 := hold_mono k' _ _ _ h2 (max k' k5) (Nat.le_max_left _ _)
      have e2 := hold_mono k5 _ _ _ h12 (max k' k5) (Nat.le_max_right _ _)
      rw [ea, e1] at e2; injection e2 with e2; injection e2 with _ e2; exact e2.symm
    subst this
    rw [List.append_nil] at hnd
    have hsome : ∀ b ∈ x' :: (G1 ++ G4), (σ.blk b).isSome = true := fun b hb => hold_some h12 b (by simp only [List.mem_cons, List.mem_append] at hb ⊢; rcases hb with h | h | h <;> simp [h])
    refine ⟨G3 ++ ((x' :: (G1 ++ G4)) ++ []), ⟨G3, _, rfl, ⟨htop, fun _ _ _ _ _ _ _ h => absurd rfl h, k'', h6⟩, _, [], rfl, ⟨rfl, fun b hb => ⟨rfl, hsome b hb⟩⟩, rfl⟩, ?_, fun b hb => .inl ?_, fun _ _ _ => rfl⟩
    · rw [List.append_nil]; exact (hperm G3).nodup_iff.2 hnd
    · rw [List.append_nil] at hb; rw [List.append_nil]; exact (hperm G3).mem_iff.1 hb
  · rw [← hpos, hcr, hcr2]
theorem q_hlens {α β : Type} [Enc α] [Enc β] {w : Nat} {m : Mo} {ad : Operand} {t : TypeId} {t1 : T} {a : Sl α} {j : Int} {y : α} {b ep off n : Nat} {c : List T} {q : Sl β} (hm : ∀ b e o n, t1 = .ref b e o n → m.lt b) (hw : want ops L g = some true) (hS : Sub L s) (hH : Heap σ0 σ (.own true w t1 a.t :: es)) (hr : t1 = .ref b ep 0 a.l.length)
    (ha : gE (get L) ad = some (.ptr b ep (j.toNat * Enc.w α + off) n)) (hy : elt a j = some y) (hc : Enc.cells y = c) (hag : aggOf P t = some false) (hv : c[off]? = some q.t) (hn : Nat.ble 1 n = true)
    (k : ∀ F σk t' s', IsOne t' → Heap σ0 σ (.own true 0 t' q.t :: .keep F σk :: es) →
      (∀ (σ1 : St) (es1 : List Ent) (q' : Sl β) (y' : α), Enc.cells y' = c.take off ++ q'.t :: c.drop (off + 1) → Heap σ0 σ1 (.own true 0 t' q'.t :: .keep F σk :: es1) → Heap σ0 σ1 (.own true w t1 (setS a j y').t :: es1)) →
      (∀ (σ1 : St) (es1 : List Ent), Heap σ0 σ1 (.own true 0 t' q.t :: .keep F σk :: es1) → Heap σ0 σ1 (.own true w t1 a.t :: es1)) →
      (∀ (σ1 : St) (es1 : List Ent) (w2 : Nat) (t2 : T) (q2 : Sl β) (y' : α), Enc.cells y' = c.take off ++ q2.t :: c.drop (off + 1) → Heap σ0 σ1 (.own true w2 t2 q2.t :: .keep F σk :: es1) → ∃ B1, σ1.blk b = some B1 ∧ B1.st = true ∧ ep = B1.ep ∧ j.toNat * Enc.w α + off + 1 ≤ B1.cells.length ∧ Heap σ0 (σ1.set b { B1 with cells := splice B1.cells (j.toNat * Enc.w α + off) [t2], low := B1.ep, ver := B1.ver + 1 }) (.own true w t1 (setS a j y').t :: es1)) →
      Heap σ0 σk (.own true w t1 a.t :: es) → b ∈ F →
      Sub (putL L d t') s' → opsX P O ops (nxM m) l K ⟨s', σ⟩) : opsX P O ops m (⟨d, .load t ad, ty, ps, af, g⟩ :: l) K ⟨s, σ⟩ := by
  obtain ⟨F, t', B, S', h1, h2, h3, h4, hput, hbF, h5, rfl, h7, h8, _⟩ := Heap.lens hH hr hy hc hv
  refine q_val hw hS (fun kk σ' ha' => ?_) (fun s' => k F σ t' s' h1 h2 h3 h4 hput hH hbF)
  subst hr
  rw [a_load, gE_sound hS ha, Option.bind_some, loadA_ptr, Mo.al_blk ha' (hm _ _ _ _ rfl), h5, Option.bind_some, if_pos h7, part_eq, hag, Option.bind_some, partA_false, h8]
  have := Nat.le_of_ble_eq_true hn
  obtain ⟨n, rfl⟩ : ∃ k, n = k + 1 := ⟨n - 1, by omega⟩
  simp
end
def okPs : List (Nat × T) → List (List T) → Prop
  | [], [] => True
  | (_, v) :: ps, c :: cs => v.cells = c ∧ c.all T.one = true ∧ okPs ps cs
  | _, _ => False
def fillL (place : Nat → Option (Nat × Nat)) (cells : List T) : List (Nat × T) → List (List T) → Option (List T)
  | [], _ => some cells
  | (i, _) :: rest, c :: cs => match place i with
    | some (off, size) => bif Nat.beq c.length size && Nat.ble (off + size) cells.length then fillL place (splice cells off c) rest cs else none
    | none => none
  | _, _ => none
theorem fillA_L {place : Nat → Option (Nat × Nat)} : ∀ {ps : List (Nat × T)} {cs : List (List T)} {cells r : List T}, okPs ps cs → fillL place cells ps cs = some r → fillA place cells ps = some r
  | [], [], cells, r, _, h => h
  | (i, v) :: ps, c :: cs, cells, r, hp, h => by
    obtain ⟨h1, h2, h3⟩ := hp
    simp only [fillL] at h
    split at h
    · rename_i off size hpl
      simp only [fillA, hpl, Option.bind_some, h1]
      cases hb : Nat.beq c.length size && Nat.ble (off + size) cells.length with
      | true =>
        rw [hb] at h
        simp only [Bool.and_eq_true] at hb
        rw [if_pos ⟨Nat.eq_of_beq_eq_true hb.1, Nat.le_of_ble_eq_true hb.2, h2⟩]
        exact fillA_L h3 h
      | false => rw [hb] at h; cases h
    · cases h
  | [], _ :: _, _, _, hp, _ => hp.elim
  | _ :: _, [], _, _, hp, _ => by exact hp.elim
section
variable {P : Program} {O : Oracle}
variable {ops : Array Oper} {m : Mo} {l : List Oper} {K : Fr → Prop} {s : Nat → T} {σ σ0 : St} {L : List (Nat × T)}
variable {d : Option Nat} {ty : TypeId} {ps : String} {af : Array Edge} {g : Option (Nat × Bool)}
theorem q_build {t : TypeId} {parts : Array (Nat × Operand)} {qs : List (Nat × T)} {z r : List T} (cs : List (List T)) (hw : want ops L g = some true) (hS : Sub L s) (hg : gPs (get L) parts.toList = some qs) (hz : zeroOf P t = some z)
    (hk : (Nat.beq (kindT P t) 7 && (fieldsT P t).all (fun f => (szOf P f.type).isSome)) = true) (ho : okPs qs cs) (hf : fillL (fun i => (fieldOf P t i).map fun (o, _, n) => (o, n)) z qs cs = some r)
    (k : ∀ s', Sub (putL L d (.agg r)) s' → opsX P O ops (nxM m) l K ⟨s', σ⟩) : opsX P O ops m (⟨d, .build t parts, ty, ps, af, g⟩ :: l) K ⟨s, σ⟩ := by
  simp only [Bool.and_eq_true] at hk
  refine q_val hw hS (fun kk σ' _ => ?_) k
  show ((zeroOf P t).bind fun z => (evalPs s parts.toList).bind fun ps => if kindT P t = 7 ∧ (fieldsT P t).all (fun f => (szOf P f.type).isSome) = true then ((fillA (fun i => (fieldOf P t i).map fun (o, _, n) => (o, n)) z ps).map .agg).map (fun x => ARes.val x σ') else none) = _
  rw [hz, Option.bind_some, gPs_sound hS hg, Option.bind_some, if_pos ⟨Nat.eq_of_beq_eq_true hk.1, hk.2⟩, fillA_L ho hf]; rfl
end
section
variable {P : Program} {O : Oracle}
variable {ops : Array Oper} {m : Mo} {l : List Oper} {K : Fr → Prop} {s : Nat → T} {σ : St} {L : List (Nat × T)}
variable {d : Option Nat} {ty : TypeId} {ps : String} {af : Array Edge} {g : Option (Nat × Bool)}
end
end Go.Am
end
section
set_option linter.unusedVariables false
set_option linter.unusedSimpArgs false
namespace Go.Am
section
variable {P : Program} {O : Oracle} {ops : Array Oper} {l : List Oper} {K : Fr → Prop} {s : Nat → T} {σ σ0 : St} {L : List (Nat × T)} {es ents : List Ent}
variable {d : Option Nat} {ty : TypeId} {ps : String} {af : Array Edge} {g : Option (Nat × Bool)}
end
section
variable {P : Program} {md : Nat → Md} {X : Ext} {ops : Array Oper} {m : Mo} {l : List Oper} {K : Fr → Prop} {s : Nat → T} {σ σ0 : St} {L : List (Nat × T)} {es ents : List Ent} {f : Nat}
variable {d : Option Nat} {ty : TypeId} {ps : String} {af : Array Edge} {g : Option (Nat × Bool)}
def EB : Ent → Nat → Prop
  | .box b _, x => x = b
  | .own _ _ t _, x => BT t x
  | .flt _ t _, x => BT t x
  | .keep F _, x => x ∈ F
  | .frt .., _ => False
def Stay (R : Nat → Prop) (es : List Ent) : Prop := ∀ x, R x → ∃ e ∈ es, EB e x
theorem Stay.nil {es : List Ent} : Stay RN es := fun x h => h.elim
theorem Stay.box {R : Nat → Prop} {es : List Ent} {b : Nat} {c : List T} (h : Ent.box b c ∈ es) (k : Stay R es) : Stay (RB b R) es := fun y hy => by
  rcases hy with rfl | hy
  · exact ⟨_, h, rfl⟩
  · exact k y hy
theorem Stay.own {R : Nat → Prop} {es : List Ent} {z : Bool} {w : Nat} {t v : T} (h : Ent.own z w t v ∈ es) (k : Stay R es) : Stay (RT t R) es := fun y hy => by
  rcases hy with hy | hy
  · exact ⟨_, h, hy⟩
  · exact k y hy
theorem LentL.mark {S : List Nat} : ∀ {bs : List Nat} {cs : List (List T)}, LentL σ bs cs → LentL (σ.mark S) bs cs
  | [], [], _ => trivial
  | b :: bs, c :: cs, ⟨⟨h1, B, h2, h3⟩, h4⟩ => ⟨⟨h1, by
      have e : (σ.mark S).blk b = some (if b ∈ S then { B with st := false } else B) := by simp [St.mark, h2]
      refine ⟨_, e, ?_⟩
      split <;> exact h3⟩, h4.mark⟩
  | [], _ :: _, h => h.elim
  | _ :: _, [], h => h.elim
end
abbrev nt (α : Type) [Enc α] : T := Sl.t (⟨true, []⟩ : Sl α)
section
variable {z : Bool} {ts vs : List T} {es : List Ent}
theorem HLi {k : IntKind} {n : Int} (r : HL z ts vs es) : HL z (.int k n :: ts) (.int k n :: vs) es := HL.leaf (fun σ d => hold_int _ σ d _ _) r
theorem HLb {n : Bool} (r : HL z ts vs es) : HL z (.bool n :: ts) (.bool n :: vs) es := HL.leaf (fun σ d => hold_bool _ σ d _) r
theorem HLs {n : ByteArray} (r : HL z ts vs es) : HL z (.str n :: ts) (.str n :: vs) es := HL.leaf (fun σ d => hold_str _ σ d _) r
theorem HLn {α : Type} [Enc α] (r : HL z ts vs es) : HL z (Sl.t (⟨true, []⟩ : Sl α) :: ts) (Sl.t (⟨true, []⟩ : Sl α) :: vs) es := HL.leaf (fun σ d => hold_nilS _ σ d) r
theorem HLp {α : Type} [Enc α] {a : Sl α} (r : HL false ts vs es) : HL false (a.t :: ts) (a.t :: vs) es := HL.leaf (fun σ d => hold_pure σ d _) r
end
abbrev i4 (n : Int) : T := .int .i64 n
section
variable {P : Program} {O : Oracle} {ops : Array Oper} {m : Mo} {l : List Oper} {K : Fr → Prop} {s : Nat → T} {σ σ0 : St} {L : List (Nat × T)} {es : List Ent}
variable {d : Option Nat} {ty : TypeId} {ps : String} {af : Array Edge} {g : Option (Nat × Bool)}
theorem qs (n : Nat) (L' : List (Nat × T)) (hS : Sub L s) (k : ∀ s', Sub L' s' → opsX P O ops (nxN n m) (l.drop n) K ⟨s', σ⟩) (h : ((seg P ops n l L).map fun M => L'.map fun p => get M p.1) = some (L'.map fun p => some p.2) := by kernel_rfl) : opsX P O ops m l K ⟨s, σ⟩ := q_seg n L' hS h k
end
end Go.Am
end
section
set_option linter.unusedVariables false
set_option linter.unusedSimpArgs false
namespace Go.Am
section
variable {P : Program} {O : Oracle} {ops : Array Oper} {m : Mo} {l : List Oper} {K : Fr → Prop} {s : Nat → T} {σ σ0 : St} {L : List (Nat × T)} {es ents : List Ent}
variable {d : Option Nat} {ty : TypeId} {ps : String} {af : Array Edge} {g : Option (Nat × Bool)}
theorem Heap.fltOne {w : Nat} {t v : T} (h : Heap σ0 σ (.flt w t v :: es)) : IsOne t := by
  obtain ⟨S, h1, _⟩ := h.head
  rcases h1 with ⟨rfl, _⟩ | ⟨rfl, _⟩ | ⟨b, B, n, rfl, _⟩ <;> exact ⟨rfl, rfl⟩
end
end Go.Am
end
section
set_option linter.unusedVariables false
set_option linter.unusedSimpArgs false
namespace Go.Am
open Classical
def Kb (F : List Nat) (σk : St) (x : Nat) (c : List T) : Prop := x ∈ F ∧ ∃ B, σk.blk x = some B ∧ B.cells = c ∧ B.ep = 0 ∧ B.low = 0
def KLe (F : List Nat) (σ : St) (F2 : List Nat) (σ2 : St) : Prop := F.Nodup ∧ ∀ b ∈ F, b ∈ F2 ∧ σ2.blk b = σ.blk b
theorem Kb.mono {F F2 : List Nat} {σ σ2 : St} {x : Nat} {c : List T} (h : Kb F σ x c) (k : KLe F σ F2 σ2) : Kb F2 σ2 x c := by
  obtain ⟨h1, B, h2, h3⟩ := h
  obtain ⟨k1, k2⟩ := k.2 x h1
  exact ⟨k1, B, by rw [k2, h2], h3⟩
theorem Heap.part {σ0 σ σk σ2 : St} {Fk F2 : List Nat} {es : List Ent} (h : Heap σ0 σ (.keep F2 σ2 :: es)) (k : KLe Fk σk F2 σ2) : ∃ F3, Heap σ0 σ (.keep Fk σk :: .keep F3 σ2 :: es) ∧ ∀ σ' es', Heap σ0 σ' (.keep Fk σk :: .keep F3 σ2 :: es') → Heap σ0 σ' (.keep F2 σ2 :: es') := by
  obtain ⟨S0, ⟨rfl, _⟩, hn2, _⟩ := h.head
  refine ⟨S0.filter fun b => decide (b ∉ Fk), ?_, fun σ' es' h' => ?_⟩
  · refine Heap.step (es1 := [.keep S0 σ2]) (es2 := [.keep Fk σk, .keep (S0.filter fun b => decide (b ∉ Fk)) σ2]) (es := es) h (Nat.le_refl _) fun S hS hnd hbd => ?_
    obtain ⟨S1, F1, rfl, ⟨rfl, h1⟩, hnil⟩ := hS
    cases hnil
    refine ⟨Fk ++ S1.filter fun b => decide (b ∉ Fk), ⟨Fk, S1.filter fun b => decide (b ∉ Fk), rfl, ⟨rfl, fun b hb => ?_⟩, _, [], by simp, ⟨rfl, fun b hb => h1 b (List.mem_filter.1 hb).1⟩, rfl⟩, ?_, fun b hb => .inl ?_, fun _ _ _ => rfl⟩
    · obtain ⟨k1, k2⟩ := k.2 b hb
      exact ⟨by rw [(h1 b k1).1, k2], (h1 b k1).2⟩
    · exact List.nodup_append.2 ⟨k.1, hn2.filter _, fun a ha b hb => by
        rintro rfl
        have := (List.mem_filter.1 hb).2
        simp at this; exact this ha⟩
    · rw [List.append_nil]
      rcases List.mem_append.1 hb with hb | hb
      · exact (k.2 b hb).1
      · exact (List.mem_filter.1 hb).1
  · refine Heap.step (es1 := [.keep Fk σk, .keep (S0.filter fun b => decide (b ∉ Fk)) σ2]) (es2 := [.keep S0 σ2]) (es := es') h' (Nat.le_refl _) fun S hS hnd hbd => ?_
    obtain ⟨S1, F1, rfl, ⟨rfl, h1⟩, S3, F3, rfl, ⟨rfl, h3⟩, hnil⟩ := hS
    cases hnil
    refine ⟨S0, ⟨S0, [], by simp, ⟨rfl, fun b hb => ?_⟩, rfl⟩, hn2, fun b hb => .inl ?_, fun _ _ _ => rfl⟩
    · by_cases hm : b ∈ S1
      · exact ⟨by rw [(h1 b hm).1, (k.2 b hm).2], (h1 b hm).2⟩
      · exact h3 b (List.mem_filter.2 ⟨hb, by simpa using hm⟩)
    · rw [List.append_nil]
      by_cases hm : b ∈ S1
      · exact List.mem_append_left _ hm
      · exact List.mem_append_right _ (List.mem_filter.2 ⟨hb, by simpa using hm⟩)
section
variable (P : Program) (md : Nat → Md) (X : Ext) {α : Type}
def ThenOk (en : α → List T → List Ent) (n : Nat) (th : T) (Φ : Int → α → Option (Bool × α)) (F : List Nat) (σk : St) : Prop :=
  ∀ e S y hs, hs.length = n → Φ e S = some y → ∃ f a b, th = .fn f a b ∧ RawS P md X f (a ++ [.int .i64 e] ++ b) n (fun _ => .bool y.1) (en S hs ++ [.keep F σk]) (fun hs' => en y.2 hs' ++ [.keep F σk])
end
section
variable {P : Program} {md : Nat → Md} {X : Ext} {α : Type} {en : α → List T → List Ent} {n : Nat} {th : T} {Φ : Int → α → Option (Bool × α)} {F F2 : List Nat} {σk σ2 : St}
theorem ThenOk.mono (h : ThenOk P md X en n th Φ F σk) (k : KLe F σk F2 σ2) : ThenOk P md X en n th Φ F2 σ2 := fun e S y hs hl hy => by
  obtain ⟨f, a, b, e1, h1⟩ := h e S y hs hl hy
  refine ⟨f, a, b, e1, fun σ0 σ E hH => ?_⟩
  rw [List.append_assoc] at hH
  have hH := hH.perm List.perm_append_comm
  obtain ⟨F3, h2, h3⟩ := Heap.part (es := E ++ en S hs) hH k
  have h2 : Heap σ0 σ ((en S hs ++ [.keep F σk]) ++ (.keep F3 σ2 :: E)) := h2.perm (by
    rw [List.append_assoc]
    refine List.Perm.trans ?_ List.perm_append_comm
    simp only [List.cons_append, List.nil_append]; exact .refl _)
  obtain ⟨hs', σ', q1, q2, q3⟩ := h1 σ0 σ _ h2
  refine ⟨hs', σ', q1, q2, ?_⟩
  have q3 : Heap σ0 σ' (.keep F σk :: .keep F3 σ2 :: (E ++ en y.2 hs')) := q3.perm (by
    rw [List.append_assoc]
    refine List.Perm.trans List.perm_append_comm ?_
    simp only [List.cons_append, List.nil_append]; exact .refl _)
  have q4 := h3 _ _ q3
  rw [List.append_assoc]
  exact q4.perm (by
    refine List.Perm.trans ?_ List.perm_append_comm
    simp only [List.cons_append, List.nil_append]; exact .refl _)
variable {ops : Array Oper} {m : Mo} {l : List Oper} {K : Fr → Prop} {s : Nat → T} {σ σ0 : St} {L : List (Nat × T)} {es ents : List Ent}
variable {d : Option Nat} {ty : TypeId} {ps : String} {af : Array Edge} {g : Option (Nat × Bool)}
theorem RawS.keep {f n : Nat} {args : List T} {tree : List T → T} {ents : List Ent} {ents' : List T → List Ent} (h : RawS P md X f args n tree ents ents') (ks : List Ent) : RawS P md X f args n tree (ents ++ ks) (fun hs => ents' hs ++ ks) := fun σ0 σ E hH => by
  rw [List.append_assoc] at hH
  obtain ⟨hs, σ', h1, h2, h3⟩ := h σ0 σ (ks ++ E) hH
  exact ⟨hs, σ', h1, h2, by rw [List.append_assoc]; exact h3⟩
def Pt (F : List Nat) (σk : St) (pp : T) (c : List T) : Prop := (∃ rest, pp = .vw (c ++ rest)) ∨ ∃ b, pp = .ptr b 0 0 c.length ∧ Kb F σk b c
theorem Pt.mono {pp : T} {c : List T} (h : Pt F σk pp c) (k : KLe F σk F2 σ2) : Pt F2 σ2 pp c := h.imp id fun ⟨b, h1, h2⟩ => ⟨b, h1, h2.mono k⟩
theorem Pt.vw {c rest : List T} : Pt F σk (.vw (c ++ rest)) c := .inl ⟨rest, rfl⟩
theorem Pt.box {b : Nat} {c : List T} {n : Nat} (hn : n = c.length) (h : Kb F σk b c) : Pt F σk (.ptr b 0 0 n) c := .inr ⟨b, by rw [hn], h⟩
theorem Pt.one {pp : T} {c : List T} (h : Pt F σk pp c) : IsOne pp := by
  rcases h with ⟨rest, rfl⟩ | ⟨b, rfl, _⟩ <;> exact ⟨rfl, rfl⟩
end
end Go.Am
end
section
set_option linter.unusedVariables false
set_option linter.unusedSimpArgs false
namespace Go.Am
section
variable {P : Program} {md : Nat → Md} {X : Ext} {β : Type} {eb : β → T} {f : Nat} {r : β}
variable {ops : Array Oper} {m : Mo} {l : List Oper} {K : Fr → Prop} {s : Nat → T} {σ : St} {L : List (Nat × T)}
variable {d : Option Nat} {ty : TypeId} {ps : String} {af : Array Edge} {g : Option (Nat × Bool)}
end
end Go.Am
namespace Go.Am
theorem Enter.of_ok {P : Program} {f : Nat} {c : Code} {n : Nat} {rs : List ResultVar} (h : Ok P f c n rs) : Enter P f := by
  obtain ⟨fn, h1, h2, h3, _⟩ := h
  exact ⟨fn, _, h1, h2, h3⟩
end Go.Am
namespace Go.Am
section
variable {P : Program} {O : Oracle} {Q : AExit → Fr → Prop} {s : Nat → T} {σ : St} {L : List (Nat × T)}
theorem c_cT {c : Operand} {a b : Code} {t : Bool} (h : t = true) (hS : Sub L s) (hc : gE (get L) c = some (.bool t)) (k : codeQ P O a Q ⟨s, σ⟩) : codeQ P O (.cond c a b) Q ⟨s, σ⟩ := c_cond hS hc (fun _ => k) (fun hf => ff_absurd h hf)
theorem c_cF {c : Operand} {a b : Code} {t : Bool} (h : ¬ (t = true)) (hS : Sub L s) (hc : gE (get L) c = some (.bool t)) (k : codeQ P O b Q ⟨s, σ⟩) : codeQ P O (.cond c a b) Q ⟨s, σ⟩ := c_cond hS hc (fun hf => tt_absurd h hf) (fun _ => k)
end
end Go.Am
namespace Go.Am
section
variable {σ0 σ : St} {es : List Ent}
theorem Heap.up1 {a0 a1 : Ent} (h : Heap σ0 σ (a0 :: a1 :: es)) : Heap σ0 σ (a1 :: a0 :: es) := h.pull 1
theorem Heap.up2 {a0 a1 a2 : Ent} (h : Heap σ0 σ (a0 :: a1 :: a2 :: es)) : Heap σ0 σ (a2 :: a0 :: a1 :: es) := h.pull 2
theorem Heap.up3 {a0 a1 a2 a3 : Ent} (h : Heap σ0 σ (a0 :: a1 :: a2 :: a3 :: es)) : Heap σ0 σ (a3 :: a0 :: a1 :: a2 :: es) := h.pull 3
theorem Heap.up4 {a0 a1 a2 a3 a4 : Ent} (h : Heap σ0 σ (a0 :: a1 :: a2 :: a3 :: a4 :: es)) : Heap σ0 σ (a4 :: a0 :: a1 :: a2 :: a3 :: es) := h.pull 4
theorem Heap.up5 {a0 a1 a2 a3 a4 a5 : Ent} (h : Heap σ0 σ (a0 :: a1 :: a2 :: a3 :: a4 :: a5 :: es)) : Heap σ0 σ (a5 :: a0 :: a1 :: a2 :: a3 :: a4 :: es) := h.pull 5
theorem Heap.up8 {a0 a1 a2 a3 a4 a5 a6 a7 a8 : Ent} (h : Heap σ0 σ (a0 :: a1 :: a2 :: a3 :: a4 :: a5 :: a6 :: a7 :: a8 :: es)) : Heap σ0 σ (a8 :: a0 :: a1 :: a2 :: a3 :: a4 :: a5 :: a6 :: a7 :: es) := h.pull 8
theorem Heap.up14 {a0 a1 a2 a3 a4 a5 a6 a7 a8 a9 a10 a11 a12 a13 a14 : Ent} (h : Heap σ0 σ (a0 :: a1 :: a2 :: a3 :: a4 :: a5 :: a6 :: a7 :: a8 :: a9 :: a10 :: a11 :: a12 :: a13 :: a14 :: es)) : Heap σ0 σ (a14 :: a0 :: a1 :: a2 :: a3 :: a4 :: a5 :: a6 :: a7 :: a8 :: a9 :: a10 :: a11 :: a12 :: a13 :: es) := h.pull 14
theorem Heap.up15 {a0 a1 a2 a3 a4 a5 a6 a7 a8 a9 a10 a11 a12 a13 a14 a15 : Ent} (h : Heap σ0 σ (a0 :: a1 :: a2 :: a3 :: a4 :: a5 :: a6 :: a7 :: a8 :: a9 :: a10 :: a11 :: a12 :: a13 :: a14 :: a15 :: es)) : Heap σ0 σ (a15 :: a0 :: a1 :: a2 :: a3 :: a4 :: a5 :: a6 :: a7 :: a8 :: a9 :: a10 :: a11 :: a12 :: a13 :: a14 :: es) := h.pull 15
theorem Heap.up16 {a0 a1 a2 a3 a4 a5 a6 a7 a8 a9 a10 a11 a12 a13 a14 a15 a16 : Ent} (h : Heap σ0 σ (a0 :: a1 :: a2 :: a3 :: a4 :: a5 :: a6 :: a7 :: a8 :: a9 :: a10 :: a11 :: a12 :: a13 :: a14 :: a15 :: a16 :: es)) : Heap σ0 σ (a16 :: a0 :: a1 :: a2 :: a3 :: a4 :: a5 :: a6 :: a7 :: a8 :: a9 :: a10 :: a11 :: a12 :: a13 :: a14 :: a15 :: es) := h.pull 16
end
end Go.Am
end
section
set_option linter.unusedVariables false
set_option linter.unusedSimpArgs false
namespace Go.Am
def Kn (σ0 : St) (L : List (Nat × T)) (es : List Ent) (p : Prop) (G : Fr → Prop) : Prop := p → ∀ s σ, Sub L s → Heap σ0 σ es → G ⟨s, σ⟩
inductive Ct where
  | s (c : Code)
  | b (i : Nat)
inductive Wh where
  | c (c : Code)
  | x (e : AExit)
def nx : Nat → Wh → List Ct → Option (Wh × List Ct)
  | 0, _, _ => none
  | n + 1, .c c, k => match c with
    | .seq a b => nx n (.c a) (.s b :: k)
    | .block i c => nx n (.c c) (.b i :: k)
    | .skip => nx n (.x .normal) k
    | .exit i => nx n (.x (.exit i)) k
    | .ret => nx n (.x .ret) k
    | c => some (.c c, k)
  | n + 1, .x e, k => match k with
    | [] => some (.x e, [])
    | .s c :: k => match e with
      | .normal => nx n (.c c) k
      | .exit j => nx n (.x (.exit j)) k
      | .ret => nx n (.x .ret) k
    | .b i :: k => match e with
      | .exit j => match Nat.beq j i with
        | true => nx n (.x .normal) k
        | false => nx n (.x (.exit j)) k
      | .normal => nx n (.x .normal) k
      | .ret => nx n (.x .ret) k
section
variable (P : Program) (O : Oracle)
def popQ : List Ct → (AExit → Fr → Prop) → AExit → Fr → Prop
  | [], Q => Q
  | .s c :: k, Q => seqQ (codeQ P O c (popQ k Q)) (popQ k Q)
  | .b i :: k, Q => blkQ i (popQ k Q)
def whQ : Wh → List Ct → (AExit → Fr → Prop) → Fr → Prop
  | .c c, k, Q, fr => codeQ P O c (popQ P O k Q) fr
  | .x e, k, Q, fr => popQ P O k Q e fr
end
section
variable {P : Program} {O : Oracle} {Q : AExit → Fr → Prop} {fr : Fr}
theorem nx_ok : ∀ {n : Nat} {w : Wh} {k : List Ct} {w' : Wh} {k' : List Ct}, nx n w k = some (w', k') → whQ P O w' k' Q fr → whQ P O w k Q fr
  | 0, _, _, _, _, h, _ => by cases h
  | n + 1, .c c, k, w', k', h, g => by
    have hd : ∀ c, some (Wh.c c, k) = some (w', k') → whQ P O (.c c) k Q fr := fun c h => by injection h with h; injection h with h1 h2; subst h1; subst h2; exact g
    cases c with
    | seq a b => exact nx_ok (n := n) (w := .c a) (k := .s b :: k) h g
    | block i c => exact nx_ok (n := n) (w := .c c) (k := .b i :: k) h g
    | skip => exact nx_ok (n := n) (w := .x .normal) h g
    | exit i => exact nx_ok (n := n) (w := .x (.exit i)) h g
    | ret => exact nx_ok (n := n) (w := .x .ret) h g
    | _ => exact hd _ h
  | n + 1, .x e, [], w', k', h, g => by injection h with h; injection h with h1 h2; subst h1; subst h2; exact g
  | n + 1, .x e, .s c :: k, w', k', h, g => by
    cases e with
    | normal => exact nx_ok (n := n) (w := .c c) (k := k) h g
    | exit j => exact nx_ok (n := n) (w := .x (.exit j)) (k := k) h g
    | ret => exact nx_ok (n := n) (w := .x .ret) (k := k) h g
  | n + 1, .x e, .b i :: k, w', k', h, g => by
    cases e with
    | normal => exact nx_ok (n := n) (w := .x .normal) (k := k) h g
    | exit j =>
      simp only [nx] at h
      show popQ P O k Q (if j = i then .normal else .exit j) fr
      split at h
      · rename_i hb; rw [if_pos (Nat.eq_of_beq_eq_true hb)]; exact nx_ok (n := n) (w := .x .normal) (k := k) h g
      · rename_i hb; rw [if_neg (fun e => by rw [e] at hb; simp at hb)]; exact nx_ok (n := n) (w := .x (.exit j)) (k := k) h g
    | ret => exact nx_ok (n := n) (w := .x .ret) (k := k) h g
end
def foL {α β : Type} : List α → (List α → Option β) → Option β
  | [], k => k []
  | x :: xs, k => foL xs fun ys => k (x :: ys)
theorem foL_eq {α β : Type} : ∀ (l : List α) (k : List α → Option β), foL l k = k l
  | [], _ => rfl
  | x :: xs, k => by rw [foL, foL_eq xs]
def tkL {β : Type} : Nat → List T → (List T → Option β) → Option β
  | 0, _, k => k []
  | _ + 1, [], _ => none
  | n + 1, x :: xs, k => tkL n xs fun ys => k (x :: ys)
theorem tkL_some {β : Type} {b : β} : ∀ {n : Nat} {l : List T} {k : List T → Option β}, tkL n l k = some b → n ≤ l.length ∧ k (l.take n) = some b
  | 0, l, k, h => ⟨Nat.zero_le _, by simpa [tkL] using h⟩
  | n + 1, [], k, h => by cases h
  | n + 1, x :: xs, k, h => by
    obtain ⟨h1, h2⟩ := tkL_some (n := n) (l := xs) h
    exact ⟨by simp; omega, by simpa using h2⟩
def drL : Nat → List T → Option (List T)
  | 0, l => some l
  | _ + 1, [] => none
  | n + 1, _ :: xs => drL n xs
theorem drL_some : ∀ {n : Nat} {l r : List T}, drL n l = some r → n ≤ l.length ∧ r = l.drop n
  | 0, l, r, h => ⟨Nat.zero_le _, by injection h with h; simp [h]⟩
  | n + 1, [], r, h => by cases h
  | n + 1, x :: xs, r, h => by
    obtain ⟨h1, h2⟩ := drL_some (n := n) (l := xs) h
    exact ⟨by simp; omega, by simpa using h2⟩
def partF (P : Program) (t : TypeId) (cs : List T) (off : Nat) : Option T :=
  match drL off cs with
  | some cs => match aggOf P t with
    | some true => match szOf P t with
      | some n => tkL n cs fun l => some (.agg l)
      | none => none
    | some false => match cs with
      | x :: _ => some x
      | [] => none
    | none => none
  | none => none
theorem partF_ok {P : Program} {t : TypeId} {cs : List T} {off : Nat} {v : T} (h : partF P t cs off = some v) : part P t cs off = some v := by
  unfold partF at h
  split at h
  · rename_i r hr
    obtain ⟨h1, rfl⟩ := drL_some hr
    unfold part
    split at h
    · rename_i ha
      split at h
      · rename_i n hn
        obtain ⟨h2, h3⟩ := tkL_some h
        simp only [List.length_drop] at h2
        rw [ha, Option.bind_some, hn]
        simp only [if_true, Option.bind_some]
        rw [if_pos (by omega)]; exact h3
      · cases h
    · rename_i ha
      rw [ha, Option.bind_some]
      simp only [Bool.false_eq_true, if_false]
      split at h
      · rename_i x xs hx
        injection h with h; subst h
        have := congrArg (·[0]?) hx
        simpa using this
      · cases h
    · cases h
  · cases h
def fillF (place : Nat → Option (Nat × Nat)) (cells : List T) : List (Nat × T) → Option (List T)
  | [] => some cells
  | (i, v) :: rest => match place i with
    | some (off, size) => match Nat.beq v.cells.length size && Nat.ble (off + size) cells.length && v.cells.all T.one with
      | true => foL (splice cells off v.cells) fun cells => fillF place cells rest
      | false => none
    | none => none
theorem fillF_ok {place : Nat → Option (Nat × Nat)} : ∀ {ps : List (Nat × T)} {cells r : List T}, fillF place cells ps = some r → fillA place cells ps = some r
  | [], _, _, h => h
  | (i, v) :: rest, cells, r, h => by
    simp only [fillF] at h
    split at h
    · rename_i off size hp
      split at h
      · rename_i hc
        simp only [Bool.and_eq_true] at hc
        rw [foL_eq] at h
        simp only [fillA, hp, Option.bind_some]
        rw [if_pos ⟨Nat.eq_of_beq_eq_true hc.1.1, Nat.le_of_ble_eq_true hc.1.2, hc.2⟩]
        exact fillF_ok h
      · cases h
    · cases h
def pF (P : Program) (g : Nat → Option T) (op : Op) : Option T :=
  match op with
  | .build t parts => match zeroOf P t with
    | some z => match gPs g parts.toList with
      | some ps => match okP P t with
        | true => match fillF (fun i => match fieldOf P t i with | some (o, _, n) => some (o, n) | none => none) z ps with
          | some cs => foL cs fun cs => some (.agg cs)
          | none => none
        | false => none
      | none => none
    | none => none
  | .load t a => match gE g a with
    | some (.vw cs) => partF P t cs 0
    | _ => none
  | .field t x f => match gE g x with
    | some (.agg cs) => match fieldOf P t f with
      | some (off, ft, _) => partF P ft cs off
      | none => none
    | _ => none
  | .fieldAddr t x f => match gE g x with
    | some x => match fieldOf P t f with
      | some (off, _, n) => match x with
        | .ptr b e o m => match !Nat.beq n 0 && Nat.ble (off + n) m with
          | true => some (.ptr b e (o + off) n)
          | false => none
        | .vw cs => match n with
          | 0 => none
          | _ + 1 => match drL off cs with
            | some cs' => match tkL n cs' (fun _ => some ()) with
              | some _ => some (.vw cs')
              | none => none
            | none => none
        | _ => none
      | none => none
    | none => none
  | op => pOp P g op
theorem pF_ok {P : Program} {g : Nat → Option T} {op : Op} {v : T} (h : pF P g op = some v) : pOp P g op = some v := by
  cases op with
  | build t parts =>
    simp only [pF] at h
    split at h
    · rename_i z hz
      split at h
      · rename_i ps hp
        split at h
        · rename_i hk
          split at h
          · rename_i cs hc
            rw [foL_eq] at h
            have e : (fun i => (fieldOf P t i).map fun (o, _, n) => (o, n)) = fun i => match fieldOf P t i with | some (o, _, n) => some (o, n) | none => none := by
              funext i; cases fieldOf P t i <;> rfl
            simp only [pOp, hz, hp, hk, e, fillF_ok hc]; exact h
          · cases h
        · cases h
      · cases h
    · cases h
  | load t a =>
    simp only [pF] at h
    split at h
    · rename_i hc; simp only [pOp, hc]; exact partF_ok h
    · cases h
  | field t x f =>
    simp only [pF] at h
    split at h
    · rename_i hc
      split at h
      · rename_i hf; simp only [pOp, hc, hf]; exact partF_ok h
      · cases h
    · cases h
  | fieldAddr t x f =>
    simp only [pF] at h
    split at h
    · rename_i hx
      split at h
      · rename_i hf
        simp only [pOp, hx, hf]
        split at h
        · split at h
          · rename_i hc
            simp only [Bool.and_eq_true, Bool.not_eq_true'] at hc
            show (if _ = 0 then none else if _ then _ else none) = _; rw [if_neg (fun (e : _ = 0) => by rw [e] at hc; simp at hc), if_pos (Nat.le_of_ble_eq_true hc.2)]; exact h
          · cases h
        · split at h
          · cases h
          · split at h
            · rename_i cs' hd
              obtain ⟨h1, rfl⟩ := drL_some hd
              split at h
              · rename_i u hu
                obtain ⟨h2, _⟩ := tkL_some hu
                simp only [List.length_drop] at h2
                show (if _ = 0 then none else if _ then _ else none) = _; rw [if_neg (by omega), if_pos (by omega)]; exact h
              · cases h
            · cases h
        · cases h
      · cases h
    · cases h
  | _ => exact h
def sg (P : Program) (ops : Array Oper) : Nat → List Oper → List (Nat × T) → Option (List (Nat × T) × List Oper)
  | 0, l, L => some (L, l)
  | _ + 1, [], _ => none
  | n + 1, o :: l, L => match want ops L o.guard with
    | some true => match pF P (get L) o.op with
      | some v => match o.dst with
        | some d => sg P ops n l ((d, v) :: L)
        | none => sg P ops n l L
      | none => none
    | some false => match o.dst with
      | some d => sg P ops n l ((d, .tup []) :: L)
      | none => sg P ops n l L
    | none => none
theorem sg_seg {P : Program} {ops : Array Oper} : ∀ {n : Nat} {l : List Oper} {L : List (Nat × T)} {M : List (Nat × T)} {l' : List Oper}, sg P ops n l L = some (M, l') → seg P ops n l L = some M ∧ l' = l.drop n
  | 0, l, L, M, l', h => by injection h with h; injection h with h1 h2; subst h1; subst h2; exact ⟨rfl, rfl⟩
  | n + 1, [], L, M, l', h => by cases h
  | n + 1, o :: l, L, M, l', h => by
    simp only [sg] at h
    simp only [seg, List.drop_succ_cons]
    split at h
    · rename_i hw
      split at h
      · rename_i v hv
        simp only [hw, pF_ok hv]
        split at h
        · rename_i d hd; rw [hd]; exact sg_seg h
        · rename_i hd; rw [hd]; exact sg_seg h
      · cases h
    · rename_i hw
      simp only [hw]
      split at h
      · rename_i d hd; rw [hd]; exact sg_seg h
      · rename_i hd; rw [hd]; exact sg_seg h
    · cases h
def sgA (P : Program) (ops : Array Oper) : List Oper → List (Nat × T) → Option (List (Nat × T))
  | [], L => some L
  | o :: l, L => match want ops L o.guard with
    | some true => match pF P (get L) o.op with
      | some v => match o.dst with
        | some d => sgA P ops l ((d, v) :: L)
        | none => sgA P ops l L
      | none => none
    | some false => match o.dst with
      | some d => sgA P ops l ((d, .tup []) :: L)
      | none => sgA P ops l L
    | none => none
theorem sgA_seg {P : Program} {ops : Array Oper} : ∀ {l : List Oper} {L : List (Nat × T)} {M : List (Nat × T)}, sgA P ops l L = some M → seg P ops l.length l L = some M
  | [], L, M, h => by injection h with h; subst h; rfl
  | o :: l, L, M, h => by
    simp only [sgA] at h
    simp only [seg, List.length_cons]
    split at h
    · rename_i hw
      split at h
      · rename_i v hv
        simp only [hw, pF_ok hv]
        split at h
        · rename_i d hd; rw [hd]; exact sgA_seg h
        · rename_i hd; rw [hd]; exact sgA_seg h
      · cases h
    · rename_i hw
      simp only [hw]
      split at h
      · rename_i d hd; rw [hd]; exact sgA_seg h
      · rename_i hd; rw [hd]; exact sgA_seg h
    · cases h
section
variable {P : Program} {O : Oracle} {ops : Array Oper} {m : Mo} {l l' : List Oper} {K : Fr → Prop} {σ0 : St} {L L' : List (Nat × T)} {es es' : List Ent} {p q : Prop} {G : Fr → Prop}
variable {Q : AExit → Fr → Prop} {k k' : List Ct} {w w' : Wh} {s : Nat → T} {σ : St}
theorem t_bk (h : p) (hS : Sub L s) (hH : Heap σ0 σ es) (kk : Kn σ0 L es p G) : G ⟨s, σ⟩ := kk h s σ hS hH
theorem t_h (f : ∀ {σ}, Heap σ0 σ es → Heap σ0 σ es') (kk : Kn σ0 L es' p G) : Kn σ0 L es p G := fun h s σ hS hH => kk h s σ hS (f hH)
theorem t_U (n : Nat) (kk : Kn σ0 L' es p (opsX P O ops (nxN n m) l' K)) (h : sg P ops n l L = some (L', l') := by rfl) : Kn σ0 L es p (opsX P O ops m l K) := fun hp s σ hS hH => by
  obtain ⟨h1, rfl⟩ := sg_seg h
  exact seg_sound h1 hS fun s' hM => kk hp s' σ hM hH
theorem t_N (kk : Kn σ0 L' es p (whQ P O w' k' Q)) (h : sgA P ops l L = some L' := by rfl) (h2 : nx 99 (.x .normal) k = some (w', k') := by rfl) : Kn σ0 L es p (opsX P O ops m l (popQ P O k Q .normal)) := fun hp s σ hS hH =>
  seg_sound (sgA_seg h) hS fun s' hM => by
    rw [List.drop_length]
    exact x_nil (nx_ok (w := .x .normal) h2 (kk hp s' σ hM hH))
theorem t_R {id : Nat} (kk : Kn σ0 L es p (opsX P O ops .q ops.toList (popQ P O k Q .normal))) : Kn σ0 L es p (whQ P O (.c (.region id ops false)) k Q) := kk
theorem t_RU {id : Nat} (n : Nat) (kk : Kn σ0 L' es p (opsX P O ops .q l' (popQ P O k Q .normal))) (h : sg P ops n ops.toList L = some (L', l') := by rfl) : Kn σ0 L es p (whQ P O (.c (.region id ops false)) k Q) := fun hp s σ hS hH => by
  obtain ⟨h1, rfl⟩ := sg_seg h
  have e : ∀ n, nxN n Mo.q = .q := fun n => by induction n with
    | zero => rfl
    | succ n ih => exact ih
  exact seg_sound (m := .q) h1 hS fun s' hM => by rw [e]; exact kk hp s' σ hM hH
theorem t_RN {id : Nat} (kk : Kn σ0 L' es p (whQ P O w' k' Q)) (h : sgA P ops ops.toList L = some L' := by rfl) (h2 : nx 99 (.x .normal) k = some (w', k') := by rfl) : Kn σ0 L es p (whQ P O (.c (.region id ops false)) k Q) := t_R (t_N kk h h2)
theorem t_go {c : Code} (h : p) (hS : Sub L s) (hH : Heap σ0 σ es) (kk : Kn σ0 L es p (whQ P O w' k' Q)) (hn : nx 99 (.c c) [] = some (w', k') := by rfl) : codeQ P O c Q ⟨s, σ⟩ := nx_ok (w := .c c) (k := []) hn (kk h s σ hS hH)
theorem ff_ne : ¬ (false = true) := by simp
end
section
variable {P : Program} {O : Oracle} {ops : Array Oper} {m : Mo} {l : List Oper} {K : Fr → Prop} {σ0 : St} {L L' : List (Nat × T)} {es es' : List Ent} {p q : Prop} {G : Fr → Prop} {γ : Type} {r : γ} {x y : Option γ}
variable {Q : AExit → Fr → Prop} {k k1 k2 : List Ct} {w1 w2 : Wh} {c : Operand} {a b : Code} {t : Bool}
theorem t_if (h1 : t = true → Kn σ0 L es (x = some r) (whQ P O w1 k1 Q)) (h2 : ¬ (t = true) → Kn σ0 L es (y = some r) (whQ P O w2 k2 Q)) (hc : gE (get L) c = some (.bool t) := by rfl) (e1 : nx 99 (.c a) k = some (w1, k1) := by rfl) (e2 : nx 99 (.c b) k = some (w2, k2) := by rfl) : Kn σ0 L es ((if t = true then x else y) = some r) (whQ P O (.c (.cond c a b)) k Q) := fun hp s σ hS hH =>
  c_cond hS hc (fun h => nx_ok (w := .c a) e1 (h1 h (it_pos h hp) s σ hS hH)) (fun h => have h : ¬ (t = true) := by simp [h]
    nx_ok (w := .c b) e2 (h2 h (it_neg h hp) s σ hS hH))
theorem t_cT (h : t = true) (kk : Kn σ0 L es p (whQ P O w1 k1 Q)) (hc : gE (get L) c = some (.bool t) := by rfl) (e1 : nx 99 (.c a) k = some (w1, k1) := by rfl) : Kn σ0 L es p (whQ P O (.c (.cond c a b)) k Q) := fun hp s σ hS hH =>
  c_cT h hS hc (nx_ok (w := .c a) e1 (kk hp s σ hS hH))
theorem t_cF (h : ¬ (t = true)) (kk : Kn σ0 L es p (whQ P O w1 k1 Q)) (hc : gE (get L) c = some (.bool t) := by rfl) (e1 : nx 99 (.c b) k = some (w1, k1) := by rfl) : Kn σ0 L es p (whQ P O (.c (.cond c a b)) k Q) := fun hp s σ hS hH =>
  c_cF h hS hc (nx_ok (w := .c b) e1 (kk hp s σ hS hH))
theorem t_gif (d : Nat) (h1 : t = true → Kn σ0 ((d, .bool true) :: L) es (x = some r) G) (h2 : ¬ (t = true) → Kn σ0 ((d, .bool false) :: L) es (y = some r) G) (hc : get L d = some (.bool t) := by rfl) : Kn σ0 L es ((if t = true then x else y) = some r) G := fun hp s σ hS hH => by
  have e := hS d _ hc
  by_cases h : t = true
  · exact h1 h (it_pos h hp) s σ (sub_cons hS (by rw [e, h])) hH
  · exact h2 h (it_neg h hp) s σ (sub_cons hS (by rw [e]; simp at h; rw [h])) hH
end
end Go.Am
end
section
set_option linter.unusedVariables false
set_option linter.unusedSimpArgs false
namespace Go.Am
def pickE : Nat → List Ent → Option (Ent × List Ent)
  | 0, e :: es => some (e, es)
  | n + 1, e :: es => match pickE n es with
    | some (x, r) => some (x, e :: r)
    | none => none
  | _, [] => none
theorem pickE_perm : ∀ {n : Nat} {es : List Ent} {x : Ent} {r : List Ent}, pickE n es = some (x, r) → es.Perm (x :: r)
  | 0, e :: es, x, r, h => by injection h with h; injection h with h1 h2; subst h1; subst h2; exact .refl _
  | n + 1, e :: es, x, r, h => by
    simp only [pickE] at h
    split at h
    · rename_i x' r' hr
      injection h with h; injection h with h1 h2; subst h1; subst h2
      exact ((pickE_perm hr).cons e).trans (.swap _ _ _)
    · cases h
  | 0, [], _, _, h => by cases h
  | _ + 1, [], _, _, h => by cases h
theorem Heap.pick {σ0 σ : St} {n : Nat} {es : List Ent} {x : Ent} {r : List Ent} (hH : Heap σ0 σ es) (h : pickE n es = some (x, r)) : Heap σ0 σ (x :: r) := hH.perm (pickE_perm h)
def zeroF (P : Program) (t : TypeId) : Option (List T) := match zeroOf P t with
  | some z => foL z some
  | none => none
theorem zeroF_ok {P : Program} {t : TypeId} {z : List T} (h : zeroF P t = some z) : zeroOf P t = some z := by
  unfold zeroF at h
  split at h
  · rename_i z' hz; rw [foL_eq] at h; rw [hz]; exact h
  · cases h
def cellsF : T → Option (List T)
  | .agg cs => foL cs some
  | .int k n => some [.int k n]
  | .bool b => some [.bool b]
  | .str s => some [.str s]
  | .nilp => some [.nilp]
  | .nilf => some [.nilf]
  | .nili => some [.nili]
  | .nilm => some [.nilm]
  | .ptr b e o m => some [.ptr b e o m]
  | .vw cs => some [.vw cs]
  | .row z n cs => some [.row z n cs]
  | .emp => some [.emp]
  | .ref b e o n => some [.ref b e o n]
  | .fn f a b => some [.fn f a b]
  | .tup cs => some [.tup cs]
theorem cellsF_ok {v : T} {cs : List T} (h : cellsF v = some cs) : v.cells = cs := by
  cases v with
  | agg l => rw [cellsF, foL_eq] at h; injection h
  | _ => injection h
def storeF (P : Program) (t : TypeId) (cells : List T) (off n : Nat) (cs : List T) : Option (List T) :=
  match szOf P t with
  | some sz => match Nat.beq cs.length sz && Nat.ble sz n && Nat.ble (off + sz) cells.length with
    | true => foL (splice cells off cs) some
    | false => none
  | none => none
theorem storeF_ok {P : Program} {t : TypeId} {cells cs r : List T} {off n : Nat} (h : storeF P t cells off n cs = some r) : storeC P t cells off n cs = some r := by
  unfold storeF at h; unfold storeC
  split at h
  · rename_i sz hz
    split at h
    · rename_i hc
      simp only [Bool.and_eq_true] at hc
      rw [foL_eq] at h
      rw [hz]
      show (if _ then _ else none) = _
      rw [if_pos ⟨Nat.eq_of_beq_eq_true hc.1.1, Nat.le_of_ble_eq_true hc.1.2, Nat.le_of_ble_eq_true hc.2⟩]; exact h
    · cases h
  · cases h
def pu (L : List (Nat × T)) (d : Option Nat) (v : T) : Option (List (Nat × T)) := match d with
  | some d => some ((d, v) :: L)
  | none => some L
theorem pu_ok {L L' : List (Nat × T)} {d : Option Nat} {v : T} (h : pu L d v = some L') : putL L d v = L' := by
  cases d with
  | some d => injection h
  | none => injection h
class Lit (α : Type) [Enc α] where
  c : α → List T
  h : ∀ a, Enc.cells a = c a
instance : Lit ByteArray := ⟨fun s => [.str s], fun _ => rfl⟩
instance : Lit Bool := ⟨fun s => [.bool s], fun _ => rfl⟩
instance (k : IntKind) : Lit (Iv k) := ⟨fun s => [.int k s.v], fun _ => rfl⟩
instance {α : Type} [Enc α] : Lit (Sl α) := ⟨fun s => [s.t], fun _ => rfl⟩
section
variable {P : Program} {O : Oracle} {ops : Array Oper} {m : Mo} {l : List Oper} {K : Fr → Prop} {σ0 : St} {L L' : List (Nat × T)} {es es' : List Ent} {p : Prop} {β γ : Type} {r : γ}
variable {d : Nat} {dO : Option Nat} {ty : TypeId} {ps : String} {af : Array Edge} {g : Option (Nat × Bool)}
theorem k_alloc {t : TypeId} {z : List T} (kk : ∀ b, Kn σ0 ((d, .ptr b 0 0 z.length) :: L) (.box b z :: es) p (opsX P O ops .q l K)) (hz : zeroF P t = some z := by rfl) (hw : want ops L g = some true := by rfl) : Kn σ0 L es p (opsX P O ops .q (⟨some d, .alloc t, ty, ps, af, g⟩ :: l) K) := fun hp s σ hS hH =>
  q_alloc hw hS hH (zeroF_ok hz) fun b σ' s' hH' hS' => kk b hp s' σ' hS' hH'
theorem k_allocC {t : TypeId} {z : List T} (hb : m.base σ0) (kk : ∀ b, m.nw b → Kn σ0 ((d, .ptr b 0 0 z.length) :: L) (.box b z :: es) p (opsX P O ops (nxM m) l K)) (hz : zeroF P t = some z := by rfl) (hw : want ops L g = some true := by rfl) (hm : m.chg = true := by rfl) : Kn σ0 L es p (opsX P O ops m (⟨some d, .alloc t, ty, ps, af, g⟩ :: l) K) := fun hp s σ hS hH =>
  q_allocC hm hb hw hS hH (zeroF_ok hz) fun b σ' s' hn hH' hS' => kk b hn hp s' σ' hS' hH'
theorem k_box {x : Operand} {t : TypeId} {v : T} {cs : List T} (kk : ∀ b, Kn σ0 ((d, .ptr b 0 0 cs.length) :: L) (.box b cs :: es) p (opsX P O ops .q l K)) (hx : gE (get L) x = some v := by rfl) (hcs : cellsF v = some cs := by rfl) (h1 : cs.all T.one = true := by kernel_rfl) (hw : want ops L g = some true := by rfl) : Kn σ0 L es p (opsX P O ops .q (⟨some d, .box t x, ty, ps, af, g⟩ :: l) K) := fun hp s σ hS hH =>
  q_box hw hS hH hx (cellsF_ok hcs) h1 fun b σ' s' hH' hS' => kk b hp s' σ' hS' hH'
theorem k_storeV {a x : Operand} {t : TypeId} {b off n : Nat} {cells cells' cs : List T} {v : T} (i : Nat) (hcs : v.cells = cs) (h1 : cs.all T.one = true) (kk : Kn σ0 L' (.box b cells' :: es') p (opsX P O ops (nxM m) l K)) (ha : gE (get L) a = some (.ptr b 0 off n) := by rfl) (he : pickE i es = some (.box b cells, es') := by rfl) (hx : gE (get L) x = some v := by rfl) (hc : storeF P t cells off n cs = some cells' := by rfl) (hL : pu L dO (.tup []) = some L' := by rfl) (hw : want ops L g = some true := by rfl) (hwr : ∀ {σ}, Heap σ0 σ es → m.wr b := by exact fun _ => trivial) (hm : m.chg = true := by rfl) : Kn σ0 L es p (opsX P O ops m (⟨dO, .store t a x, ty, ps, af, g⟩ :: l) K) := fun hp s σ hS hH =>
  q_storeC hm (hwr hH) hw hS (hH.pick he) ha hx hcs h1 (storeF_ok hc) fun σ' s' hH' hS' => kk hp s' σ' (pu_ok hL ▸ hS') hH'
theorem k_store {a x : Operand} {t : TypeId} {b off n : Nat} {cells cells' cs : List T} {v : T} (i : Nat) (kk : Kn σ0 L' (.box b cells' :: es') p (opsX P O ops (nxM m) l K)) (ha : gE (get L) a = some (.ptr b 0 off n) := by rfl) (he : pickE i es = some (.box b cells, es') := by rfl) (hx : gE (get L) x = some v := by rfl) (hcs : cellsF v = some cs := by rfl) (h1 : cs.all T.one = true := by kernel_rfl) (hc : storeF P t cells off n cs = some cells' := by rfl) (hL : pu L dO (.tup []) = some L' := by rfl) (hw : want ops L g = some true := by rfl) (hwr : ∀ {σ}, Heap σ0 σ es → m.wr b := by exact fun _ => trivial) (hm : m.chg = true := by rfl) : Kn σ0 L es p (opsX P O ops m (⟨dO, .store t a x, ty, ps, af, g⟩ :: l) K) :=
  k_storeV i (cellsF_ok hcs) h1 kk ha he hx hc hL hw hwr hm
theorem k_storeT {a x : Operand} {t : TypeId} {b off n : Nat} {cells cells' : List T} {v : T} (i : Nat) (h1 : IsOne v) (kk : Kn σ0 L' (.box b cells' :: es') p (opsX P O ops (nxM m) l K)) (ha : gE (get L) a = some (.ptr b 0 off n) := by rfl) (he : pickE i es = some (.box b cells, es') := by rfl) (hx : gE (get L) x = some v := by rfl) (hc : storeF P t cells off n [v] = some cells' := by rfl) (hL : pu L dO (.tup []) = some L' := by rfl) (hw : want ops L g = some true := by rfl) (hwr : ∀ {σ}, Heap σ0 σ es → m.wr b := by exact fun _ => trivial) (hm : m.chg = true := by rfl) : Kn σ0 L es p (opsX P O ops m (⟨dO, .store t a x, ty, ps, af, g⟩ :: l) K) :=
  k_storeV i h1.1 (by simp [h1.2]) kk ha he hx hc hL hw hwr hm
theorem k_storeA {a x : Operand} {t : TypeId} {b n : Nat} {cells cs : List T} {v : T} (i : Nat) (kk : Kn σ0 L' (.box b cs :: es') p (opsX P O ops (nxM m) l K)) (ha : gE (get L) a = some (.ptr b 0 0 n) := by rfl) (he : pickE i es = some (.box b cells, es') := by rfl) (hx : gE (get L) x = some v := by rfl) (hcs : cellsF v = some cs := by rfl) (h1 : cs.all T.one = true := by kernel_rfl) (hc : storeC P t cells 0 n cs = some cs := by kernel_rfl) (hL : pu L dO (.tup []) = some L' := by rfl) (hw : want ops L g = some true := by rfl) (hwr : ∀ {σ}, Heap σ0 σ es → m.wr b := by exact fun _ => trivial) (hm : m.chg = true := by rfl) : Kn σ0 L es p (opsX P O ops m (⟨dO, .store t a x, ty, ps, af, g⟩ :: l) K) := fun hp s σ hS hH =>
  q_storeC hm (hwr hH) hw hS (hH.pick he) ha hx (cellsF_ok hcs) h1 hc fun σ' s' hH' hS' => kk hp s' σ' (pu_ok hL ▸ hS') hH'
theorem k_load {a : Operand} {t : TypeId} {b e off n : Nat} {cells cs : List T} {v : T} (i : Nat) (kk : Kn σ0 ((d, v) :: L) es p (opsX P O ops (nxM m) l K)) (ha : gE (get L) a = some (.ptr b e off n) := by rfl) (he : es[i]? = some (.box b cells) := by rfl) (hc : drL off cells = some cs := by rfl) (hv : partF P t cs 0 = some v := by rfl) (hn : part P t (cs.take n) 0 = some v := by kernel_rfl) (hlt : m.lt b := by exact trivial) (hw : want ops L g = some true := by rfl) : Kn σ0 L es p (opsX P O ops m (⟨some d, .load t a, ty, ps, af, g⟩ :: l) K) := fun hp s σ hS hH =>
  q_load (e := e) i hlt hw hS hH he ha (by rw [← (drL_some hc).2]; exact hn) fun s' hS' => kk hp s' σ hS' hH
theorem k_loadL {a : Operand} {t : TypeId} {b e off n : Nat} {cells cs : List T} {v : T} (hL : Lent σ0 b cells) (kk : Kn σ0 ((d, v) :: L) es p (opsX P O ops (nxM m) l K)) (ha : gE (get L) a = some (.ptr b e off n) := by rfl) (hc : drL off cells = some cs := by rfl) (hv : partF P t cs 0 = some v := by rfl) (hn : part P t (cs.take n) 0 = some v := by kernel_rfl) (hlt : m.lt b := by exact trivial) (hw : want ops L g = some true := by rfl) : Kn σ0 L es p (opsX P O ops m (⟨some d, .load t a, ty, ps, af, g⟩ :: l) K) := fun hp s σ hS hH =>
  q_loadL (e := e) hlt hw hS hH hL ha (by rw [← (drL_some hc).2]; exact hn) fun s' hS' => kk hp s' σ hS' hH
theorem k_elt {α : Type} [Enc α] [Lit α] {x i : Operand} {t e : TypeId} {sl : Sl α} {kk : IntKind} {j : Int} {f : α → Option γ} {c : α → List T} (k : ∀ y rest, elt sl j = some y → Kn σ0 ((d, .vw (c y ++ rest)) :: L) es (f y = some r) (opsX P O ops (nxM m) l K)) (hx : gE (get L) x = some sl.t := by rfl) (hi : gE (get L) i = some (.int kk j) := by rfl)
    (he : elemOfSl P t = some e := by rfl) (hz : szOf P e = some (Enc.w α) := by kernel_rfl) (hc : ∀ y, foL (Lit.c y) some = some (c y) := by intro; rfl) (hw : want ops L g = some true := by rfl) : Kn σ0 L es ((elt sl j).bind f = some r) (opsX P O ops m (⟨some d, .indexAddr t x i, ty, ps, af, g⟩ :: l) K) := fun hp s σ hS hH => by
  obtain ⟨y, hy, hp⟩ := bind_some hp
  exact q_elt (c y) hw hS hx hi he hz hy (by rw [Lit.h]; have := hc y; rw [foL_eq] at this; injection this) fun rest s' hS' => k y rest hy hp s' σ hS' hH
theorem k_byte {x i : Operand} {t : TypeId} {w : ByteArray} {kk : IntKind} {j : Int} {f : Int → Option γ} (k : ∀ y, byteAt w j = some y → Kn σ0 ((d, .int .u8 y) :: L) es (f y = some r) (opsX P O ops (nxM m) l K)) (hx : gE (get L) x = some (.str w) := by rfl) (hi : gE (get L) i = some (.int kk j) := by rfl) (ht : kindT P t = 3 := by kernel_rfl) (hw : want ops L g = some true := by rfl) : Kn σ0 L es ((byteAt w j).bind f = some r) (opsX P O ops m (⟨some d, .index t x i, ty, ps, af, g⟩ :: l) K) := fun hp s σ hS hH => by
  obtain ⟨y, hy, hp⟩ := bind_some hp
  exact q_byteO hw hS hx hi ht hy fun s' hS' => k y hy hp s' σ hS' hH
theorem k_cat {x y : Operand} {t u : TypeId} {a b : ByteArray} {f : ByteArray → Option γ} (k : ∀ c, catB a b = some c → Kn σ0 ((d, .str c) :: L) es (f c = some r) (opsX P O ops (nxM m) l K)) (hx : gE (get L) x = some (.str a) := by rfl) (hy : gE (get L) y = some (.str b) := by rfl) (hw : want ops L g = some true := by rfl) : Kn σ0 L es ((catB a b).bind f = some r) (opsX P O ops m (⟨some d, .binOp .add t x y u, ty, ps, af, g⟩ :: l) K) := fun hp s σ hS hH => by
  obtain ⟨c, hc, hp⟩ := bind_some hp
  exact q_catO hw hS hx hy hc fun s' hS' => k c hc hp s' σ hS' hH
theorem k_subB {x : Operand} {lo hi : Option Operand} {t : TypeId} {w : ByteArray} {vlo vhi : Option T} {a b : Int} {f : ByteArray → Option γ} (k : ∀ y, subB w a b = some y → Kn σ0 ((d, .str y) :: L) es (f y = some r) (opsX P O ops (nxM m) l K)) (hx : gE (get L) x = some (.str w) := by rfl) (hlo : gO (get L) lo = some vlo := by rfl) (hhi : gO (get L) hi = some vhi := by rfl)
    (ha : boundI vlo 0 = some a := by rfl) (hb : boundI vhi w.size = some b := by rfl) (ht : kindT P t = 3 := by kernel_rfl) (hw : want ops L g = some true := by rfl) : Kn σ0 L es ((subB w a b).bind f = some r) (opsX P O ops m (⟨some d, .slice t x lo hi none, ty, ps, af, g⟩ :: l) K) := fun hp s σ hS hH => by
  obtain ⟨y, hy, hp⟩ := bind_some hp
  exact q_subB hw hS hx hlo hhi ha hb ht hy fun s' hS' => k y hy hp s' σ hS' hH
end
def hlOk : T → Bool
  | .int .. | .bool _ | .str _ | .row .. | .nilp | .nilf | .nili | .nilm | .fn .. | .vw .. | .ptr .. => true
  | .agg cs => hlOks cs
  | .tup cs => hlOks cs
  | .ref .. | .emp => false
where hlOks : List T → Bool
  | [] => true
  | t :: ts => hlOk t && hlOks ts
mutual
theorem hl1 {ts vs : List T} {es : List Ent} : ∀ {t : T}, hlOk t = true → HL false ts vs es → HL false (t :: ts) (t :: vs) es
  | .int k n, _, h => HL.leaf (fun σ d => hold_int _ σ d _ _) h
  | .bool b, _, h => HL.leaf (fun σ d => by cases d <;> rfl) h
  | .str b, _, h => HL.leaf (fun σ d => by cases d <;> rfl) h
  | .row z n cs, _, h => HL.leaf (fun σ d => by cases d <;> cases z <;> cases n <;> cases cs <;> rfl) h
  | .emp, k, h => by cases k
  | .nilp, _, h => HL.leaf (fun σ d => by cases d <;> rfl) h
  | .nilf, _, h => HL.leaf (fun σ d => by cases d <;> rfl) h
  | .nili, _, h => HL.leaf (fun σ d => by cases d <;> rfl) h
  | .nilm, _, h => HL.leaf (fun σ d => by cases d <;> rfl) h
  | .fn f a b, _, h => HL.leaf (fun σ d => by cases d <;> rfl) h
  | .vw cs, _, h => HL.leaf (fun σ d => by cases d <;> rfl) h
  | .ptr b e o m, _, h => HL.leaf (fun σ d => by cases d <;> rfl) h
  | .agg cs, k, h => HL.agg (es1 := []) (hl2 (ts := cs) k) h
  | .tup cs, k, h => HL.tup (es1 := []) (hl2 (ts := cs) k) h
  | .ref .., k, h => by cases k
theorem hl2 : ∀ {ts : List T}, hlOk.hlOks ts = true → HL false ts ts []
  | [], _ => .nil
  | t :: ts, h => by
    simp only [hlOk.hlOks, Bool.and_eq_true] at h
    exact hl1 h.1 (hl2 h.2)
end
def HC (z : Bool) (ts vs : List T) (es es1 : List Ent) : Prop := ∃ ents, HL z ts vs ents ∧ es = ents ++ es1
section
variable {z : Bool} {ts vs cs us : List T} {es es1 es2 : List Ent}
theorem HC.nil : HC z [] [] es es := ⟨[], .nil, rfl⟩
theorem HC.i {k : IntKind} {n : Int} (h : HC z ts vs es es1) : HC z (.int k n :: ts) (.int k n :: vs) es es1 := let ⟨a, b, c⟩ := h; ⟨a, HLi b, c⟩
theorem HC.s {x : ByteArray} (h : HC z ts vs es es1) : HC z (.str x :: ts) (.str x :: vs) es es1 := let ⟨a, b, c⟩ := h; ⟨a, HLs b, c⟩
theorem HC.b {x : Bool} (h : HC z ts vs es es1) : HC z (.bool x :: ts) (.bool x :: vs) es es1 := let ⟨a, b, c⟩ := h; ⟨a, HLb b, c⟩
theorem HC.n {α : Type} [Enc α] (h : HC z ts vs es es1) : HC z (Sl.t (⟨true, []⟩ : Sl α) :: ts) (Sl.t (⟨true, []⟩ : Sl α) :: vs) es es1 := let ⟨a, b, c⟩ := h; ⟨a, HLn b, c⟩
theorem HC.p {α : Type} [Enc α] {x : Sl α} (h : HC false ts vs es es1) : HC false (x.t :: ts) (x.t :: vs) es es1 := let ⟨a, b, c⟩ := h; ⟨a, HLp b, c⟩
theorem HC.own {z' : Bool} {w : Nat} {t v : T} (hz : (!z || z') = true) (h : HC z ts vs es es1) : HC z (t :: ts) (v :: vs) (.own z' w t v :: es) es1 := let ⟨a, b, c⟩ := h; ⟨_, HL.own hz b, by rw [c]; rfl⟩
theorem HC.agg (h : HC z cs us es es2) (k : HC z ts vs es2 es1) : HC z (.agg cs :: ts) (.agg us :: vs) es es1 := let ⟨a, b, c⟩ := h; let ⟨a', b', c'⟩ := k; ⟨a ++ a', HL.agg b b', by rw [c, c', List.append_assoc]⟩
theorem HC.of {ents : List Ent} (h : HL z ts vs ents) : HC z ts vs (ents ++ es1) es1 := ⟨_, h, rfl⟩
end
section
variable {P : Program} {md : Nat → Md} {X : Ext} {ops : Array Oper} {m : Mo} {l : List Oper} {K : Fr → Prop} {σ0 : St} {L L' : List (Nat × T)} {es es1 ents : List Ent} {β γ : Type} {eb : β → T} {r : γ} {fn : Nat} {h : β → Option γ}
variable {d : Nat} {ty : TypeId} {ps : String} {af : Array Edge} {g : Option (Nat × Bool)} {fo : Operand} {as : Array Operand} {tys : Array TypeId}
theorem k_call {xs : List T} (k : ∀ y, semV P md X eb fn xs = some y → Kn σ0 ((d, eb y) :: L) es (h y = some r) (opsX P (run P md X) ops (nxM m) l K)) (hf : gE (get L) fo = some (.fn fn [] []) := by rfl) (ha : gEs (get L) as.toList = some xs := by rfl) (hw : want ops L g = some true := by rfl) : Kn σ0 L es ((semV P md X eb fn xs).bind h = some r) (opsX P (run P md X) ops m (⟨some d, .call ⟨.value fo, as, tys⟩, ty, ps, af, g⟩ :: l) K) := fun hp s σ hS hH => by
  obtain ⟨y, hy, hp⟩ := bind_some hp
  exact q_callF (a := []) (b := []) (xs := xs) hw hS hf ha (by simpa using hy) fun s' hS' => k y hy hp s' σ hS' hH
theorem one_of {σ : St} {es : List Ent} {z : Bool} {w : Nat} {t v : T} {i : Nat} (hH : Heap σ0 σ es) (h : es[i]? = some (.own z w t v)) : IsOne t := Heap.one (hH.at i h)
theorem k_callO1 {Sh : Shape β} {ts vs : List T} {es1 : List Ent} {es' : β → T → List Ent} (k : ∀ y t, semO P md X Sh fn vs = some y → IsOne t → Kn σ0 ((d, Sh.tree [t] y) :: L) (es' y t) (h y = some r) (opsX P (run P md X) ops (nxM m) l K)) (hn : Sh.n = 1 := by rfl) (hf : gE (get L) fo = some (.fn fn [] []) := by rfl) (ha : gEs (get L) as.toList = some ts := by rfl) (hh : HC false ts vs es es1 := by repeat (first | exact HC.nil | apply HC.i | apply HC.s | apply HC.b | apply HC.n | apply HC.p | apply HC.agg | apply HC.own rfl))
    (he : ∀ y t, foL (Sh.en [t] y ++ es) some = some (es' y t) := by intros; rfl) {z : β → T → Bool} {w : β → T → Nat} {v : β → T → T} (ho : ∀ y t, (es' y t)[0]? = some (.own (z y t) (w y t) t (v y t)) := by intros; rfl) (hv : md fn = .own := by rfl) (hm : m.chg = true := by rfl) (hw : want ops L g = some true := by rfl) : Kn σ0 L es ((semO P md X Sh fn vs).bind h = some r) (opsX P (run P md X) ops m (⟨some d, .call ⟨.value fo, as, tys⟩, ty, ps, af, g⟩ :: l) K) := fun hp s σ hS hH => by
  obtain ⟨y, hy, hp⟩ := bind_some hp
  obtain ⟨ents, hh, hE⟩ := hh
  refine q_callO hm hw hS hf ha hv (hE ▸ hH) hh hy fun hs σ' s' hl hH' hS' => ?_
  rw [hn] at hl
  rw [← hE] at hH'
  match hs, hl with
  | [t], _ =>
    have := he y t; rw [foL_eq] at this; injection this with this
    rw [this] at hH'
    exact k y t hy (one_of hH' (ho y t)) hp s' σ' hS' hH'
theorem k_callO {Sh : Shape β} {ts vs : List T} {es1 : List Ent} (k : ∀ y hs, semO P md X Sh fn vs = some y → hs.length = Sh.n → Kn σ0 ((d, Sh.tree hs y) :: L) (Sh.en hs y ++ es) (h y = some r) (opsX P (run P md X) ops (nxM m) l K)) (hf : gE (get L) fo = some (.fn fn [] []) := by rfl) (ha : gEs (get L) as.toList = some ts := by rfl) (hh : HC false ts vs es es1 := by repeat (first | exact HC.nil | apply HC.i | apply HC.s | apply HC.b | apply HC.n | apply HC.p | apply HC.agg | apply HC.own rfl)) (hv : md fn = .own := by rfl) (hm : m.chg = true := by rfl) (hw : want ops L g = some true := by rfl) : Kn σ0 L es ((semO P md X Sh fn vs).bind h = some r) (opsX P (run P md X) ops m (⟨some d, .call ⟨.value fo, as, tys⟩, ty, ps, af, g⟩ :: l) K) := fun hp s σ hS hH => by
  obtain ⟨y, hy, hp⟩ := bind_some hp
  obtain ⟨ents, hh, hE⟩ := hh
  refine q_callO hm hw hS hf ha hv (hE ▸ hH) hh hy fun hs σ' s' hl hH' hS' => ?_
  rw [← hE] at hH'
  exact k y hs hy hl hp s' σ' hS' hH'
end
def KR (P : Program) (σ0 : St) (L : List (Nat × T)) (es : List Ent) (rs : List ResultVar) (l : List T) : Prop := ∀ s σ, Sub L s → Heap σ0 σ es → resL P ⟨s, σ⟩ rs = some l
def okX : AExit → Bool
  | .exit _ => false
  | _ => true
section
variable {P : Program} {md : Nat → Md} {X : Ext} {O : Oracle} {σ0 : St} {L L0 : List (Nat × T)} {es es1 ents : List Ent} {β : Type} {eb : β → T} {r v : β} {f n : Nat} {p : Prop} {c : Code} {rs : List ResultVar} {args l : List T} {w : Wh} {k : List Ct} {e : AExit} {Sh : Shape β}
theorem rN : KR P σ0 L es [] [] := fun _ _ _ _ => rfl
theorem rT {t : Nat} {v : T} (kk : KR P σ0 L es rs l) (h : get L t = some v := by rfl) : KR P σ0 L es (.tmp t :: rs) (v :: l) := fun s σ hS hH => r_tmp hS h (kk s σ hS hH)
theorem rC {a : Nat} {ty : TypeId} {b e off n : Nat} {cells cs : List T} {v : T} (i : Nat) (kk : KR P σ0 L es rs l) (h : get L a = some (.ptr b e off n) := by rfl) (he : es[i]? = some (.box b cells) := by rfl) (hc : drL off cells = some cs := by rfl) (hv : partF P ty cs 0 = some v := by rfl) (hn : part P ty (cs.take n) 0 = some v := by kernel_rfl) : KR P σ0 L es (.cell a ty :: rs) (v :: l) := fun s σ hS hH =>
  r_cell (e := e) hS (hH.at i he) h (by rw [← (drL_some hc).2]; exact hn) (kk s σ hS hH)
theorem k_W (hok : Ok P f c n rs) (hi : ∀ a b, eb a = eb b → a = b) (hp : p) (kk : ∀ σ0, Kn σ0 L0 [] p (whQ P (run P md X) w k (endW P rs σ0 (eb r)))) (hf : args.all flat3 = true := by kernel_rfl) (hv : md f = .view := by rfl) (hX : X f = none := by rfl) (hlen : Nat.ble args.length n = true := by kernel_rfl) (hL : foL (nums 0 args) some = some L0 := by rfl) (hc : nx 99 (.c c) [] = some (w, k) := by rfl) : semV P md X eb f args = some r :=
  semW_of hi hv hX hok hlen hf fun σ s hS hH => nx_ok (w := .c c) hc (kk σ hp s σ (by rw [foL_eq] at hL; injection hL with hL; rw [← hL]; exact hS) hH)
theorem k_O (hok : Ok P f c n rs) (hp : p) (kk : ∀ σ0, Kn σ0 L0 [] p (whQ P (run P md X) w k (endOw P rs σ0 Sh r))) (hf : args.all flat3 = true := by kernel_rfl) (hv : md f = .own := by rfl) (hX : X f = none := by rfl) (hlen : Nat.ble args.length n = true := by kernel_rfl) (hL : foL (nums 0 args) some = some L0 := by rfl) (hc : nx 99 (.c c) [] = some (w, k) := by rfl) : semO P md X Sh f args = some r :=
  semO_of hv hX hok hlen hf fun σ s hS hH => nx_ok (w := .c c) hc (kk σ hp s σ (by rw [foL_eq] at hL; injection hL with hL; rw [← hL]; exact hS) hH)
theorem k_eW (hr : KR P σ0 L es rs l) (hp : ∀ v, pureT (eb v) = true) (ht : tupOf l = eb v := by rfl) (hf : flat3 (eb v) = true := by kernel_rfl) (he : okX e = true := by rfl) : Kn σ0 L es (some v = some r) (whQ P O (.x e) [] (endW P rs σ0 (eb r))) := fun h s σ hS hH => by
  injection h with h; subst h
  have := end_W hH (hr s σ hS hH) ht hf (hp v)
  cases e with
  | exit i => cases he
  | _ => exact this
theorem eW {s : Nat → T} {σ : St} (hS : Sub L s) (hH : Heap σ0 σ es) (hr : KR P σ0 L es rs l) (hp : ∀ v, pureT (eb v) = true) (ht : tupOf l = eb v := by rfl) (hf : flat3 (eb v) = true := by kernel_rfl) : endW P rs σ0 (eb v) .ret ⟨s, σ⟩ := end_W hH (hr s σ hS hH) ht hf (hp v)
theorem k_eO (hs : List T) (hr : KR P σ0 L es rs l) (ht : tupOf l = Sh.tree hs v := by rfl) (hn : hs.length = Sh.n := by rfl) (he : es = Sh.en hs v ++ es1 := by rfl) (hx : okX e = true := by rfl) : Kn σ0 L es (some v = some r) (whQ P O (.x e) [] (endOw P rs σ0 Sh r)) := fun h s σ hS hH => by
  injection h with h; subst h
  have := end_Ow (P := P) hs es1 (hr s σ hS hH) ht hn hH he
  cases e with
  | exit i => cases hx
  | _ => exact this
end
def splitF : Nat → List Ct → Option (List Ct × List Ct)
  | 0, k => some ([], k)
  | n + 1, x :: k => match splitF n k with
    | some (a, b) => some (x :: a, b)
    | none => none
  | _ + 1, [] => none
theorem popQ_split {P : Program} {O : Oracle} {Q : AExit → Fr → Prop} : ∀ {n : Nat} {k a b : List Ct}, splitF n k = some (a, b) → popQ P O k Q = popQ P O a (popQ P O b Q)
  | 0, k, a, b, h => by injection h with h; injection h with h1 h2; subst h1; subst h2; rfl
  | n + 1, [], _, _, h => by cases h
  | n + 1, x :: k, a, b, h => by
    simp only [splitF] at h
    split at h
    · rename_i a' b' hs
      injection h with h; injection h with h1 h2; subst h1; subst h2
      cases x with
      | s c => simp only [popQ]; rw [popQ_split hs]
      | b i => simp only [popQ]; rw [popQ_split hs]
    · cases h
theorem popQ_mono {P : Program} {O : Oracle} {k : List Ct} : ∀ {Q Q' : AExit → Fr → Prop}, (∀ e fr, Q e fr → Q' e fr) → ∀ e fr, popQ P O k Q e fr → popQ P O k Q' e fr := by
  induction k with
  | nil => exact fun h => h
  | cons x k ih =>
    intro Q Q' h e fr hh
    cases x with
    | s c =>
      cases e with
      | normal => exact codeQ_mono (ih h) hh
      | exit i => exact ih h (.exit i) fr hh
      | ret => exact ih h .ret fr hh
    | b i =>
      cases e with
      | normal => exact ih h .normal fr hh
      | exit j => exact ih h _ fr hh
      | ret => exact ih h .ret fr hh
theorem whQ_mono {P : Program} {O : Oracle} {w : Wh} {k : List Ct} {Q Q' : AExit → Fr → Prop} (h : ∀ e fr, Q e fr → Q' e fr) {fr : Fr} (hh : whQ P O w k Q fr) : whQ P O w k Q' fr := by
  cases w with
  | c c => exact codeQ_mono (popQ_mono h) hh
  | x e => exact popQ_mono h _ _ hh
section
variable {P : Program} {O : Oracle} {ops : Array Oper} {σ0 : St} {L L1 : List (Nat × T)} {es es' : List Ent} {β γ S : Type} {r : γ} {p : Prop} {G : Fr → Prop}
variable {Q : AExit → Fr → Prop} {k ka kb k1 : List Ct} {w w1 : Wh} {s : Nat → T} {σ : St} {e : AExit} {c : Code}
theorem t_cut {A : Option β} {h : β → Option γ} (n : Nat) (F : β → AExit → Fr → Prop) (h2 : ∀ y e fr, h y = some r → F y e fr → popQ P O kb Q e fr) (h1 : ∀ y, Kn σ0 L es (A = some y) (whQ P O w ka (F y))) (hs : splitF n k = some (ka, kb) := by rfl) : Kn σ0 L es (A.bind h = some r) (whQ P O w k Q) := fun hp s σ hS hH => by
  obtain ⟨y, hy, hp⟩ := bind_some hp
  have := whQ_mono (fun e fr => h2 y e fr hp) (h1 y hy s σ hS hH)
  cases w with
  | c c => simp only [whQ] at this ⊢; rw [popQ_split hs]; exact this
  | x e => simp only [whQ] at this ⊢; rw [popQ_split hs]; exact this
theorem t_bx (h : p) (hS : Sub L s) (hH : Heap σ0 σ es) (kk : Kn σ0 L es p (whQ P O w1 k1 Q)) (hn : nx 99 (.x e) k = some (w1, k1) := by rfl) : popQ P O k Q e ⟨s, σ⟩ := nx_ok (w := .x e) hn (kk h s σ hS hH)
theorem t_e {v y : γ} (kk : ∀ {s σ}, y = v → Sub L s → Heap σ0 σ es → Q e ⟨s, σ⟩) : Kn σ0 L es (some v = some y) (whQ P O (.x e) [] Q) := fun h s σ hS hH => kk (by injection h with h; exact h.symm) hS hH
theorem t_loop {body : S → Option (S ⊕ β)} {s0 : S} {h : β → Option γ} (Inv : S → Fr → Prop) (F : β → AExit → Fr → Prop) (hi : ∀ {s σ}, Sub L s → Heap σ0 σ es → Inv s0 ⟨s, σ⟩) (hr : ∀ st x fr, body st = some x → Inv st fr → whQ P O w1 k1 (roundQ Inv F x) fr) (hk : ∀ y e fr, h y = some r → F y e fr → popQ P O k Q e fr) (hn : nx 99 (.c c) [] = some (w1, k1) := by rfl) : Kn σ0 L es ((loopO body s0).bind h = some r) (whQ P O (.c (.loop c)) k Q) := fun hp s σ hS hH => by
  obtain ⟨y, hy, hp⟩ := bind_some hp
  exact c_loop Inv F hy (hi hS hH) (fun st x fr hb hI => nx_ok (w := .c c) (k := []) hn (hr st x fr hb hI)) (fun e fr => hk y e fr hp)
theorem t_D {id : Nat} (kk : ∀ mb, Kn σ0 L es p (opsX P O ops (.d mb 0) ops.toList (popQ P O k Q .normal))) (hd : drawOk ops = true := by kernel_rfl) : Kn σ0 L es p (whQ P O (.c (.region id ops true)) k Q) := fun hp s σ hS hH =>
  c_draw (id := id) hd hH fun mb σ' hH' => kk mb hp s σ' hS hH'
end
section
variable {P : Program} {md : Nat → Md} {X : Ext} {ops : Array Oper} {σ0 : St} {L : List (Nat × T)} {es : List Ent} {p : Prop} {Q : AExit → Fr → Prop} {k : List Ct}
theorem t_chain {id : Nat} (W : List (Nat × (Nat → Prop))) (hX : XOk X) (kk : ∀ B σs, σ0.next ≤ B → (∀ x cells, Ent.box x cells ∈ es → x < B) → (∀ z w t v, Ent.own z w t v ∈ es → ∀ b e o n, t = .ref b e o n → b < B) → Kn σ0 L es p (opsX P (run P md X) ops (.c B 0 (Wc W) σs (cmpOf md ops)) ops.toList (popQ P (run P md X) k Q .normal))) (hst : drawOk ops = true := by kernel_rfl) (hch : chainB ops = true := by kernel_rfl) : Kn σ0 L es p (whQ P (run P md X) (.c (.region id ops true)) k Q) := fun hp s σ hS hH =>
  c_chain (id := id) (Wc W) hX hst hch hH fun B σs σ' h1 h2 h3 hH' => kk B σs h1 h2 h3 hp s σ' hS hH'
end
def KL (σ0 : St) (es : List Ent) (bs : List Nat) (cs : List (List T)) : Prop := ∀ σ, Heap σ0 σ es → LentL σ bs cs
section
variable {σ0 : St} {es : List Ent} {bs : List Nat} {cs : List (List T)} {b : Nat} {c : List T}
theorem lN : KL σ0 es [] [] := fun _ _ => trivial
theorem lB (i : Nat) (k : KL σ0 es bs cs) (h : es[i]? = some (.box b c) := by rfl) : KL σ0 es (b :: bs) (c :: cs) := fun σ hH => ⟨(hH.at i h).lent, k σ hH⟩
end
section
variable {P : Program} {md : Nat → Md} {X : Ext} {ops : Array Oper} {m : Mo} {l : List Oper} {K : Fr → Prop} {σ0 : St} {L L' : List (Nat × T)} {es ents : List Ent} {β γ : Type} {eb : β → T} {r : γ} {fn : Nat} {h : β → Option γ}
variable {d : Nat} {dO : Option Nat} {ty : TypeId} {ps : String} {af : Array Edge} {g : Option (Nat × Bool)} {fo : Operand} {as : Array Operand} {tys : Array TypeId}
theorem k_callL {xs : List T} {mk : List Nat → List T} {bs : List Nat} {cs : List (List T)} (hl : KL σ0 es bs cs) (k : ∀ y, semL P md X eb fn mk cs = some y → Kn σ0 ((d, eb y) :: L) es (h y = some r) (opsX P (run P md X) ops (nxM m) l K)) (hf : gE (get L) fo = some (.fn fn [] []) := by rfl) (ha : gEs (get L) as.toList = some xs := by rfl) (hmk : mk bs = xs := by rfl) (hw : want ops L g = some true := by rfl) : Kn σ0 L es ((semL P md X eb fn mk cs).bind h = some r) (opsX P (run P md X) ops m (⟨some d, .call ⟨.value fo, as, tys⟩, ty, ps, af, g⟩ :: l) K) := fun hp s σ hS hH => by
  obtain ⟨y, hy, hp⟩ := bind_some hp
  exact q_callL bs hw hS hf ha hmk (hl σ hH) hy fun s' hS' => k y hy hp s' σ hS' hH
theorem k_callH {ts vs : List T} {es1 : List Ent} (k : ∀ y, semV P md X eb fn vs = some y → Kn σ0 ((d, eb y) :: L) es (h y = some r) (opsX P (run P md X) ops (nxM m) l K)) (hlf : ∀ y, leafT (eb y) = true := by intro; kernel_rfl) (hf : gE (get L) fo = some (.fn fn [] []) := by rfl) (ha : gEs (get L) as.toList = some ts := by rfl) (hh : HC false ts vs es es1 := by repeat (first | exact HC.nil | apply HC.i | apply HC.s | apply HC.b | apply HC.n | apply HC.p | apply HC.agg | apply HC.own rfl)) (hv : md fn = .view := by rfl) (hw : want ops L g = some true := by rfl) : Kn σ0 L es ((semV P md X eb fn vs).bind h = some r) (opsX P (run P md X) ops m (⟨some d, .call ⟨.value fo, as, tys⟩, ty, ps, af, g⟩ :: l) K) := fun hp s σ hS hH => by
  obtain ⟨y, hy, hp⟩ := bind_some hp
  obtain ⟨ents, hh, hE⟩ := hh
  exact q_callH hw hS hf ha hv (hE ▸ hH) hh hy (hlf y) fun s' hS' => k y hy hp s' σ hS' hH
theorem k_callP {xs : List T} {q : T} (k : ∀ y, callV P md X eb q xs = some y → Kn σ0 ((d, eb y) :: L) es (h y = some r) (opsX P (run P md X) ops (nxM m) l K)) (hf : gE (get L) fo = some q := by rfl) (ha : gEs (get L) as.toList = some xs := by rfl) (hw : want ops L g = some true := by rfl) : Kn σ0 L es ((callV P md X eb q xs).bind h = some r) (opsX P (run P md X) ops m (⟨some d, .call ⟨.value fo, as, tys⟩, ty, ps, af, g⟩ :: l) K) := fun hp s σ hS hH => by
  obtain ⟨y, hy, hp⟩ := bind_some hp
  exact q_callP hw hS hf ha hy fun s' hS' => k y hy hp s' σ hS' hH
theorem k_callLO {Sh : Shape β} {xs : List T} {mk : List Nat → List T} {bs : List Nat} {cs : List (List T)} (hl : KL σ0 es bs cs) (k : ∀ y hs, semLO P md X Sh fn mk cs = some y → hs.length = Sh.n → Kn σ0 ((d, Sh.tree hs y) :: L) (Sh.en hs y ++ es) (h y = some r) (opsX P (run P md X) ops (nxM m) l K)) (hf : gE (get L) fo = some (.fn fn [] []) := by rfl) (ha : gEs (get L) as.toList = some xs := by rfl) (hmk : mk bs = xs := by rfl) (hm : m.chg = true := by rfl) (hw : want ops L g = some true := by rfl) : Kn σ0 L es ((semLO P md X Sh fn mk cs).bind h = some r) (opsX P (run P md X) ops m (⟨some d, .call ⟨.value fo, as, tys⟩, ty, ps, af, g⟩ :: l) K) := fun hp s σ hS hH => by
  obtain ⟨y, hy, hp⟩ := bind_some hp
  exact q_callLO hm bs hw hS hf ha hmk hH (hl σ hH) hy fun hs σ' s' hn hH' hS' => k y hs hy hn hp s' σ' hS' hH'
theorem k_callR {A : Option β} {xs a b : List T} {tree : β → List T → T} {ents' : β → List T → List Ent} {n : Nat} {es1 : List Ent} (k : ∀ y hs, A = some y → hs.length = n → Kn σ0 ((d, tree y hs) :: L) (ents' y hs ++ es1) (h y = some r) (opsX P (run P md X) ops .q l K)) (hf : gE (get L) fo = some (.fn fn a b) := by rfl) (ha : gEs (get L) as.toList = some xs := by rfl) (hr : ∀ y, A = some y → RawS P md X fn (a ++ xs ++ b) n (tree y) ents (ents' y)) (hE : es = ents ++ es1 := by rfl) (hw : want ops L g = some true := by rfl) : Kn σ0 L es (A.bind h = some r) (opsX P (run P md X) ops .q (⟨some d, .call ⟨.value fo, as, tys⟩, ty, ps, af, g⟩ :: l) K) := fun hp s σ hS hH => by
  obtain ⟨y, hy, hp⟩ := bind_some hp
  exact q_callR hw hS hf ha (hE ▸ hH) (hr y hy) fun hs σ' s' hl hH' hS' => k y hs hy hl hp s' σ' hS' hH'
theorem k_inlC {A : Option β} {xs a b args : List T} {c : Code} {n0 : Nat} {rs : List ResultVar} {L0 : List (Nat × T)} {w : Wh} {k : List Ct} (HF : β → (Nat → T) → St → Prop) (hok : Ok P fn c n0 rs) (k1 : ∀ y, Kn σ0 L0 es (A = some y) (whQ P (run P md X) w k (endI P rs fun v σ' => ∀ s', Sub (putL L dO v) s' → HF y s' σ'))) (k2 : ∀ y s σ, HF y s σ → h y = some r → opsX P (run P md X) ops .q l K ⟨s, σ⟩) (hf : gE (get L) fo = some (.fn fn a b) := by rfl) (ha : gEs (get L) as.toList = some xs := by rfl) (hab : foL (a ++ xs ++ b) some = some args := by rfl) (hL : foL (nums 0 args) some = some L0 := by rfl) (hv : md fn = .raw := by rfl) (hX : X fn = none := by rfl) (hlen : Nat.ble args.length n0 = true := by kernel_rfl) (hn : nx 99 (.c c) [] = some (w, k) := by rfl) (hw : want ops L g = some true := by rfl) : Kn σ0 L es (A.bind h = some r) (opsX P (run P md X) ops .q (⟨dO, .call ⟨.value fo, as, tys⟩, ty, ps, af, g⟩ :: l) K) := fun hp s σ hS hH => by
  obtain ⟨y, hy, hp⟩ := bind_some hp
  exact q_inlC (HF := HF y) args hw hS hf ha (by rw [foL_eq] at hab; injection hab) hv hX hok hlen (fun s1 h1 => nx_ok (w := .c c) (k := []) hn (k1 y hy s1 σ (by rw [foL_eq] at hL; injection hL with hL; rw [← hL]; exact h1) hH)) fun s' σ' hF => k2 y s' σ' hF hp
theorem k_eIC {L1 : List (Nat × T)} {rs : List ResultVar} {l1 : List T} {v : T} {e : AExit} {O : Oracle} {HF : (Nat → T) → St → Prop} {u y : β} (hr : KR P σ0 L es rs l1) (kk : ∀ {s σ}, y = u → Sub L' s → Heap σ0 σ es → HF s σ) (ht : tupOf l1 = v := by rfl) (hL : pu L1 dO v = some L' := by rfl) (he : okX e = true := by rfl) : Kn σ0 L es (some u = some y) (whQ P O (.x e) [] (endI P rs fun v σ' => ∀ s', Sub (putL L1 dO v) s' → HF s' σ')) := fun hp s σ hS hH => by
  have := end_I (K := fun v σ' => ∀ s', Sub (putL L1 dO v) s' → HF s' σ') (hr s σ hS hH) ht fun s' hS' => kk (by injection hp with hp; exact hp.symm) (pu_ok hL ▸ hS') hH
  cases e with
  | exit i => cases he
  | _ => exact this
theorem k_lenH {α : Type} [Enc α] {z : Bool} {w : Nat} {t1 : T} {a : Sl α} {t : TypeId} {x : Operand} {p : Prop} {O : Oracle} (i : Nat) (kk : Kn σ0 ((d, .int .i64 a.l.length) :: L) es p (opsX P O ops (nxM m) l K)) (hx : gE (get L) x = some t1 := by rfl) (he : es[i]? = some (.own z w t1 a.t) := by rfl) (hk : kindT P t = 4 := by kernel_rfl) (hw : want ops L g = some true := by rfl) : Kn σ0 L es p (opsX P O ops m (⟨some d, .call ⟨.builtin .len, #[x], #[t]⟩, ty, ps, af, g⟩ :: l) K) := fun hp s σ hS hH =>
  q_lenH (z := z) (w := w) hw hS (hH.at i he) hx hk fun s' hS' => kk hp s' σ hS' hH
end
def entT : List Ent → Nat → Option T
  | .own _ _ t _ :: _, 0 => some t
  | .flt _ t _ :: _, 0 => some t
  | _ :: es, n + 1 => entT es n
  | _, _ => none
theorem entT_one {σ0 σ : St} : ∀ {es : List Ent} {i : Nat} {t : T}, Heap σ0 σ es → entT es i = some t → IsOne t
  | .own z w t v :: es, 0, t', hH, h => by injection h with h; subst h; exact Heap.one hH
  | .flt w t v :: es, 0, t', hH, h => by injection h with h; subst h; exact Heap.fltOne hH
  | .box .. :: es, 0, _, _, h => by cases h
  | .frt .. :: es, 0, _, _, h => by cases h
  | .keep .. :: es, 0, _, _, h => by cases h
  | e :: es, n + 1, t, hH, h => entT_one (es := es) (i := n) hH.drop (by cases e <;> exact h)
  | [], 0, _, _, h => by cases h
  | [], _ + 1, _, _, h => by cases h
section
variable {σ0 : St} {L : List (Nat × T)} {es es' : List Ent} {p : Prop} {G : Fr → Prop} {α β : Type} {r : α}
theorem t_one {t : T} (i : Nat) (kk : IsOne t → Kn σ0 L es p G) (h : entT es i = some t := by rfl) : Kn σ0 L es p G := fun hp s σ hS hH => kk (entT_one hH h) hp s σ hS hH
theorem t_lit (kk : Kn σ0 L es' p G) (h : foL es some = some es' := by rfl) : Kn σ0 L es p G := fun hp s σ hS hH => kk hp s σ hS (by rw [foL_eq] at h; injection h with h; rw [← h]; exact hH)
theorem el_l {γ : Type} {f : α → Option γ} {g : β → Option γ} {a : α} {r : γ} (h : Sum.elim f g (Sum.inl a) = some r) : f a = some r := h
theorem el_r {γ : Type} {f : α → Option γ} {g : β → Option γ} {a : β} {r : γ} (h : Sum.elim f g (Sum.inr a) = some r) : g a = some r := h
end
def gVF (g : Nat → Option T) : Nat → List (Nat × Operand) → Option (List T)
  | _, [] => some []
  | i, (j, x) :: l => match Nat.beq i j with
    | true => match gE g x with
      | some v => match gVF g (i + 1) l with
        | some vs => some (v :: vs)
        | none => none
      | none => none
    | false => none
theorem gVF_ok {g : Nat → Option T} : ∀ {l : List (Nat × Operand)} {i : Nat} {vs : List T}, gVF g i l = some vs → gPs g l = some (enumV i vs)
  | [], i, vs, h => by injection h with h; subst h; rfl
  | (j, x) :: l, i, vs, h => by
    simp only [gVF] at h
    split at h
    · rename_i hb
      split at h
      · rename_i v hv
        split at h
        · rename_i us hu
          injection h with h; subst h
          simp only [gPs, hv, gVF_ok hu, enumV, Nat.eq_of_beq_eq_true hb]
        · cases h
      · cases h
    · cases h
def csF : List T → Option (List T)
  | [] => some []
  | v :: vs => match cellsF v with
    | some c => match csF vs with
      | some r => foL (c ++ r) some
      | none => none
    | none => none
theorem csF_ok : ∀ {vs cs : List T}, csF vs = some cs → vs.flatMap T.cells = cs
  | [], cs, h => by injection h
  | v :: vs, cs, h => by
    simp only [csF] at h
    split at h
    · rename_i c hc
      split at h
      · rename_i r hr
        rw [foL_eq] at h; injection h with h; subst h
        rw [List.flatMap_cons, cellsF_ok hc, csF_ok hr]
      · cases h
    · cases h
theorem allV_of {sz : Nat} : ∀ {vs : List T}, (vs.all fun v => Nat.beq v.cells.length sz) = true → (vs.flatMap T.cells).all T.one = true → allV sz vs
  | [], _, _ => trivial
  | v :: vs, h, k => by
    simp only [List.all_cons, Bool.and_eq_true] at h
    rw [List.flatMap_cons, List.all_append, Bool.and_eq_true] at k
    exact ⟨Nat.eq_of_beq_eq_true h.1, k.1, allV_of h.2 k.2⟩
def litL {α : Type} [Enc α] [Lit α] : List α → List T
  | [] => []
  | x :: l => Lit.c x ++ litL l
theorem litL_eq {α : Type} [Enc α] [Lit α] : ∀ (l : List α), cellsL l = litL l
  | [] => rfl
  | x :: l => by rw [cellsL, litL, Lit.h, litL_eq l]
section
variable {P : Program} {O : Oracle} {ops : Array Oper} {m : Mo} {l : List Oper} {K : Fr → Prop} {σ0 : St} {L L' : List (Nat × T)} {es es1 es' ents : List Ent} {γ : Type} {r : γ} {p : Prop} {α : Type} [Enc α]
variable {d : Nat} {dO : Option Nat} {ty : TypeId} {ps : String} {af : Array Edge} {g : Option (Nat × Bool)} {t t2 e by_ w sz len : Nat} {x y i0 : Operand} {z : Bool} {t1 ty1 : T} {zc : List T} {parts : Array (Nat × Operand)} {kk0 : IntKind} {j : Int}
theorem k_bs [Lit α] {vs cs us : List T} (a : Sl α) (kk : ∀ t', IsOne t' → Kn σ0 ((d, t') :: L) (.own z sz t' a.t :: es1) p (opsX P O ops (nxM m) l K)) (hg : gVF (get L) 0 parts.toList = some vs := by rfl) (hc : csF vs = some cs := by rfl) (hu : foL (litL a.l) some = some us := by rfl) (hh : HC z cs us es es1 := by repeat (first | exact HC.nil | apply HC.i | apply HC.s | apply HC.b | apply HC.n | apply HC.p | apply HC.agg | apply HC.own rfl)) (he : elemOfSl P t = some e := by rfl) (hz : szOf P e = some sz := by rfl) (hzz : zeroOf P e = some zc := by rfl) (hl : (Nat.beq zc.length sz && Nat.beq vs.length len && Nat.ble (len * sz) 16777216 && !Nat.beq sz 0 && !Nat.beq len 0) = true := by kernel_rfl) (hv : (vs.all fun v => Nat.beq v.cells.length sz) = true := by kernel_rfl) (h1 : cs.all T.one = true := by kernel_rfl) (hr : T.row false len (cellsL a.l) = a.t := by rfl) (hb : m.base σ0 := by exact trivial) (hm : m.chg = true := by rfl) (hw : want ops L g = some true := by rfl) : Kn σ0 L es p (opsX P O ops m (⟨some d, .buildSlice t len parts, ty, ps, af, g⟩ :: l) K) := fun hp s σ hS hH => by
  obtain ⟨ents, hh, hE⟩ := hh
  exact q_bsC hm hb hw hS (hE ▸ hH) (gVF_ok hg) he hz hzz hl (allV_of hv (by rw [csF_ok hc]; exact h1)) (csF_ok hc) hh (by rw [foL_eq] at hu; injection hu with hu; rw [← hu, ← litL_eq]; exact hr) fun t' σ' s' h1 h2 h3 => kk t' h1 hp s' σ' h3 h2
theorem k_bs0 (kk : ∀ t', IsOne t' → Kn σ0 ((d, t') :: L) (.own true sz t' (Sl.t (⟨false, []⟩ : Sl α)) :: es) p (opsX P O ops (nxM m) l K)) (he : elemOfSl P t = some e := by rfl) (hz : szOf P e = some sz := by rfl) (hzz : zeroOf P e = some zc := by rfl) (hl : (Nat.beq zc.length sz && !Nat.beq sz 0) = true := by kernel_rfl) (hb : m.base σ0 := by exact trivial) (hm : m.chg = true := by rfl) (hw : want ops L g = some true := by rfl) : Kn σ0 L es p (opsX P O ops m (⟨some d, .buildSlice t 0 #[], ty, ps, af, g⟩ :: l) K) := fun hp s σ hS hH =>
  q_bs0 hm hb hw hS hH he hz hzz hl fun t' σ' s' h1 h2 h3 => kk t' h1 hp s' σ' h3 h2
theorem k_app {a b : Sl α} {f : Sl α → Option γ} (i i2 : Nat) (k : ∀ c t', appS by_ a b = some c → IsOne t' → Kn σ0 ((d, t') :: L) (.own z (Enc.w α) t' c.t :: es') (f c = some r) (opsX P O ops (nxM m) l K)) (hx : gE (get L) x = some t1 := by rfl) (hy : gE (get L) y = some ty1 := by rfl) (h1 : pickE i es = some (.own z (Enc.w α) t1 a.t, es1) := by rfl) (h2 : pickE i2 es1 = some (.own z (Enc.w α) ty1 b.t, es') := by rfl)
    (he : elemOfSl P t = some e := by rfl) (hz : szOf P e = some (Enc.w α) := by kernel_rfl) (hby : bytesOf P e = some by_ := by kernel_rfl) (hzz : zeroOf P e = some zc := by rfl) (hcl : (!isIntT P t2 && Nat.beq zc.length (Enc.w α) && !Nat.beq (Enc.w α) 0 && !Nat.beq by_ 0 && Nat.ble by_ 1048576) = true := by kernel_rfl) (hk : kindT P t2 = 4 := by kernel_rfl) (hb : m.base σ0 := by exact trivial) (hwr : ∀ {σ}, Heap σ0 σ es → ∀ b e o n, t1 = .ref b e o n → m.wr b := by exact fun _ _ _ _ _ _ => trivial) (hm : m.chg = true := by rfl) (hw : want ops L g = some true := by rfl) : Kn σ0 L es ((appS by_ a b).bind f = some r) (opsX P O ops m (⟨some d, .call ⟨.builtin .append, #[x, y], #[t, t2]⟩, ty, ps, af, g⟩ :: l) K) := fun hp s σ hS hH => by
  obtain ⟨c, hc, hp⟩ := bind_some hp
  have hH0 := hH
  have hH : Heap σ0 σ (.own z (Enc.w α) t1 a.t :: .own z (Enc.w α) ty1 b.t :: es') := (hH.pick h1).perm ((pickE_perm h2).cons _)
  exact q_appC hm hb (hwr hH0) hw hS hH hx hy he hz hby hzz hcl hk hc fun t' σ' s' h1 h2 h3 => k c t' hc h1 hp s' σ' h3 h2
theorem k_appR [Hld z α] {a b : Sl α} {f : Sl α → Option γ} (i : Nat) (k : ∀ c t', appS by_ a b = some c → IsOne t' → Kn σ0 ((d, t') :: L) (.own z (Enc.w α) t' c.t :: es') (f c = some r) (opsX P O ops (nxM m) l K)) (hx : gE (get L) x = some t1 := by rfl) (hy : gE (get L) y = some b.t := by rfl) (h1 : pickE i es = some (.own z (Enc.w α) t1 a.t, es') := by rfl)
    (he : elemOfSl P t = some e := by rfl) (hz : szOf P e = some (Enc.w α) := by kernel_rfl) (hby : bytesOf P e = some by_ := by kernel_rfl) (hzz : zeroOf P e = some zc := by rfl) (hcl : (!isIntT P t2 && Nat.beq zc.length (Enc.w α) && !Nat.beq (Enc.w α) 0 && !Nat.beq by_ 0 && Nat.ble by_ 1048576) = true := by kernel_rfl) (hk : kindT P t2 = 4 := by kernel_rfl) (hb : m.base σ0 := by exact trivial) (hwr : ∀ {σ}, Heap σ0 σ es → ∀ b e o n, t1 = .ref b e o n → m.wr b := by exact fun _ _ _ _ _ _ => trivial) (hm : m.chg = true := by rfl) (hw : want ops L g = some true := by rfl) : Kn σ0 L es ((appS by_ a b).bind f = some r) (opsX P O ops m (⟨some d, .call ⟨.builtin .append, #[x, y], #[t, t2]⟩, ty, ps, af, g⟩ :: l) K) := fun hp s σ hS hH => by
  obtain ⟨c, hc, hp⟩ := bind_some hp
  exact q_appRC hm hb (hwr hH) hw hS (hH.pick h1) hx hy he hz hby hzz hcl hk hc fun t' σ' s' h1 h2 h3 => k c t' hc h1 hp s' σ' h3 h2
theorem k_hidx {a : Sl α} {f : α → Option γ} (i : Nat) (k : ∀ b ep y, elt a j = some y → t1 = .ref b ep 0 a.l.length → Kn σ0 ((d, .ptr b ep (j.toNat * Enc.w α) (Enc.w α)) :: L) es (f y = some r) (opsX P O ops (nxM m) l K)) (hx : gE (get L) x = some t1 := by rfl) (hi : gE (get L) i0 = some (.int kk0 j) := by rfl) (h1 : es[i]? = some (.own z w t1 a.t) := by rfl) (he : elemOfSl P t = some e := by rfl) (hz : szOf P e = some (Enc.w α) := by kernel_rfl) (hlt : ∀ b e o n, t1 = .ref b e o n → m.lt b := by exact fun _ _ _ _ _ => trivial) (hw : want ops L g = some true := by rfl) : Kn σ0 L es ((elt a j).bind f = some r) (opsX P O ops m (⟨some d, .indexAddr t x i0, ty, ps, af, g⟩ :: l) K) := fun hp s σ hS hH => by
  obtain ⟨y, hy, hp⟩ := bind_some hp
  exact q_hidx (z := z) (w := w) hlt hw hS (hH.at i h1) hx hi he hz hy fun b ep s' hr h3 => k b ep y hy hr hp s' σ h3 hH
theorem k_hload [Lit α] {a : Sl α} {b ep n : Nat} {c : List T} {v : T} {y : α} (i off : Nat) (hr : t1 = .ref b ep 0 a.l.length) (hy : elt a j = some y) (kk : Kn σ0 ((d, v) :: L) es p (opsX P O ops (nxM m) l K)) (ha : gE (get L) x = some (.ptr b ep (j.toNat * Enc.w α + off) n) := by rfl) (he : es[i]? = some (.own z w t1 a.t) := by rfl) (hc : foL (Lit.c y) some = some c := by rfl) (hv : c[off]? = some v := by rfl) (hag : aggOf P t = some false := by kernel_rfl) (hn : Nat.ble 1 n = true := by kernel_rfl) (hlf : ∀ σ d t S, hold z σ d t = some (v, S) → t = v := by first | exact leaf_int | exact leaf_str | exact leaf_bool) (hlt : ∀ b e o n, t1 = .ref b e o n → m.lt b := by exact fun _ _ _ _ _ => trivial) (hw : want ops L g = some true := by rfl) : Kn σ0 L es p (opsX P O ops m (⟨some d, .load t x, ty, ps, af, g⟩ :: l) K) := fun hp s σ hS hH =>
  q_hload (z := z) (w := w) (c := c) hlt hw hS (hH.at i he) hr ha hy (by rw [Lit.h]; rw [foL_eq] at hc; injection hc) hag hv hn hlf fun s' h3 => kk hp s' σ h3 hH
end
section
variable {P : Program} {O : Oracle} {ops : Array Oper} {m : Mo} {l : List Oper} {K : Fr → Prop} {σ0 σk : St} {F : List Nat} {L : List (Nat × T)} {es : List Ent} {p : Prop}
variable {d : Nat} {ty : TypeId} {ps : String} {af : Array Edge} {g : Option (Nat × Bool)} {t : TypeId} {x : Operand} {pp : T} {c : List T}
end
end Go.Am
end
section
set_option linter.unusedVariables false
set_option linter.unusedSimpArgs false
namespace Go.Am
section
variable {P : Program} {O : Oracle} {ops : Array Oper} {m : Mo} {l : List Oper} {K : Fr → Prop} {s : Nat → T} {σ σ0 : St} {L : List (Nat × T)} {es es' ents : List Ent} {γ : Type} {r0 : γ} {p : Prop}
variable {d0 : Nat} {d : Option Nat} {ty : TypeId} {ps : String} {af : Array Edge} {g : Option (Nat × Bool)}
theorem convA_toK {σ : St} {k : Option Nat} {src dst e : TypeId} {x : T} {n : Nat} {cs : List T} {l : List UInt8} (hx : isTop x = true) (h1 : kindT P dst = 3) (he : elemOfSl P src = some e) (h3 : kindT P e = 10) (hc : cellsOf σ x = some (n, cs)) (hn : cs.length = n) (hb : ofBytes cs = some l) : convA P k σ src dst x = some (.str ⟨l.toArray⟩, σ) := by
  have key : convA P k σ src dst x = if kindT P dst = 3 then (elemOfSl P src).bind fun e => if kindT P e = 10 then (cellsOf σ x).bind fun (n, cs) => if cs.length = n then (ofBytes cs).map fun l => (.str ⟨l.toArray⟩, σ) else none else none else none := by
    cases x <;> first | rfl | (simp [isTop] at hx; done)
  rw [key, if_pos h1, he, Option.bind_some, if_pos h3, hc, Option.bind_some]
  simp only
  rw [if_pos hn, hb]; rfl
theorem q_b2sC (hq : m.seq = true) {z : Bool} {wd : Nat} {x : Operand} {src dst e : TypeId} {t1 : T} {a : Sl (Iv .u8)} {r : ByteArray} (hw : want ops L g = some true) (hS : Sub L s) (hH : Heap σ0 σ (.own z wd t1 a.t :: es)) (hx : gE (get L) x = some t1) (hk : Nat.beq (kindT P dst) 3 = true) (he : elemOfSl P src = some e) (hke : Nat.beq (kindT P e) 10 = true) (hr : strS a = some r)
    (k : ∀ s', Sub (putL L d (.str r)) s' → opsX P O ops (nxM m) l K ⟨s', σ⟩) : opsX P O ops m (⟨d, .convert src dst x, ty, ps, af, g⟩ :: l) K ⟨s, σ⟩ := by
  obtain ⟨S, ⟨ht, hwd, k', h2⟩, _, _⟩ := hH.head
  have ea : a.t = .row a.z a.l.length (cellsL a.l) := rfl
  rw [ea] at h2
  have hone : Enc.w (Iv .u8) = 1 := rfl
  obtain ⟨l0, h4, h5⟩ := Option.map_eq_some_iff.1 hr
  have h1 := Nat.eq_of_beq_eq_true hk; have h3 := Nat.eq_of_beq_eq_true hke
  have hof : ∀ cs, cs = cellsL a.l → ofBytes cs = some l0 := fun cs h => by rw [h, ofIv_cells, h4]
  have leaf : ∀ {k : Nat} (as : List (Iv .u8)) (ts : List T) (S : List Nat), frzL (hold z σ k) ts = some (cellsL as, S) → ts = cellsL as := by
    intro k as
    induction as with
    | nil => intro ts S h; have := frzL_length h; exact List.length_eq_zero_iff.1 (by simpa [cellsL] using this.symm)
    | cons x as ih =>
      intro ts S h
      have h : frzL (hold z σ k) ts = some (.int .u8 x.v :: cellsL as, S) := h
      cases ts with
      | nil => simp [frzL] at h
      | cons t ts =>
        simp only [frzL] at h
        obtain ⟨⟨p1, p2⟩, q1, q2⟩ := Option.bind_eq_some_iff.1 h
        obtain ⟨⟨r1, r2⟩, q3, q4⟩ := Option.map_eq_some_iff.1 q2
        injection q4 with q4 _
        injection q4 with e1 e2
        subst e1; subst e2
        have := leaf_int (z := z) (k := .u8) (n := x.v) σ k t p2 q1
        rw [this, ih ts r2 q3]; rfl
  have hconv : ∀ kk, convA P kk σ src dst t1 = some (.str r, σ) := by
    intro kk
    subst h5
    rcases hold_top ht h2 with ⟨rfl, hz, hn0, hcs, rfl⟩ | ⟨rfl, hz, hn0, hcs, rfl⟩ | ⟨hzz, x', B, S', k'', rfl, hB, c1, c3, c5, c6, c7, h3', rfl⟩
    · exact convA_toK ht h1 he h3 (n := 0) (cs := []) rfl rfl (hof _ hcs.symm)
    · exact convA_toK ht h1 he h3 (n := 0) (cs := []) rfl rfl (hof _ hcs.symm)
    · have e1 : (B.cells.drop 0).take (a.l.length * B.esz) = B.cells := by rw [List.drop_zero, ← c5, List.take_length]
      have e2 : B.cells = cellsL a.l := leaf _ _ _ h3'
      refine convA_toK ht h1 he h3 (n := a.l.length) (cs := B.cells) ?_ (by rw [e2, cellsL_len, hone, Nat.mul_one]) (hof _ e2)
      simp only [cellsOf, hB, Option.bind_some, if_pos c3, e1]
  refine q_val hw hS (fun kk σ' ha => ?_) k
  rw [Mo.al_seq ha hq, a_convert, gE_sound hS hx, Option.bind_some, hconv]; rfl
theorem k_b2s {z : Bool} {wd : Nat} {x : Operand} {src dst e : TypeId} {t1 : T} {a : Sl (Iv .u8)} {f : ByteArray → Option γ} (i : Nat) (kk : ∀ y, strS a = some y → Kn σ0 ((d0, .str y) :: L) es (f y = some r0) (opsX P O ops (nxM m) l K)) (hx : gE (get L) x = some t1 := by rfl) (h1 : pickE i es = some (.own z wd t1 a.t, es') := by rfl) (hk : Nat.beq (kindT P dst) 3 = true := by kernel_rfl) (he : elemOfSl P src = some e := by rfl) (hke : Nat.beq (kindT P e) 10 = true := by kernel_rfl) (hq : m.seq = true := by rfl) (hw : want ops L g = some true := by rfl) : Kn σ0 L es ((strS a).bind f = some r0) (opsX P O ops m (⟨some d0, .convert src dst x, ty, ps, af, g⟩ :: l) K) := fun hp s σ hS hH => by
  obtain ⟨y, hy, hp⟩ := bind_some hp
  exact q_b2sC hq hw hS (hH.pick h1) hx hk he hke hy fun s' hS' => kk y hy hp s' σ hS' hH
end
end Go.Am
end
section
set_option linter.unusedVariables false
set_option linter.unusedSimpArgs false
namespace Go.Am
def A2 {α : Type} (R : α → α → Prop) : List α → List α → Prop
  | [], [] => True
  | x :: xs, y :: ys => R x y ∧ A2 R xs ys
  | _, _ => False
theorem A2.refl {α : Type} {R : α → α → Prop} : ∀ {l : List α}, (∀ x ∈ l, R x x) → A2 R l l
  | [], _ => trivial
  | x :: xs, h => ⟨h x (by simp), A2.refl (fun y hy => h y (by simp [hy]))⟩
theorem A2.len {α : Type} {R : α → α → Prop} : ∀ {l m : List α}, A2 R l m → l.length = m.length
  | [], [], _ => rfl
  | _ :: xs, _ :: ys, h => by simp [A2.len h.2]
  | [], _ :: _, h => h.elim
  | _ :: _, [], h => h.elim
theorem A2.drop {α : Type} {R : α → α → Prop} {l m : List α} {i : Nat} {x y : α} (hx : l[i]? = some x) (hy : m[i]? = some y) : A2 R (l.drop i) (m.drop i) ↔ R x y ∧ A2 R (l.drop (i + 1)) (m.drop (i + 1)) := by
  obtain ⟨h1, rfl⟩ := List.getElem?_eq_some_iff.1 hx
  obtain ⟨h2, rfl⟩ := List.getElem?_eq_some_iff.1 hy
  rw [List.drop_eq_getElem_cons h1, List.drop_eq_getElem_cons h2]
  exact Iff.rfl
theorem wrap_id {n : Int} (h0 : -9223372036854775808 ≤ n) (h1 : n < 9223372036854775808) : IntKind.i64.wrap n = n := by
  simp only [IntKind.wrap, IntKind.signed, IntKind.bits]
  simp
  omega
theorem elt_nat {α : Type} {s : Sl α} {i : Nat} {x : α} (h : s.l[i]? = some x) : elt s (i : Int) = some x := by
  simp [elt, h]
/- sizes -/
def SzOk (o : Option Int) (l : Int) (P : Prop) : Prop := o = some (-1) ∨ ∃ l', o = some l' ∧ 0 ≤ l' ∧ l' ≤ l ∧ P
theorem SzOk.imp {o : Option Int} {l m : Int} {P Q : Prop} (h : SzOk o l P) (hm : l ≤ m) (f : P → Q) : SzOk o m Q := by
  rcases h with h | ⟨l', h1, h2, h3, h4⟩
  · exact .inl h
  · exact .inr ⟨l', h1, h2, by omega, f h4⟩
theorem sz_u {B F : Option Int} {l : Int} {P : Prop} (u : ∀ r, B = some r → F = some r) (h : SzOk B l P) : SzOk F l P := by
  rcases h with h | ⟨l', h1, h2⟩
  · exact .inl (u _ h)
  · exact .inr ⟨l', u _ h1, h2⟩
theorem sz_end {l : Int} {Q : Prop} (h : 0 ≤ l) (q : Q) : SzOk (some l) l Q := .inr ⟨l, rfl, h, by omega, q⟩
theorem sz_if {l l' : Int} {K : Option Int} {Q : Prop} (hl : l' ≤ l) (h : 0 ≤ l' → SzOk K l' Q) : SzOk (if decide (l' < 0) = true then some (-1) else K) l Q := by
  by_cases hn : l' < 0
  · exact .inl (by simp [hn])
  · rw [if_neg (by simpa using hn)]
    exact (h (by omega)).imp hl (fun q => q)
theorem sz_bind {o : Option Int} {l : Int} {P Q : Prop} {k : Int → Option Int} (h : SzOk o l P) (hk : ∀ l', 0 ≤ l' → l' ≤ l → P → SzOk (k l') l' Q) : SzOk (o.bind fun y => if decide (y < 0) = true then some (-1) else k y) l Q := by
  rcases h with h | ⟨l', h1, h2, h3, h4⟩
  · subst h; exact .inl (by simp)
  · subst h1
    show SzOk (if decide (l' < 0) = true then some (-1) else k l') l Q
    rw [if_neg (by simp; omega)]
    exact (hk l' h2 h3 h4).imp h3 (fun q => q)
theorem loop_sz {α : Type} {P : α → Prop} {a : Sl α} {body : Int × Int → Option ((Int × Int) ⊕ (Int ⊕ Int))} {l : Int} (h0 : 0 ≤ l)
    (h1 : ∀ (i : Nat) x l', a.l[i]? = some x → 0 ≤ l' → l' ≤ l → body (l', i) = some (.inr (.inr (-1))) ∨ ∃ l'', body (l', i) = some (.inl (l'', (i : Int) + 1)) ∧ 0 ≤ l'' ∧ l'' ≤ l' ∧ P x)
    (h2 : ∀ l', body (l', (a.l.length : Int)) = some (.inr (.inl l'))) :
    SzOk ((loopO body (l, 0)).bind fun y => Sum.elim (fun y => some y) (fun y => some y) y) l (∀ x ∈ a.l, P x) := by
  suffices H : ∀ (k i : Nat), i + k = a.l.length → ∀ l', 0 ≤ l' → l' ≤ l → (loopO body (l', (i : Int)) = some (.inr (-1))) ∨ ∃ l'', loopO body (l', (i : Int)) = some (.inl l'') ∧ 0 ≤ l'' ∧ l'' ≤ l' ∧ ∀ x ∈ a.l.drop i, P x by
    rcases H a.l.length 0 (by simp) l h0 (by omega) with h | ⟨l', h, h3⟩
    · have h : loopO body (l, 0) = some (.inr (-1)) := h
      rw [h]; exact .inl rfl
    · have h : loopO body (l, 0) = some (.inl l') := h
      rw [h]; exact .inr ⟨l', rfl, by simpa using h3⟩
  intro k
  induction k with
  | zero =>
    intro i hi l' hl0 hl
    have : i = a.l.length := by omega
    subst this
    exact .inr ⟨l', loopO_stop (h2 l'), hl0, by omega, by simp⟩
  | succ k ih =>
    intro i hi l' hl0 hl
    have ha : i < a.l.length := by omega
    have ea : a.l[i]? = some a.l[i] := List.getElem?_eq_getElem ha
    rcases h1 i _ l' ea hl0 hl with h | ⟨l2, h, h3, h4, h5⟩
    · exact .inl (loopO_stop h)
    · have hc : ((i + 1 : Nat) : Int) = (i : Int) + 1 := by simp
      rcases ih (i + 1) (by omega) l2 h3 (by omega) with q | ⟨l3, q, q1, q2, q3⟩
      · rw [hc] at q
        exact .inl (loopO_go h q)
      · rw [hc] at q
        refine .inr ⟨l3, loopO_go h q, q1, by omega, ?_⟩
        rw [List.drop_eq_getElem_cons ha]
        intro x hx
        rcases List.mem_cons.1 hx with rfl | hx
        · exact h5
        · exact q3 x hx
/- copies -/
def FitS {α : Type} (n : Nat) (F : α → Prop) (s : Sl α) : Prop := s.l.length ≤ n ∧ ∀ x ∈ s.l, F x
theorem slice_sz {α : Type} {P : α → Prop} {a : Sl α} {body : Int × Int → Option ((Int × Int) ⊕ (Int ⊕ Int))} {l : Int} (h0 : 0 ≤ l) (h20 : l ≤ 1048576) (hb : a.l.length ≤ maxLen)
    (h1 : ∀ (i : Nat) x l', x ∈ a.l → i < a.l.length → elt a (i : Int) = some x → 0 ≤ l' → l' ≤ l → body (l', i) = some (.inr (.inr (-1))) ∨ ∃ l'', body (l', i) = some (.inl (l'', (i : Int) + 1)) ∧ 0 ≤ l'' ∧ l'' ≤ l' ∧ P x)
    (h2 : ∀ l', body (l', (a.l.length : Int)) = some (.inr (.inl l'))) :
    SzOk (if decide (IntKind.i64.wrap (l - (a.l.length : Int)) < 0) = true then some (-1) else (loopO body (IntKind.i64.wrap (l - (a.l.length : Int)), 0)).bind fun y => Sum.elim (fun y => some y) (fun y => some y) y) l (FitS 1048576 P a) := by
  have hm : maxLen = 9223372036854775807 := by decide
  rw [hm] at hb
  rw [wrap_id (by omega) (by omega)]
  refine sz_if (by omega) (fun hn => ?_)
  exact (loop_sz hn (fun i x l' hx q1 q2 => h1 i x l' (List.mem_of_getElem? hx) (List.getElem?_eq_some_iff.1 hx).1 (elt_nat hx) q1 (by omega)) h2).imp (Int.le_refl _) (fun q => ⟨by omega, q⟩)
theorem sz_step {α : Type} {p : Prop} {a : Sl α} {x : α} {i : Nat} {n l : Int} {e : Option ((Int × Int) ⊕ (Int ⊕ Int))} {G : α → Option Int} (hi : (i : Int) < n) (hx : elt a (i : Int) = some x) (hG : SzOk (G x) l p) (hn : n < 9223372036854775808) :
    (if decide ((i : Int) < n) = true then (elt a (i : Int)).bind fun y2 => (G y2).bind fun y3 => if decide (y3 < 0) = true then some (.inr (.inr (-1))) else some (.inl (y3, IntKind.i64.wrap ((i : Int) + 1))) else e) = some (.inr (.inr (-1))) ∨
    ∃ l'', (if decide ((i : Int) < n) = true then (elt a (i : Int)).bind fun y2 => (G y2).bind fun y3 => if decide (y3 < 0) = true then some (.inr (.inr (-1))) else some (.inl (y3, IntKind.i64.wrap ((i : Int) + 1))) else e) = some (.inl (l'', (i : Int) + 1)) ∧ 0 ≤ l'' ∧ l'' ≤ l ∧ p := by
  rw [if_pos (by simpa using hi), hx, wrap_id (by omega) (by omega)]
  rcases hG with h | ⟨l', h, h2, h3, h4⟩
  · left; simp [h]
  · right
    refine ⟨l', ?_, h2, h3, h4⟩
    simp only [Option.bind_some, h]
    rw [if_neg (by simp; omega)]
/- comparisons, put together -/
end Go.Am
end
section
set_option linter.unusedVariables false
set_option linter.unusedSimpArgs false
namespace Go.Am
section
variable {P : Program} {t : TypeId} {d : Nat} {ts : List T}
theorem shp_struct (kt : kindT P t = 7) (h : Shp P d t ts) : ∃ d', ShpF P (Shp P d') ((fieldsT P t).map (·.type)) ts := by
  cases d with
  | zero => exact h.elim
  | succ d =>
    rcases h with h | h | h | h | h
    · rw [kt] at h; exact absurd h.1 (by decide)
    · simp [isIntT, kt] at h
    · rw [kt] at h; exact absurd h.1 (by decide)
    · rw [kt] at h; exact absurd h.1 (by decide)
    · exact ⟨d, h.2⟩
theorem shp_str (kt : kindT P t = 3) (h : Shp P d t ts) : ∃ s : ByteArray, ts = [.str s] ∧ s.size ≤ maxLen := by
  cases d with
  | zero => exact h.elim
  | succ d =>
    rcases h with h | h | h | h | h
    · rw [kt] at h; exact absurd h.1 (by decide)
    · simp [isIntT, kt] at h
    · exact h.2
    · rw [kt] at h; exact absurd h.1 (by decide)
    · rw [kt] at h; exact absurd h.1 (by decide)
theorem shp_int {k : IntKind} (hu : P.underlying t = some (.int k)) (kt : kindT P t = 2) (h : Shp P d t ts) : ∃ n : Int, ts = [.int k n] := by
  cases d with
  | zero => exact h.elim
  | succ d =>
    rcases h with h | h | h | h | h
    · rw [kt] at h; exact absurd h.1 (by decide)
    · obtain ⟨_, k', n, h1, h2, _⟩ := h
      rw [hu] at h1
      injection h1 with h1; injection h1 with h1; subst h1
      exact ⟨n, h2⟩
    · rw [kt] at h; exact absurd h.1 (by decide)
    · rw [kt] at h; exact absurd h.1 (by decide)
    · rw [kt] at h; exact absurd h.1 (by decide)
theorem decAll {α : Type} [Enc α] {B : α → Prop} : ∀ (els : List (List T)), (∀ el ∈ els, ∃ x : α, el = Enc.cells x ∧ B x) → ∃ l : List α, els.flatten = cellsL l ∧ l.length = els.length ∧ ∀ x ∈ l, B x
  | [], _ => ⟨[], rfl, rfl, fun _ h => absurd h (by simp)⟩
  | el :: els, h => by
    obtain ⟨x, rfl, hx⟩ := h el (by simp)
    obtain ⟨l, h1, h2, h3⟩ := decAll els (fun e he => h e (by simp [he]))
    refine ⟨x :: l, by simp [cellsL, h1], by simp [h2], fun y hy => ?_⟩
    rcases List.mem_cons.1 hy with rfl | hy
    · exact hx
    · exact h3 y hy
theorem shp_sl {α : Type} [Enc α] {B : α → Prop} {e : TypeId} (kt : kindT P t = 4) (he : elemOfSl P t = some e) (hd : ∀ d ts, Shp P d e ts → ∃ x : α, ts = Enc.cells x ∧ B x) (h : Shp P d t ts) : ∃ x : Sl α, ts = [Sl.t x] ∧ FitS maxLen B x := by
  cases d with
  | zero => exact h.elim
  | succ d =>
    rcases h with h | h | h | h | h
    · rw [kt] at h; exact absurd h.1 (by decide)
    · simp [isIntT, kt] at h
    · rw [kt] at h; exact absurd h.1 (by decide)
    · obtain ⟨_, e', h1, h2⟩ := h
      rw [he] at h1
      injection h1 with h1; subst h1
      rcases h2 with rfl | ⟨els, rfl, h2, h3⟩
      · exact ⟨⟨true, []⟩, rfl, ⟨by simp, by simp⟩⟩
      · obtain ⟨l, q1, q2, q3⟩ := decAll (B := B) els (fun el hel => hd d el (h3 el hel).2)
        exact ⟨⟨false, l⟩, by simp [Sl.t, q1, q2], ⟨by show l.length ≤ maxLen; omega, q3⟩⟩
    · rw [kt] at h; exact absurd h.1 (by decide)
end
end Go.Am
end
